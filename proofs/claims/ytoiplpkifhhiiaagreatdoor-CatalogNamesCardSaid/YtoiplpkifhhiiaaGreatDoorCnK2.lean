/- Calls that are known, each reckoned by the kernel out of those before it. -/
import Derived.Test.YtoiplpkifhhiiaaGreatDoorCnK1
namespace Go.Proofs.YtoiplpkifhhiiaaGreatDoor
open Ab
set_option maxRecDepth 1000000
set_option maxHeartbeats 0
attribute [local irreducible] lvm
/-- stagepost/lexer.Lex -/
def k46 : Know := ⟨29, [(.str (99 :: 114 :: 101 :: 97 :: 116 :: 101 :: 32 :: 116 :: 97 :: 98 :: 108 :: 101 :: 32 :: 116 :: 32 :: 40 :: 32 :: 97 :: 32 :: 105 :: 110 :: 116 :: 32 :: 44 :: 32 :: 98 :: 32 :: 116 :: 101 :: 120 :: 116 :: 32 :: 44 :: 32 :: 99 :: 32 :: 98 :: 111 :: 111 :: 108 :: 32 :: 110 :: 111 :: 116 :: 32 :: 110 :: 117 :: 108 :: 108 :: 32 :: 44 :: 32 :: 112 :: 114 :: 105 :: 109 :: 97 :: 114 :: 121 :: 32 :: 107 :: 101 :: 121 :: 32 :: 40 :: 32 :: 98 :: 32 :: 44 :: 32 :: 97 :: 32 :: 41 :: 32 :: 41 :: 32 :: 59 :: 32 :: 99 :: 114 :: 101 :: 97 :: 116 :: 101 :: 32 :: 117 :: 110 :: 105 :: 113 :: 117 :: 101 :: 32 :: 105 :: 110 :: 100 :: 101 :: 120 :: 32 :: 117 :: 32 :: 111 :: 110 :: 32 :: 116 :: 32 :: 40 :: 32 :: 99 :: 32 :: 41 :: 32 :: 59 :: 32 :: 99 :: 114 :: 101 :: 97 :: 116 :: 101 :: 32 :: 105 :: 110 :: 100 :: 101 :: 120 :: 32 :: 105 :: 32 :: 111 :: 110 :: 32 :: 116 :: 32 :: 40 :: 32 :: 98 :: 32 :: 41 :: 32 :: 59 :: []))], (.tup [(.sl 5 42 4 0 43 none), (.agg [(.int .i64 0), (.int .i64 0)])]), 174, [(5, (.vec 42 4 ((.agg [(.int .u8 1), (.str [99, 114, 101, 97, 116, 101]), (.int .u64 0), (.int .i64 0)]) :: (.agg [(.int .u8 1), (.str [116, 97, 98, 108, 101]), (.int .u64 0), (.int .i64 7)]) :: (.agg [(.int .u8 1), (.str [116]), (.int .u64 0), (.int .i64 13)]) :: (.agg [(.int .u8 4), (.str [40]), (.int .u64 0), (.int .i64 15)]) :: (.agg [(.int .u8 1), (.str [97]), (.int .u64 0), (.int .i64 17)]) :: (.agg [(.int .u8 1), (.str [105, 110, 116]), (.int .u64 0), (.int .i64 19)]) :: (.agg [(.int .u8 4), (.str [44]), (.int .u64 0), (.int .i64 23)]) :: (.agg [(.int .u8 1), (.str [98]), (.int .u64 0), (.int .i64 25)]) :: (.agg [(.int .u8 1), (.str [116, 101, 120, 116]), (.int .u64 0), (.int .i64 27)]) :: (.agg [(.int .u8 4), (.str [44]), (.int .u64 0), (.int .i64 32)]) :: (.agg [(.int .u8 1), (.str [99]), (.int .u64 0), (.int .i64 34)]) :: (.agg [(.int .u8 1), (.str [98, 111, 111, 108]), (.int .u64 0), (.int .i64 36)]) :: (.agg [(.int .u8 1), (.str [110, 111, 116]), (.int .u64 0), (.int .i64 41)]) :: (.agg [(.int .u8 1), (.str [110, 117, 108, 108]), (.int .u64 0), (.int .i64 45)]) :: (.agg [(.int .u8 4), (.str [44]), (.int .u64 0), (.int .i64 50)]) :: (.agg [(.int .u8 1), (.str [112, 114, 105, 109, 97, 114, 121]), (.int .u64 0), (.int .i64 52)]) :: (.agg [(.int .u8 1), (.str [107, 101, 121]), (.int .u64 0), (.int .i64 60)]) :: (.agg [(.int .u8 4), (.str [40]), (.int .u64 0), (.int .i64 64)]) :: (.agg [(.int .u8 1), (.str [98]), (.int .u64 0), (.int .i64 66)]) :: (.agg [(.int .u8 4), (.str [44]), (.int .u64 0), (.int .i64 68)]) :: (.agg [(.int .u8 1), (.str [97]), (.int .u64 0), (.int .i64 70)]) :: (.agg [(.int .u8 4), (.str [41]), (.int .u64 0), (.int .i64 72)]) :: (.agg [(.int .u8 4), (.str [41]), (.int .u64 0), (.int .i64 74)]) :: (.agg [(.int .u8 4), (.str [59]), (.int .u64 0), (.int .i64 76)]) :: (.agg [(.int .u8 1), (.str [99, 114, 101, 97, 116, 101]), (.int .u64 0), (.int .i64 78)]) :: (.agg [(.int .u8 1), (.str [117, 110, 105, 113, 117, 101]), (.int .u64 0), (.int .i64 85)]) :: (.agg [(.int .u8 1), (.str [105, 110, 100, 101, 120]), (.int .u64 0), (.int .i64 92)]) :: (.agg [(.int .u8 1), (.str [117]), (.int .u64 0), (.int .i64 98)]) :: (.agg [(.int .u8 1), (.str [111, 110]), (.int .u64 0), (.int .i64 100)]) :: (.agg [(.int .u8 1), (.str [116]), (.int .u64 0), (.int .i64 103)]) :: (.agg [(.int .u8 4), (.str [40]), (.int .u64 0), (.int .i64 105)]) :: (.agg [(.int .u8 1), (.str [99]), (.int .u64 0), (.int .i64 107)]) :: (.agg [(.int .u8 4), (.str [41]), (.int .u64 0), (.int .i64 109)]) :: (.agg [(.int .u8 4), (.str [59]), (.int .u64 0), (.int .i64 111)]) :: (.agg [(.int .u8 1), (.str [99, 114, 101, 97, 116, 101]), (.int .u64 0), (.int .i64 113)]) :: (.agg [(.int .u8 1), (.str [105, 110, 100, 101, 120]), (.int .u64 0), (.int .i64 120)]) :: (.agg [(.int .u8 1), (.str [105]), (.int .u64 0), (.int .i64 126)]) :: (.agg [(.int .u8 1), (.str [111, 110]), (.int .u64 0), (.int .i64 128)]) :: (.agg [(.int .u8 1), (.str [116]), (.int .u64 0), (.int .i64 131)]) :: (.agg [(.int .u8 4), (.str [40]), (.int .u64 0), (.int .i64 133)]) :: (.agg [(.int .u8 1), (.str [98]), (.int .u64 0), (.int .i64 135)]) :: (.agg [(.int .u8 4), (.str [41]), (.int .u64 0), (.int .i64 137)]) :: (.agg [(.int .u8 4), (.str [59]), (.int .u64 0), (.int .i64 139)]) :: []) ⟨true, some 133⟩))]⟩
theorem r46 : RCall Tryz.prog k46.f k46.args k46.v k46.N k46.H := rcall_lvm [] [] mixed tabsOk tabsDOk (L := [k45, k44, k43, k42, k41, k40, k39, k38, k37, k36, k35, k34, k33, k32, k31, k30, k29, k28, k27, k26, k25, k24, k23, k22, k21, k20, k19, k18, k17, k16, k15, k14, k13, k12, k11, k10, k9, k8, k7, k6, k3, k2, k1]) (.cons r45 (.cons r44 (.cons r43 (.cons r42 (.cons r41 (.cons r40 (.cons r39 (.cons r38 (.cons r37 (.cons r36 (.cons r35 (.cons r34 (.cons r33 (.cons r32 (.cons r31 (.cons r30 (.cons r29 (.cons r28 (.cons r27 (.cons r26 (.cons r25 (.cons r24 (.cons r23 (.cons r22 (.cons r21 (.cons r20 (.cons r19 (.cons r18 (.cons r17 (.cons r16 (.cons r15 (.cons r14 (.cons r13 (.cons r12 (.cons r11 (.cons r10 (.cons r9 (.cons r8 (.cons r7 (.cons r6 (.cons r3 (.cons r2 (.cons r1 (.nil)))))))))))))))))))))))))))))))))))))))))))) 600 k46 (by kernel_rfl) (Eq.mpr (show _ = mapsP (true = true) [] by kernel_rfl) (mapsP_ok rfl _))
/-- strings.Fields -/
def k47 : Know := ⟨144, [(.str (97 :: 110 :: 100 :: 32 :: 97 :: 115 :: 32 :: 97 :: 115 :: 99 :: 32 :: 98 :: 101 :: 103 :: 105 :: 110 :: 32 :: 98 :: 111 :: 111 :: 108 :: 32 :: 98 :: 121 :: 32 :: 99 :: 111 :: 109 :: 109 :: 105 :: 116 :: 32 :: 99 :: 111 :: 117 :: 110 :: 116 :: 32 :: 99 :: 114 :: 101 :: 97 :: 116 :: 101 :: 32 :: 100 :: 101 :: 108 :: 101 :: 116 :: 101 :: 32 :: 100 :: 101 :: 115 :: 99 :: 32 :: 102 :: 97 :: 108 :: 115 :: 101 :: 32 :: 102 :: 114 :: 111 :: 109 :: 32 :: 103 :: 114 :: 111 :: 117 :: 112 :: 32 :: 105 :: 110 :: 100 :: 101 :: 120 :: 32 :: 105 :: 110 :: 115 :: 101 :: 114 :: 116 :: 32 :: 105 :: 110 :: 116 :: 32 :: 105 :: 110 :: 116 :: 111 :: 32 :: 105 :: 115 :: 32 :: 106 :: 111 :: 105 :: 110 :: 32 :: 107 :: 101 :: 121 :: 32 :: 108 :: 105 :: 109 :: 105 :: 116 :: 32 :: 109 :: 97 :: 120 :: 32 :: 109 :: 105 :: 110 :: 32 :: 110 :: 111 :: 116 :: 32 :: 110 :: 117 :: 108 :: 108 :: 32 :: 111 :: 110 :: 32 :: 111 :: 114 :: 32 :: 111 :: 114 :: 100 :: 101 :: 114 :: 32 :: 112 :: 114 :: 105 :: 109 :: 97 :: 114 :: 121 :: 32 :: 114 :: 111 :: 108 :: 108 :: 98 :: 97 :: 99 :: 107 :: 32 :: 115 :: 97 :: 118 :: 101 :: 112 :: 111 :: 105 :: 110 :: 116 :: 32 :: 115 :: 101 :: 108 :: 101 :: 99 :: 116 :: 32 :: 115 :: 101 :: 116 :: 32 :: 115 :: 117 :: 109 :: 32 :: 116 :: 97 :: 98 :: 108 :: 101 :: 32 :: 116 :: 101 :: 120 :: 116 :: 32 :: 116 :: 111 :: 32 :: 116 :: 114 :: 117 :: 101 :: 32 :: 117 :: 110 :: 105 :: 113 :: 117 :: 101 :: 32 :: 117 :: 112 :: 100 :: 97 :: 116 :: 101 :: 32 :: 118 :: 97 :: 108 :: 117 :: 101 :: 115 :: 32 :: 119 :: 104 :: 101 :: 114 :: 101 :: []))], (.sl 0 0 1 0 43 (some 43)), 1, [(0, (.vec 0 1 ((.str [97, 110, 100]) :: (.str [97, 115]) :: (.str [97, 115, 99]) :: (.str [98, 101, 103, 105, 110]) :: (.str [98, 111, 111, 108]) :: (.str [98, 121]) :: (.str [99, 111, 109, 109, 105, 116]) :: (.str [99, 111, 117, 110, 116]) :: (.str [99, 114, 101, 97, 116, 101]) :: (.str [100, 101, 108, 101, 116, 101]) :: (.str [100, 101, 115, 99]) :: (.str [102, 97, 108, 115, 101]) :: (.str [102, 114, 111, 109]) :: (.str [103, 114, 111, 117, 112]) :: (.str [105, 110, 100, 101, 120]) :: (.str [105, 110, 115, 101, 114, 116]) :: (.str [105, 110, 116]) :: (.str [105, 110, 116, 111]) :: (.str [105, 115]) :: (.str [106, 111, 105, 110]) :: (.str [107, 101, 121]) :: (.str [108, 105, 109, 105, 116]) :: (.str [109, 97, 120]) :: (.str [109, 105, 110]) :: (.str [110, 111, 116]) :: (.str [110, 117, 108, 108]) :: (.str [111, 110]) :: (.str [111, 114]) :: (.str [111, 114, 100, 101, 114]) :: (.str [112, 114, 105, 109, 97, 114, 121]) :: (.str [114, 111, 108, 108, 98, 97, 99, 107]) :: (.str [115, 97, 118, 101, 112, 111, 105, 110, 116]) :: (.str [115, 101, 108, 101, 99, 116]) :: (.str [115, 101, 116]) :: (.str [115, 117, 109]) :: (.str [116, 97, 98, 108, 101]) :: (.str [116, 101, 120, 116]) :: (.str [116, 111]) :: (.str [116, 114, 117, 101]) :: (.str [117, 110, 105, 113, 117, 101]) :: (.str [117, 112, 100, 97, 116, 101]) :: (.str [118, 97, 108, 117, 101, 115]) :: (.str [119, 104, 101, 114, 101]) :: []) ⟨false, some 9⟩))]⟩
theorem r47 : RCall Tryz.prog k47.f k47.args k47.v k47.N k47.H := rcall_lvm [] [] mixed tabsOk tabsDOk (L := []) (.nil) 600 k47 (by kernel_rfl) (Eq.mpr (show _ = mapsP (true = true) [] by kernel_rfl) (mapsP_ok rfl _))
/-- stagepost/lexer.reserved -/
def k48 : Know := ⟨149, [], (.sl 0 0 1 0 43 (some 43)), 1, [(0, (.vec 0 1 ((.str [97, 110, 100]) :: (.str [97, 115]) :: (.str [97, 115, 99]) :: (.str [98, 101, 103, 105, 110]) :: (.str [98, 111, 111, 108]) :: (.str [98, 121]) :: (.str [99, 111, 109, 109, 105, 116]) :: (.str [99, 111, 117, 110, 116]) :: (.str [99, 114, 101, 97, 116, 101]) :: (.str [100, 101, 108, 101, 116, 101]) :: (.str [100, 101, 115, 99]) :: (.str [102, 97, 108, 115, 101]) :: (.str [102, 114, 111, 109]) :: (.str [103, 114, 111, 117, 112]) :: (.str [105, 110, 100, 101, 120]) :: (.str [105, 110, 115, 101, 114, 116]) :: (.str [105, 110, 116]) :: (.str [105, 110, 116, 111]) :: (.str [105, 115]) :: (.str [106, 111, 105, 110]) :: (.str [107, 101, 121]) :: (.str [108, 105, 109, 105, 116]) :: (.str [109, 97, 120]) :: (.str [109, 105, 110]) :: (.str [110, 111, 116]) :: (.str [110, 117, 108, 108]) :: (.str [111, 110]) :: (.str [111, 114]) :: (.str [111, 114, 100, 101, 114]) :: (.str [112, 114, 105, 109, 97, 114, 121]) :: (.str [114, 111, 108, 108, 98, 97, 99, 107]) :: (.str [115, 97, 118, 101, 112, 111, 105, 110, 116]) :: (.str [115, 101, 108, 101, 99, 116]) :: (.str [115, 101, 116]) :: (.str [115, 117, 109]) :: (.str [116, 97, 98, 108, 101]) :: (.str [116, 101, 120, 116]) :: (.str [116, 111]) :: (.str [116, 114, 117, 101]) :: (.str [117, 110, 105, 113, 117, 101]) :: (.str [117, 112, 100, 97, 116, 101]) :: (.str [118, 97, 108, 117, 101, 115]) :: (.str [119, 104, 101, 114, 101]) :: []) ⟨false, some 9⟩))]⟩
theorem r48 : RCall Tryz.prog k48.f k48.args k48.v k48.N k48.H := rcall_lvm [] [] mixed tabsOk tabsDOk (L := [k47]) (.cons r47 (.nil)) 600 k48 (by kernel_rfl) (Eq.mpr (show _ = mapsP (true = true) [] by kernel_rfl) (mapsP_ok rfl _))
/-- stagepost/lexer.Reserved -/
def k49 : Know := ⟨109, [(.str [116])], (.bool false), 1, []⟩
theorem r49 : RCall Tryz.prog k49.f k49.args k49.v k49.N k49.H := rcall_lvm [] [] mixed tabsOk tabsDOk (L := [k48]) (.cons r48 (.nil)) 600 k49 (by kernel_rfl) (Eq.mpr (show _ = mapsP (true = true) [] by kernel_rfl) (mapsP_ok rfl _))
/-- stagepost/lexer.Reserved -/
def k50 : Know := ⟨109, [(.str [97])], (.bool false), 1, []⟩
theorem r50 : RCall Tryz.prog k50.f k50.args k50.v k50.N k50.H := rcall_lvm [] [] mixed tabsOk tabsDOk (L := [k48]) (.cons r48 (.nil)) 600 k50 (by kernel_rfl) (Eq.mpr (show _ = mapsP (true = true) [] by kernel_rfl) (mapsP_ok rfl _))
/-- stagepost/lexer.Reserved -/
def k51 : Know := ⟨109, [(.str [98])], (.bool false), 1, []⟩
theorem r51 : RCall Tryz.prog k51.f k51.args k51.v k51.N k51.H := rcall_lvm [] [] mixed tabsOk tabsDOk (L := [k48]) (.cons r48 (.nil)) 600 k51 (by kernel_rfl) (Eq.mpr (show _ = mapsP (true = true) [] by kernel_rfl) (mapsP_ok rfl _))
/-- stagepost/lexer.Reserved -/
def k52 : Know := ⟨109, [(.str [99])], (.bool false), 1, []⟩
theorem r52 : RCall Tryz.prog k52.f k52.args k52.v k52.N k52.H := rcall_lvm [] [] mixed tabsOk tabsDOk (L := [k48]) (.cons r48 (.nil)) 600 k52 (by kernel_rfl) (Eq.mpr (show _ = mapsP (true = true) [] by kernel_rfl) (mapsP_ok rfl _))
/-- stagepost/lexer.Reserved -/
def k53 : Know := ⟨109, [(.str [117])], (.bool false), 1, []⟩
theorem r53 : RCall Tryz.prog k53.f k53.args k53.v k53.N k53.H := rcall_lvm [] [] mixed tabsOk tabsDOk (L := [k48]) (.cons r48 (.nil)) 600 k53 (by kernel_rfl) (Eq.mpr (show _ = mapsP (true = true) [] by kernel_rfl) (mapsP_ok rfl _))
/-- stagepost/lexer.Reserved -/
def k54 : Know := ⟨109, [(.str [105])], (.bool false), 1, []⟩
theorem r54 : RCall Tryz.prog k54.f k54.args k54.v k54.N k54.H := rcall_lvm [] [] mixed tabsOk tabsDOk (L := [k48]) (.cons r48 (.nil)) 600 k54 (by kernel_rfl) (Eq.mpr (show _ = mapsP (true = true) [] by kernel_rfl) (mapsP_ok rfl _))
/-- stagepost/lexer.said -/
def k56 : Know := ⟨172, [(.agg [(.int .u8 1), (.str [99, 114, 101, 97, 116, 101]), (.int .u64 0), (.int .i64 0)])], (.str [99, 114, 101, 97, 116, 101]), 1, []⟩
theorem r56 : RCall Tryz.prog k56.f k56.args k56.v k56.N k56.H := rcall_lvm [] [] mixed tabsOk tabsDOk (L := []) (.nil) 600 k56 (by kernel_rfl) (Eq.mpr (show _ = mapsP (true = true) [] by kernel_rfl) (mapsP_ok rfl _))
/-- stagepost/lexer.one -/
def k57 : Know := ⟨58, [(.str [99, 114, 101, 97, 116, 101])], (.tup [(.agg [(.int .u8 1), (.str [99, 114, 101, 97, 116, 101]), (.int .u64 0), (.int .i64 0)]), (.int .i64 6), (.int .i64 0)]), 2, []⟩
theorem r57 : RCall Tryz.prog k57.f k57.args k57.v k57.N k57.H := rcall_lvm [] [] mixed tabsOk tabsDOk (L := []) (.nil) 600 k57 (by kernel_rfl) (Eq.mpr (show _ = mapsP (true = true) [] by kernel_rfl) (mapsP_ok rfl _))
/-- stagepost/lexer.Lex -/
def k58 : Know := ⟨29, [(.str [99, 114, 101, 97, 116, 101])], (.tup [(.sl 5 0 4 0 1 none), (.agg [(.int .i64 0), (.int .i64 0)])]), 6, [(5, (.vec 0 4 [(.agg [(.int .u8 1), (.str [99, 114, 101, 97, 116, 101]), (.int .u64 0), (.int .i64 0)])] ⟨true, some 133⟩))]⟩
theorem r58 : RCall Tryz.prog k58.f k58.args k58.v k58.N k58.H := rcall_lvm [] [] mixed tabsOk tabsDOk (L := [k57]) (.cons r57 (.nil)) 600 k58 (by kernel_rfl) (Eq.mpr (show _ = mapsP (true = true) [] by kernel_rfl) (mapsP_ok rfl _))
/-- stagepost/lexer.fine -/
def k59 : Know := ⟨171, [(.agg [(.int .u8 1), (.str [99, 114, 101, 97, 116, 101]), (.int .u64 0), (.int .i64 0)])], (.bool true), 9, []⟩
theorem r59 : RCall Tryz.prog k59.f k59.args k59.v k59.N k59.H := rcall_lvm [] [] mixed tabsOk tabsDOk (L := [k58, k56]) (.cons r58 (.cons r56 (.nil))) 600 k59 (by kernel_rfl) (Eq.mpr (show _ = mapsP (true = true) [] by kernel_rfl) (mapsP_ok rfl _))
/-- stagepost/lexer.said -/
def k60 : Know := ⟨172, [(.agg [(.int .u8 1), (.str [116, 97, 98, 108, 101]), (.int .u64 0), (.int .i64 0)])], (.str [116, 97, 98, 108, 101]), 1, []⟩
theorem r60 : RCall Tryz.prog k60.f k60.args k60.v k60.N k60.H := rcall_lvm [] [] mixed tabsOk tabsDOk (L := []) (.nil) 600 k60 (by kernel_rfl) (Eq.mpr (show _ = mapsP (true = true) [] by kernel_rfl) (mapsP_ok rfl _))
/-- stagepost/lexer.one -/
def k61 : Know := ⟨58, [(.str [116, 97, 98, 108, 101])], (.tup [(.agg [(.int .u8 1), (.str [116, 97, 98, 108, 101]), (.int .u64 0), (.int .i64 0)]), (.int .i64 5), (.int .i64 0)]), 2, []⟩
theorem r61 : RCall Tryz.prog k61.f k61.args k61.v k61.N k61.H := rcall_lvm [] [] mixed tabsOk tabsDOk (L := []) (.nil) 600 k61 (by kernel_rfl) (Eq.mpr (show _ = mapsP (true = true) [] by kernel_rfl) (mapsP_ok rfl _))
/-- stagepost/lexer.Lex -/
def k62 : Know := ⟨29, [(.str [116, 97, 98, 108, 101])], (.tup [(.sl 5 0 4 0 1 none), (.agg [(.int .i64 0), (.int .i64 0)])]), 6, [(5, (.vec 0 4 [(.agg [(.int .u8 1), (.str [116, 97, 98, 108, 101]), (.int .u64 0), (.int .i64 0)])] ⟨true, some 133⟩))]⟩
theorem r62 : RCall Tryz.prog k62.f k62.args k62.v k62.N k62.H := rcall_lvm [] [] mixed tabsOk tabsDOk (L := [k61]) (.cons r61 (.nil)) 600 k62 (by kernel_rfl) (Eq.mpr (show _ = mapsP (true = true) [] by kernel_rfl) (mapsP_ok rfl _))
/-- stagepost/lexer.fine -/
def k63 : Know := ⟨171, [(.agg [(.int .u8 1), (.str [116, 97, 98, 108, 101]), (.int .u64 0), (.int .i64 0)])], (.bool true), 9, []⟩
theorem r63 : RCall Tryz.prog k63.f k63.args k63.v k63.N k63.H := rcall_lvm [] [] mixed tabsOk tabsDOk (L := [k62, k60]) (.cons r62 (.cons r60 (.nil))) 600 k63 (by kernel_rfl) (Eq.mpr (show _ = mapsP (true = true) [] by kernel_rfl) (mapsP_ok rfl _))
/-- stagepost/lexer.said -/
def k64 : Know := ⟨172, [(.agg [(.int .u8 1), (.str [116]), (.int .u64 0), (.int .i64 0)])], (.str [116]), 1, []⟩
theorem r64 : RCall Tryz.prog k64.f k64.args k64.v k64.N k64.H := rcall_lvm [] [] mixed tabsOk tabsDOk (L := []) (.nil) 600 k64 (by kernel_rfl) (Eq.mpr (show _ = mapsP (true = true) [] by kernel_rfl) (mapsP_ok rfl _))
/-- stagepost/lexer.one -/
def k65 : Know := ⟨58, [(.str [116])], (.tup [(.agg [(.int .u8 1), (.str [116]), (.int .u64 0), (.int .i64 0)]), (.int .i64 1), (.int .i64 0)]), 2, []⟩
theorem r65 : RCall Tryz.prog k65.f k65.args k65.v k65.N k65.H := rcall_lvm [] [] mixed tabsOk tabsDOk (L := []) (.nil) 600 k65 (by kernel_rfl) (Eq.mpr (show _ = mapsP (true = true) [] by kernel_rfl) (mapsP_ok rfl _))
/-- stagepost/lexer.Lex -/
def k66 : Know := ⟨29, [(.str [116])], (.tup [(.sl 5 0 4 0 1 none), (.agg [(.int .i64 0), (.int .i64 0)])]), 6, [(5, (.vec 0 4 [(.agg [(.int .u8 1), (.str [116]), (.int .u64 0), (.int .i64 0)])] ⟨true, some 133⟩))]⟩
theorem r66 : RCall Tryz.prog k66.f k66.args k66.v k66.N k66.H := rcall_lvm [] [] mixed tabsOk tabsDOk (L := [k65]) (.cons r65 (.nil)) 600 k66 (by kernel_rfl) (Eq.mpr (show _ = mapsP (true = true) [] by kernel_rfl) (mapsP_ok rfl _))
/-- stagepost/lexer.fine -/
def k67 : Know := ⟨171, [(.agg [(.int .u8 1), (.str [116]), (.int .u64 0), (.int .i64 0)])], (.bool true), 9, []⟩
theorem r67 : RCall Tryz.prog k67.f k67.args k67.v k67.N k67.H := rcall_lvm [] [] mixed tabsOk tabsDOk (L := [k66, k64]) (.cons r66 (.cons r64 (.nil))) 600 k67 (by kernel_rfl) (Eq.mpr (show _ = mapsP (true = true) [] by kernel_rfl) (mapsP_ok rfl _))
/-- stagepost/lexer.said -/
def k68 : Know := ⟨172, [(.agg [(.int .u8 4), (.str [40]), (.int .u64 0), (.int .i64 0)])], (.str [40]), 1, []⟩
theorem r68 : RCall Tryz.prog k68.f k68.args k68.v k68.N k68.H := rcall_lvm [] [] mixed tabsOk tabsDOk (L := []) (.nil) 600 k68 (by kernel_rfl) (Eq.mpr (show _ = mapsP (true = true) [] by kernel_rfl) (mapsP_ok rfl _))
/-- stagepost/lexer.one -/
def k69 : Know := ⟨58, [(.str [40])], (.tup [(.agg [(.int .u8 4), (.str [40]), (.int .u64 0), (.int .i64 0)]), (.int .i64 1), (.int .i64 0)]), 2, []⟩
theorem r69 : RCall Tryz.prog k69.f k69.args k69.v k69.N k69.H := rcall_lvm [] [] mixed tabsOk tabsDOk (L := [k5]) (.cons r5 (.nil)) 600 k69 (by kernel_rfl) (Eq.mpr (show _ = mapsP (true = true) [] by kernel_rfl) (mapsP_ok rfl _))
/-- stagepost/lexer.Lex -/
def k70 : Know := ⟨29, [(.str [40])], (.tup [(.sl 5 0 4 0 1 none), (.agg [(.int .i64 0), (.int .i64 0)])]), 6, [(5, (.vec 0 4 [(.agg [(.int .u8 4), (.str [40]), (.int .u64 0), (.int .i64 0)])] ⟨true, some 133⟩))]⟩
theorem r70 : RCall Tryz.prog k70.f k70.args k70.v k70.N k70.H := rcall_lvm [] [] mixed tabsOk tabsDOk (L := [k69]) (.cons r69 (.nil)) 600 k70 (by kernel_rfl) (Eq.mpr (show _ = mapsP (true = true) [] by kernel_rfl) (mapsP_ok rfl _))
/-- stagepost/lexer.fine -/
def k71 : Know := ⟨171, [(.agg [(.int .u8 4), (.str [40]), (.int .u64 0), (.int .i64 0)])], (.bool true), 9, []⟩
theorem r71 : RCall Tryz.prog k71.f k71.args k71.v k71.N k71.H := rcall_lvm [] [] mixed tabsOk tabsDOk (L := [k70, k68]) (.cons r70 (.cons r68 (.nil))) 600 k71 (by kernel_rfl) (Eq.mpr (show _ = mapsP (true = true) [] by kernel_rfl) (mapsP_ok rfl _))
/-- stagepost/lexer.said -/
def k72 : Know := ⟨172, [(.agg [(.int .u8 1), (.str [97]), (.int .u64 0), (.int .i64 0)])], (.str [97]), 1, []⟩
theorem r72 : RCall Tryz.prog k72.f k72.args k72.v k72.N k72.H := rcall_lvm [] [] mixed tabsOk tabsDOk (L := []) (.nil) 600 k72 (by kernel_rfl) (Eq.mpr (show _ = mapsP (true = true) [] by kernel_rfl) (mapsP_ok rfl _))
/-- stagepost/lexer.one -/
def k73 : Know := ⟨58, [(.str [97])], (.tup [(.agg [(.int .u8 1), (.str [97]), (.int .u64 0), (.int .i64 0)]), (.int .i64 1), (.int .i64 0)]), 2, []⟩
theorem r73 : RCall Tryz.prog k73.f k73.args k73.v k73.N k73.H := rcall_lvm [] [] mixed tabsOk tabsDOk (L := []) (.nil) 600 k73 (by kernel_rfl) (Eq.mpr (show _ = mapsP (true = true) [] by kernel_rfl) (mapsP_ok rfl _))
/-- stagepost/lexer.Lex -/
def k74 : Know := ⟨29, [(.str [97])], (.tup [(.sl 5 0 4 0 1 none), (.agg [(.int .i64 0), (.int .i64 0)])]), 6, [(5, (.vec 0 4 [(.agg [(.int .u8 1), (.str [97]), (.int .u64 0), (.int .i64 0)])] ⟨true, some 133⟩))]⟩
theorem r74 : RCall Tryz.prog k74.f k74.args k74.v k74.N k74.H := rcall_lvm [] [] mixed tabsOk tabsDOk (L := [k73]) (.cons r73 (.nil)) 600 k74 (by kernel_rfl) (Eq.mpr (show _ = mapsP (true = true) [] by kernel_rfl) (mapsP_ok rfl _))
/-- stagepost/lexer.fine -/
def k75 : Know := ⟨171, [(.agg [(.int .u8 1), (.str [97]), (.int .u64 0), (.int .i64 0)])], (.bool true), 9, []⟩
theorem r75 : RCall Tryz.prog k75.f k75.args k75.v k75.N k75.H := rcall_lvm [] [] mixed tabsOk tabsDOk (L := [k74, k72]) (.cons r74 (.cons r72 (.nil))) 600 k75 (by kernel_rfl) (Eq.mpr (show _ = mapsP (true = true) [] by kernel_rfl) (mapsP_ok rfl _))
/-- stagepost/lexer.said -/
def k76 : Know := ⟨172, [(.agg [(.int .u8 1), (.str [105, 110, 116]), (.int .u64 0), (.int .i64 0)])], (.str [105, 110, 116]), 1, []⟩
theorem r76 : RCall Tryz.prog k76.f k76.args k76.v k76.N k76.H := rcall_lvm [] [] mixed tabsOk tabsDOk (L := []) (.nil) 600 k76 (by kernel_rfl) (Eq.mpr (show _ = mapsP (true = true) [] by kernel_rfl) (mapsP_ok rfl _))
/-- stagepost/lexer.one -/
def k77 : Know := ⟨58, [(.str [105, 110, 116])], (.tup [(.agg [(.int .u8 1), (.str [105, 110, 116]), (.int .u64 0), (.int .i64 0)]), (.int .i64 3), (.int .i64 0)]), 2, []⟩
theorem r77 : RCall Tryz.prog k77.f k77.args k77.v k77.N k77.H := rcall_lvm [] [] mixed tabsOk tabsDOk (L := []) (.nil) 600 k77 (by kernel_rfl) (Eq.mpr (show _ = mapsP (true = true) [] by kernel_rfl) (mapsP_ok rfl _))
/-- stagepost/lexer.Lex -/
def k78 : Know := ⟨29, [(.str [105, 110, 116])], (.tup [(.sl 5 0 4 0 1 none), (.agg [(.int .i64 0), (.int .i64 0)])]), 6, [(5, (.vec 0 4 [(.agg [(.int .u8 1), (.str [105, 110, 116]), (.int .u64 0), (.int .i64 0)])] ⟨true, some 133⟩))]⟩
theorem r78 : RCall Tryz.prog k78.f k78.args k78.v k78.N k78.H := rcall_lvm [] [] mixed tabsOk tabsDOk (L := [k77]) (.cons r77 (.nil)) 600 k78 (by kernel_rfl) (Eq.mpr (show _ = mapsP (true = true) [] by kernel_rfl) (mapsP_ok rfl _))
/-- stagepost/lexer.fine -/
def k79 : Know := ⟨171, [(.agg [(.int .u8 1), (.str [105, 110, 116]), (.int .u64 0), (.int .i64 0)])], (.bool true), 9, []⟩
theorem r79 : RCall Tryz.prog k79.f k79.args k79.v k79.N k79.H := rcall_lvm [] [] mixed tabsOk tabsDOk (L := [k78, k76]) (.cons r78 (.cons r76 (.nil))) 600 k79 (by kernel_rfl) (Eq.mpr (show _ = mapsP (true = true) [] by kernel_rfl) (mapsP_ok rfl _))
/-- stagepost/lexer.said -/
def k80 : Know := ⟨172, [(.agg [(.int .u8 4), (.str [44]), (.int .u64 0), (.int .i64 0)])], (.str [44]), 1, []⟩
theorem r80 : RCall Tryz.prog k80.f k80.args k80.v k80.N k80.H := rcall_lvm [] [] mixed tabsOk tabsDOk (L := []) (.nil) 600 k80 (by kernel_rfl) (Eq.mpr (show _ = mapsP (true = true) [] by kernel_rfl) (mapsP_ok rfl _))
/-- stagepost/lexer.one -/
def k81 : Know := ⟨58, [(.str [44])], (.tup [(.agg [(.int .u8 4), (.str [44]), (.int .u64 0), (.int .i64 0)]), (.int .i64 1), (.int .i64 0)]), 2, []⟩
theorem r81 : RCall Tryz.prog k81.f k81.args k81.v k81.N k81.H := rcall_lvm [] [] mixed tabsOk tabsDOk (L := [k5]) (.cons r5 (.nil)) 600 k81 (by kernel_rfl) (Eq.mpr (show _ = mapsP (true = true) [] by kernel_rfl) (mapsP_ok rfl _))
/-- stagepost/lexer.Lex -/
def k82 : Know := ⟨29, [(.str [44])], (.tup [(.sl 5 0 4 0 1 none), (.agg [(.int .i64 0), (.int .i64 0)])]), 6, [(5, (.vec 0 4 [(.agg [(.int .u8 4), (.str [44]), (.int .u64 0), (.int .i64 0)])] ⟨true, some 133⟩))]⟩
theorem r82 : RCall Tryz.prog k82.f k82.args k82.v k82.N k82.H := rcall_lvm [] [] mixed tabsOk tabsDOk (L := [k81]) (.cons r81 (.nil)) 600 k82 (by kernel_rfl) (Eq.mpr (show _ = mapsP (true = true) [] by kernel_rfl) (mapsP_ok rfl _))
/-- stagepost/lexer.fine -/
def k83 : Know := ⟨171, [(.agg [(.int .u8 4), (.str [44]), (.int .u64 0), (.int .i64 0)])], (.bool true), 9, []⟩
theorem r83 : RCall Tryz.prog k83.f k83.args k83.v k83.N k83.H := rcall_lvm [] [] mixed tabsOk tabsDOk (L := [k82, k80]) (.cons r82 (.cons r80 (.nil))) 600 k83 (by kernel_rfl) (Eq.mpr (show _ = mapsP (true = true) [] by kernel_rfl) (mapsP_ok rfl _))
/-- stagepost/lexer.said -/
def k84 : Know := ⟨172, [(.agg [(.int .u8 1), (.str [98]), (.int .u64 0), (.int .i64 0)])], (.str [98]), 1, []⟩
theorem r84 : RCall Tryz.prog k84.f k84.args k84.v k84.N k84.H := rcall_lvm [] [] mixed tabsOk tabsDOk (L := []) (.nil) 600 k84 (by kernel_rfl) (Eq.mpr (show _ = mapsP (true = true) [] by kernel_rfl) (mapsP_ok rfl _))
/-- stagepost/lexer.one -/
def k85 : Know := ⟨58, [(.str [98])], (.tup [(.agg [(.int .u8 1), (.str [98]), (.int .u64 0), (.int .i64 0)]), (.int .i64 1), (.int .i64 0)]), 2, []⟩
theorem r85 : RCall Tryz.prog k85.f k85.args k85.v k85.N k85.H := rcall_lvm [] [] mixed tabsOk tabsDOk (L := []) (.nil) 600 k85 (by kernel_rfl) (Eq.mpr (show _ = mapsP (true = true) [] by kernel_rfl) (mapsP_ok rfl _))
/-- stagepost/lexer.Lex -/
def k86 : Know := ⟨29, [(.str [98])], (.tup [(.sl 5 0 4 0 1 none), (.agg [(.int .i64 0), (.int .i64 0)])]), 6, [(5, (.vec 0 4 [(.agg [(.int .u8 1), (.str [98]), (.int .u64 0), (.int .i64 0)])] ⟨true, some 133⟩))]⟩
theorem r86 : RCall Tryz.prog k86.f k86.args k86.v k86.N k86.H := rcall_lvm [] [] mixed tabsOk tabsDOk (L := [k85]) (.cons r85 (.nil)) 600 k86 (by kernel_rfl) (Eq.mpr (show _ = mapsP (true = true) [] by kernel_rfl) (mapsP_ok rfl _))
/-- stagepost/lexer.fine -/
def k87 : Know := ⟨171, [(.agg [(.int .u8 1), (.str [98]), (.int .u64 0), (.int .i64 0)])], (.bool true), 9, []⟩
theorem r87 : RCall Tryz.prog k87.f k87.args k87.v k87.N k87.H := rcall_lvm [] [] mixed tabsOk tabsDOk (L := [k86, k84]) (.cons r86 (.cons r84 (.nil))) 600 k87 (by kernel_rfl) (Eq.mpr (show _ = mapsP (true = true) [] by kernel_rfl) (mapsP_ok rfl _))
/-- stagepost/lexer.said -/
def k88 : Know := ⟨172, [(.agg [(.int .u8 1), (.str [116, 101, 120, 116]), (.int .u64 0), (.int .i64 0)])], (.str [116, 101, 120, 116]), 1, []⟩
theorem r88 : RCall Tryz.prog k88.f k88.args k88.v k88.N k88.H := rcall_lvm [] [] mixed tabsOk tabsDOk (L := []) (.nil) 600 k88 (by kernel_rfl) (Eq.mpr (show _ = mapsP (true = true) [] by kernel_rfl) (mapsP_ok rfl _))
/-- stagepost/lexer.one -/
def k89 : Know := ⟨58, [(.str [116, 101, 120, 116])], (.tup [(.agg [(.int .u8 1), (.str [116, 101, 120, 116]), (.int .u64 0), (.int .i64 0)]), (.int .i64 4), (.int .i64 0)]), 2, []⟩
theorem r89 : RCall Tryz.prog k89.f k89.args k89.v k89.N k89.H := rcall_lvm [] [] mixed tabsOk tabsDOk (L := []) (.nil) 600 k89 (by kernel_rfl) (Eq.mpr (show _ = mapsP (true = true) [] by kernel_rfl) (mapsP_ok rfl _))
/-- stagepost/lexer.Lex -/
def k90 : Know := ⟨29, [(.str [116, 101, 120, 116])], (.tup [(.sl 5 0 4 0 1 none), (.agg [(.int .i64 0), (.int .i64 0)])]), 6, [(5, (.vec 0 4 [(.agg [(.int .u8 1), (.str [116, 101, 120, 116]), (.int .u64 0), (.int .i64 0)])] ⟨true, some 133⟩))]⟩
theorem r90 : RCall Tryz.prog k90.f k90.args k90.v k90.N k90.H := rcall_lvm [] [] mixed tabsOk tabsDOk (L := [k89]) (.cons r89 (.nil)) 600 k90 (by kernel_rfl) (Eq.mpr (show _ = mapsP (true = true) [] by kernel_rfl) (mapsP_ok rfl _))
/-- stagepost/lexer.fine -/
def k91 : Know := ⟨171, [(.agg [(.int .u8 1), (.str [116, 101, 120, 116]), (.int .u64 0), (.int .i64 0)])], (.bool true), 9, []⟩
theorem r91 : RCall Tryz.prog k91.f k91.args k91.v k91.N k91.H := rcall_lvm [] [] mixed tabsOk tabsDOk (L := [k90, k88]) (.cons r90 (.cons r88 (.nil))) 600 k91 (by kernel_rfl) (Eq.mpr (show _ = mapsP (true = true) [] by kernel_rfl) (mapsP_ok rfl _))
/-- stagepost/lexer.said -/
def k92 : Know := ⟨172, [(.agg [(.int .u8 1), (.str [99]), (.int .u64 0), (.int .i64 0)])], (.str [99]), 1, []⟩
theorem r92 : RCall Tryz.prog k92.f k92.args k92.v k92.N k92.H := rcall_lvm [] [] mixed tabsOk tabsDOk (L := []) (.nil) 600 k92 (by kernel_rfl) (Eq.mpr (show _ = mapsP (true = true) [] by kernel_rfl) (mapsP_ok rfl _))
/-- stagepost/lexer.one -/
def k93 : Know := ⟨58, [(.str [99])], (.tup [(.agg [(.int .u8 1), (.str [99]), (.int .u64 0), (.int .i64 0)]), (.int .i64 1), (.int .i64 0)]), 2, []⟩
theorem r93 : RCall Tryz.prog k93.f k93.args k93.v k93.N k93.H := rcall_lvm [] [] mixed tabsOk tabsDOk (L := []) (.nil) 600 k93 (by kernel_rfl) (Eq.mpr (show _ = mapsP (true = true) [] by kernel_rfl) (mapsP_ok rfl _))
/-- stagepost/lexer.Lex -/
def k94 : Know := ⟨29, [(.str [99])], (.tup [(.sl 5 0 4 0 1 none), (.agg [(.int .i64 0), (.int .i64 0)])]), 6, [(5, (.vec 0 4 [(.agg [(.int .u8 1), (.str [99]), (.int .u64 0), (.int .i64 0)])] ⟨true, some 133⟩))]⟩
theorem r94 : RCall Tryz.prog k94.f k94.args k94.v k94.N k94.H := rcall_lvm [] [] mixed tabsOk tabsDOk (L := [k93]) (.cons r93 (.nil)) 600 k94 (by kernel_rfl) (Eq.mpr (show _ = mapsP (true = true) [] by kernel_rfl) (mapsP_ok rfl _))
/-- stagepost/lexer.fine -/
def k95 : Know := ⟨171, [(.agg [(.int .u8 1), (.str [99]), (.int .u64 0), (.int .i64 0)])], (.bool true), 9, []⟩
theorem r95 : RCall Tryz.prog k95.f k95.args k95.v k95.N k95.H := rcall_lvm [] [] mixed tabsOk tabsDOk (L := [k94, k92]) (.cons r94 (.cons r92 (.nil))) 600 k95 (by kernel_rfl) (Eq.mpr (show _ = mapsP (true = true) [] by kernel_rfl) (mapsP_ok rfl _))
/-- stagepost/lexer.said -/
def k96 : Know := ⟨172, [(.agg [(.int .u8 1), (.str [98, 111, 111, 108]), (.int .u64 0), (.int .i64 0)])], (.str [98, 111, 111, 108]), 1, []⟩
theorem r96 : RCall Tryz.prog k96.f k96.args k96.v k96.N k96.H := rcall_lvm [] [] mixed tabsOk tabsDOk (L := []) (.nil) 600 k96 (by kernel_rfl) (Eq.mpr (show _ = mapsP (true = true) [] by kernel_rfl) (mapsP_ok rfl _))
/-- stagepost/lexer.one -/
def k97 : Know := ⟨58, [(.str [98, 111, 111, 108])], (.tup [(.agg [(.int .u8 1), (.str [98, 111, 111, 108]), (.int .u64 0), (.int .i64 0)]), (.int .i64 4), (.int .i64 0)]), 2, []⟩
theorem r97 : RCall Tryz.prog k97.f k97.args k97.v k97.N k97.H := rcall_lvm [] [] mixed tabsOk tabsDOk (L := []) (.nil) 600 k97 (by kernel_rfl) (Eq.mpr (show _ = mapsP (true = true) [] by kernel_rfl) (mapsP_ok rfl _))
/-- stagepost/lexer.Lex -/
def k98 : Know := ⟨29, [(.str [98, 111, 111, 108])], (.tup [(.sl 5 0 4 0 1 none), (.agg [(.int .i64 0), (.int .i64 0)])]), 6, [(5, (.vec 0 4 [(.agg [(.int .u8 1), (.str [98, 111, 111, 108]), (.int .u64 0), (.int .i64 0)])] ⟨true, some 133⟩))]⟩
theorem r98 : RCall Tryz.prog k98.f k98.args k98.v k98.N k98.H := rcall_lvm [] [] mixed tabsOk tabsDOk (L := [k97]) (.cons r97 (.nil)) 600 k98 (by kernel_rfl) (Eq.mpr (show _ = mapsP (true = true) [] by kernel_rfl) (mapsP_ok rfl _))
/-- stagepost/lexer.fine -/
def k99 : Know := ⟨171, [(.agg [(.int .u8 1), (.str [98, 111, 111, 108]), (.int .u64 0), (.int .i64 0)])], (.bool true), 9, []⟩
theorem r99 : RCall Tryz.prog k99.f k99.args k99.v k99.N k99.H := rcall_lvm [] [] mixed tabsOk tabsDOk (L := [k98, k96]) (.cons r98 (.cons r96 (.nil))) 600 k99 (by kernel_rfl) (Eq.mpr (show _ = mapsP (true = true) [] by kernel_rfl) (mapsP_ok rfl _))
/-- stagepost/lexer.said -/
def k100 : Know := ⟨172, [(.agg [(.int .u8 1), (.str [110, 111, 116]), (.int .u64 0), (.int .i64 0)])], (.str [110, 111, 116]), 1, []⟩
theorem r100 : RCall Tryz.prog k100.f k100.args k100.v k100.N k100.H := rcall_lvm [] [] mixed tabsOk tabsDOk (L := []) (.nil) 600 k100 (by kernel_rfl) (Eq.mpr (show _ = mapsP (true = true) [] by kernel_rfl) (mapsP_ok rfl _))
/-- stagepost/lexer.one -/
def k101 : Know := ⟨58, [(.str [110, 111, 116])], (.tup [(.agg [(.int .u8 1), (.str [110, 111, 116]), (.int .u64 0), (.int .i64 0)]), (.int .i64 3), (.int .i64 0)]), 2, []⟩
theorem r101 : RCall Tryz.prog k101.f k101.args k101.v k101.N k101.H := rcall_lvm [] [] mixed tabsOk tabsDOk (L := []) (.nil) 600 k101 (by kernel_rfl) (Eq.mpr (show _ = mapsP (true = true) [] by kernel_rfl) (mapsP_ok rfl _))
/-- stagepost/lexer.Lex -/
def k102 : Know := ⟨29, [(.str [110, 111, 116])], (.tup [(.sl 5 0 4 0 1 none), (.agg [(.int .i64 0), (.int .i64 0)])]), 6, [(5, (.vec 0 4 [(.agg [(.int .u8 1), (.str [110, 111, 116]), (.int .u64 0), (.int .i64 0)])] ⟨true, some 133⟩))]⟩
theorem r102 : RCall Tryz.prog k102.f k102.args k102.v k102.N k102.H := rcall_lvm [] [] mixed tabsOk tabsDOk (L := [k101]) (.cons r101 (.nil)) 600 k102 (by kernel_rfl) (Eq.mpr (show _ = mapsP (true = true) [] by kernel_rfl) (mapsP_ok rfl _))
/-- stagepost/lexer.fine -/
def k103 : Know := ⟨171, [(.agg [(.int .u8 1), (.str [110, 111, 116]), (.int .u64 0), (.int .i64 0)])], (.bool true), 9, []⟩
theorem r103 : RCall Tryz.prog k103.f k103.args k103.v k103.N k103.H := rcall_lvm [] [] mixed tabsOk tabsDOk (L := [k102, k100]) (.cons r102 (.cons r100 (.nil))) 600 k103 (by kernel_rfl) (Eq.mpr (show _ = mapsP (true = true) [] by kernel_rfl) (mapsP_ok rfl _))
/-- stagepost/lexer.said -/
def k104 : Know := ⟨172, [(.agg [(.int .u8 1), (.str [110, 117, 108, 108]), (.int .u64 0), (.int .i64 0)])], (.str [110, 117, 108, 108]), 1, []⟩
theorem r104 : RCall Tryz.prog k104.f k104.args k104.v k104.N k104.H := rcall_lvm [] [] mixed tabsOk tabsDOk (L := []) (.nil) 600 k104 (by kernel_rfl) (Eq.mpr (show _ = mapsP (true = true) [] by kernel_rfl) (mapsP_ok rfl _))
/-- stagepost/lexer.one -/
def k105 : Know := ⟨58, [(.str [110, 117, 108, 108])], (.tup [(.agg [(.int .u8 1), (.str [110, 117, 108, 108]), (.int .u64 0), (.int .i64 0)]), (.int .i64 4), (.int .i64 0)]), 2, []⟩
theorem r105 : RCall Tryz.prog k105.f k105.args k105.v k105.N k105.H := rcall_lvm [] [] mixed tabsOk tabsDOk (L := []) (.nil) 600 k105 (by kernel_rfl) (Eq.mpr (show _ = mapsP (true = true) [] by kernel_rfl) (mapsP_ok rfl _))
/-- stagepost/lexer.Lex -/
def k106 : Know := ⟨29, [(.str [110, 117, 108, 108])], (.tup [(.sl 5 0 4 0 1 none), (.agg [(.int .i64 0), (.int .i64 0)])]), 6, [(5, (.vec 0 4 [(.agg [(.int .u8 1), (.str [110, 117, 108, 108]), (.int .u64 0), (.int .i64 0)])] ⟨true, some 133⟩))]⟩
theorem r106 : RCall Tryz.prog k106.f k106.args k106.v k106.N k106.H := rcall_lvm [] [] mixed tabsOk tabsDOk (L := [k105]) (.cons r105 (.nil)) 600 k106 (by kernel_rfl) (Eq.mpr (show _ = mapsP (true = true) [] by kernel_rfl) (mapsP_ok rfl _))
/-- stagepost/lexer.fine -/
def k107 : Know := ⟨171, [(.agg [(.int .u8 1), (.str [110, 117, 108, 108]), (.int .u64 0), (.int .i64 0)])], (.bool true), 9, []⟩
theorem r107 : RCall Tryz.prog k107.f k107.args k107.v k107.N k107.H := rcall_lvm [] [] mixed tabsOk tabsDOk (L := [k106, k104]) (.cons r106 (.cons r104 (.nil))) 600 k107 (by kernel_rfl) (Eq.mpr (show _ = mapsP (true = true) [] by kernel_rfl) (mapsP_ok rfl _))
/-- stagepost/lexer.said -/
def k108 : Know := ⟨172, [(.agg [(.int .u8 1), (.str [112, 114, 105, 109, 97, 114, 121]), (.int .u64 0), (.int .i64 0)])], (.str [112, 114, 105, 109, 97, 114, 121]), 1, []⟩
theorem r108 : RCall Tryz.prog k108.f k108.args k108.v k108.N k108.H := rcall_lvm [] [] mixed tabsOk tabsDOk (L := []) (.nil) 600 k108 (by kernel_rfl) (Eq.mpr (show _ = mapsP (true = true) [] by kernel_rfl) (mapsP_ok rfl _))
/-- stagepost/lexer.one -/
def k109 : Know := ⟨58, [(.str [112, 114, 105, 109, 97, 114, 121])], (.tup [(.agg [(.int .u8 1), (.str [112, 114, 105, 109, 97, 114, 121]), (.int .u64 0), (.int .i64 0)]), (.int .i64 7), (.int .i64 0)]), 2, []⟩
theorem r109 : RCall Tryz.prog k109.f k109.args k109.v k109.N k109.H := rcall_lvm [] [] mixed tabsOk tabsDOk (L := []) (.nil) 600 k109 (by kernel_rfl) (Eq.mpr (show _ = mapsP (true = true) [] by kernel_rfl) (mapsP_ok rfl _))
/-- stagepost/lexer.Lex -/
def k110 : Know := ⟨29, [(.str [112, 114, 105, 109, 97, 114, 121])], (.tup [(.sl 5 0 4 0 1 none), (.agg [(.int .i64 0), (.int .i64 0)])]), 6, [(5, (.vec 0 4 [(.agg [(.int .u8 1), (.str [112, 114, 105, 109, 97, 114, 121]), (.int .u64 0), (.int .i64 0)])] ⟨true, some 133⟩))]⟩
theorem r110 : RCall Tryz.prog k110.f k110.args k110.v k110.N k110.H := rcall_lvm [] [] mixed tabsOk tabsDOk (L := [k109]) (.cons r109 (.nil)) 600 k110 (by kernel_rfl) (Eq.mpr (show _ = mapsP (true = true) [] by kernel_rfl) (mapsP_ok rfl _))
/-- stagepost/lexer.fine -/
def k111 : Know := ⟨171, [(.agg [(.int .u8 1), (.str [112, 114, 105, 109, 97, 114, 121]), (.int .u64 0), (.int .i64 0)])], (.bool true), 9, []⟩
theorem r111 : RCall Tryz.prog k111.f k111.args k111.v k111.N k111.H := rcall_lvm [] [] mixed tabsOk tabsDOk (L := [k110, k108]) (.cons r110 (.cons r108 (.nil))) 600 k111 (by kernel_rfl) (Eq.mpr (show _ = mapsP (true = true) [] by kernel_rfl) (mapsP_ok rfl _))
/-- stagepost/lexer.said -/
def k112 : Know := ⟨172, [(.agg [(.int .u8 1), (.str [107, 101, 121]), (.int .u64 0), (.int .i64 0)])], (.str [107, 101, 121]), 1, []⟩
theorem r112 : RCall Tryz.prog k112.f k112.args k112.v k112.N k112.H := rcall_lvm [] [] mixed tabsOk tabsDOk (L := []) (.nil) 600 k112 (by kernel_rfl) (Eq.mpr (show _ = mapsP (true = true) [] by kernel_rfl) (mapsP_ok rfl _))
/-- stagepost/lexer.one -/
def k113 : Know := ⟨58, [(.str [107, 101, 121])], (.tup [(.agg [(.int .u8 1), (.str [107, 101, 121]), (.int .u64 0), (.int .i64 0)]), (.int .i64 3), (.int .i64 0)]), 2, []⟩
theorem r113 : RCall Tryz.prog k113.f k113.args k113.v k113.N k113.H := rcall_lvm [] [] mixed tabsOk tabsDOk (L := []) (.nil) 600 k113 (by kernel_rfl) (Eq.mpr (show _ = mapsP (true = true) [] by kernel_rfl) (mapsP_ok rfl _))
/-- stagepost/lexer.Lex -/
def k114 : Know := ⟨29, [(.str [107, 101, 121])], (.tup [(.sl 5 0 4 0 1 none), (.agg [(.int .i64 0), (.int .i64 0)])]), 6, [(5, (.vec 0 4 [(.agg [(.int .u8 1), (.str [107, 101, 121]), (.int .u64 0), (.int .i64 0)])] ⟨true, some 133⟩))]⟩
theorem r114 : RCall Tryz.prog k114.f k114.args k114.v k114.N k114.H := rcall_lvm [] [] mixed tabsOk tabsDOk (L := [k113]) (.cons r113 (.nil)) 600 k114 (by kernel_rfl) (Eq.mpr (show _ = mapsP (true = true) [] by kernel_rfl) (mapsP_ok rfl _))
/-- stagepost/lexer.fine -/
def k115 : Know := ⟨171, [(.agg [(.int .u8 1), (.str [107, 101, 121]), (.int .u64 0), (.int .i64 0)])], (.bool true), 9, []⟩
theorem r115 : RCall Tryz.prog k115.f k115.args k115.v k115.N k115.H := rcall_lvm [] [] mixed tabsOk tabsDOk (L := [k114, k112]) (.cons r114 (.cons r112 (.nil))) 600 k115 (by kernel_rfl) (Eq.mpr (show _ = mapsP (true = true) [] by kernel_rfl) (mapsP_ok rfl _))
/-- stagepost/lexer.said -/
def k116 : Know := ⟨172, [(.agg [(.int .u8 4), (.str [41]), (.int .u64 0), (.int .i64 0)])], (.str [41]), 1, []⟩
theorem r116 : RCall Tryz.prog k116.f k116.args k116.v k116.N k116.H := rcall_lvm [] [] mixed tabsOk tabsDOk (L := []) (.nil) 600 k116 (by kernel_rfl) (Eq.mpr (show _ = mapsP (true = true) [] by kernel_rfl) (mapsP_ok rfl _))
/-- stagepost/lexer.one -/
def k117 : Know := ⟨58, [(.str [41])], (.tup [(.agg [(.int .u8 4), (.str [41]), (.int .u64 0), (.int .i64 0)]), (.int .i64 1), (.int .i64 0)]), 2, []⟩
theorem r117 : RCall Tryz.prog k117.f k117.args k117.v k117.N k117.H := rcall_lvm [] [] mixed tabsOk tabsDOk (L := [k5]) (.cons r5 (.nil)) 600 k117 (by kernel_rfl) (Eq.mpr (show _ = mapsP (true = true) [] by kernel_rfl) (mapsP_ok rfl _))
/-- stagepost/lexer.Lex -/
def k118 : Know := ⟨29, [(.str [41])], (.tup [(.sl 5 0 4 0 1 none), (.agg [(.int .i64 0), (.int .i64 0)])]), 6, [(5, (.vec 0 4 [(.agg [(.int .u8 4), (.str [41]), (.int .u64 0), (.int .i64 0)])] ⟨true, some 133⟩))]⟩
theorem r118 : RCall Tryz.prog k118.f k118.args k118.v k118.N k118.H := rcall_lvm [] [] mixed tabsOk tabsDOk (L := [k117]) (.cons r117 (.nil)) 600 k118 (by kernel_rfl) (Eq.mpr (show _ = mapsP (true = true) [] by kernel_rfl) (mapsP_ok rfl _))
/-- stagepost/lexer.fine -/
def k119 : Know := ⟨171, [(.agg [(.int .u8 4), (.str [41]), (.int .u64 0), (.int .i64 0)])], (.bool true), 9, []⟩
theorem r119 : RCall Tryz.prog k119.f k119.args k119.v k119.N k119.H := rcall_lvm [] [] mixed tabsOk tabsDOk (L := [k118, k116]) (.cons r118 (.cons r116 (.nil))) 600 k119 (by kernel_rfl) (Eq.mpr (show _ = mapsP (true = true) [] by kernel_rfl) (mapsP_ok rfl _))
end Go.Proofs.YtoiplpkifhhiiaaGreatDoor
