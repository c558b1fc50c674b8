/- Calls that are known, each reckoned by the kernel out of those before it. -/
import Derived.Test.YtoahfaepaojidaaDoorLnT
namespace Go.Proofs.YtoahfaepaojidaaDoor
open Ab
set_option maxRecDepth 1000000
attribute [local irreducible] lvk
/-- stagepost/lexer.one -/
def k1 : Know := ⟨17, [(.str [49, 60, 61, 50, 60, 62, 51])], (.tup [(.agg [(.int .u8 2), (.str []), (.int .u64 1), (.int .i64 0)]), (.int .i64 1), (.int .i64 0)]), 3, []⟩
theorem r1 : RCall Tryd.prog k1.f k1.args k1.v k1.N k1.H := rcall_lvk mixed tabsOk (L := []) (.nil) 600 k1 (by kernel_rfl) (Eq.mpr (show _ = (true = true) by kernel_rfl) rfl)
/-- strings.Fields -/
def k2 : Know := ⟨48, [(.str (60 :: 62 :: 32 :: 60 :: 61 :: 32 :: 62 :: 61 :: 32 :: 124 :: 124 :: 32 :: 40 :: 32 :: 41 :: 32 :: 44 :: 32 :: 59 :: 32 :: 46 :: 32 :: 42 :: 32 :: 43 :: 32 :: 45 :: 32 :: 47 :: 32 :: 37 :: 32 :: 61 :: 32 :: 60 :: 32 :: 62 :: []))], (.sl 0 0 1 0 17 (some 17)), 1, [(0, (.vec 0 1 [(.str [60, 62]), (.str [60, 61]), (.str [62, 61]), (.str [124, 124]), (.str [40]), (.str [41]), (.str [44]), (.str [59]), (.str [46]), (.str [42]), (.str [43]), (.str [45]), (.str [47]), (.str [37]), (.str [61]), (.str [60]), (.str [62])] ⟨false, some 9⟩))]⟩
theorem r2 : RCall Tryd.prog k2.f k2.args k2.v k2.N k2.H := rcall_lvk mixed tabsOk (L := []) (.nil) 600 k2 (by kernel_rfl) (Eq.mpr (show _ = (true = true) by kernel_rfl) rfl)
/-- stagepost/lexer.signs -/
def k3 : Know := ⟨35, [], (.sl 0 0 1 0 17 (some 17)), 1, [(0, (.vec 0 1 [(.str [60, 62]), (.str [60, 61]), (.str [62, 61]), (.str [124, 124]), (.str [40]), (.str [41]), (.str [44]), (.str [59]), (.str [46]), (.str [42]), (.str [43]), (.str [45]), (.str [47]), (.str [37]), (.str [61]), (.str [60]), (.str [62])] ⟨false, some 9⟩))]⟩
theorem r3 : RCall Tryd.prog k3.f k3.args k3.v k3.N k3.H := rcall_lvk mixed tabsOk (L := [k2]) (.cons r2 (.nil)) 600 k3 (by kernel_rfl) (Eq.mpr (show _ = (true = true) by kernel_rfl) rfl)
/-- stagepost/lexer.one -/
def k4 : Know := ⟨17, [(.str [60, 61, 50, 60, 62, 51])], (.tup [(.agg [(.int .u8 4), (.str [60, 61]), (.int .u64 0), (.int .i64 0)]), (.int .i64 2), (.int .i64 0)]), 2, []⟩
theorem r4 : RCall Tryd.prog k4.f k4.args k4.v k4.N k4.H := rcall_lvk mixed tabsOk (L := [k3]) (.cons r3 (.nil)) 600 k4 (by kernel_rfl) (Eq.mpr (show _ = (true = true) by kernel_rfl) rfl)
/-- stagepost/lexer.one -/
def k5 : Know := ⟨17, [(.str [50, 60, 62, 51])], (.tup [(.agg [(.int .u8 2), (.str []), (.int .u64 2), (.int .i64 0)]), (.int .i64 1), (.int .i64 0)]), 3, []⟩
theorem r5 : RCall Tryd.prog k5.f k5.args k5.v k5.N k5.H := rcall_lvk mixed tabsOk (L := []) (.nil) 600 k5 (by kernel_rfl) (Eq.mpr (show _ = (true = true) by kernel_rfl) rfl)
/-- stagepost/lexer.one -/
def k6 : Know := ⟨17, [(.str [60, 62, 51])], (.tup [(.agg [(.int .u8 4), (.str [60, 62]), (.int .u64 0), (.int .i64 0)]), (.int .i64 2), (.int .i64 0)]), 2, []⟩
theorem r6 : RCall Tryd.prog k6.f k6.args k6.v k6.N k6.H := rcall_lvk mixed tabsOk (L := [k3]) (.cons r3 (.nil)) 600 k6 (by kernel_rfl) (Eq.mpr (show _ = (true = true) by kernel_rfl) rfl)
/-- stagepost/lexer.one -/
def k7 : Know := ⟨17, [(.str [51])], (.tup [(.agg [(.int .u8 2), (.str []), (.int .u64 3), (.int .i64 0)]), (.int .i64 1), (.int .i64 0)]), 3, []⟩
theorem r7 : RCall Tryd.prog k7.f k7.args k7.v k7.N k7.H := rcall_lvk mixed tabsOk (L := []) (.nil) 600 k7 (by kernel_rfl) (Eq.mpr (show _ = (true = true) by kernel_rfl) rfl)
/-- stagepost/lexer.Lex -/
def k8 : Know := ⟨8, [(.str [49, 60, 61, 50, 60, 62, 51])], (.tup [(.sl 6 4 4 0 5 none), (.agg [(.int .i64 0), (.int .i64 0)])]), 25, [(6, (.vec 4 4 [(.agg [(.int .u8 2), (.str []), (.int .u64 1), (.int .i64 0)]), (.agg [(.int .u8 4), (.str [60, 61]), (.int .u64 0), (.int .i64 1)]), (.agg [(.int .u8 2), (.str []), (.int .u64 2), (.int .i64 3)]), (.agg [(.int .u8 4), (.str [60, 62]), (.int .u64 0), (.int .i64 4)]), (.agg [(.int .u8 2), (.str []), (.int .u64 3), (.int .i64 6)])] ⟨true, some 32⟩))]⟩
theorem r8 : RCall Tryd.prog k8.f k8.args k8.v k8.N k8.H := rcall_lvk mixed tabsOk (L := [k7, k6, k5, k4, k1]) (.cons r7 (.cons r6 (.cons r5 (.cons r4 (.cons r1 (.nil)))))) 600 k8 (by kernel_rfl) (Eq.mpr (show _ = (true = true) by kernel_rfl) rfl)
/-- stagepost/lexer.one -/
def k9 : Know := ⟨17, [(.str [49, 50, 97, 98])], (.tup [(.agg [(.int .u8 2), (.str []), (.int .u64 12), (.int .i64 0)]), (.int .i64 2), (.int .i64 0)]), 3, []⟩
theorem r9 : RCall Tryd.prog k9.f k9.args k9.v k9.N k9.H := rcall_lvk mixed tabsOk (L := []) (.nil) 600 k9 (by kernel_rfl) (Eq.mpr (show _ = (true = true) by kernel_rfl) rfl)
/-- stagepost/lexer.one -/
def k10 : Know := ⟨17, [(.str [97, 98])], (.tup [(.agg [(.int .u8 1), (.str [97, 98]), (.int .u64 0), (.int .i64 0)]), (.int .i64 2), (.int .i64 0)]), 2, []⟩
theorem r10 : RCall Tryd.prog k10.f k10.args k10.v k10.N k10.H := rcall_lvk mixed tabsOk (L := []) (.nil) 600 k10 (by kernel_rfl) (Eq.mpr (show _ = (true = true) by kernel_rfl) rfl)
/-- stagepost/lexer.Lex -/
def k11 : Know := ⟨8, [(.str [49, 50, 97, 98])], (.tup [(.sl 6 1 4 0 2 none), (.agg [(.int .i64 0), (.int .i64 0)])]), 11, [(6, (.vec 1 4 [(.agg [(.int .u8 2), (.str []), (.int .u64 12), (.int .i64 0)]), (.agg [(.int .u8 1), (.str [97, 98]), (.int .u64 0), (.int .i64 2)])] ⟨true, some 32⟩))]⟩
theorem r11 : RCall Tryd.prog k11.f k11.args k11.v k11.N k11.H := rcall_lvk mixed tabsOk (L := [k10, k9]) (.cons r10 (.cons r9 (.nil))) 600 k11 (by kernel_rfl) (Eq.mpr (show _ = (true = true) by kernel_rfl) rfl)
/-- stagepost/lexer.one -/
def k12 : Know := ⟨17, [(.str [57, 50, 50, 51, 51, 55, 50, 48, 51, 54, 56, 53, 52, 55, 55, 53, 56, 48, 57])], (.tup [(.agg [(.int .u8 0), (.str []), (.int .u64 0), (.int .i64 0)]), (.int .i64 0), (.int .i64 233)]), 3, []⟩
theorem r12 : RCall Tryd.prog k12.f k12.args k12.v k12.N k12.H := rcall_lvk mixed tabsOk (L := []) (.nil) 600 k12 (by kernel_rfl) (Eq.mpr (show _ = (true = true) by kernel_rfl) rfl)
/-- stagepost/lexer.Lex -/
def k13 : Know := ⟨8, [(.str [57, 50, 50, 51, 51, 55, 50, 48, 51, 54, 56, 53, 52, 55, 55, 53, 56, 48, 57])], (.tup [.nils, (.agg [(.int .i64 233), (.int .i64 0)])]), 5, []⟩
theorem r13 : RCall Tryd.prog k13.f k13.args k13.v k13.N k13.H := rcall_lvk mixed tabsOk (L := [k12]) (.cons r12 (.nil)) 600 k13 (by kernel_rfl) (Eq.mpr (show _ = (true = true) by kernel_rfl) rfl)
/-- stagepost/lexer.one -/
def k14 : Know := ⟨17, [(.str [33])], (.tup [(.agg [(.int .u8 0), (.str []), (.int .u64 0), (.int .i64 0)]), (.int .i64 0), (.int .i64 230)]), 2, []⟩
theorem r14 : RCall Tryd.prog k14.f k14.args k14.v k14.N k14.H := rcall_lvk mixed tabsOk (L := [k3]) (.cons r3 (.nil)) 600 k14 (by kernel_rfl) (Eq.mpr (show _ = (true = true) by kernel_rfl) rfl)
/-- stagepost/lexer.Lex -/
def k15 : Know := ⟨8, [(.str [33])], (.tup [.nils, (.agg [(.int .i64 230), (.int .i64 0)])]), 4, []⟩
theorem r15 : RCall Tryd.prog k15.f k15.args k15.v k15.N k15.H := rcall_lvk mixed tabsOk (L := [k14]) (.cons r14 (.nil)) 600 k15 (by kernel_rfl) (Eq.mpr (show _ = (true = true) by kernel_rfl) rfl)
/-- stagepost/lexer.one -/
def k16 : Know := ⟨17, [(.str [39, 97])], (.tup [(.agg [(.int .u8 0), (.str []), (.int .u64 0), (.int .i64 0)]), (.int .i64 0), (.int .i64 231)]), 5, []⟩
theorem r16 : RCall Tryd.prog k16.f k16.args k16.v k16.N k16.H := rcall_lvk mixed tabsOk (L := []) (.nil) 600 k16 (by kernel_rfl) (Eq.mpr (show _ = (true = true) by kernel_rfl) rfl)
/-- stagepost/lexer.Lex -/
def k17 : Know := ⟨8, [(.str [39, 97])], (.tup [.nils, (.agg [(.int .i64 231), (.int .i64 0)])]), 7, []⟩
theorem r17 : RCall Tryd.prog k17.f k17.args k17.v k17.N k17.H := rcall_lvk mixed tabsOk (L := [k16]) (.cons r16 (.nil)) 600 k17 (by kernel_rfl) (Eq.mpr (show _ = (true = true) by kernel_rfl) rfl)
/-- stagepost/lexer.one -/
def k18 : Know := ⟨17, [(.str [39, 255, 39])], (.tup [(.agg [(.int .u8 0), (.str []), (.int .u64 0), (.int .i64 0)]), (.int .i64 0), (.int .i64 232)]), 5, []⟩
theorem r18 : RCall Tryd.prog k18.f k18.args k18.v k18.N k18.H := rcall_lvk mixed tabsOk (L := []) (.nil) 600 k18 (by kernel_rfl) (Eq.mpr (show _ = (true = true) by kernel_rfl) rfl)
/-- stagepost/lexer.Lex -/
def k19 : Know := ⟨8, [(.str [39, 255, 39])], (.tup [.nils, (.agg [(.int .i64 232), (.int .i64 0)])]), 7, []⟩
theorem r19 : RCall Tryd.prog k19.f k19.args k19.v k19.N k19.H := rcall_lvk mixed tabsOk (L := [k18]) (.cons r18 (.nil)) 600 k19 (by kernel_rfl) (Eq.mpr (show _ = (true = true) by kernel_rfl) rfl)
/-- stagepost/lexer.one -/
def k20 : Know := ⟨17, [(.str [124])], (.tup [(.agg [(.int .u8 0), (.str []), (.int .u64 0), (.int .i64 0)]), (.int .i64 0), (.int .i64 230)]), 2, []⟩
theorem r20 : RCall Tryd.prog k20.f k20.args k20.v k20.N k20.H := rcall_lvk mixed tabsOk (L := [k3]) (.cons r3 (.nil)) 600 k20 (by kernel_rfl) (Eq.mpr (show _ = (true = true) by kernel_rfl) rfl)
/-- stagepost/lexer.Lex -/
def k21 : Know := ⟨8, [(.str [124])], (.tup [.nils, (.agg [(.int .i64 230), (.int .i64 0)])]), 4, []⟩
theorem r21 : RCall Tryd.prog k21.f k21.args k21.v k21.N k21.H := rcall_lvk mixed tabsOk (L := [k20]) (.cons r20 (.nil)) 600 k21 (by kernel_rfl) (Eq.mpr (show _ = (true = true) by kernel_rfl) rfl)
/-- stagepost/lexer.said -/
def k22 : Know := ⟨25, [(.agg [(.int .u8 1), (.str [115, 101, 108, 101, 99, 116]), (.int .u64 0), (.int .i64 0)])], (.str [115, 101, 108, 101, 99, 116]), 1, []⟩
theorem r22 : RCall Tryd.prog k22.f k22.args k22.v k22.N k22.H := rcall_lvk mixed tabsOk (L := []) (.nil) 600 k22 (by kernel_rfl) (Eq.mpr (show _ = (true = true) by kernel_rfl) rfl)
/-- stagepost/lexer.one -/
def k23 : Know := ⟨17, [(.str [115, 101, 108, 101, 99, 116])], (.tup [(.agg [(.int .u8 1), (.str [115, 101, 108, 101, 99, 116]), (.int .u64 0), (.int .i64 0)]), (.int .i64 6), (.int .i64 0)]), 2, []⟩
theorem r23 : RCall Tryd.prog k23.f k23.args k23.v k23.N k23.H := rcall_lvk mixed tabsOk (L := []) (.nil) 600 k23 (by kernel_rfl) (Eq.mpr (show _ = (true = true) by kernel_rfl) rfl)
/-- stagepost/lexer.Lex -/
def k24 : Know := ⟨8, [(.str [115, 101, 108, 101, 99, 116])], (.tup [(.sl 5 0 4 0 1 none), (.agg [(.int .i64 0), (.int .i64 0)])]), 6, [(5, (.vec 0 4 [(.agg [(.int .u8 1), (.str [115, 101, 108, 101, 99, 116]), (.int .u64 0), (.int .i64 0)])] ⟨true, some 32⟩))]⟩
theorem r24 : RCall Tryd.prog k24.f k24.args k24.v k24.N k24.H := rcall_lvk mixed tabsOk (L := [k23]) (.cons r23 (.nil)) 600 k24 (by kernel_rfl) (Eq.mpr (show _ = (true = true) by kernel_rfl) rfl)
/-- stagepost/lexer.fine -/
def k25 : Know := ⟨24, [(.agg [(.int .u8 1), (.str [115, 101, 108, 101, 99, 116]), (.int .u64 0), (.int .i64 0)])], (.bool true), 9, []⟩
theorem r25 : RCall Tryd.prog k25.f k25.args k25.v k25.N k25.H := rcall_lvk mixed tabsOk (L := [k24, k22]) (.cons r24 (.cons r22 (.nil))) 600 k25 (by kernel_rfl) (Eq.mpr (show _ = (true = true) by kernel_rfl) rfl)
/-- stagepost/lexer.said -/
def k26 : Know := ⟨25, [(.agg [(.int .u8 1), (.str [97, 49]), (.int .u64 0), (.int .i64 0)])], (.str [97, 49]), 1, []⟩
theorem r26 : RCall Tryd.prog k26.f k26.args k26.v k26.N k26.H := rcall_lvk mixed tabsOk (L := []) (.nil) 600 k26 (by kernel_rfl) (Eq.mpr (show _ = (true = true) by kernel_rfl) rfl)
/-- stagepost/lexer.one -/
def k27 : Know := ⟨17, [(.str [97, 49])], (.tup [(.agg [(.int .u8 1), (.str [97, 49]), (.int .u64 0), (.int .i64 0)]), (.int .i64 2), (.int .i64 0)]), 2, []⟩
theorem r27 : RCall Tryd.prog k27.f k27.args k27.v k27.N k27.H := rcall_lvk mixed tabsOk (L := []) (.nil) 600 k27 (by kernel_rfl) (Eq.mpr (show _ = (true = true) by kernel_rfl) rfl)
/-- stagepost/lexer.Lex -/
def k28 : Know := ⟨8, [(.str [97, 49])], (.tup [(.sl 5 0 4 0 1 none), (.agg [(.int .i64 0), (.int .i64 0)])]), 6, [(5, (.vec 0 4 [(.agg [(.int .u8 1), (.str [97, 49]), (.int .u64 0), (.int .i64 0)])] ⟨true, some 32⟩))]⟩
theorem r28 : RCall Tryd.prog k28.f k28.args k28.v k28.N k28.H := rcall_lvk mixed tabsOk (L := [k27]) (.cons r27 (.nil)) 600 k28 (by kernel_rfl) (Eq.mpr (show _ = (true = true) by kernel_rfl) rfl)
/-- stagepost/lexer.fine -/
def k29 : Know := ⟨24, [(.agg [(.int .u8 1), (.str [97, 49]), (.int .u64 0), (.int .i64 0)])], (.bool true), 9, []⟩
theorem r29 : RCall Tryd.prog k29.f k29.args k29.v k29.N k29.H := rcall_lvk mixed tabsOk (L := [k28, k26]) (.cons r28 (.cons r26 (.nil))) 600 k29 (by kernel_rfl) (Eq.mpr (show _ = (true = true) by kernel_rfl) rfl)
/-- stagepost/lexer.said -/
def k30 : Know := ⟨25, [(.agg [(.int .u8 4), (.str [44]), (.int .u64 0), (.int .i64 0)])], (.str [44]), 1, []⟩
theorem r30 : RCall Tryd.prog k30.f k30.args k30.v k30.N k30.H := rcall_lvk mixed tabsOk (L := []) (.nil) 600 k30 (by kernel_rfl) (Eq.mpr (show _ = (true = true) by kernel_rfl) rfl)
/-- stagepost/lexer.one -/
def k31 : Know := ⟨17, [(.str [44])], (.tup [(.agg [(.int .u8 4), (.str [44]), (.int .u64 0), (.int .i64 0)]), (.int .i64 1), (.int .i64 0)]), 2, []⟩
theorem r31 : RCall Tryd.prog k31.f k31.args k31.v k31.N k31.H := rcall_lvk mixed tabsOk (L := [k3]) (.cons r3 (.nil)) 600 k31 (by kernel_rfl) (Eq.mpr (show _ = (true = true) by kernel_rfl) rfl)
/-- stagepost/lexer.Lex -/
def k32 : Know := ⟨8, [(.str [44])], (.tup [(.sl 5 0 4 0 1 none), (.agg [(.int .i64 0), (.int .i64 0)])]), 6, [(5, (.vec 0 4 [(.agg [(.int .u8 4), (.str [44]), (.int .u64 0), (.int .i64 0)])] ⟨true, some 32⟩))]⟩
theorem r32 : RCall Tryd.prog k32.f k32.args k32.v k32.N k32.H := rcall_lvk mixed tabsOk (L := [k31]) (.cons r31 (.nil)) 600 k32 (by kernel_rfl) (Eq.mpr (show _ = (true = true) by kernel_rfl) rfl)
/-- stagepost/lexer.fine -/
def k33 : Know := ⟨24, [(.agg [(.int .u8 4), (.str [44]), (.int .u64 0), (.int .i64 0)])], (.bool true), 9, []⟩
theorem r33 : RCall Tryd.prog k33.f k33.args k33.v k33.N k33.H := rcall_lvk mixed tabsOk (L := [k32, k30]) (.cons r32 (.cons r30 (.nil))) 600 k33 (by kernel_rfl) (Eq.mpr (show _ = (true = true) by kernel_rfl) rfl)
/-- stagepost/lexer.said -/
def k34 : Know := ⟨25, [(.agg [(.int .u8 3), (.str [105, 116, 39, 115]), (.int .u64 0), (.int .i64 0)])], (.str [39, 105, 116, 39, 39, 115, 39]), 3, []⟩
theorem r34 : RCall Tryd.prog k34.f k34.args k34.v k34.N k34.H := rcall_lvk mixed tabsOk (L := []) (.nil) 600 k34 (by kernel_rfl) (Eq.mpr (show _ = (true = true) by kernel_rfl) rfl)
/-- stagepost/lexer.one -/
def k35 : Know := ⟨17, [(.str [39, 105, 116, 39, 39, 115, 39])], (.tup [(.agg [(.int .u8 3), (.str [105, 116, 39, 115]), (.int .u64 0), (.int .i64 0)]), (.int .i64 7), (.int .i64 0)]), 6, []⟩
theorem r35 : RCall Tryd.prog k35.f k35.args k35.v k35.N k35.H := rcall_lvk mixed tabsOk (L := []) (.nil) 600 k35 (by kernel_rfl) (Eq.mpr (show _ = (true = true) by kernel_rfl) rfl)
/-- stagepost/lexer.Lex -/
def k36 : Know := ⟨8, [(.str [39, 105, 116, 39, 39, 115, 39])], (.tup [(.sl 9 0 4 0 1 none), (.agg [(.int .i64 0), (.int .i64 0)])]), 10, [(9, (.vec 0 4 [(.agg [(.int .u8 3), (.str [105, 116, 39, 115]), (.int .u64 0), (.int .i64 0)])] ⟨true, some 32⟩))]⟩
theorem r36 : RCall Tryd.prog k36.f k36.args k36.v k36.N k36.H := rcall_lvk mixed tabsOk (L := [k35]) (.cons r35 (.nil)) 600 k36 (by kernel_rfl) (Eq.mpr (show _ = (true = true) by kernel_rfl) rfl)
/-- stagepost/lexer.fine -/
def k37 : Know := ⟨24, [(.agg [(.int .u8 3), (.str [105, 116, 39, 115]), (.int .u64 0), (.int .i64 0)])], (.bool true), 15, []⟩
theorem r37 : RCall Tryd.prog k37.f k37.args k37.v k37.N k37.H := rcall_lvk mixed tabsOk (L := [k36, k34]) (.cons r36 (.cons r34 (.nil))) 600 k37 (by kernel_rfl) (Eq.mpr (show _ = (true = true) by kernel_rfl) rfl)
/-- stagepost/lexer.Text -/
def k38 : Know := ⟨13, [(lstOf 4 [(.agg [(.int .u8 1), (.str [115, 101, 108, 101, 99, 116]), (.int .u64 0), (.int .i64 0)]), (.agg [(.int .u8 1), (.str [97, 49]), (.int .u64 0), (.int .i64 0)]), (.agg [(.int .u8 4), (.str [44]), (.int .u64 0), (.int .i64 0)]), (.agg [(.int .u8 3), (.str [105, 116, 39, 115]), (.int .u64 0), (.int .i64 0)])])], (.tup [(.str [115, 101, 108, 101, 99, 116, 32, 97, 49, 32, 44, 32, 39, 105, 116, 39, 39, 115, 39]), (.agg [(.int .i64 0), (.int .i64 0)])]), 56, []⟩
theorem r38 : RCall Tryd.prog k38.f k38.args k38.v k38.N k38.H := rcall_lvk mixed tabsOk (L := [k37, k34, k33, k30, k29, k26, k25, k22]) (.cons r37 (.cons r34 (.cons r33 (.cons r30 (.cons r29 (.cons r26 (.cons r25 (.cons r22 (.nil))))))))) 600 k38 (by kernel_rfl) (Eq.mpr (show _ = (true = true) by kernel_rfl) rfl)
/-- stagepost/lexer.one -/
def k39 : Know := ⟨17, [(.str [83, 69, 76, 69, 67, 84, 32, 97, 49, 44, 39, 105, 116, 39, 39, 115, 39])], (.tup [(.agg [(.int .u8 1), (.str [115, 101, 108, 101, 99, 116]), (.int .u64 0), (.int .i64 0)]), (.int .i64 6), (.int .i64 0)]), 10, []⟩
theorem r39 : RCall Tryd.prog k39.f k39.args k39.v k39.N k39.H := rcall_lvk mixed tabsOk (L := []) (.nil) 600 k39 (by kernel_rfl) (Eq.mpr (show _ = (true = true) by kernel_rfl) rfl)
/-- stagepost/lexer.one -/
def k40 : Know := ⟨17, [(.str [97, 49, 44, 39, 105, 116, 39, 39, 115, 39])], (.tup [(.agg [(.int .u8 1), (.str [97, 49]), (.int .u64 0), (.int .i64 0)]), (.int .i64 2), (.int .i64 0)]), 2, []⟩
theorem r40 : RCall Tryd.prog k40.f k40.args k40.v k40.N k40.H := rcall_lvk mixed tabsOk (L := []) (.nil) 600 k40 (by kernel_rfl) (Eq.mpr (show _ = (true = true) by kernel_rfl) rfl)
/-- stagepost/lexer.one -/
def k41 : Know := ⟨17, [(.str [44, 39, 105, 116, 39, 39, 115, 39])], (.tup [(.agg [(.int .u8 4), (.str [44]), (.int .u64 0), (.int .i64 0)]), (.int .i64 1), (.int .i64 0)]), 2, []⟩
theorem r41 : RCall Tryd.prog k41.f k41.args k41.v k41.N k41.H := rcall_lvk mixed tabsOk (L := [k3]) (.cons r3 (.nil)) 600 k41 (by kernel_rfl) (Eq.mpr (show _ = (true = true) by kernel_rfl) rfl)
/-- stagepost/lexer.Lex -/
def k42 : Know := ⟨8, [(.str [83, 69, 76, 69, 67, 84, 32, 97, 49, 44, 39, 105, 116, 39, 39, 115, 39])], (.tup [(.sl 13 3 4 0 4 none), (.agg [(.int .i64 0), (.int .i64 0)])]), 30, [(13, (.vec 3 4 [(.agg [(.int .u8 1), (.str [115, 101, 108, 101, 99, 116]), (.int .u64 0), (.int .i64 0)]), (.agg [(.int .u8 1), (.str [97, 49]), (.int .u64 0), (.int .i64 7)]), (.agg [(.int .u8 4), (.str [44]), (.int .u64 0), (.int .i64 9)]), (.agg [(.int .u8 3), (.str [105, 116, 39, 115]), (.int .u64 0), (.int .i64 10)])] ⟨true, some 32⟩))]⟩
theorem r42 : RCall Tryd.prog k42.f k42.args k42.v k42.N k42.H := rcall_lvk mixed tabsOk (L := [k41, k40, k39, k35]) (.cons r41 (.cons r40 (.cons r39 (.cons r35 (.nil))))) 600 k42 (by kernel_rfl) (Eq.mpr (show _ = (true = true) by kernel_rfl) rfl)
/-- strings.Fields -/
def k43 : Know := ⟨48, [(.str (97 :: 110 :: 100 :: 32 :: 97 :: 115 :: 32 :: 97 :: 115 :: 99 :: 32 :: 98 :: 101 :: 103 :: 105 :: 110 :: 32 :: 98 :: 111 :: 111 :: 108 :: 32 :: 98 :: 121 :: 32 :: 99 :: 111 :: 109 :: 109 :: 105 :: 116 :: 32 :: 99 :: 111 :: 117 :: 110 :: 116 :: 32 :: 99 :: 114 :: 101 :: 97 :: 116 :: 101 :: 32 :: 100 :: 101 :: 108 :: 101 :: 116 :: 101 :: 32 :: 100 :: 101 :: 115 :: 99 :: 32 :: 102 :: 97 :: 108 :: 115 :: 101 :: 32 :: 102 :: 114 :: 111 :: 109 :: 32 :: 103 :: 114 :: 111 :: 117 :: 112 :: 32 :: 105 :: 110 :: 100 :: 101 :: 120 :: 32 :: 105 :: 110 :: 115 :: 101 :: 114 :: 116 :: 32 :: 105 :: 110 :: 116 :: 32 :: 105 :: 110 :: 116 :: 111 :: 32 :: 105 :: 115 :: 32 :: 106 :: 111 :: 105 :: 110 :: 32 :: 107 :: 101 :: 121 :: 32 :: 108 :: 105 :: 109 :: 105 :: 116 :: 32 :: 109 :: 97 :: 120 :: 32 :: 109 :: 105 :: 110 :: 32 :: 110 :: 111 :: 116 :: 32 :: 110 :: 117 :: 108 :: 108 :: 32 :: 111 :: 110 :: 32 :: 111 :: 114 :: 32 :: 111 :: 114 :: 100 :: 101 :: 114 :: 32 :: 112 :: 114 :: 105 :: 109 :: 97 :: 114 :: 121 :: 32 :: 114 :: 111 :: 108 :: 108 :: 98 :: 97 :: 99 :: 107 :: 32 :: 115 :: 97 :: 118 :: 101 :: 112 :: 111 :: 105 :: 110 :: 116 :: 32 :: 115 :: 101 :: 108 :: 101 :: 99 :: 116 :: 32 :: 115 :: 101 :: 116 :: 32 :: 115 :: 117 :: 109 :: 32 :: 116 :: 97 :: 98 :: 108 :: 101 :: 32 :: 116 :: 101 :: 120 :: 116 :: 32 :: 116 :: 111 :: 32 :: 116 :: 114 :: 117 :: 101 :: 32 :: 117 :: 110 :: 105 :: 113 :: 117 :: 101 :: 32 :: 117 :: 112 :: 100 :: 97 :: 116 :: 101 :: 32 :: 118 :: 97 :: 108 :: 117 :: 101 :: 115 :: 32 :: 119 :: 104 :: 101 :: 114 :: 101 :: []))], (.sl 0 0 1 0 43 (some 43)), 1, [(0, (.vec 0 1 ((.str [97, 110, 100]) :: (.str [97, 115]) :: (.str [97, 115, 99]) :: (.str [98, 101, 103, 105, 110]) :: (.str [98, 111, 111, 108]) :: (.str [98, 121]) :: (.str [99, 111, 109, 109, 105, 116]) :: (.str [99, 111, 117, 110, 116]) :: (.str [99, 114, 101, 97, 116, 101]) :: (.str [100, 101, 108, 101, 116, 101]) :: (.str [100, 101, 115, 99]) :: (.str [102, 97, 108, 115, 101]) :: (.str [102, 114, 111, 109]) :: (.str [103, 114, 111, 117, 112]) :: (.str [105, 110, 100, 101, 120]) :: (.str [105, 110, 115, 101, 114, 116]) :: (.str [105, 110, 116]) :: (.str [105, 110, 116, 111]) :: (.str [105, 115]) :: (.str [106, 111, 105, 110]) :: (.str [107, 101, 121]) :: (.str [108, 105, 109, 105, 116]) :: (.str [109, 97, 120]) :: (.str [109, 105, 110]) :: (.str [110, 111, 116]) :: (.str [110, 117, 108, 108]) :: (.str [111, 110]) :: (.str [111, 114]) :: (.str [111, 114, 100, 101, 114]) :: (.str [112, 114, 105, 109, 97, 114, 121]) :: (.str [114, 111, 108, 108, 98, 97, 99, 107]) :: (.str [115, 97, 118, 101, 112, 111, 105, 110, 116]) :: (.str [115, 101, 108, 101, 99, 116]) :: (.str [115, 101, 116]) :: (.str [115, 117, 109]) :: (.str [116, 97, 98, 108, 101]) :: (.str [116, 101, 120, 116]) :: (.str [116, 111]) :: (.str [116, 114, 117, 101]) :: (.str [117, 110, 105, 113, 117, 101]) :: (.str [117, 112, 100, 97, 116, 101]) :: (.str [118, 97, 108, 117, 101, 115]) :: (.str [119, 104, 101, 114, 101]) :: []) ⟨false, some 9⟩))]⟩
theorem r43 : RCall Tryd.prog k43.f k43.args k43.v k43.N k43.H := rcall_lvk mixed tabsOk (L := []) (.nil) 600 k43 (by kernel_rfl) (Eq.mpr (show _ = (true = true) by kernel_rfl) rfl)
/-- stagepost/lexer.reserved -/
def k44 : Know := ⟨28, [], (.sl 0 0 1 0 43 (some 43)), 1, [(0, (.vec 0 1 ((.str [97, 110, 100]) :: (.str [97, 115]) :: (.str [97, 115, 99]) :: (.str [98, 101, 103, 105, 110]) :: (.str [98, 111, 111, 108]) :: (.str [98, 121]) :: (.str [99, 111, 109, 109, 105, 116]) :: (.str [99, 111, 117, 110, 116]) :: (.str [99, 114, 101, 97, 116, 101]) :: (.str [100, 101, 108, 101, 116, 101]) :: (.str [100, 101, 115, 99]) :: (.str [102, 97, 108, 115, 101]) :: (.str [102, 114, 111, 109]) :: (.str [103, 114, 111, 117, 112]) :: (.str [105, 110, 100, 101, 120]) :: (.str [105, 110, 115, 101, 114, 116]) :: (.str [105, 110, 116]) :: (.str [105, 110, 116, 111]) :: (.str [105, 115]) :: (.str [106, 111, 105, 110]) :: (.str [107, 101, 121]) :: (.str [108, 105, 109, 105, 116]) :: (.str [109, 97, 120]) :: (.str [109, 105, 110]) :: (.str [110, 111, 116]) :: (.str [110, 117, 108, 108]) :: (.str [111, 110]) :: (.str [111, 114]) :: (.str [111, 114, 100, 101, 114]) :: (.str [112, 114, 105, 109, 97, 114, 121]) :: (.str [114, 111, 108, 108, 98, 97, 99, 107]) :: (.str [115, 97, 118, 101, 112, 111, 105, 110, 116]) :: (.str [115, 101, 108, 101, 99, 116]) :: (.str [115, 101, 116]) :: (.str [115, 117, 109]) :: (.str [116, 97, 98, 108, 101]) :: (.str [116, 101, 120, 116]) :: (.str [116, 111]) :: (.str [116, 114, 117, 101]) :: (.str [117, 110, 105, 113, 117, 101]) :: (.str [117, 112, 100, 97, 116, 101]) :: (.str [118, 97, 108, 117, 101, 115]) :: (.str [119, 104, 101, 114, 101]) :: []) ⟨false, some 9⟩))]⟩
theorem r44 : RCall Tryd.prog k44.f k44.args k44.v k44.N k44.H := rcall_lvk mixed tabsOk (L := [k43]) (.cons r43 (.nil)) 600 k44 (by kernel_rfl) (Eq.mpr (show _ = (true = true) by kernel_rfl) rfl)
end Go.Proofs.YtoahfaepaojidaaDoor
