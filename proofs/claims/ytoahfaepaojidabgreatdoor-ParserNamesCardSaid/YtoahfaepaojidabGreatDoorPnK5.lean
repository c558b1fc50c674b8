/- Calls that are known, each reckoned by the kernel out of those before it. -/
import Derived.Test.YtoahfaepaojidabGreatDoorPnK1
import Derived.Test.YtoahfaepaojidabGreatDoorPnK4
namespace Go.Proofs.YtoahfaepaojidabGreatDoor
open Ab
set_option maxRecDepth 1000000
set_option maxHeartbeats 0
attribute [local irreducible] lvd
/-- stagepost/lexer.fine -/
def k222 : Know := ⟨105, [(.agg [(.int .u8 1), (.str [97]), (.int .u64 0), (.int .i64 0)])], (.bool true), 9, []⟩
theorem r222 : RCall Tryz.prog k222.f k222.args k222.v k222.N k222.H := rcall_lvd mixed tabsOk tabsDOk (L := [k221, k219]) (.cons r221 (.cons r219 (.nil))) 600 k222 (by kernel_rfl) (Eq.mpr (show _ = (true = true) by kernel_rfl) rfl)
/-- stagepost/lexer.said -/
def k223 : Know := ⟨106, [(.agg [(.int .u8 4), (.str [44]), (.int .u64 0), (.int .i64 0)])], (.str [44]), 1, []⟩
theorem r223 : RCall Tryz.prog k223.f k223.args k223.v k223.N k223.H := rcall_lvd mixed tabsOk tabsDOk (L := []) (.nil) 600 k223 (by kernel_rfl) (Eq.mpr (show _ = (true = true) by kernel_rfl) rfl)
/-- stagepost/lexer.one -/
def k224 : Know := ⟨49, [(.str [44])], (.tup [(.agg [(.int .u8 4), (.str [44]), (.int .u64 0), (.int .i64 0)]), (.int .i64 1), (.int .i64 0)]), 2, []⟩
theorem r224 : RCall Tryz.prog k224.f k224.args k224.v k224.N k224.H := rcall_lvd mixed tabsOk tabsDOk (L := [k4]) (.cons r4 (.nil)) 600 k224 (by kernel_rfl) (Eq.mpr (show _ = (true = true) by kernel_rfl) rfl)
/-- stagepost/lexer.Lex -/
def k225 : Know := ⟨18, [(.str [44])], (.tup [(.sl 5 0 4 0 1 none), (.agg [(.int .i64 0), (.int .i64 0)])]), 6, [(5, (.vec 0 4 [(.agg [(.int .u8 4), (.str [44]), (.int .u64 0), (.int .i64 0)])] ⟨true, some 64⟩))]⟩
theorem r225 : RCall Tryz.prog k225.f k225.args k225.v k225.N k225.H := rcall_lvd mixed tabsOk tabsDOk (L := [k224]) (.cons r224 (.nil)) 600 k225 (by kernel_rfl) (Eq.mpr (show _ = (true = true) by kernel_rfl) rfl)
/-- stagepost/lexer.fine -/
def k226 : Know := ⟨105, [(.agg [(.int .u8 4), (.str [44]), (.int .u64 0), (.int .i64 0)])], (.bool true), 9, []⟩
theorem r226 : RCall Tryz.prog k226.f k226.args k226.v k226.N k226.H := rcall_lvd mixed tabsOk tabsDOk (L := [k225, k223]) (.cons r225 (.cons r223 (.nil))) 600 k226 (by kernel_rfl) (Eq.mpr (show _ = (true = true) by kernel_rfl) rfl)
/-- stagepost/lexer.said -/
def k227 : Know := ⟨106, [(.agg [(.int .u8 4), (.str [40]), (.int .u64 0), (.int .i64 0)])], (.str [40]), 1, []⟩
theorem r227 : RCall Tryz.prog k227.f k227.args k227.v k227.N k227.H := rcall_lvd mixed tabsOk tabsDOk (L := []) (.nil) 600 k227 (by kernel_rfl) (Eq.mpr (show _ = (true = true) by kernel_rfl) rfl)
/-- stagepost/lexer.one -/
def k228 : Know := ⟨49, [(.str [40])], (.tup [(.agg [(.int .u8 4), (.str [40]), (.int .u64 0), (.int .i64 0)]), (.int .i64 1), (.int .i64 0)]), 2, []⟩
theorem r228 : RCall Tryz.prog k228.f k228.args k228.v k228.N k228.H := rcall_lvd mixed tabsOk tabsDOk (L := [k4]) (.cons r4 (.nil)) 600 k228 (by kernel_rfl) (Eq.mpr (show _ = (true = true) by kernel_rfl) rfl)
/-- stagepost/lexer.Lex -/
def k229 : Know := ⟨18, [(.str [40])], (.tup [(.sl 5 0 4 0 1 none), (.agg [(.int .i64 0), (.int .i64 0)])]), 6, [(5, (.vec 0 4 [(.agg [(.int .u8 4), (.str [40]), (.int .u64 0), (.int .i64 0)])] ⟨true, some 64⟩))]⟩
theorem r229 : RCall Tryz.prog k229.f k229.args k229.v k229.N k229.H := rcall_lvd mixed tabsOk tabsDOk (L := [k228]) (.cons r228 (.nil)) 600 k229 (by kernel_rfl) (Eq.mpr (show _ = (true = true) by kernel_rfl) rfl)
/-- stagepost/lexer.fine -/
def k230 : Know := ⟨105, [(.agg [(.int .u8 4), (.str [40]), (.int .u64 0), (.int .i64 0)])], (.bool true), 9, []⟩
theorem r230 : RCall Tryz.prog k230.f k230.args k230.v k230.N k230.H := rcall_lvd mixed tabsOk tabsDOk (L := [k229, k227]) (.cons r229 (.cons r227 (.nil))) 600 k230 (by kernel_rfl) (Eq.mpr (show _ = (true = true) by kernel_rfl) rfl)
/-- stagepost/lexer.said -/
def k231 : Know := ⟨106, [(.agg [(.int .u8 1), (.str [98]), (.int .u64 0), (.int .i64 0)])], (.str [98]), 1, []⟩
theorem r231 : RCall Tryz.prog k231.f k231.args k231.v k231.N k231.H := rcall_lvd mixed tabsOk tabsDOk (L := []) (.nil) 600 k231 (by kernel_rfl) (Eq.mpr (show _ = (true = true) by kernel_rfl) rfl)
/-- stagepost/lexer.one -/
def k232 : Know := ⟨49, [(.str [98])], (.tup [(.agg [(.int .u8 1), (.str [98]), (.int .u64 0), (.int .i64 0)]), (.int .i64 1), (.int .i64 0)]), 2, []⟩
theorem r232 : RCall Tryz.prog k232.f k232.args k232.v k232.N k232.H := rcall_lvd mixed tabsOk tabsDOk (L := []) (.nil) 600 k232 (by kernel_rfl) (Eq.mpr (show _ = (true = true) by kernel_rfl) rfl)
/-- stagepost/lexer.Lex -/
def k233 : Know := ⟨18, [(.str [98])], (.tup [(.sl 5 0 4 0 1 none), (.agg [(.int .i64 0), (.int .i64 0)])]), 6, [(5, (.vec 0 4 [(.agg [(.int .u8 1), (.str [98]), (.int .u64 0), (.int .i64 0)])] ⟨true, some 64⟩))]⟩
theorem r233 : RCall Tryz.prog k233.f k233.args k233.v k233.N k233.H := rcall_lvd mixed tabsOk tabsDOk (L := [k232]) (.cons r232 (.nil)) 600 k233 (by kernel_rfl) (Eq.mpr (show _ = (true = true) by kernel_rfl) rfl)
/-- stagepost/lexer.fine -/
def k234 : Know := ⟨105, [(.agg [(.int .u8 1), (.str [98]), (.int .u64 0), (.int .i64 0)])], (.bool true), 9, []⟩
theorem r234 : RCall Tryz.prog k234.f k234.args k234.v k234.N k234.H := rcall_lvd mixed tabsOk tabsDOk (L := [k233, k231]) (.cons r233 (.cons r231 (.nil))) 600 k234 (by kernel_rfl) (Eq.mpr (show _ = (true = true) by kernel_rfl) rfl)
/-- stagepost/lexer.said -/
def k235 : Know := ⟨106, [(.agg [(.int .u8 4), (.str [43]), (.int .u64 0), (.int .i64 0)])], (.str [43]), 1, []⟩
theorem r235 : RCall Tryz.prog k235.f k235.args k235.v k235.N k235.H := rcall_lvd mixed tabsOk tabsDOk (L := []) (.nil) 600 k235 (by kernel_rfl) (Eq.mpr (show _ = (true = true) by kernel_rfl) rfl)
/-- stagepost/lexer.one -/
def k236 : Know := ⟨49, [(.str [43])], (.tup [(.agg [(.int .u8 4), (.str [43]), (.int .u64 0), (.int .i64 0)]), (.int .i64 1), (.int .i64 0)]), 2, []⟩
theorem r236 : RCall Tryz.prog k236.f k236.args k236.v k236.N k236.H := rcall_lvd mixed tabsOk tabsDOk (L := [k4]) (.cons r4 (.nil)) 600 k236 (by kernel_rfl) (Eq.mpr (show _ = (true = true) by kernel_rfl) rfl)
/-- stagepost/lexer.Lex -/
def k237 : Know := ⟨18, [(.str [43])], (.tup [(.sl 5 0 4 0 1 none), (.agg [(.int .i64 0), (.int .i64 0)])]), 6, [(5, (.vec 0 4 [(.agg [(.int .u8 4), (.str [43]), (.int .u64 0), (.int .i64 0)])] ⟨true, some 64⟩))]⟩
theorem r237 : RCall Tryz.prog k237.f k237.args k237.v k237.N k237.H := rcall_lvd mixed tabsOk tabsDOk (L := [k236]) (.cons r236 (.nil)) 600 k237 (by kernel_rfl) (Eq.mpr (show _ = (true = true) by kernel_rfl) rfl)
/-- stagepost/lexer.fine -/
def k238 : Know := ⟨105, [(.agg [(.int .u8 4), (.str [43]), (.int .u64 0), (.int .i64 0)])], (.bool true), 9, []⟩
theorem r238 : RCall Tryz.prog k238.f k238.args k238.v k238.N k238.H := rcall_lvd mixed tabsOk tabsDOk (L := [k237, k235]) (.cons r237 (.cons r235 (.nil))) 600 k238 (by kernel_rfl) (Eq.mpr (show _ = (true = true) by kernel_rfl) rfl)
/-- stagepost/lexer.fine -/
def k239 : Know := ⟨105, [(.agg [(.int .u8 2), (.str []), (.int .u64 1), (.int .i64 0)])], (.bool true), 1, []⟩
theorem r239 : RCall Tryz.prog k239.f k239.args k239.v k239.N k239.H := rcall_lvd mixed tabsOk tabsDOk (L := []) (.nil) 600 k239 (by kernel_rfl) (Eq.mpr (show _ = (true = true) by kernel_rfl) rfl)
/-- stagepost/lexer.said -/
def k240 : Know := ⟨106, [(.agg [(.int .u8 2), (.str []), (.int .u64 1), (.int .i64 0)])], (.str [49]), 1, []⟩
theorem r240 : RCall Tryz.prog k240.f k240.args k240.v k240.N k240.H := rcall_lvd mixed tabsOk tabsDOk (L := []) (.nil) 600 k240 (by kernel_rfl) (Eq.mpr (show _ = (true = true) by kernel_rfl) rfl)
/-- stagepost/lexer.said -/
def k241 : Know := ⟨106, [(.agg [(.int .u8 4), (.str [41]), (.int .u64 0), (.int .i64 0)])], (.str [41]), 1, []⟩
theorem r241 : RCall Tryz.prog k241.f k241.args k241.v k241.N k241.H := rcall_lvd mixed tabsOk tabsDOk (L := []) (.nil) 600 k241 (by kernel_rfl) (Eq.mpr (show _ = (true = true) by kernel_rfl) rfl)
/-- stagepost/lexer.Lex -/
def k242 : Know := ⟨18, [(.str [41])], (.tup [(.sl 5 0 4 0 1 none), (.agg [(.int .i64 0), (.int .i64 0)])]), 6, [(5, (.vec 0 4 [(.agg [(.int .u8 4), (.str [41]), (.int .u64 0), (.int .i64 0)])] ⟨true, some 64⟩))]⟩
theorem r242 : RCall Tryz.prog k242.f k242.args k242.v k242.N k242.H := rcall_lvd mixed tabsOk tabsDOk (L := [k26]) (.cons r26 (.nil)) 600 k242 (by kernel_rfl) (Eq.mpr (show _ = (true = true) by kernel_rfl) rfl)
/-- stagepost/lexer.fine -/
def k243 : Know := ⟨105, [(.agg [(.int .u8 4), (.str [41]), (.int .u64 0), (.int .i64 0)])], (.bool true), 9, []⟩
theorem r243 : RCall Tryz.prog k243.f k243.args k243.v k243.N k243.H := rcall_lvd mixed tabsOk tabsDOk (L := [k242, k241]) (.cons r242 (.cons r241 (.nil))) 600 k243 (by kernel_rfl) (Eq.mpr (show _ = (true = true) by kernel_rfl) rfl)
/-- stagepost/lexer.said -/
def k244 : Know := ⟨106, [(.agg [(.int .u8 4), (.str [42]), (.int .u64 0), (.int .i64 0)])], (.str [42]), 1, []⟩
theorem r244 : RCall Tryz.prog k244.f k244.args k244.v k244.N k244.H := rcall_lvd mixed tabsOk tabsDOk (L := []) (.nil) 600 k244 (by kernel_rfl) (Eq.mpr (show _ = (true = true) by kernel_rfl) rfl)
/-- stagepost/lexer.one -/
def k245 : Know := ⟨49, [(.str [42])], (.tup [(.agg [(.int .u8 4), (.str [42]), (.int .u64 0), (.int .i64 0)]), (.int .i64 1), (.int .i64 0)]), 2, []⟩
theorem r245 : RCall Tryz.prog k245.f k245.args k245.v k245.N k245.H := rcall_lvd mixed tabsOk tabsDOk (L := [k4]) (.cons r4 (.nil)) 600 k245 (by kernel_rfl) (Eq.mpr (show _ = (true = true) by kernel_rfl) rfl)
/-- stagepost/lexer.Lex -/
def k246 : Know := ⟨18, [(.str [42])], (.tup [(.sl 5 0 4 0 1 none), (.agg [(.int .i64 0), (.int .i64 0)])]), 6, [(5, (.vec 0 4 [(.agg [(.int .u8 4), (.str [42]), (.int .u64 0), (.int .i64 0)])] ⟨true, some 64⟩))]⟩
theorem r246 : RCall Tryz.prog k246.f k246.args k246.v k246.N k246.H := rcall_lvd mixed tabsOk tabsDOk (L := [k245]) (.cons r245 (.nil)) 600 k246 (by kernel_rfl) (Eq.mpr (show _ = (true = true) by kernel_rfl) rfl)
/-- stagepost/lexer.fine -/
def k247 : Know := ⟨105, [(.agg [(.int .u8 4), (.str [42]), (.int .u64 0), (.int .i64 0)])], (.bool true), 9, []⟩
theorem r247 : RCall Tryz.prog k247.f k247.args k247.v k247.N k247.H := rcall_lvd mixed tabsOk tabsDOk (L := [k246, k244]) (.cons r246 (.cons r244 (.nil))) 600 k247 (by kernel_rfl) (Eq.mpr (show _ = (true = true) by kernel_rfl) rfl)
/-- stagepost/lexer.fine -/
def k248 : Know := ⟨105, [(.agg [(.int .u8 2), (.str []), (.int .u64 2), (.int .i64 0)])], (.bool true), 1, []⟩
theorem r248 : RCall Tryz.prog k248.f k248.args k248.v k248.N k248.H := rcall_lvd mixed tabsOk tabsDOk (L := []) (.nil) 600 k248 (by kernel_rfl) (Eq.mpr (show _ = (true = true) by kernel_rfl) rfl)
/-- stagepost/lexer.said -/
def k249 : Know := ⟨106, [(.agg [(.int .u8 2), (.str []), (.int .u64 2), (.int .i64 0)])], (.str [50]), 1, []⟩
theorem r249 : RCall Tryz.prog k249.f k249.args k249.v k249.N k249.H := rcall_lvd mixed tabsOk tabsDOk (L := []) (.nil) 600 k249 (by kernel_rfl) (Eq.mpr (show _ = (true = true) by kernel_rfl) rfl)
/-- stagepost/lexer.said -/
def k250 : Know := ⟨106, [(.agg [(.int .u8 1), (.str [97, 115]), (.int .u64 0), (.int .i64 0)])], (.str [97, 115]), 1, []⟩
theorem r250 : RCall Tryz.prog k250.f k250.args k250.v k250.N k250.H := rcall_lvd mixed tabsOk tabsDOk (L := []) (.nil) 600 k250 (by kernel_rfl) (Eq.mpr (show _ = (true = true) by kernel_rfl) rfl)
/-- stagepost/lexer.one -/
def k251 : Know := ⟨49, [(.str [97, 115])], (.tup [(.agg [(.int .u8 1), (.str [97, 115]), (.int .u64 0), (.int .i64 0)]), (.int .i64 2), (.int .i64 0)]), 2, []⟩
theorem r251 : RCall Tryz.prog k251.f k251.args k251.v k251.N k251.H := rcall_lvd mixed tabsOk tabsDOk (L := []) (.nil) 600 k251 (by kernel_rfl) (Eq.mpr (show _ = (true = true) by kernel_rfl) rfl)
/-- stagepost/lexer.Lex -/
def k252 : Know := ⟨18, [(.str [97, 115])], (.tup [(.sl 5 0 4 0 1 none), (.agg [(.int .i64 0), (.int .i64 0)])]), 6, [(5, (.vec 0 4 [(.agg [(.int .u8 1), (.str [97, 115]), (.int .u64 0), (.int .i64 0)])] ⟨true, some 64⟩))]⟩
theorem r252 : RCall Tryz.prog k252.f k252.args k252.v k252.N k252.H := rcall_lvd mixed tabsOk tabsDOk (L := [k251]) (.cons r251 (.nil)) 600 k252 (by kernel_rfl) (Eq.mpr (show _ = (true = true) by kernel_rfl) rfl)
/-- stagepost/lexer.fine -/
def k253 : Know := ⟨105, [(.agg [(.int .u8 1), (.str [97, 115]), (.int .u64 0), (.int .i64 0)])], (.bool true), 9, []⟩
theorem r253 : RCall Tryz.prog k253.f k253.args k253.v k253.N k253.H := rcall_lvd mixed tabsOk tabsDOk (L := [k252, k250]) (.cons r252 (.cons r250 (.nil))) 600 k253 (by kernel_rfl) (Eq.mpr (show _ = (true = true) by kernel_rfl) rfl)
/-- stagepost/lexer.said -/
def k254 : Know := ⟨106, [(.agg [(.int .u8 1), (.str [99]), (.int .u64 0), (.int .i64 0)])], (.str [99]), 1, []⟩
theorem r254 : RCall Tryz.prog k254.f k254.args k254.v k254.N k254.H := rcall_lvd mixed tabsOk tabsDOk (L := []) (.nil) 600 k254 (by kernel_rfl) (Eq.mpr (show _ = (true = true) by kernel_rfl) rfl)
/-- stagepost/lexer.Lex -/
def k255 : Know := ⟨18, [(.str [99])], (.tup [(.sl 5 0 4 0 1 none), (.agg [(.int .i64 0), (.int .i64 0)])]), 6, [(5, (.vec 0 4 [(.agg [(.int .u8 1), (.str [99]), (.int .u64 0), (.int .i64 0)])] ⟨true, some 64⟩))]⟩
theorem r255 : RCall Tryz.prog k255.f k255.args k255.v k255.N k255.H := rcall_lvd mixed tabsOk tabsDOk (L := [k171]) (.cons r171 (.nil)) 600 k255 (by kernel_rfl) (Eq.mpr (show _ = (true = true) by kernel_rfl) rfl)
/-- stagepost/lexer.fine -/
def k256 : Know := ⟨105, [(.agg [(.int .u8 1), (.str [99]), (.int .u64 0), (.int .i64 0)])], (.bool true), 9, []⟩
theorem r256 : RCall Tryz.prog k256.f k256.args k256.v k256.N k256.H := rcall_lvd mixed tabsOk tabsDOk (L := [k255, k254]) (.cons r255 (.cons r254 (.nil))) 600 k256 (by kernel_rfl) (Eq.mpr (show _ = (true = true) by kernel_rfl) rfl)
/-- stagepost/lexer.said -/
def k257 : Know := ⟨106, [(.agg [(.int .u8 1), (.str [102, 114, 111, 109]), (.int .u64 0), (.int .i64 0)])], (.str [102, 114, 111, 109]), 1, []⟩
theorem r257 : RCall Tryz.prog k257.f k257.args k257.v k257.N k257.H := rcall_lvd mixed tabsOk tabsDOk (L := []) (.nil) 600 k257 (by kernel_rfl) (Eq.mpr (show _ = (true = true) by kernel_rfl) rfl)
/-- stagepost/lexer.Lex -/
def k258 : Know := ⟨18, [(.str [102, 114, 111, 109])], (.tup [(.sl 5 0 4 0 1 none), (.agg [(.int .i64 0), (.int .i64 0)])]), 6, [(5, (.vec 0 4 [(.agg [(.int .u8 1), (.str [102, 114, 111, 109]), (.int .u64 0), (.int .i64 0)])] ⟨true, some 64⟩))]⟩
theorem r258 : RCall Tryz.prog k258.f k258.args k258.v k258.N k258.H := rcall_lvd mixed tabsOk tabsDOk (L := [k180]) (.cons r180 (.nil)) 600 k258 (by kernel_rfl) (Eq.mpr (show _ = (true = true) by kernel_rfl) rfl)
/-- stagepost/lexer.fine -/
def k259 : Know := ⟨105, [(.agg [(.int .u8 1), (.str [102, 114, 111, 109]), (.int .u64 0), (.int .i64 0)])], (.bool true), 9, []⟩
theorem r259 : RCall Tryz.prog k259.f k259.args k259.v k259.N k259.H := rcall_lvd mixed tabsOk tabsDOk (L := [k258, k257]) (.cons r258 (.cons r257 (.nil))) 600 k259 (by kernel_rfl) (Eq.mpr (show _ = (true = true) by kernel_rfl) rfl)
/-- stagepost/lexer.said -/
def k260 : Know := ⟨106, [(.agg [(.int .u8 1), (.str [116]), (.int .u64 0), (.int .i64 0)])], (.str [116]), 1, []⟩
theorem r260 : RCall Tryz.prog k260.f k260.args k260.v k260.N k260.H := rcall_lvd mixed tabsOk tabsDOk (L := []) (.nil) 600 k260 (by kernel_rfl) (Eq.mpr (show _ = (true = true) by kernel_rfl) rfl)
/-- stagepost/lexer.Lex -/
def k261 : Know := ⟨18, [(.str [116])], (.tup [(.sl 5 0 4 0 1 none), (.agg [(.int .i64 0), (.int .i64 0)])]), 6, [(5, (.vec 0 4 [(.agg [(.int .u8 1), (.str [116]), (.int .u64 0), (.int .i64 0)])] ⟨true, some 64⟩))]⟩
theorem r261 : RCall Tryz.prog k261.f k261.args k261.v k261.N k261.H := rcall_lvd mixed tabsOk tabsDOk (L := [k10]) (.cons r10 (.nil)) 600 k261 (by kernel_rfl) (Eq.mpr (show _ = (true = true) by kernel_rfl) rfl)
/-- stagepost/lexer.fine -/
def k262 : Know := ⟨105, [(.agg [(.int .u8 1), (.str [116]), (.int .u64 0), (.int .i64 0)])], (.bool true), 9, []⟩
theorem r262 : RCall Tryz.prog k262.f k262.args k262.v k262.N k262.H := rcall_lvd mixed tabsOk tabsDOk (L := [k261, k260]) (.cons r261 (.cons r260 (.nil))) 600 k262 (by kernel_rfl) (Eq.mpr (show _ = (true = true) by kernel_rfl) rfl)
/-- stagepost/lexer.said -/
def k263 : Know := ⟨106, [(.agg [(.int .u8 1), (.str [119, 104, 101, 114, 101]), (.int .u64 0), (.int .i64 0)])], (.str [119, 104, 101, 114, 101]), 1, []⟩
theorem r263 : RCall Tryz.prog k263.f k263.args k263.v k263.N k263.H := rcall_lvd mixed tabsOk tabsDOk (L := []) (.nil) 600 k263 (by kernel_rfl) (Eq.mpr (show _ = (true = true) by kernel_rfl) rfl)
/-- stagepost/lexer.one -/
def k264 : Know := ⟨49, [(.str [119, 104, 101, 114, 101])], (.tup [(.agg [(.int .u8 1), (.str [119, 104, 101, 114, 101]), (.int .u64 0), (.int .i64 0)]), (.int .i64 5), (.int .i64 0)]), 2, []⟩
theorem r264 : RCall Tryz.prog k264.f k264.args k264.v k264.N k264.H := rcall_lvd mixed tabsOk tabsDOk (L := []) (.nil) 600 k264 (by kernel_rfl) (Eq.mpr (show _ = (true = true) by kernel_rfl) rfl)
/-- stagepost/lexer.Lex -/
def k265 : Know := ⟨18, [(.str [119, 104, 101, 114, 101])], (.tup [(.sl 5 0 4 0 1 none), (.agg [(.int .i64 0), (.int .i64 0)])]), 6, [(5, (.vec 0 4 [(.agg [(.int .u8 1), (.str [119, 104, 101, 114, 101]), (.int .u64 0), (.int .i64 0)])] ⟨true, some 64⟩))]⟩
theorem r265 : RCall Tryz.prog k265.f k265.args k265.v k265.N k265.H := rcall_lvd mixed tabsOk tabsDOk (L := [k264]) (.cons r264 (.nil)) 600 k265 (by kernel_rfl) (Eq.mpr (show _ = (true = true) by kernel_rfl) rfl)
/-- stagepost/lexer.fine -/
def k266 : Know := ⟨105, [(.agg [(.int .u8 1), (.str [119, 104, 101, 114, 101]), (.int .u64 0), (.int .i64 0)])], (.bool true), 9, []⟩
theorem r266 : RCall Tryz.prog k266.f k266.args k266.v k266.N k266.H := rcall_lvd mixed tabsOk tabsDOk (L := [k265, k263]) (.cons r265 (.cons r263 (.nil))) 600 k266 (by kernel_rfl) (Eq.mpr (show _ = (true = true) by kernel_rfl) rfl)
/-- stagepost/lexer.said -/
def k267 : Know := ⟨106, [(.agg [(.int .u8 1), (.str [110, 111, 116]), (.int .u64 0), (.int .i64 0)])], (.str [110, 111, 116]), 1, []⟩
theorem r267 : RCall Tryz.prog k267.f k267.args k267.v k267.N k267.H := rcall_lvd mixed tabsOk tabsDOk (L := []) (.nil) 600 k267 (by kernel_rfl) (Eq.mpr (show _ = (true = true) by kernel_rfl) rfl)
/-- stagepost/lexer.one -/
def k268 : Know := ⟨49, [(.str [110, 111, 116])], (.tup [(.agg [(.int .u8 1), (.str [110, 111, 116]), (.int .u64 0), (.int .i64 0)]), (.int .i64 3), (.int .i64 0)]), 2, []⟩
theorem r268 : RCall Tryz.prog k268.f k268.args k268.v k268.N k268.H := rcall_lvd mixed tabsOk tabsDOk (L := []) (.nil) 600 k268 (by kernel_rfl) (Eq.mpr (show _ = (true = true) by kernel_rfl) rfl)
/-- stagepost/lexer.Lex -/
def k269 : Know := ⟨18, [(.str [110, 111, 116])], (.tup [(.sl 5 0 4 0 1 none), (.agg [(.int .i64 0), (.int .i64 0)])]), 6, [(5, (.vec 0 4 [(.agg [(.int .u8 1), (.str [110, 111, 116]), (.int .u64 0), (.int .i64 0)])] ⟨true, some 64⟩))]⟩
theorem r269 : RCall Tryz.prog k269.f k269.args k269.v k269.N k269.H := rcall_lvd mixed tabsOk tabsDOk (L := [k268]) (.cons r268 (.nil)) 600 k269 (by kernel_rfl) (Eq.mpr (show _ = (true = true) by kernel_rfl) rfl)
/-- stagepost/lexer.fine -/
def k270 : Know := ⟨105, [(.agg [(.int .u8 1), (.str [110, 111, 116]), (.int .u64 0), (.int .i64 0)])], (.bool true), 9, []⟩
theorem r270 : RCall Tryz.prog k270.f k270.args k270.v k270.N k270.H := rcall_lvd mixed tabsOk tabsDOk (L := [k269, k267]) (.cons r269 (.cons r267 (.nil))) 600 k270 (by kernel_rfl) (Eq.mpr (show _ = (true = true) by kernel_rfl) rfl)
/-- stagepost/lexer.said -/
def k271 : Know := ⟨106, [(.agg [(.int .u8 4), (.str [61]), (.int .u64 0), (.int .i64 0)])], (.str [61]), 1, []⟩
theorem r271 : RCall Tryz.prog k271.f k271.args k271.v k271.N k271.H := rcall_lvd mixed tabsOk tabsDOk (L := []) (.nil) 600 k271 (by kernel_rfl) (Eq.mpr (show _ = (true = true) by kernel_rfl) rfl)
/-- stagepost/lexer.one -/
def k272 : Know := ⟨49, [(.str [61])], (.tup [(.agg [(.int .u8 4), (.str [61]), (.int .u64 0), (.int .i64 0)]), (.int .i64 1), (.int .i64 0)]), 2, []⟩
theorem r272 : RCall Tryz.prog k272.f k272.args k272.v k272.N k272.H := rcall_lvd mixed tabsOk tabsDOk (L := [k4]) (.cons r4 (.nil)) 600 k272 (by kernel_rfl) (Eq.mpr (show _ = (true = true) by kernel_rfl) rfl)
/-- stagepost/lexer.Lex -/
def k273 : Know := ⟨18, [(.str [61])], (.tup [(.sl 5 0 4 0 1 none), (.agg [(.int .i64 0), (.int .i64 0)])]), 6, [(5, (.vec 0 4 [(.agg [(.int .u8 4), (.str [61]), (.int .u64 0), (.int .i64 0)])] ⟨true, some 64⟩))]⟩
theorem r273 : RCall Tryz.prog k273.f k273.args k273.v k273.N k273.H := rcall_lvd mixed tabsOk tabsDOk (L := [k272]) (.cons r272 (.nil)) 600 k273 (by kernel_rfl) (Eq.mpr (show _ = (true = true) by kernel_rfl) rfl)
/-- stagepost/lexer.fine -/
def k274 : Know := ⟨105, [(.agg [(.int .u8 4), (.str [61]), (.int .u64 0), (.int .i64 0)])], (.bool true), 9, []⟩
theorem r274 : RCall Tryz.prog k274.f k274.args k274.v k274.N k274.H := rcall_lvd mixed tabsOk tabsDOk (L := [k273, k271]) (.cons r273 (.cons r271 (.nil))) 600 k274 (by kernel_rfl) (Eq.mpr (show _ = (true = true) by kernel_rfl) rfl)
/-- stagepost/lexer.said -/
def k275 : Know := ⟨106, [(.agg [(.int .u8 1), (.str [97, 110, 100]), (.int .u64 0), (.int .i64 0)])], (.str [97, 110, 100]), 1, []⟩
theorem r275 : RCall Tryz.prog k275.f k275.args k275.v k275.N k275.H := rcall_lvd mixed tabsOk tabsDOk (L := []) (.nil) 600 k275 (by kernel_rfl) (Eq.mpr (show _ = (true = true) by kernel_rfl) rfl)
/-- stagepost/lexer.one -/
def k276 : Know := ⟨49, [(.str [97, 110, 100])], (.tup [(.agg [(.int .u8 1), (.str [97, 110, 100]), (.int .u64 0), (.int .i64 0)]), (.int .i64 3), (.int .i64 0)]), 2, []⟩
theorem r276 : RCall Tryz.prog k276.f k276.args k276.v k276.N k276.H := rcall_lvd mixed tabsOk tabsDOk (L := []) (.nil) 600 k276 (by kernel_rfl) (Eq.mpr (show _ = (true = true) by kernel_rfl) rfl)
/-- stagepost/lexer.Lex -/
def k277 : Know := ⟨18, [(.str [97, 110, 100])], (.tup [(.sl 5 0 4 0 1 none), (.agg [(.int .i64 0), (.int .i64 0)])]), 6, [(5, (.vec 0 4 [(.agg [(.int .u8 1), (.str [97, 110, 100]), (.int .u64 0), (.int .i64 0)])] ⟨true, some 64⟩))]⟩
theorem r277 : RCall Tryz.prog k277.f k277.args k277.v k277.N k277.H := rcall_lvd mixed tabsOk tabsDOk (L := [k276]) (.cons r276 (.nil)) 600 k277 (by kernel_rfl) (Eq.mpr (show _ = (true = true) by kernel_rfl) rfl)
/-- stagepost/lexer.fine -/
def k278 : Know := ⟨105, [(.agg [(.int .u8 1), (.str [97, 110, 100]), (.int .u64 0), (.int .i64 0)])], (.bool true), 9, []⟩
theorem r278 : RCall Tryz.prog k278.f k278.args k278.v k278.N k278.H := rcall_lvd mixed tabsOk tabsDOk (L := [k277, k275]) (.cons r277 (.cons r275 (.nil))) 600 k278 (by kernel_rfl) (Eq.mpr (show _ = (true = true) by kernel_rfl) rfl)
/-- stagepost/lexer.said -/
def k279 : Know := ⟨106, [(.agg [(.int .u8 1), (.str [105, 115]), (.int .u64 0), (.int .i64 0)])], (.str [105, 115]), 1, []⟩
theorem r279 : RCall Tryz.prog k279.f k279.args k279.v k279.N k279.H := rcall_lvd mixed tabsOk tabsDOk (L := []) (.nil) 600 k279 (by kernel_rfl) (Eq.mpr (show _ = (true = true) by kernel_rfl) rfl)
/-- stagepost/lexer.one -/
def k280 : Know := ⟨49, [(.str [105, 115])], (.tup [(.agg [(.int .u8 1), (.str [105, 115]), (.int .u64 0), (.int .i64 0)]), (.int .i64 2), (.int .i64 0)]), 2, []⟩
theorem r280 : RCall Tryz.prog k280.f k280.args k280.v k280.N k280.H := rcall_lvd mixed tabsOk tabsDOk (L := []) (.nil) 600 k280 (by kernel_rfl) (Eq.mpr (show _ = (true = true) by kernel_rfl) rfl)
/-- stagepost/lexer.Lex -/
def k281 : Know := ⟨18, [(.str [105, 115])], (.tup [(.sl 5 0 4 0 1 none), (.agg [(.int .i64 0), (.int .i64 0)])]), 6, [(5, (.vec 0 4 [(.agg [(.int .u8 1), (.str [105, 115]), (.int .u64 0), (.int .i64 0)])] ⟨true, some 64⟩))]⟩
theorem r281 : RCall Tryz.prog k281.f k281.args k281.v k281.N k281.H := rcall_lvd mixed tabsOk tabsDOk (L := [k280]) (.cons r280 (.nil)) 600 k281 (by kernel_rfl) (Eq.mpr (show _ = (true = true) by kernel_rfl) rfl)
/-- stagepost/lexer.fine -/
def k282 : Know := ⟨105, [(.agg [(.int .u8 1), (.str [105, 115]), (.int .u64 0), (.int .i64 0)])], (.bool true), 9, []⟩
theorem r282 : RCall Tryz.prog k282.f k282.args k282.v k282.N k282.H := rcall_lvd mixed tabsOk tabsDOk (L := [k281, k279]) (.cons r281 (.cons r279 (.nil))) 600 k282 (by kernel_rfl) (Eq.mpr (show _ = (true = true) by kernel_rfl) rfl)
/-- stagepost/lexer.said -/
def k283 : Know := ⟨106, [(.agg [(.int .u8 1), (.str [110, 117, 108, 108]), (.int .u64 0), (.int .i64 0)])], (.str [110, 117, 108, 108]), 1, []⟩
theorem r283 : RCall Tryz.prog k283.f k283.args k283.v k283.N k283.H := rcall_lvd mixed tabsOk tabsDOk (L := []) (.nil) 600 k283 (by kernel_rfl) (Eq.mpr (show _ = (true = true) by kernel_rfl) rfl)
/-- stagepost/lexer.one -/
def k284 : Know := ⟨49, [(.str [110, 117, 108, 108])], (.tup [(.agg [(.int .u8 1), (.str [110, 117, 108, 108]), (.int .u64 0), (.int .i64 0)]), (.int .i64 4), (.int .i64 0)]), 2, []⟩
theorem r284 : RCall Tryz.prog k284.f k284.args k284.v k284.N k284.H := rcall_lvd mixed tabsOk tabsDOk (L := []) (.nil) 600 k284 (by kernel_rfl) (Eq.mpr (show _ = (true = true) by kernel_rfl) rfl)
/-- stagepost/lexer.Lex -/
def k285 : Know := ⟨18, [(.str [110, 117, 108, 108])], (.tup [(.sl 5 0 4 0 1 none), (.agg [(.int .i64 0), (.int .i64 0)])]), 6, [(5, (.vec 0 4 [(.agg [(.int .u8 1), (.str [110, 117, 108, 108]), (.int .u64 0), (.int .i64 0)])] ⟨true, some 64⟩))]⟩
theorem r285 : RCall Tryz.prog k285.f k285.args k285.v k285.N k285.H := rcall_lvd mixed tabsOk tabsDOk (L := [k284]) (.cons r284 (.nil)) 600 k285 (by kernel_rfl) (Eq.mpr (show _ = (true = true) by kernel_rfl) rfl)
/-- stagepost/lexer.fine -/
def k286 : Know := ⟨105, [(.agg [(.int .u8 1), (.str [110, 117, 108, 108]), (.int .u64 0), (.int .i64 0)])], (.bool true), 9, []⟩
theorem r286 : RCall Tryz.prog k286.f k286.args k286.v k286.N k286.H := rcall_lvd mixed tabsOk tabsDOk (L := [k285, k283]) (.cons r285 (.cons r283 (.nil))) 600 k286 (by kernel_rfl) (Eq.mpr (show _ = (true = true) by kernel_rfl) rfl)
/-- stagepost/lexer.said -/
def k287 : Know := ⟨106, [(.agg [(.int .u8 1), (.str [108, 105, 109, 105, 116]), (.int .u64 0), (.int .i64 0)])], (.str [108, 105, 109, 105, 116]), 1, []⟩
theorem r287 : RCall Tryz.prog k287.f k287.args k287.v k287.N k287.H := rcall_lvd mixed tabsOk tabsDOk (L := []) (.nil) 600 k287 (by kernel_rfl) (Eq.mpr (show _ = (true = true) by kernel_rfl) rfl)
/-- stagepost/lexer.one -/
def k288 : Know := ⟨49, [(.str [108, 105, 109, 105, 116])], (.tup [(.agg [(.int .u8 1), (.str [108, 105, 109, 105, 116]), (.int .u64 0), (.int .i64 0)]), (.int .i64 5), (.int .i64 0)]), 2, []⟩
theorem r288 : RCall Tryz.prog k288.f k288.args k288.v k288.N k288.H := rcall_lvd mixed tabsOk tabsDOk (L := []) (.nil) 600 k288 (by kernel_rfl) (Eq.mpr (show _ = (true = true) by kernel_rfl) rfl)
/-- stagepost/lexer.Lex -/
def k289 : Know := ⟨18, [(.str [108, 105, 109, 105, 116])], (.tup [(.sl 5 0 4 0 1 none), (.agg [(.int .i64 0), (.int .i64 0)])]), 6, [(5, (.vec 0 4 [(.agg [(.int .u8 1), (.str [108, 105, 109, 105, 116]), (.int .u64 0), (.int .i64 0)])] ⟨true, some 64⟩))]⟩
theorem r289 : RCall Tryz.prog k289.f k289.args k289.v k289.N k289.H := rcall_lvd mixed tabsOk tabsDOk (L := [k288]) (.cons r288 (.nil)) 600 k289 (by kernel_rfl) (Eq.mpr (show _ = (true = true) by kernel_rfl) rfl)
/-- stagepost/lexer.fine -/
def k290 : Know := ⟨105, [(.agg [(.int .u8 1), (.str [108, 105, 109, 105, 116]), (.int .u64 0), (.int .i64 0)])], (.bool true), 9, []⟩
theorem r290 : RCall Tryz.prog k290.f k290.args k290.v k290.N k290.H := rcall_lvd mixed tabsOk tabsDOk (L := [k289, k287]) (.cons r289 (.cons r287 (.nil))) 600 k290 (by kernel_rfl) (Eq.mpr (show _ = (true = true) by kernel_rfl) rfl)
/-- stagepost/lexer.fine -/
def k291 : Know := ⟨105, [(.agg [(.int .u8 2), (.str []), (.int .u64 3), (.int .i64 0)])], (.bool true), 1, []⟩
theorem r291 : RCall Tryz.prog k291.f k291.args k291.v k291.N k291.H := rcall_lvd mixed tabsOk tabsDOk (L := []) (.nil) 600 k291 (by kernel_rfl) (Eq.mpr (show _ = (true = true) by kernel_rfl) rfl)
/-- stagepost/lexer.said -/
def k292 : Know := ⟨106, [(.agg [(.int .u8 2), (.str []), (.int .u64 3), (.int .i64 0)])], (.str [51]), 1, []⟩
theorem r292 : RCall Tryz.prog k292.f k292.args k292.v k292.N k292.H := rcall_lvd mixed tabsOk tabsDOk (L := []) (.nil) 600 k292 (by kernel_rfl) (Eq.mpr (show _ = (true = true) by kernel_rfl) rfl)
/-- stagepost/lexer.Text -/
def k293 : Know := ⟨47, [(lstOf 4 [(.agg [(.int .u8 1), (.str [115, 101, 108, 101, 99, 116]), (.int .u64 0), (.int .i64 0)]), (.agg [(.int .u8 1), (.str [97]), (.int .u64 0), (.int .i64 0)]), (.agg [(.int .u8 4), (.str [44]), (.int .u64 0), (.int .i64 0)]), (.agg [(.int .u8 4), (.str [40]), (.int .u64 0), (.int .i64 0)]), (.agg [(.int .u8 1), (.str [98]), (.int .u64 0), (.int .i64 0)]), (.agg [(.int .u8 4), (.str [43]), (.int .u64 0), (.int .i64 0)]), (.agg [(.int .u8 2), (.str []), (.int .u64 1), (.int .i64 0)]), (.agg [(.int .u8 4), (.str [41]), (.int .u64 0), (.int .i64 0)]), (.agg [(.int .u8 4), (.str [42]), (.int .u64 0), (.int .i64 0)]), (.agg [(.int .u8 2), (.str []), (.int .u64 2), (.int .i64 0)]), (.agg [(.int .u8 1), (.str [97, 115]), (.int .u64 0), (.int .i64 0)]), (.agg [(.int .u8 1), (.str [99]), (.int .u64 0), (.int .i64 0)]), (.agg [(.int .u8 1), (.str [102, 114, 111, 109]), (.int .u64 0), (.int .i64 0)]), (.agg [(.int .u8 1), (.str [116]), (.int .u64 0), (.int .i64 0)]), (.agg [(.int .u8 1), (.str [119, 104, 101, 114, 101]), (.int .u64 0), (.int .i64 0)]), (.agg [(.int .u8 1), (.str [110, 111, 116]), (.int .u64 0), (.int .i64 0)]), (.agg [(.int .u8 4), (.str [40]), (.int .u64 0), (.int .i64 0)]), (.agg [(.int .u8 1), (.str [97]), (.int .u64 0), (.int .i64 0)]), (.agg [(.int .u8 4), (.str [61]), (.int .u64 0), (.int .i64 0)]), (.agg [(.int .u8 2), (.str []), (.int .u64 1), (.int .i64 0)]), (.agg [(.int .u8 1), (.str [97, 110, 100]), (.int .u64 0), (.int .i64 0)]), (.agg [(.int .u8 1), (.str [98]), (.int .u64 0), (.int .i64 0)]), (.agg [(.int .u8 1), (.str [105, 115]), (.int .u64 0), (.int .i64 0)]), (.agg [(.int .u8 1), (.str [110, 117, 108, 108]), (.int .u64 0), (.int .i64 0)]), (.agg [(.int .u8 4), (.str [41]), (.int .u64 0), (.int .i64 0)]), (.agg [(.int .u8 1), (.str [108, 105, 109, 105, 116]), (.int .u64 0), (.int .i64 0)]), (.agg [(.int .u8 2), (.str []), (.int .u64 3), (.int .i64 0)])])], (.tup [(.str (115 :: 101 :: 108 :: 101 :: 99 :: 116 :: 32 :: 97 :: 32 :: 44 :: 32 :: 40 :: 32 :: 98 :: 32 :: 43 :: 32 :: 49 :: 32 :: 41 :: 32 :: 42 :: 32 :: 50 :: 32 :: 97 :: 115 :: 32 :: 99 :: 32 :: 102 :: 114 :: 111 :: 109 :: 32 :: 116 :: 32 :: 119 :: 104 :: 101 :: 114 :: 101 :: 32 :: 110 :: 111 :: 116 :: 32 :: 40 :: 32 :: 97 :: 32 :: 61 :: 32 :: 49 :: 32 :: 97 :: 110 :: 100 :: 32 :: 98 :: 32 :: 105 :: 115 :: 32 :: 110 :: 117 :: 108 :: 108 :: 32 :: 41 :: 32 :: 108 :: 105 :: 109 :: 105 :: 116 :: 32 :: 51 :: [])), (.agg [(.int .i64 0), (.int .i64 0)])]), 269, []⟩
theorem r293 : RCall Tryz.prog k293.f k293.args k293.v k293.N k293.H := rcall_lvd mixed tabsOk tabsDOk (L := [k292, k291, k290, k287, k286, k283, k282, k279, k278, k275, k274, k271, k270, k267, k266, k263, k262, k260, k259, k257, k256, k254, k253, k250, k249, k248, k247, k244, k243, k241, k240, k239, k238, k235, k234, k231, k230, k227, k226, k223, k222, k219, k218, k215]) (.cons r292 (.cons r291 (.cons r290 (.cons r287 (.cons r286 (.cons r283 (.cons r282 (.cons r279 (.cons r278 (.cons r275 (.cons r274 (.cons r271 (.cons r270 (.cons r267 (.cons r266 (.cons r263 (.cons r262 (.cons r260 (.cons r259 (.cons r257 (.cons r256 (.cons r254 (.cons r253 (.cons r250 (.cons r249 (.cons r248 (.cons r247 (.cons r244 (.cons r243 (.cons r241 (.cons r240 (.cons r239 (.cons r238 (.cons r235 (.cons r234 (.cons r231 (.cons r230 (.cons r227 (.cons r226 (.cons r223 (.cons r222 (.cons r219 (.cons r218 (.cons r215 (.nil))))))))))))))))))))))))))))))))))))))))))))) 600 k293 (by kernel_rfl) (Eq.mpr (show _ = (true = true) by kernel_rfl) rfl)
/-- stagepost/lexer.one -/
def k294 : Know := ⟨49, [(.str (115 :: 101 :: 108 :: 101 :: 99 :: 116 :: 32 :: 97 :: 32 :: 44 :: 32 :: 40 :: 32 :: 98 :: 32 :: 43 :: 32 :: 49 :: 32 :: 41 :: 32 :: 42 :: 32 :: 50 :: 32 :: 97 :: 115 :: 32 :: 99 :: 32 :: 102 :: 114 :: 111 :: 109 :: 32 :: 116 :: 32 :: 119 :: 104 :: 101 :: 114 :: 101 :: 32 :: 110 :: 111 :: 116 :: 32 :: 40 :: 32 :: 97 :: 32 :: 61 :: 32 :: 49 :: 32 :: 97 :: 110 :: 100 :: 32 :: 98 :: 32 :: 105 :: 115 :: 32 :: 110 :: 117 :: 108 :: 108 :: 32 :: 41 :: 32 :: 108 :: 105 :: 109 :: 105 :: 116 :: 32 :: 51 :: []))], (.tup [(.agg [(.int .u8 1), (.str [115, 101, 108, 101, 99, 116]), (.int .u64 0), (.int .i64 0)]), (.int .i64 6), (.int .i64 0)]), 2, []⟩
theorem r294 : RCall Tryz.prog k294.f k294.args k294.v k294.N k294.H := rcall_lvd mixed tabsOk tabsDOk (L := []) (.nil) 600 k294 (by kernel_rfl) (Eq.mpr (show _ = (true = true) by kernel_rfl) rfl)
/-- stagepost/lexer.one -/
def k295 : Know := ⟨49, [(.str (97 :: 32 :: 44 :: 32 :: 40 :: 32 :: 98 :: 32 :: 43 :: 32 :: 49 :: 32 :: 41 :: 32 :: 42 :: 32 :: 50 :: 32 :: 97 :: 115 :: 32 :: 99 :: 32 :: 102 :: 114 :: 111 :: 109 :: 32 :: 116 :: 32 :: 119 :: 104 :: 101 :: 114 :: 101 :: 32 :: 110 :: 111 :: 116 :: 32 :: 40 :: 32 :: 97 :: 32 :: 61 :: 32 :: 49 :: 32 :: 97 :: 110 :: 100 :: 32 :: 98 :: 32 :: 105 :: 115 :: 32 :: 110 :: 117 :: 108 :: 108 :: 32 :: 41 :: 32 :: 108 :: 105 :: 109 :: 105 :: 116 :: 32 :: 51 :: []))], (.tup [(.agg [(.int .u8 1), (.str [97]), (.int .u64 0), (.int .i64 0)]), (.int .i64 1), (.int .i64 0)]), 2, []⟩
theorem r295 : RCall Tryz.prog k295.f k295.args k295.v k295.N k295.H := rcall_lvd mixed tabsOk tabsDOk (L := []) (.nil) 600 k295 (by kernel_rfl) (Eq.mpr (show _ = (true = true) by kernel_rfl) rfl)
/-- stagepost/lexer.one -/
def k296 : Know := ⟨49, [(.str (44 :: 32 :: 40 :: 32 :: 98 :: 32 :: 43 :: 32 :: 49 :: 32 :: 41 :: 32 :: 42 :: 32 :: 50 :: 32 :: 97 :: 115 :: 32 :: 99 :: 32 :: 102 :: 114 :: 111 :: 109 :: 32 :: 116 :: 32 :: 119 :: 104 :: 101 :: 114 :: 101 :: 32 :: 110 :: 111 :: 116 :: 32 :: 40 :: 32 :: 97 :: 32 :: 61 :: 32 :: 49 :: 32 :: 97 :: 110 :: 100 :: 32 :: 98 :: 32 :: 105 :: 115 :: 32 :: 110 :: 117 :: 108 :: 108 :: 32 :: 41 :: 32 :: 108 :: 105 :: 109 :: 105 :: 116 :: 32 :: 51 :: []))], (.tup [(.agg [(.int .u8 4), (.str [44]), (.int .u64 0), (.int .i64 0)]), (.int .i64 1), (.int .i64 0)]), 2, []⟩
theorem r296 : RCall Tryz.prog k296.f k296.args k296.v k296.N k296.H := rcall_lvd mixed tabsOk tabsDOk (L := [k4]) (.cons r4 (.nil)) 600 k296 (by kernel_rfl) (Eq.mpr (show _ = (true = true) by kernel_rfl) rfl)
/-- stagepost/lexer.one -/
def k297 : Know := ⟨49, [(.str (40 :: 32 :: 98 :: 32 :: 43 :: 32 :: 49 :: 32 :: 41 :: 32 :: 42 :: 32 :: 50 :: 32 :: 97 :: 115 :: 32 :: 99 :: 32 :: 102 :: 114 :: 111 :: 109 :: 32 :: 116 :: 32 :: 119 :: 104 :: 101 :: 114 :: 101 :: 32 :: 110 :: 111 :: 116 :: 32 :: 40 :: 32 :: 97 :: 32 :: 61 :: 32 :: 49 :: 32 :: 97 :: 110 :: 100 :: 32 :: 98 :: 32 :: 105 :: 115 :: 32 :: 110 :: 117 :: 108 :: 108 :: 32 :: 41 :: 32 :: 108 :: 105 :: 109 :: 105 :: 116 :: 32 :: 51 :: []))], (.tup [(.agg [(.int .u8 4), (.str [40]), (.int .u64 0), (.int .i64 0)]), (.int .i64 1), (.int .i64 0)]), 2, []⟩
theorem r297 : RCall Tryz.prog k297.f k297.args k297.v k297.N k297.H := rcall_lvd mixed tabsOk tabsDOk (L := [k4]) (.cons r4 (.nil)) 600 k297 (by kernel_rfl) (Eq.mpr (show _ = (true = true) by kernel_rfl) rfl)
/-- stagepost/lexer.one -/
def k298 : Know := ⟨49, [(.str (98 :: 32 :: 43 :: 32 :: 49 :: 32 :: 41 :: 32 :: 42 :: 32 :: 50 :: 32 :: 97 :: 115 :: 32 :: 99 :: 32 :: 102 :: 114 :: 111 :: 109 :: 32 :: 116 :: 32 :: 119 :: 104 :: 101 :: 114 :: 101 :: 32 :: 110 :: 111 :: 116 :: 32 :: 40 :: 32 :: 97 :: 32 :: 61 :: 32 :: 49 :: 32 :: 97 :: 110 :: 100 :: 32 :: 98 :: 32 :: 105 :: 115 :: 32 :: 110 :: 117 :: 108 :: 108 :: 32 :: 41 :: 32 :: 108 :: 105 :: 109 :: 105 :: 116 :: 32 :: 51 :: []))], (.tup [(.agg [(.int .u8 1), (.str [98]), (.int .u64 0), (.int .i64 0)]), (.int .i64 1), (.int .i64 0)]), 2, []⟩
theorem r298 : RCall Tryz.prog k298.f k298.args k298.v k298.N k298.H := rcall_lvd mixed tabsOk tabsDOk (L := []) (.nil) 600 k298 (by kernel_rfl) (Eq.mpr (show _ = (true = true) by kernel_rfl) rfl)
/-- stagepost/lexer.one -/
def k299 : Know := ⟨49, [(.str (43 :: 32 :: 49 :: 32 :: 41 :: 32 :: 42 :: 32 :: 50 :: 32 :: 97 :: 115 :: 32 :: 99 :: 32 :: 102 :: 114 :: 111 :: 109 :: 32 :: 116 :: 32 :: 119 :: 104 :: 101 :: 114 :: 101 :: 32 :: 110 :: 111 :: 116 :: 32 :: 40 :: 32 :: 97 :: 32 :: 61 :: 32 :: 49 :: 32 :: 97 :: 110 :: 100 :: 32 :: 98 :: 32 :: 105 :: 115 :: 32 :: 110 :: 117 :: 108 :: 108 :: 32 :: 41 :: 32 :: 108 :: 105 :: 109 :: 105 :: 116 :: 32 :: 51 :: []))], (.tup [(.agg [(.int .u8 4), (.str [43]), (.int .u64 0), (.int .i64 0)]), (.int .i64 1), (.int .i64 0)]), 2, []⟩
theorem r299 : RCall Tryz.prog k299.f k299.args k299.v k299.N k299.H := rcall_lvd mixed tabsOk tabsDOk (L := [k4]) (.cons r4 (.nil)) 600 k299 (by kernel_rfl) (Eq.mpr (show _ = (true = true) by kernel_rfl) rfl)
/-- stagepost/lexer.one -/
def k300 : Know := ⟨49, [(.str (49 :: 32 :: 41 :: 32 :: 42 :: 32 :: 50 :: 32 :: 97 :: 115 :: 32 :: 99 :: 32 :: 102 :: 114 :: 111 :: 109 :: 32 :: 116 :: 32 :: 119 :: 104 :: 101 :: 114 :: 101 :: 32 :: 110 :: 111 :: 116 :: 32 :: 40 :: 32 :: 97 :: 32 :: 61 :: 32 :: 49 :: 32 :: 97 :: 110 :: 100 :: 32 :: 98 :: 32 :: 105 :: 115 :: 32 :: 110 :: 117 :: 108 :: 108 :: 32 :: 41 :: 32 :: 108 :: 105 :: 109 :: 105 :: 116 :: 32 :: 51 :: []))], (.tup [(.agg [(.int .u8 2), (.str []), (.int .u64 1), (.int .i64 0)]), (.int .i64 1), (.int .i64 0)]), 3, []⟩
theorem r300 : RCall Tryz.prog k300.f k300.args k300.v k300.N k300.H := rcall_lvd mixed tabsOk tabsDOk (L := []) (.nil) 600 k300 (by kernel_rfl) (Eq.mpr (show _ = (true = true) by kernel_rfl) rfl)
/-- stagepost/lexer.one -/
def k301 : Know := ⟨49, [(.str (41 :: 32 :: 42 :: 32 :: 50 :: 32 :: 97 :: 115 :: 32 :: 99 :: 32 :: 102 :: 114 :: 111 :: 109 :: 32 :: 116 :: 32 :: 119 :: 104 :: 101 :: 114 :: 101 :: 32 :: 110 :: 111 :: 116 :: 32 :: 40 :: 32 :: 97 :: 32 :: 61 :: 32 :: 49 :: 32 :: 97 :: 110 :: 100 :: 32 :: 98 :: 32 :: 105 :: 115 :: 32 :: 110 :: 117 :: 108 :: 108 :: 32 :: 41 :: 32 :: 108 :: 105 :: 109 :: 105 :: 116 :: 32 :: 51 :: []))], (.tup [(.agg [(.int .u8 4), (.str [41]), (.int .u64 0), (.int .i64 0)]), (.int .i64 1), (.int .i64 0)]), 2, []⟩
theorem r301 : RCall Tryz.prog k301.f k301.args k301.v k301.N k301.H := rcall_lvd mixed tabsOk tabsDOk (L := [k4]) (.cons r4 (.nil)) 600 k301 (by kernel_rfl) (Eq.mpr (show _ = (true = true) by kernel_rfl) rfl)
/-- stagepost/lexer.one -/
def k302 : Know := ⟨49, [(.str (42 :: 32 :: 50 :: 32 :: 97 :: 115 :: 32 :: 99 :: 32 :: 102 :: 114 :: 111 :: 109 :: 32 :: 116 :: 32 :: 119 :: 104 :: 101 :: 114 :: 101 :: 32 :: 110 :: 111 :: 116 :: 32 :: 40 :: 32 :: 97 :: 32 :: 61 :: 32 :: 49 :: 32 :: 97 :: 110 :: 100 :: 32 :: 98 :: 32 :: 105 :: 115 :: 32 :: 110 :: 117 :: 108 :: 108 :: 32 :: 41 :: 32 :: 108 :: 105 :: 109 :: 105 :: 116 :: 32 :: 51 :: []))], (.tup [(.agg [(.int .u8 4), (.str [42]), (.int .u64 0), (.int .i64 0)]), (.int .i64 1), (.int .i64 0)]), 2, []⟩
theorem r302 : RCall Tryz.prog k302.f k302.args k302.v k302.N k302.H := rcall_lvd mixed tabsOk tabsDOk (L := [k4]) (.cons r4 (.nil)) 600 k302 (by kernel_rfl) (Eq.mpr (show _ = (true = true) by kernel_rfl) rfl)
/-- stagepost/lexer.one -/
def k303 : Know := ⟨49, [(.str (50 :: 32 :: 97 :: 115 :: 32 :: 99 :: 32 :: 102 :: 114 :: 111 :: 109 :: 32 :: 116 :: 32 :: 119 :: 104 :: 101 :: 114 :: 101 :: 32 :: 110 :: 111 :: 116 :: 32 :: 40 :: 32 :: 97 :: 32 :: 61 :: 32 :: 49 :: 32 :: 97 :: 110 :: 100 :: 32 :: 98 :: 32 :: 105 :: 115 :: 32 :: 110 :: 117 :: 108 :: 108 :: 32 :: 41 :: 32 :: 108 :: 105 :: 109 :: 105 :: 116 :: 32 :: 51 :: []))], (.tup [(.agg [(.int .u8 2), (.str []), (.int .u64 2), (.int .i64 0)]), (.int .i64 1), (.int .i64 0)]), 3, []⟩
theorem r303 : RCall Tryz.prog k303.f k303.args k303.v k303.N k303.H := rcall_lvd mixed tabsOk tabsDOk (L := []) (.nil) 600 k303 (by kernel_rfl) (Eq.mpr (show _ = (true = true) by kernel_rfl) rfl)
end Go.Proofs.YtoahfaepaojidabGreatDoor
