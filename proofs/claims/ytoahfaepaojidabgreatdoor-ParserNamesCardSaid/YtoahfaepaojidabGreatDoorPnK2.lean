/- Calls that are known, each reckoned by the kernel out of those before it. -/
import Derived.Test.YtoahfaepaojidabGreatDoorPnK1
namespace Go.Proofs.YtoahfaepaojidabGreatDoor
open Ab
set_option maxRecDepth 1000000
set_option maxHeartbeats 0
attribute [local irreducible] lvd
/-- stagepost/lexer.one -/
def k58 : Know := ⟨49, [(.str (40 :: 40 :: 40 :: 40 :: 40 :: 40 :: 40 :: 40 :: 40 :: 40 :: 40 :: 40 :: 40 :: 40 :: 40 :: 40 :: 40 :: 40 :: 40 :: 40 :: 40 :: 40 :: 49 :: 41 :: 41 :: 41 :: 41 :: 41 :: 41 :: 41 :: 41 :: 41 :: 41 :: 41 :: 41 :: 41 :: 41 :: 41 :: 41 :: 41 :: 41 :: 41 :: 41 :: 41 :: 41 :: 41 :: 41 :: 41 :: 41 :: 41 :: 41 :: 41 :: 41 :: 41 :: 41 :: 41 :: 41 :: 41 :: 41 :: 41 :: 41 :: 41 :: 41 :: 41 :: []))], (.tup [(.agg [(.int .u8 4), (.str [40]), (.int .u64 0), (.int .i64 0)]), (.int .i64 1), (.int .i64 0)]), 2, []⟩
theorem r58 : RCall Tryz.prog k58.f k58.args k58.v k58.N k58.H := rcall_lvd mixed tabsOk tabsDOk (L := [k4]) (.cons r4 (.nil)) 600 k58 (by kernel_rfl) (Eq.mpr (show _ = (true = true) by kernel_rfl) rfl)
/-- stagepost/lexer.one -/
def k59 : Know := ⟨49, [(.str (40 :: 40 :: 40 :: 40 :: 40 :: 40 :: 40 :: 40 :: 40 :: 40 :: 40 :: 40 :: 40 :: 40 :: 40 :: 40 :: 40 :: 40 :: 40 :: 40 :: 40 :: 49 :: 41 :: 41 :: 41 :: 41 :: 41 :: 41 :: 41 :: 41 :: 41 :: 41 :: 41 :: 41 :: 41 :: 41 :: 41 :: 41 :: 41 :: 41 :: 41 :: 41 :: 41 :: 41 :: 41 :: 41 :: 41 :: 41 :: 41 :: 41 :: 41 :: 41 :: 41 :: 41 :: 41 :: 41 :: 41 :: 41 :: 41 :: 41 :: 41 :: 41 :: 41 :: []))], (.tup [(.agg [(.int .u8 4), (.str [40]), (.int .u64 0), (.int .i64 0)]), (.int .i64 1), (.int .i64 0)]), 2, []⟩
theorem r59 : RCall Tryz.prog k59.f k59.args k59.v k59.N k59.H := rcall_lvd mixed tabsOk tabsDOk (L := [k4]) (.cons r4 (.nil)) 600 k59 (by kernel_rfl) (Eq.mpr (show _ = (true = true) by kernel_rfl) rfl)
/-- stagepost/lexer.one -/
def k60 : Know := ⟨49, [(.str (40 :: 40 :: 40 :: 40 :: 40 :: 40 :: 40 :: 40 :: 40 :: 40 :: 40 :: 40 :: 40 :: 40 :: 40 :: 40 :: 40 :: 40 :: 40 :: 40 :: 49 :: 41 :: 41 :: 41 :: 41 :: 41 :: 41 :: 41 :: 41 :: 41 :: 41 :: 41 :: 41 :: 41 :: 41 :: 41 :: 41 :: 41 :: 41 :: 41 :: 41 :: 41 :: 41 :: 41 :: 41 :: 41 :: 41 :: 41 :: 41 :: 41 :: 41 :: 41 :: 41 :: 41 :: 41 :: 41 :: 41 :: 41 :: 41 :: 41 :: 41 :: 41 :: []))], (.tup [(.agg [(.int .u8 4), (.str [40]), (.int .u64 0), (.int .i64 0)]), (.int .i64 1), (.int .i64 0)]), 2, []⟩
theorem r60 : RCall Tryz.prog k60.f k60.args k60.v k60.N k60.H := rcall_lvd mixed tabsOk tabsDOk (L := [k4]) (.cons r4 (.nil)) 600 k60 (by kernel_rfl) (Eq.mpr (show _ = (true = true) by kernel_rfl) rfl)
/-- stagepost/lexer.one -/
def k61 : Know := ⟨49, [(.str (40 :: 40 :: 40 :: 40 :: 40 :: 40 :: 40 :: 40 :: 40 :: 40 :: 40 :: 40 :: 40 :: 40 :: 40 :: 40 :: 40 :: 40 :: 40 :: 49 :: 41 :: 41 :: 41 :: 41 :: 41 :: 41 :: 41 :: 41 :: 41 :: 41 :: 41 :: 41 :: 41 :: 41 :: 41 :: 41 :: 41 :: 41 :: 41 :: 41 :: 41 :: 41 :: 41 :: 41 :: 41 :: 41 :: 41 :: 41 :: 41 :: 41 :: 41 :: 41 :: 41 :: 41 :: 41 :: 41 :: 41 :: 41 :: 41 :: 41 :: 41 :: []))], (.tup [(.agg [(.int .u8 4), (.str [40]), (.int .u64 0), (.int .i64 0)]), (.int .i64 1), (.int .i64 0)]), 2, []⟩
theorem r61 : RCall Tryz.prog k61.f k61.args k61.v k61.N k61.H := rcall_lvd mixed tabsOk tabsDOk (L := [k4]) (.cons r4 (.nil)) 600 k61 (by kernel_rfl) (Eq.mpr (show _ = (true = true) by kernel_rfl) rfl)
/-- stagepost/lexer.one -/
def k62 : Know := ⟨49, [(.str (40 :: 40 :: 40 :: 40 :: 40 :: 40 :: 40 :: 40 :: 40 :: 40 :: 40 :: 40 :: 40 :: 40 :: 40 :: 40 :: 40 :: 40 :: 49 :: 41 :: 41 :: 41 :: 41 :: 41 :: 41 :: 41 :: 41 :: 41 :: 41 :: 41 :: 41 :: 41 :: 41 :: 41 :: 41 :: 41 :: 41 :: 41 :: 41 :: 41 :: 41 :: 41 :: 41 :: 41 :: 41 :: 41 :: 41 :: 41 :: 41 :: 41 :: 41 :: 41 :: 41 :: 41 :: 41 :: 41 :: 41 :: 41 :: 41 :: 41 :: []))], (.tup [(.agg [(.int .u8 4), (.str [40]), (.int .u64 0), (.int .i64 0)]), (.int .i64 1), (.int .i64 0)]), 2, []⟩
theorem r62 : RCall Tryz.prog k62.f k62.args k62.v k62.N k62.H := rcall_lvd mixed tabsOk tabsDOk (L := [k4]) (.cons r4 (.nil)) 600 k62 (by kernel_rfl) (Eq.mpr (show _ = (true = true) by kernel_rfl) rfl)
/-- stagepost/lexer.one -/
def k63 : Know := ⟨49, [(.str (40 :: 40 :: 40 :: 40 :: 40 :: 40 :: 40 :: 40 :: 40 :: 40 :: 40 :: 40 :: 40 :: 40 :: 40 :: 40 :: 40 :: 49 :: 41 :: 41 :: 41 :: 41 :: 41 :: 41 :: 41 :: 41 :: 41 :: 41 :: 41 :: 41 :: 41 :: 41 :: 41 :: 41 :: 41 :: 41 :: 41 :: 41 :: 41 :: 41 :: 41 :: 41 :: 41 :: 41 :: 41 :: 41 :: 41 :: 41 :: 41 :: 41 :: 41 :: 41 :: 41 :: 41 :: 41 :: 41 :: 41 :: 41 :: 41 :: []))], (.tup [(.agg [(.int .u8 4), (.str [40]), (.int .u64 0), (.int .i64 0)]), (.int .i64 1), (.int .i64 0)]), 2, []⟩
theorem r63 : RCall Tryz.prog k63.f k63.args k63.v k63.N k63.H := rcall_lvd mixed tabsOk tabsDOk (L := [k4]) (.cons r4 (.nil)) 600 k63 (by kernel_rfl) (Eq.mpr (show _ = (true = true) by kernel_rfl) rfl)
/-- stagepost/lexer.one -/
def k64 : Know := ⟨49, [(.str (40 :: 40 :: 40 :: 40 :: 40 :: 40 :: 40 :: 40 :: 40 :: 40 :: 40 :: 40 :: 40 :: 40 :: 40 :: 40 :: 49 :: 41 :: 41 :: 41 :: 41 :: 41 :: 41 :: 41 :: 41 :: 41 :: 41 :: 41 :: 41 :: 41 :: 41 :: 41 :: 41 :: 41 :: 41 :: 41 :: 41 :: 41 :: 41 :: 41 :: 41 :: 41 :: 41 :: 41 :: 41 :: 41 :: 41 :: 41 :: 41 :: 41 :: 41 :: 41 :: 41 :: 41 :: 41 :: 41 :: 41 :: 41 :: []))], (.tup [(.agg [(.int .u8 4), (.str [40]), (.int .u64 0), (.int .i64 0)]), (.int .i64 1), (.int .i64 0)]), 2, []⟩
theorem r64 : RCall Tryz.prog k64.f k64.args k64.v k64.N k64.H := rcall_lvd mixed tabsOk tabsDOk (L := [k4]) (.cons r4 (.nil)) 600 k64 (by kernel_rfl) (Eq.mpr (show _ = (true = true) by kernel_rfl) rfl)
/-- stagepost/lexer.one -/
def k65 : Know := ⟨49, [(.str (40 :: 40 :: 40 :: 40 :: 40 :: 40 :: 40 :: 40 :: 40 :: 40 :: 40 :: 40 :: 40 :: 40 :: 40 :: 49 :: 41 :: 41 :: 41 :: 41 :: 41 :: 41 :: 41 :: 41 :: 41 :: 41 :: 41 :: 41 :: 41 :: 41 :: 41 :: 41 :: 41 :: 41 :: 41 :: 41 :: 41 :: 41 :: 41 :: 41 :: 41 :: 41 :: 41 :: 41 :: 41 :: 41 :: 41 :: 41 :: 41 :: 41 :: 41 :: 41 :: 41 :: 41 :: 41 :: 41 :: 41 :: []))], (.tup [(.agg [(.int .u8 4), (.str [40]), (.int .u64 0), (.int .i64 0)]), (.int .i64 1), (.int .i64 0)]), 2, []⟩
theorem r65 : RCall Tryz.prog k65.f k65.args k65.v k65.N k65.H := rcall_lvd mixed tabsOk tabsDOk (L := [k4]) (.cons r4 (.nil)) 600 k65 (by kernel_rfl) (Eq.mpr (show _ = (true = true) by kernel_rfl) rfl)
/-- stagepost/lexer.one -/
def k66 : Know := ⟨49, [(.str (40 :: 40 :: 40 :: 40 :: 40 :: 40 :: 40 :: 40 :: 40 :: 40 :: 40 :: 40 :: 40 :: 40 :: 49 :: 41 :: 41 :: 41 :: 41 :: 41 :: 41 :: 41 :: 41 :: 41 :: 41 :: 41 :: 41 :: 41 :: 41 :: 41 :: 41 :: 41 :: 41 :: 41 :: 41 :: 41 :: 41 :: 41 :: 41 :: 41 :: 41 :: 41 :: 41 :: 41 :: 41 :: 41 :: 41 :: 41 :: 41 :: 41 :: 41 :: 41 :: 41 :: 41 :: 41 :: 41 :: []))], (.tup [(.agg [(.int .u8 4), (.str [40]), (.int .u64 0), (.int .i64 0)]), (.int .i64 1), (.int .i64 0)]), 2, []⟩
theorem r66 : RCall Tryz.prog k66.f k66.args k66.v k66.N k66.H := rcall_lvd mixed tabsOk tabsDOk (L := [k4]) (.cons r4 (.nil)) 600 k66 (by kernel_rfl) (Eq.mpr (show _ = (true = true) by kernel_rfl) rfl)
/-- stagepost/lexer.one -/
def k67 : Know := ⟨49, [(.str (40 :: 40 :: 40 :: 40 :: 40 :: 40 :: 40 :: 40 :: 40 :: 40 :: 40 :: 40 :: 40 :: 49 :: 41 :: 41 :: 41 :: 41 :: 41 :: 41 :: 41 :: 41 :: 41 :: 41 :: 41 :: 41 :: 41 :: 41 :: 41 :: 41 :: 41 :: 41 :: 41 :: 41 :: 41 :: 41 :: 41 :: 41 :: 41 :: 41 :: 41 :: 41 :: 41 :: 41 :: 41 :: 41 :: 41 :: 41 :: 41 :: 41 :: 41 :: 41 :: 41 :: 41 :: 41 :: []))], (.tup [(.agg [(.int .u8 4), (.str [40]), (.int .u64 0), (.int .i64 0)]), (.int .i64 1), (.int .i64 0)]), 2, []⟩
theorem r67 : RCall Tryz.prog k67.f k67.args k67.v k67.N k67.H := rcall_lvd mixed tabsOk tabsDOk (L := [k4]) (.cons r4 (.nil)) 600 k67 (by kernel_rfl) (Eq.mpr (show _ = (true = true) by kernel_rfl) rfl)
/-- stagepost/lexer.one -/
def k68 : Know := ⟨49, [(.str (40 :: 40 :: 40 :: 40 :: 40 :: 40 :: 40 :: 40 :: 40 :: 40 :: 40 :: 40 :: 49 :: 41 :: 41 :: 41 :: 41 :: 41 :: 41 :: 41 :: 41 :: 41 :: 41 :: 41 :: 41 :: 41 :: 41 :: 41 :: 41 :: 41 :: 41 :: 41 :: 41 :: 41 :: 41 :: 41 :: 41 :: 41 :: 41 :: 41 :: 41 :: 41 :: 41 :: 41 :: 41 :: 41 :: 41 :: 41 :: 41 :: 41 :: 41 :: 41 :: 41 :: 41 :: []))], (.tup [(.agg [(.int .u8 4), (.str [40]), (.int .u64 0), (.int .i64 0)]), (.int .i64 1), (.int .i64 0)]), 2, []⟩
theorem r68 : RCall Tryz.prog k68.f k68.args k68.v k68.N k68.H := rcall_lvd mixed tabsOk tabsDOk (L := [k4]) (.cons r4 (.nil)) 600 k68 (by kernel_rfl) (Eq.mpr (show _ = (true = true) by kernel_rfl) rfl)
/-- stagepost/lexer.one -/
def k69 : Know := ⟨49, [(.str (40 :: 40 :: 40 :: 40 :: 40 :: 40 :: 40 :: 40 :: 40 :: 40 :: 40 :: 49 :: 41 :: 41 :: 41 :: 41 :: 41 :: 41 :: 41 :: 41 :: 41 :: 41 :: 41 :: 41 :: 41 :: 41 :: 41 :: 41 :: 41 :: 41 :: 41 :: 41 :: 41 :: 41 :: 41 :: 41 :: 41 :: 41 :: 41 :: 41 :: 41 :: 41 :: 41 :: 41 :: 41 :: 41 :: 41 :: 41 :: 41 :: 41 :: 41 :: 41 :: 41 :: []))], (.tup [(.agg [(.int .u8 4), (.str [40]), (.int .u64 0), (.int .i64 0)]), (.int .i64 1), (.int .i64 0)]), 2, []⟩
theorem r69 : RCall Tryz.prog k69.f k69.args k69.v k69.N k69.H := rcall_lvd mixed tabsOk tabsDOk (L := [k4]) (.cons r4 (.nil)) 600 k69 (by kernel_rfl) (Eq.mpr (show _ = (true = true) by kernel_rfl) rfl)
/-- stagepost/lexer.one -/
def k70 : Know := ⟨49, [(.str (40 :: 40 :: 40 :: 40 :: 40 :: 40 :: 40 :: 40 :: 40 :: 40 :: 49 :: 41 :: 41 :: 41 :: 41 :: 41 :: 41 :: 41 :: 41 :: 41 :: 41 :: 41 :: 41 :: 41 :: 41 :: 41 :: 41 :: 41 :: 41 :: 41 :: 41 :: 41 :: 41 :: 41 :: 41 :: 41 :: 41 :: 41 :: 41 :: 41 :: 41 :: 41 :: 41 :: 41 :: 41 :: 41 :: 41 :: 41 :: 41 :: 41 :: 41 :: 41 :: []))], (.tup [(.agg [(.int .u8 4), (.str [40]), (.int .u64 0), (.int .i64 0)]), (.int .i64 1), (.int .i64 0)]), 2, []⟩
theorem r70 : RCall Tryz.prog k70.f k70.args k70.v k70.N k70.H := rcall_lvd mixed tabsOk tabsDOk (L := [k4]) (.cons r4 (.nil)) 600 k70 (by kernel_rfl) (Eq.mpr (show _ = (true = true) by kernel_rfl) rfl)
/-- stagepost/lexer.one -/
def k71 : Know := ⟨49, [(.str (40 :: 40 :: 40 :: 40 :: 40 :: 40 :: 40 :: 40 :: 40 :: 49 :: 41 :: 41 :: 41 :: 41 :: 41 :: 41 :: 41 :: 41 :: 41 :: 41 :: 41 :: 41 :: 41 :: 41 :: 41 :: 41 :: 41 :: 41 :: 41 :: 41 :: 41 :: 41 :: 41 :: 41 :: 41 :: 41 :: 41 :: 41 :: 41 :: 41 :: 41 :: 41 :: 41 :: 41 :: 41 :: 41 :: 41 :: 41 :: 41 :: 41 :: 41 :: []))], (.tup [(.agg [(.int .u8 4), (.str [40]), (.int .u64 0), (.int .i64 0)]), (.int .i64 1), (.int .i64 0)]), 2, []⟩
theorem r71 : RCall Tryz.prog k71.f k71.args k71.v k71.N k71.H := rcall_lvd mixed tabsOk tabsDOk (L := [k4]) (.cons r4 (.nil)) 600 k71 (by kernel_rfl) (Eq.mpr (show _ = (true = true) by kernel_rfl) rfl)
/-- stagepost/lexer.one -/
def k72 : Know := ⟨49, [(.str (40 :: 40 :: 40 :: 40 :: 40 :: 40 :: 40 :: 40 :: 49 :: 41 :: 41 :: 41 :: 41 :: 41 :: 41 :: 41 :: 41 :: 41 :: 41 :: 41 :: 41 :: 41 :: 41 :: 41 :: 41 :: 41 :: 41 :: 41 :: 41 :: 41 :: 41 :: 41 :: 41 :: 41 :: 41 :: 41 :: 41 :: 41 :: 41 :: 41 :: 41 :: 41 :: 41 :: 41 :: 41 :: 41 :: 41 :: 41 :: 41 :: 41 :: []))], (.tup [(.agg [(.int .u8 4), (.str [40]), (.int .u64 0), (.int .i64 0)]), (.int .i64 1), (.int .i64 0)]), 2, []⟩
theorem r72 : RCall Tryz.prog k72.f k72.args k72.v k72.N k72.H := rcall_lvd mixed tabsOk tabsDOk (L := [k4]) (.cons r4 (.nil)) 600 k72 (by kernel_rfl) (Eq.mpr (show _ = (true = true) by kernel_rfl) rfl)
/-- stagepost/lexer.one -/
def k73 : Know := ⟨49, [(.str (40 :: 40 :: 40 :: 40 :: 40 :: 40 :: 40 :: 49 :: 41 :: 41 :: 41 :: 41 :: 41 :: 41 :: 41 :: 41 :: 41 :: 41 :: 41 :: 41 :: 41 :: 41 :: 41 :: 41 :: 41 :: 41 :: 41 :: 41 :: 41 :: 41 :: 41 :: 41 :: 41 :: 41 :: 41 :: 41 :: 41 :: 41 :: 41 :: 41 :: 41 :: 41 :: 41 :: 41 :: 41 :: 41 :: 41 :: 41 :: 41 :: []))], (.tup [(.agg [(.int .u8 4), (.str [40]), (.int .u64 0), (.int .i64 0)]), (.int .i64 1), (.int .i64 0)]), 2, []⟩
theorem r73 : RCall Tryz.prog k73.f k73.args k73.v k73.N k73.H := rcall_lvd mixed tabsOk tabsDOk (L := [k4]) (.cons r4 (.nil)) 600 k73 (by kernel_rfl) (Eq.mpr (show _ = (true = true) by kernel_rfl) rfl)
/-- stagepost/lexer.one -/
def k74 : Know := ⟨49, [(.str (40 :: 40 :: 40 :: 40 :: 40 :: 40 :: 49 :: 41 :: 41 :: 41 :: 41 :: 41 :: 41 :: 41 :: 41 :: 41 :: 41 :: 41 :: 41 :: 41 :: 41 :: 41 :: 41 :: 41 :: 41 :: 41 :: 41 :: 41 :: 41 :: 41 :: 41 :: 41 :: 41 :: 41 :: 41 :: 41 :: 41 :: 41 :: 41 :: 41 :: 41 :: 41 :: 41 :: 41 :: 41 :: 41 :: 41 :: 41 :: []))], (.tup [(.agg [(.int .u8 4), (.str [40]), (.int .u64 0), (.int .i64 0)]), (.int .i64 1), (.int .i64 0)]), 2, []⟩
theorem r74 : RCall Tryz.prog k74.f k74.args k74.v k74.N k74.H := rcall_lvd mixed tabsOk tabsDOk (L := [k4]) (.cons r4 (.nil)) 600 k74 (by kernel_rfl) (Eq.mpr (show _ = (true = true) by kernel_rfl) rfl)
/-- stagepost/lexer.one -/
def k75 : Know := ⟨49, [(.str (40 :: 40 :: 40 :: 40 :: 40 :: 49 :: 41 :: 41 :: 41 :: 41 :: 41 :: 41 :: 41 :: 41 :: 41 :: 41 :: 41 :: 41 :: 41 :: 41 :: 41 :: 41 :: 41 :: 41 :: 41 :: 41 :: 41 :: 41 :: 41 :: 41 :: 41 :: 41 :: 41 :: 41 :: 41 :: 41 :: 41 :: 41 :: 41 :: 41 :: 41 :: 41 :: 41 :: 41 :: 41 :: 41 :: 41 :: []))], (.tup [(.agg [(.int .u8 4), (.str [40]), (.int .u64 0), (.int .i64 0)]), (.int .i64 1), (.int .i64 0)]), 2, []⟩
theorem r75 : RCall Tryz.prog k75.f k75.args k75.v k75.N k75.H := rcall_lvd mixed tabsOk tabsDOk (L := [k4]) (.cons r4 (.nil)) 600 k75 (by kernel_rfl) (Eq.mpr (show _ = (true = true) by kernel_rfl) rfl)
/-- stagepost/lexer.one -/
def k76 : Know := ⟨49, [(.str (40 :: 40 :: 40 :: 40 :: 49 :: 41 :: 41 :: 41 :: 41 :: 41 :: 41 :: 41 :: 41 :: 41 :: 41 :: 41 :: 41 :: 41 :: 41 :: 41 :: 41 :: 41 :: 41 :: 41 :: 41 :: 41 :: 41 :: 41 :: 41 :: 41 :: 41 :: 41 :: 41 :: 41 :: 41 :: 41 :: 41 :: 41 :: 41 :: 41 :: 41 :: 41 :: 41 :: 41 :: 41 :: 41 :: []))], (.tup [(.agg [(.int .u8 4), (.str [40]), (.int .u64 0), (.int .i64 0)]), (.int .i64 1), (.int .i64 0)]), 2, []⟩
theorem r76 : RCall Tryz.prog k76.f k76.args k76.v k76.N k76.H := rcall_lvd mixed tabsOk tabsDOk (L := [k4]) (.cons r4 (.nil)) 600 k76 (by kernel_rfl) (Eq.mpr (show _ = (true = true) by kernel_rfl) rfl)
/-- stagepost/lexer.one -/
def k77 : Know := ⟨49, [(.str (40 :: 40 :: 40 :: 49 :: 41 :: 41 :: 41 :: 41 :: 41 :: 41 :: 41 :: 41 :: 41 :: 41 :: 41 :: 41 :: 41 :: 41 :: 41 :: 41 :: 41 :: 41 :: 41 :: 41 :: 41 :: 41 :: 41 :: 41 :: 41 :: 41 :: 41 :: 41 :: 41 :: 41 :: 41 :: 41 :: 41 :: 41 :: 41 :: 41 :: 41 :: 41 :: 41 :: 41 :: 41 :: []))], (.tup [(.agg [(.int .u8 4), (.str [40]), (.int .u64 0), (.int .i64 0)]), (.int .i64 1), (.int .i64 0)]), 2, []⟩
theorem r77 : RCall Tryz.prog k77.f k77.args k77.v k77.N k77.H := rcall_lvd mixed tabsOk tabsDOk (L := [k4]) (.cons r4 (.nil)) 600 k77 (by kernel_rfl) (Eq.mpr (show _ = (true = true) by kernel_rfl) rfl)
/-- stagepost/lexer.one -/
def k78 : Know := ⟨49, [(.str (40 :: 40 :: 49 :: 41 :: 41 :: 41 :: 41 :: 41 :: 41 :: 41 :: 41 :: 41 :: 41 :: 41 :: 41 :: 41 :: 41 :: 41 :: 41 :: 41 :: 41 :: 41 :: 41 :: 41 :: 41 :: 41 :: 41 :: 41 :: 41 :: 41 :: 41 :: 41 :: 41 :: 41 :: 41 :: 41 :: 41 :: 41 :: 41 :: 41 :: 41 :: 41 :: 41 :: 41 :: []))], (.tup [(.agg [(.int .u8 4), (.str [40]), (.int .u64 0), (.int .i64 0)]), (.int .i64 1), (.int .i64 0)]), 2, []⟩
theorem r78 : RCall Tryz.prog k78.f k78.args k78.v k78.N k78.H := rcall_lvd mixed tabsOk tabsDOk (L := [k4]) (.cons r4 (.nil)) 600 k78 (by kernel_rfl) (Eq.mpr (show _ = (true = true) by kernel_rfl) rfl)
/-- stagepost/lexer.one -/
def k79 : Know := ⟨49, [(.str (40 :: 49 :: 41 :: 41 :: 41 :: 41 :: 41 :: 41 :: 41 :: 41 :: 41 :: 41 :: 41 :: 41 :: 41 :: 41 :: 41 :: 41 :: 41 :: 41 :: 41 :: 41 :: 41 :: 41 :: 41 :: 41 :: 41 :: 41 :: 41 :: 41 :: 41 :: 41 :: 41 :: 41 :: 41 :: 41 :: 41 :: 41 :: 41 :: 41 :: 41 :: 41 :: 41 :: []))], (.tup [(.agg [(.int .u8 4), (.str [40]), (.int .u64 0), (.int .i64 0)]), (.int .i64 1), (.int .i64 0)]), 2, []⟩
theorem r79 : RCall Tryz.prog k79.f k79.args k79.v k79.N k79.H := rcall_lvd mixed tabsOk tabsDOk (L := [k4]) (.cons r4 (.nil)) 600 k79 (by kernel_rfl) (Eq.mpr (show _ = (true = true) by kernel_rfl) rfl)
/-- stagepost/lexer.one -/
def k80 : Know := ⟨49, [(.str (49 :: 41 :: 41 :: 41 :: 41 :: 41 :: 41 :: 41 :: 41 :: 41 :: 41 :: 41 :: 41 :: 41 :: 41 :: 41 :: 41 :: 41 :: 41 :: 41 :: 41 :: 41 :: 41 :: 41 :: 41 :: 41 :: 41 :: 41 :: 41 :: 41 :: 41 :: 41 :: 41 :: 41 :: 41 :: 41 :: 41 :: 41 :: 41 :: 41 :: 41 :: 41 :: []))], (.tup [(.agg [(.int .u8 2), (.str []), (.int .u64 1), (.int .i64 0)]), (.int .i64 1), (.int .i64 0)]), 3, []⟩
theorem r80 : RCall Tryz.prog k80.f k80.args k80.v k80.N k80.H := rcall_lvd mixed tabsOk tabsDOk (L := []) (.nil) 600 k80 (by kernel_rfl) (Eq.mpr (show _ = (true = true) by kernel_rfl) rfl)
/-- stagepost/lexer.one -/
def k81 : Know := ⟨49, [(.str (41 :: 41 :: 41 :: 41 :: 41 :: 41 :: 41 :: 41 :: 41 :: 41 :: 41 :: 41 :: 41 :: 41 :: 41 :: 41 :: 41 :: 41 :: 41 :: 41 :: 41 :: 41 :: 41 :: 41 :: 41 :: 41 :: 41 :: 41 :: 41 :: 41 :: 41 :: 41 :: 41 :: 41 :: 41 :: 41 :: 41 :: 41 :: 41 :: 41 :: 41 :: []))], (.tup [(.agg [(.int .u8 4), (.str [41]), (.int .u64 0), (.int .i64 0)]), (.int .i64 1), (.int .i64 0)]), 2, []⟩
theorem r81 : RCall Tryz.prog k81.f k81.args k81.v k81.N k81.H := rcall_lvd mixed tabsOk tabsDOk (L := [k4]) (.cons r4 (.nil)) 600 k81 (by kernel_rfl) (Eq.mpr (show _ = (true = true) by kernel_rfl) rfl)
/-- stagepost/lexer.one -/
def k82 : Know := ⟨49, [(.str (41 :: 41 :: 41 :: 41 :: 41 :: 41 :: 41 :: 41 :: 41 :: 41 :: 41 :: 41 :: 41 :: 41 :: 41 :: 41 :: 41 :: 41 :: 41 :: 41 :: 41 :: 41 :: 41 :: 41 :: 41 :: 41 :: 41 :: 41 :: 41 :: 41 :: 41 :: 41 :: 41 :: 41 :: 41 :: 41 :: 41 :: 41 :: 41 :: 41 :: []))], (.tup [(.agg [(.int .u8 4), (.str [41]), (.int .u64 0), (.int .i64 0)]), (.int .i64 1), (.int .i64 0)]), 2, []⟩
theorem r82 : RCall Tryz.prog k82.f k82.args k82.v k82.N k82.H := rcall_lvd mixed tabsOk tabsDOk (L := [k4]) (.cons r4 (.nil)) 600 k82 (by kernel_rfl) (Eq.mpr (show _ = (true = true) by kernel_rfl) rfl)
/-- stagepost/lexer.one -/
def k83 : Know := ⟨49, [(.str (41 :: 41 :: 41 :: 41 :: 41 :: 41 :: 41 :: 41 :: 41 :: 41 :: 41 :: 41 :: 41 :: 41 :: 41 :: 41 :: 41 :: 41 :: 41 :: 41 :: 41 :: 41 :: 41 :: 41 :: 41 :: 41 :: 41 :: 41 :: 41 :: 41 :: 41 :: 41 :: 41 :: 41 :: 41 :: 41 :: 41 :: 41 :: 41 :: []))], (.tup [(.agg [(.int .u8 4), (.str [41]), (.int .u64 0), (.int .i64 0)]), (.int .i64 1), (.int .i64 0)]), 2, []⟩
theorem r83 : RCall Tryz.prog k83.f k83.args k83.v k83.N k83.H := rcall_lvd mixed tabsOk tabsDOk (L := [k4]) (.cons r4 (.nil)) 600 k83 (by kernel_rfl) (Eq.mpr (show _ = (true = true) by kernel_rfl) rfl)
/-- stagepost/lexer.one -/
def k84 : Know := ⟨49, [(.str (41 :: 41 :: 41 :: 41 :: 41 :: 41 :: 41 :: 41 :: 41 :: 41 :: 41 :: 41 :: 41 :: 41 :: 41 :: 41 :: 41 :: 41 :: 41 :: 41 :: 41 :: 41 :: 41 :: 41 :: 41 :: 41 :: 41 :: 41 :: 41 :: 41 :: 41 :: 41 :: 41 :: 41 :: 41 :: 41 :: 41 :: 41 :: []))], (.tup [(.agg [(.int .u8 4), (.str [41]), (.int .u64 0), (.int .i64 0)]), (.int .i64 1), (.int .i64 0)]), 2, []⟩
theorem r84 : RCall Tryz.prog k84.f k84.args k84.v k84.N k84.H := rcall_lvd mixed tabsOk tabsDOk (L := [k4]) (.cons r4 (.nil)) 600 k84 (by kernel_rfl) (Eq.mpr (show _ = (true = true) by kernel_rfl) rfl)
/-- stagepost/lexer.one -/
def k85 : Know := ⟨49, [(.str (41 :: 41 :: 41 :: 41 :: 41 :: 41 :: 41 :: 41 :: 41 :: 41 :: 41 :: 41 :: 41 :: 41 :: 41 :: 41 :: 41 :: 41 :: 41 :: 41 :: 41 :: 41 :: 41 :: 41 :: 41 :: 41 :: 41 :: 41 :: 41 :: 41 :: 41 :: 41 :: 41 :: 41 :: 41 :: 41 :: 41 :: []))], (.tup [(.agg [(.int .u8 4), (.str [41]), (.int .u64 0), (.int .i64 0)]), (.int .i64 1), (.int .i64 0)]), 2, []⟩
theorem r85 : RCall Tryz.prog k85.f k85.args k85.v k85.N k85.H := rcall_lvd mixed tabsOk tabsDOk (L := [k4]) (.cons r4 (.nil)) 600 k85 (by kernel_rfl) (Eq.mpr (show _ = (true = true) by kernel_rfl) rfl)
/-- stagepost/lexer.one -/
def k86 : Know := ⟨49, [(.str (41 :: 41 :: 41 :: 41 :: 41 :: 41 :: 41 :: 41 :: 41 :: 41 :: 41 :: 41 :: 41 :: 41 :: 41 :: 41 :: 41 :: 41 :: 41 :: 41 :: 41 :: 41 :: 41 :: 41 :: 41 :: 41 :: 41 :: 41 :: 41 :: 41 :: 41 :: 41 :: 41 :: 41 :: 41 :: 41 :: []))], (.tup [(.agg [(.int .u8 4), (.str [41]), (.int .u64 0), (.int .i64 0)]), (.int .i64 1), (.int .i64 0)]), 2, []⟩
theorem r86 : RCall Tryz.prog k86.f k86.args k86.v k86.N k86.H := rcall_lvd mixed tabsOk tabsDOk (L := [k4]) (.cons r4 (.nil)) 600 k86 (by kernel_rfl) (Eq.mpr (show _ = (true = true) by kernel_rfl) rfl)
/-- stagepost/lexer.one -/
def k87 : Know := ⟨49, [(.str (41 :: 41 :: 41 :: 41 :: 41 :: 41 :: 41 :: 41 :: 41 :: 41 :: 41 :: 41 :: 41 :: 41 :: 41 :: 41 :: 41 :: 41 :: 41 :: 41 :: 41 :: 41 :: 41 :: 41 :: 41 :: 41 :: 41 :: 41 :: 41 :: 41 :: 41 :: 41 :: 41 :: 41 :: 41 :: []))], (.tup [(.agg [(.int .u8 4), (.str [41]), (.int .u64 0), (.int .i64 0)]), (.int .i64 1), (.int .i64 0)]), 2, []⟩
theorem r87 : RCall Tryz.prog k87.f k87.args k87.v k87.N k87.H := rcall_lvd mixed tabsOk tabsDOk (L := [k4]) (.cons r4 (.nil)) 600 k87 (by kernel_rfl) (Eq.mpr (show _ = (true = true) by kernel_rfl) rfl)
/-- stagepost/lexer.one -/
def k88 : Know := ⟨49, [(.str (41 :: 41 :: 41 :: 41 :: 41 :: 41 :: 41 :: 41 :: 41 :: 41 :: 41 :: 41 :: 41 :: 41 :: 41 :: 41 :: 41 :: 41 :: 41 :: 41 :: 41 :: 41 :: 41 :: 41 :: 41 :: 41 :: 41 :: 41 :: 41 :: 41 :: 41 :: 41 :: 41 :: 41 :: []))], (.tup [(.agg [(.int .u8 4), (.str [41]), (.int .u64 0), (.int .i64 0)]), (.int .i64 1), (.int .i64 0)]), 2, []⟩
theorem r88 : RCall Tryz.prog k88.f k88.args k88.v k88.N k88.H := rcall_lvd mixed tabsOk tabsDOk (L := [k4]) (.cons r4 (.nil)) 600 k88 (by kernel_rfl) (Eq.mpr (show _ = (true = true) by kernel_rfl) rfl)
/-- stagepost/lexer.one -/
def k89 : Know := ⟨49, [(.str (41 :: 41 :: 41 :: 41 :: 41 :: 41 :: 41 :: 41 :: 41 :: 41 :: 41 :: 41 :: 41 :: 41 :: 41 :: 41 :: 41 :: 41 :: 41 :: 41 :: 41 :: 41 :: 41 :: 41 :: 41 :: 41 :: 41 :: 41 :: 41 :: 41 :: 41 :: 41 :: 41 :: []))], (.tup [(.agg [(.int .u8 4), (.str [41]), (.int .u64 0), (.int .i64 0)]), (.int .i64 1), (.int .i64 0)]), 2, []⟩
theorem r89 : RCall Tryz.prog k89.f k89.args k89.v k89.N k89.H := rcall_lvd mixed tabsOk tabsDOk (L := [k4]) (.cons r4 (.nil)) 600 k89 (by kernel_rfl) (Eq.mpr (show _ = (true = true) by kernel_rfl) rfl)
/-- stagepost/lexer.one -/
def k90 : Know := ⟨49, [(.str (41 :: 41 :: 41 :: 41 :: 41 :: 41 :: 41 :: 41 :: 41 :: 41 :: 41 :: 41 :: 41 :: 41 :: 41 :: 41 :: 41 :: 41 :: 41 :: 41 :: 41 :: 41 :: 41 :: 41 :: 41 :: 41 :: 41 :: 41 :: 41 :: 41 :: 41 :: 41 :: []))], (.tup [(.agg [(.int .u8 4), (.str [41]), (.int .u64 0), (.int .i64 0)]), (.int .i64 1), (.int .i64 0)]), 2, []⟩
theorem r90 : RCall Tryz.prog k90.f k90.args k90.v k90.N k90.H := rcall_lvd mixed tabsOk tabsDOk (L := [k4]) (.cons r4 (.nil)) 600 k90 (by kernel_rfl) (Eq.mpr (show _ = (true = true) by kernel_rfl) rfl)
/-- stagepost/lexer.one -/
def k91 : Know := ⟨49, [(.str (41 :: 41 :: 41 :: 41 :: 41 :: 41 :: 41 :: 41 :: 41 :: 41 :: 41 :: 41 :: 41 :: 41 :: 41 :: 41 :: 41 :: 41 :: 41 :: 41 :: 41 :: 41 :: 41 :: 41 :: 41 :: 41 :: 41 :: 41 :: 41 :: 41 :: 41 :: []))], (.tup [(.agg [(.int .u8 4), (.str [41]), (.int .u64 0), (.int .i64 0)]), (.int .i64 1), (.int .i64 0)]), 2, []⟩
theorem r91 : RCall Tryz.prog k91.f k91.args k91.v k91.N k91.H := rcall_lvd mixed tabsOk tabsDOk (L := [k4]) (.cons r4 (.nil)) 600 k91 (by kernel_rfl) (Eq.mpr (show _ = (true = true) by kernel_rfl) rfl)
/-- stagepost/lexer.one -/
def k92 : Know := ⟨49, [(.str (41 :: 41 :: 41 :: 41 :: 41 :: 41 :: 41 :: 41 :: 41 :: 41 :: 41 :: 41 :: 41 :: 41 :: 41 :: 41 :: 41 :: 41 :: 41 :: 41 :: 41 :: 41 :: 41 :: 41 :: 41 :: 41 :: 41 :: 41 :: 41 :: 41 :: []))], (.tup [(.agg [(.int .u8 4), (.str [41]), (.int .u64 0), (.int .i64 0)]), (.int .i64 1), (.int .i64 0)]), 2, []⟩
theorem r92 : RCall Tryz.prog k92.f k92.args k92.v k92.N k92.H := rcall_lvd mixed tabsOk tabsDOk (L := [k4]) (.cons r4 (.nil)) 600 k92 (by kernel_rfl) (Eq.mpr (show _ = (true = true) by kernel_rfl) rfl)
/-- stagepost/lexer.one -/
def k93 : Know := ⟨49, [(.str (41 :: 41 :: 41 :: 41 :: 41 :: 41 :: 41 :: 41 :: 41 :: 41 :: 41 :: 41 :: 41 :: 41 :: 41 :: 41 :: 41 :: 41 :: 41 :: 41 :: 41 :: 41 :: 41 :: 41 :: 41 :: 41 :: 41 :: 41 :: 41 :: []))], (.tup [(.agg [(.int .u8 4), (.str [41]), (.int .u64 0), (.int .i64 0)]), (.int .i64 1), (.int .i64 0)]), 2, []⟩
theorem r93 : RCall Tryz.prog k93.f k93.args k93.v k93.N k93.H := rcall_lvd mixed tabsOk tabsDOk (L := [k4]) (.cons r4 (.nil)) 600 k93 (by kernel_rfl) (Eq.mpr (show _ = (true = true) by kernel_rfl) rfl)
/-- stagepost/lexer.one -/
def k94 : Know := ⟨49, [(.str [41, 41, 41, 41, 41, 41, 41, 41, 41, 41, 41, 41, 41, 41, 41, 41, 41, 41, 41, 41, 41, 41, 41, 41, 41, 41, 41, 41])], (.tup [(.agg [(.int .u8 4), (.str [41]), (.int .u64 0), (.int .i64 0)]), (.int .i64 1), (.int .i64 0)]), 2, []⟩
theorem r94 : RCall Tryz.prog k94.f k94.args k94.v k94.N k94.H := rcall_lvd mixed tabsOk tabsDOk (L := [k4]) (.cons r4 (.nil)) 600 k94 (by kernel_rfl) (Eq.mpr (show _ = (true = true) by kernel_rfl) rfl)
/-- stagepost/lexer.one -/
def k95 : Know := ⟨49, [(.str [41, 41, 41, 41, 41, 41, 41, 41, 41, 41, 41, 41, 41, 41, 41, 41, 41, 41, 41, 41, 41, 41, 41, 41, 41, 41, 41])], (.tup [(.agg [(.int .u8 4), (.str [41]), (.int .u64 0), (.int .i64 0)]), (.int .i64 1), (.int .i64 0)]), 2, []⟩
theorem r95 : RCall Tryz.prog k95.f k95.args k95.v k95.N k95.H := rcall_lvd mixed tabsOk tabsDOk (L := [k4]) (.cons r4 (.nil)) 600 k95 (by kernel_rfl) (Eq.mpr (show _ = (true = true) by kernel_rfl) rfl)
/-- stagepost/lexer.one -/
def k96 : Know := ⟨49, [(.str [41, 41, 41, 41, 41, 41, 41, 41, 41, 41, 41, 41, 41, 41, 41, 41, 41, 41, 41, 41, 41, 41, 41, 41, 41, 41])], (.tup [(.agg [(.int .u8 4), (.str [41]), (.int .u64 0), (.int .i64 0)]), (.int .i64 1), (.int .i64 0)]), 2, []⟩
theorem r96 : RCall Tryz.prog k96.f k96.args k96.v k96.N k96.H := rcall_lvd mixed tabsOk tabsDOk (L := [k4]) (.cons r4 (.nil)) 600 k96 (by kernel_rfl) (Eq.mpr (show _ = (true = true) by kernel_rfl) rfl)
/-- stagepost/lexer.one -/
def k97 : Know := ⟨49, [(.str [41, 41, 41, 41, 41, 41, 41, 41, 41, 41, 41, 41, 41, 41, 41, 41, 41, 41, 41, 41, 41, 41, 41, 41, 41])], (.tup [(.agg [(.int .u8 4), (.str [41]), (.int .u64 0), (.int .i64 0)]), (.int .i64 1), (.int .i64 0)]), 2, []⟩
theorem r97 : RCall Tryz.prog k97.f k97.args k97.v k97.N k97.H := rcall_lvd mixed tabsOk tabsDOk (L := [k4]) (.cons r4 (.nil)) 600 k97 (by kernel_rfl) (Eq.mpr (show _ = (true = true) by kernel_rfl) rfl)
/-- stagepost/lexer.one -/
def k98 : Know := ⟨49, [(.str [41, 41, 41, 41, 41, 41, 41, 41, 41, 41, 41, 41, 41, 41, 41, 41, 41, 41, 41, 41, 41, 41, 41, 41])], (.tup [(.agg [(.int .u8 4), (.str [41]), (.int .u64 0), (.int .i64 0)]), (.int .i64 1), (.int .i64 0)]), 2, []⟩
theorem r98 : RCall Tryz.prog k98.f k98.args k98.v k98.N k98.H := rcall_lvd mixed tabsOk tabsDOk (L := [k4]) (.cons r4 (.nil)) 600 k98 (by kernel_rfl) (Eq.mpr (show _ = (true = true) by kernel_rfl) rfl)
/-- stagepost/lexer.one -/
def k99 : Know := ⟨49, [(.str [41, 41, 41, 41, 41, 41, 41, 41, 41, 41, 41, 41, 41, 41, 41, 41, 41, 41, 41, 41, 41, 41, 41])], (.tup [(.agg [(.int .u8 4), (.str [41]), (.int .u64 0), (.int .i64 0)]), (.int .i64 1), (.int .i64 0)]), 2, []⟩
theorem r99 : RCall Tryz.prog k99.f k99.args k99.v k99.N k99.H := rcall_lvd mixed tabsOk tabsDOk (L := [k4]) (.cons r4 (.nil)) 600 k99 (by kernel_rfl) (Eq.mpr (show _ = (true = true) by kernel_rfl) rfl)
/-- stagepost/lexer.one -/
def k100 : Know := ⟨49, [(.str [41, 41, 41, 41, 41, 41, 41, 41, 41, 41, 41, 41, 41, 41, 41, 41, 41, 41, 41, 41, 41, 41])], (.tup [(.agg [(.int .u8 4), (.str [41]), (.int .u64 0), (.int .i64 0)]), (.int .i64 1), (.int .i64 0)]), 2, []⟩
theorem r100 : RCall Tryz.prog k100.f k100.args k100.v k100.N k100.H := rcall_lvd mixed tabsOk tabsDOk (L := [k4]) (.cons r4 (.nil)) 600 k100 (by kernel_rfl) (Eq.mpr (show _ = (true = true) by kernel_rfl) rfl)
/-- stagepost/lexer.one -/
def k101 : Know := ⟨49, [(.str [41, 41, 41, 41, 41, 41, 41, 41, 41, 41, 41, 41, 41, 41, 41, 41, 41, 41, 41, 41, 41])], (.tup [(.agg [(.int .u8 4), (.str [41]), (.int .u64 0), (.int .i64 0)]), (.int .i64 1), (.int .i64 0)]), 2, []⟩
theorem r101 : RCall Tryz.prog k101.f k101.args k101.v k101.N k101.H := rcall_lvd mixed tabsOk tabsDOk (L := [k4]) (.cons r4 (.nil)) 600 k101 (by kernel_rfl) (Eq.mpr (show _ = (true = true) by kernel_rfl) rfl)
/-- stagepost/lexer.one -/
def k102 : Know := ⟨49, [(.str [41, 41, 41, 41, 41, 41, 41, 41, 41, 41, 41, 41, 41, 41, 41, 41, 41, 41, 41, 41])], (.tup [(.agg [(.int .u8 4), (.str [41]), (.int .u64 0), (.int .i64 0)]), (.int .i64 1), (.int .i64 0)]), 2, []⟩
theorem r102 : RCall Tryz.prog k102.f k102.args k102.v k102.N k102.H := rcall_lvd mixed tabsOk tabsDOk (L := [k4]) (.cons r4 (.nil)) 600 k102 (by kernel_rfl) (Eq.mpr (show _ = (true = true) by kernel_rfl) rfl)
/-- stagepost/lexer.one -/
def k103 : Know := ⟨49, [(.str [41, 41, 41, 41, 41, 41, 41, 41, 41, 41, 41, 41, 41, 41, 41, 41, 41, 41, 41])], (.tup [(.agg [(.int .u8 4), (.str [41]), (.int .u64 0), (.int .i64 0)]), (.int .i64 1), (.int .i64 0)]), 2, []⟩
theorem r103 : RCall Tryz.prog k103.f k103.args k103.v k103.N k103.H := rcall_lvd mixed tabsOk tabsDOk (L := [k4]) (.cons r4 (.nil)) 600 k103 (by kernel_rfl) (Eq.mpr (show _ = (true = true) by kernel_rfl) rfl)
/-- stagepost/lexer.one -/
def k104 : Know := ⟨49, [(.str [41, 41, 41, 41, 41, 41, 41, 41, 41, 41, 41, 41, 41, 41, 41, 41, 41, 41])], (.tup [(.agg [(.int .u8 4), (.str [41]), (.int .u64 0), (.int .i64 0)]), (.int .i64 1), (.int .i64 0)]), 2, []⟩
theorem r104 : RCall Tryz.prog k104.f k104.args k104.v k104.N k104.H := rcall_lvd mixed tabsOk tabsDOk (L := [k4]) (.cons r4 (.nil)) 600 k104 (by kernel_rfl) (Eq.mpr (show _ = (true = true) by kernel_rfl) rfl)
/-- stagepost/lexer.one -/
def k105 : Know := ⟨49, [(.str [41, 41, 41, 41, 41, 41, 41, 41, 41, 41, 41, 41, 41, 41, 41, 41, 41])], (.tup [(.agg [(.int .u8 4), (.str [41]), (.int .u64 0), (.int .i64 0)]), (.int .i64 1), (.int .i64 0)]), 2, []⟩
theorem r105 : RCall Tryz.prog k105.f k105.args k105.v k105.N k105.H := rcall_lvd mixed tabsOk tabsDOk (L := [k4]) (.cons r4 (.nil)) 600 k105 (by kernel_rfl) (Eq.mpr (show _ = (true = true) by kernel_rfl) rfl)
/-- stagepost/lexer.one -/
def k106 : Know := ⟨49, [(.str [41, 41, 41, 41, 41, 41, 41, 41, 41, 41, 41, 41, 41, 41, 41, 41])], (.tup [(.agg [(.int .u8 4), (.str [41]), (.int .u64 0), (.int .i64 0)]), (.int .i64 1), (.int .i64 0)]), 2, []⟩
theorem r106 : RCall Tryz.prog k106.f k106.args k106.v k106.N k106.H := rcall_lvd mixed tabsOk tabsDOk (L := [k4]) (.cons r4 (.nil)) 600 k106 (by kernel_rfl) (Eq.mpr (show _ = (true = true) by kernel_rfl) rfl)
/-- stagepost/lexer.one -/
def k107 : Know := ⟨49, [(.str [41, 41, 41, 41, 41, 41, 41, 41, 41, 41, 41, 41, 41, 41, 41])], (.tup [(.agg [(.int .u8 4), (.str [41]), (.int .u64 0), (.int .i64 0)]), (.int .i64 1), (.int .i64 0)]), 2, []⟩
theorem r107 : RCall Tryz.prog k107.f k107.args k107.v k107.N k107.H := rcall_lvd mixed tabsOk tabsDOk (L := [k4]) (.cons r4 (.nil)) 600 k107 (by kernel_rfl) (Eq.mpr (show _ = (true = true) by kernel_rfl) rfl)
/-- stagepost/lexer.one -/
def k108 : Know := ⟨49, [(.str [41, 41, 41, 41, 41, 41, 41, 41, 41, 41, 41, 41, 41, 41])], (.tup [(.agg [(.int .u8 4), (.str [41]), (.int .u64 0), (.int .i64 0)]), (.int .i64 1), (.int .i64 0)]), 2, []⟩
theorem r108 : RCall Tryz.prog k108.f k108.args k108.v k108.N k108.H := rcall_lvd mixed tabsOk tabsDOk (L := [k4]) (.cons r4 (.nil)) 600 k108 (by kernel_rfl) (Eq.mpr (show _ = (true = true) by kernel_rfl) rfl)
/-- stagepost/lexer.one -/
def k109 : Know := ⟨49, [(.str [41, 41, 41, 41, 41, 41, 41, 41, 41, 41, 41, 41, 41])], (.tup [(.agg [(.int .u8 4), (.str [41]), (.int .u64 0), (.int .i64 0)]), (.int .i64 1), (.int .i64 0)]), 2, []⟩
theorem r109 : RCall Tryz.prog k109.f k109.args k109.v k109.N k109.H := rcall_lvd mixed tabsOk tabsDOk (L := [k4]) (.cons r4 (.nil)) 600 k109 (by kernel_rfl) (Eq.mpr (show _ = (true = true) by kernel_rfl) rfl)
/-- stagepost/lexer.one -/
def k110 : Know := ⟨49, [(.str [41, 41, 41, 41, 41, 41, 41, 41, 41, 41, 41, 41])], (.tup [(.agg [(.int .u8 4), (.str [41]), (.int .u64 0), (.int .i64 0)]), (.int .i64 1), (.int .i64 0)]), 2, []⟩
theorem r110 : RCall Tryz.prog k110.f k110.args k110.v k110.N k110.H := rcall_lvd mixed tabsOk tabsDOk (L := [k4]) (.cons r4 (.nil)) 600 k110 (by kernel_rfl) (Eq.mpr (show _ = (true = true) by kernel_rfl) rfl)
/-- stagepost/lexer.one -/
def k111 : Know := ⟨49, [(.str [41, 41, 41, 41, 41, 41, 41, 41, 41, 41, 41])], (.tup [(.agg [(.int .u8 4), (.str [41]), (.int .u64 0), (.int .i64 0)]), (.int .i64 1), (.int .i64 0)]), 2, []⟩
theorem r111 : RCall Tryz.prog k111.f k111.args k111.v k111.N k111.H := rcall_lvd mixed tabsOk tabsDOk (L := [k4]) (.cons r4 (.nil)) 600 k111 (by kernel_rfl) (Eq.mpr (show _ = (true = true) by kernel_rfl) rfl)
/-- stagepost/lexer.one -/
def k112 : Know := ⟨49, [(.str [41, 41, 41, 41, 41, 41, 41, 41, 41, 41])], (.tup [(.agg [(.int .u8 4), (.str [41]), (.int .u64 0), (.int .i64 0)]), (.int .i64 1), (.int .i64 0)]), 2, []⟩
theorem r112 : RCall Tryz.prog k112.f k112.args k112.v k112.N k112.H := rcall_lvd mixed tabsOk tabsDOk (L := [k4]) (.cons r4 (.nil)) 600 k112 (by kernel_rfl) (Eq.mpr (show _ = (true = true) by kernel_rfl) rfl)
/-- stagepost/lexer.one -/
def k113 : Know := ⟨49, [(.str [41, 41, 41, 41, 41, 41, 41, 41, 41])], (.tup [(.agg [(.int .u8 4), (.str [41]), (.int .u64 0), (.int .i64 0)]), (.int .i64 1), (.int .i64 0)]), 2, []⟩
theorem r113 : RCall Tryz.prog k113.f k113.args k113.v k113.N k113.H := rcall_lvd mixed tabsOk tabsDOk (L := [k4]) (.cons r4 (.nil)) 600 k113 (by kernel_rfl) (Eq.mpr (show _ = (true = true) by kernel_rfl) rfl)
/-- stagepost/lexer.one -/
def k114 : Know := ⟨49, [(.str [41, 41, 41, 41, 41, 41, 41, 41])], (.tup [(.agg [(.int .u8 4), (.str [41]), (.int .u64 0), (.int .i64 0)]), (.int .i64 1), (.int .i64 0)]), 2, []⟩
theorem r114 : RCall Tryz.prog k114.f k114.args k114.v k114.N k114.H := rcall_lvd mixed tabsOk tabsDOk (L := [k4]) (.cons r4 (.nil)) 600 k114 (by kernel_rfl) (Eq.mpr (show _ = (true = true) by kernel_rfl) rfl)
/-- stagepost/lexer.one -/
def k115 : Know := ⟨49, [(.str [41, 41, 41, 41, 41, 41, 41])], (.tup [(.agg [(.int .u8 4), (.str [41]), (.int .u64 0), (.int .i64 0)]), (.int .i64 1), (.int .i64 0)]), 2, []⟩
theorem r115 : RCall Tryz.prog k115.f k115.args k115.v k115.N k115.H := rcall_lvd mixed tabsOk tabsDOk (L := [k4]) (.cons r4 (.nil)) 600 k115 (by kernel_rfl) (Eq.mpr (show _ = (true = true) by kernel_rfl) rfl)
/-- stagepost/lexer.one -/
def k116 : Know := ⟨49, [(.str [41, 41, 41, 41, 41, 41])], (.tup [(.agg [(.int .u8 4), (.str [41]), (.int .u64 0), (.int .i64 0)]), (.int .i64 1), (.int .i64 0)]), 2, []⟩
theorem r116 : RCall Tryz.prog k116.f k116.args k116.v k116.N k116.H := rcall_lvd mixed tabsOk tabsDOk (L := [k4]) (.cons r4 (.nil)) 600 k116 (by kernel_rfl) (Eq.mpr (show _ = (true = true) by kernel_rfl) rfl)
/-- stagepost/lexer.one -/
def k117 : Know := ⟨49, [(.str [41, 41, 41, 41, 41])], (.tup [(.agg [(.int .u8 4), (.str [41]), (.int .u64 0), (.int .i64 0)]), (.int .i64 1), (.int .i64 0)]), 2, []⟩
theorem r117 : RCall Tryz.prog k117.f k117.args k117.v k117.N k117.H := rcall_lvd mixed tabsOk tabsDOk (L := [k4]) (.cons r4 (.nil)) 600 k117 (by kernel_rfl) (Eq.mpr (show _ = (true = true) by kernel_rfl) rfl)
/-- stagepost/lexer.one -/
def k118 : Know := ⟨49, [(.str [41, 41, 41, 41])], (.tup [(.agg [(.int .u8 4), (.str [41]), (.int .u64 0), (.int .i64 0)]), (.int .i64 1), (.int .i64 0)]), 2, []⟩
theorem r118 : RCall Tryz.prog k118.f k118.args k118.v k118.N k118.H := rcall_lvd mixed tabsOk tabsDOk (L := [k4]) (.cons r4 (.nil)) 600 k118 (by kernel_rfl) (Eq.mpr (show _ = (true = true) by kernel_rfl) rfl)
/-- stagepost/lexer.one -/
def k119 : Know := ⟨49, [(.str [41, 41, 41])], (.tup [(.agg [(.int .u8 4), (.str [41]), (.int .u64 0), (.int .i64 0)]), (.int .i64 1), (.int .i64 0)]), 2, []⟩
theorem r119 : RCall Tryz.prog k119.f k119.args k119.v k119.N k119.H := rcall_lvd mixed tabsOk tabsDOk (L := [k4]) (.cons r4 (.nil)) 600 k119 (by kernel_rfl) (Eq.mpr (show _ = (true = true) by kernel_rfl) rfl)
/-- stagepost/lexer.one -/
def k120 : Know := ⟨49, [(.str [41, 41])], (.tup [(.agg [(.int .u8 4), (.str [41]), (.int .u64 0), (.int .i64 0)]), (.int .i64 1), (.int .i64 0)]), 2, []⟩
theorem r120 : RCall Tryz.prog k120.f k120.args k120.v k120.N k120.H := rcall_lvd mixed tabsOk tabsDOk (L := [k4]) (.cons r4 (.nil)) 600 k120 (by kernel_rfl) (Eq.mpr (show _ = (true = true) by kernel_rfl) rfl)
end Go.Proofs.YtoahfaepaojidabGreatDoor
