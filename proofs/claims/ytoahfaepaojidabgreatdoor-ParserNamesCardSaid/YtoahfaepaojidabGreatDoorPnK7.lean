/- Calls that are known, each reckoned by the kernel out of those before it. -/
import Derived.Test.YtoahfaepaojidabGreatDoorPnK3
namespace Go.Proofs.YtoahfaepaojidabGreatDoor
open Ab
set_option maxRecDepth 1000000
set_option maxHeartbeats 0
attribute [local irreducible] lvd
/-- stagepost/parser.Expr -/
def k122 : Know := ⟨13, [(.str (40 :: 40 :: 40 :: 40 :: 40 :: 40 :: 40 :: 40 :: 40 :: 40 :: 40 :: 40 :: 40 :: 40 :: 40 :: 40 :: 40 :: 40 :: 40 :: 40 :: 40 :: 40 :: 40 :: 40 :: 40 :: 40 :: 40 :: 40 :: 40 :: 40 :: 40 :: 40 :: 40 :: 40 :: 40 :: 40 :: 40 :: 40 :: 40 :: 40 :: 40 :: 49 :: 41 :: 41 :: 41 :: 41 :: 41 :: 41 :: 41 :: 41 :: 41 :: 41 :: 41 :: 41 :: 41 :: 41 :: 41 :: 41 :: 41 :: 41 :: 41 :: 41 :: 41 :: 41 :: 41 :: 41 :: 41 :: 41 :: 41 :: 41 :: 41 :: 41 :: 41 :: 41 :: 41 :: 41 :: 41 :: 41 :: 41 :: 41 :: 41 :: 41 :: 41 :: []))], (.tup [(.agg [(.int .u8 0), (.int .u8 0), (.int .i64 0), (.str []), (.str []), (.str []), (.int .i64 0), (.int .u8 0), .nils]), (.agg [(.int .i64 241), (.int .i64 40)])]), 1647, []⟩
theorem r122 : RCall Tryz.prog k122.f k122.args k122.v k122.N k122.H := rcall_lvd mixed tabsOk tabsDOk (L := [k121]) (.cons r121 (.nil)) 600 k122 (by kernel_rfl) (Eq.mpr (show _ = (true = true) by kernel_rfl) rfl)
end Go.Proofs.YtoahfaepaojidabGreatDoor
