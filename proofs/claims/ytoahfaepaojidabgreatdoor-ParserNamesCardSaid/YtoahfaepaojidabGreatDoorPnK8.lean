/- Calls that are known, each reckoned by the kernel out of those before it. -/
import Derived.Test.YtoahfaepaojidabGreatDoorPnK4
namespace Go.Proofs.YtoahfaepaojidabGreatDoor
open Ab
set_option maxRecDepth 1000000
set_option maxHeartbeats 0
attribute [local irreducible] lvd
/-- stagepost/parser.Expr -/
def k166 : Know := ⟨13, [(.str (40 :: 40 :: 40 :: 40 :: 40 :: 40 :: 40 :: 40 :: 40 :: 40 :: 40 :: 40 :: 40 :: 40 :: 40 :: 40 :: 40 :: 40 :: 40 :: 40 :: 40 :: 40 :: 40 :: 40 :: 40 :: 40 :: 40 :: 40 :: 40 :: 40 :: 40 :: 40 :: 40 :: 40 :: 40 :: 40 :: 40 :: 40 :: 40 :: 40 :: 49 :: 41 :: 41 :: 41 :: 41 :: 41 :: 41 :: 41 :: 41 :: 41 :: 41 :: 41 :: 41 :: 41 :: 41 :: 41 :: 41 :: 41 :: 41 :: 41 :: 41 :: 41 :: 41 :: 41 :: 41 :: 41 :: 41 :: 41 :: 41 :: 41 :: 41 :: 41 :: 41 :: 41 :: 41 :: 41 :: 41 :: 41 :: 41 :: 41 :: 41 :: []))], (.tup [(.agg [(.int .u8 1), (.int .u8 2), (.int .i64 1), (.str []), (.str []), (.str []), (.int .i64 0), (.int .u8 0), .nils]), (.agg [(.int .i64 0), (.int .i64 0)])]), 2575, []⟩
theorem r166 : RCall Tryz.prog k166.f k166.args k166.v k166.N k166.H := rcall_lvd mixed tabsOk tabsDOk (L := [k165]) (.cons r165 (.nil)) 600 k166 (by kernel_rfl) (Eq.mpr (show _ = (true = true) by kernel_rfl) rfl)
end Go.Proofs.YtoahfaepaojidabGreatDoor
