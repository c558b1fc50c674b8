/- Calls that are known, each reckoned by the kernel out of those before it. -/
import Derived.Test.YtoiplpkifhhiiaaGreatDoorHnK1
import Derived.Test.YtoiplpkifhhiiaaGreatDoorHnK3
namespace Go.Proofs.YtoiplpkifhhiiaaGreatDoor
open Ab
set_option maxRecDepth 1000000
set_option maxHeartbeats 0
attribute [local irreducible] lvm
def k238 : Know := ⟨5,[q1],(.tup [(.agg [(.sl 411 0 5 0 1 none)]),(.agg [(.int .i64 0),(.int .i64 0)])]),439,[(403,(.vec 1 1 [(.int .i64 1),(.int .i64 0)] ⟨true,some 3⟩)),(408,(.vec 0 3 [(.agg [(.str [97]),(.int .u8 2),(.bool true)]),(.agg [(.str [98]),(.int .u8 3),(.bool true)]),(.agg [(.str [99]),(.int .u8 1),(.bool true)])] ⟨true,some 78⟩)),(411,(.vec 0 5 [(.agg [(.str [116]),(.int .i64 1),(.sl 408 0 3 0 3 none),(.sl 403 1 1 0 2 none),(.sl 425 1 4 0 2 none)])] ⟨true,some 36⟩)),(423,(.vec 0 1 [(.int .i64 2)] ⟨true,some 3⟩)),(425,(.vec 1 4 [(.agg [(.str [117]),(.int .i64 1),(.sl 423 0 1 0 1 none),(.bool true)]),(.agg [(.str [105]),(.int .i64 2),(.sl 437 0 1 0 1 none),(.bool false)])] ⟨true,some 80⟩)),(437,(.vec 0 1 [(.int .i64 1)] ⟨true,some 3⟩))]⟩
theorem r238 : RCall Tryz.prog k238.f k238.args k238.v k238.N k238.H := rcall_lvm [] [] mixed tabsOk tabsDOk (L := [k237,k60,k59,k58,k57,k56,k10]) (.cons r237 (.cons r60 (.cons r59 (.cons r58 (.cons r57 (.cons r56 (.cons r10 (.nil)))))))) 600 k238 (by kernel_rfl) (Eq.mpr (show _ = mapsP (true = true) [] by kernel_rfl) (mapsP_ok rfl _))
end Go.Proofs.YtoiplpkifhhiiaaGreatDoor
