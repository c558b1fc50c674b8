/- Known calls, each reckoned by the kernel by itself. -/
import Derived.Test.YtncdiipfnmdgpaaGreatDoorExD3
namespace Go.Proofs.YtncdiipfnmdgpaaGreatDoor
open Ab
set_option maxRecDepth 1000000
set_option maxHeartbeats 0
theorem e3 : K0 [] k3 = KT := by kernel_rfl
theorem e4 : K0 [] k4 = KT := by kernel_rfl
theorem e12 : K0 [k5] k12 = KT := by kernel_rfl
theorem e26 : K0 [] k26 = KT := by kernel_rfl
theorem e27 : K0 [] k27 = KT := by kernel_rfl
theorem e37 : K0 [k36] k37 = KT := by kernel_rfl
theorem e53 : K0 [k52] k53 = KT := by kernel_rfl
theorem e55 : K0 [] k55 = KT := by kernel_rfl
theorem e64 : K0 [] k64 = KT := by kernel_rfl
theorem e88 : K0 [k5] k88 = KT := by kernel_rfl
theorem e89 : K0 [k88] k89 = KT := by kernel_rfl
theorem e101 : K0 [k5] k101 = KT := by kernel_rfl
theorem e122 : K0 [k121,k119] k122 = KT := by kernel_rfl
theorem e128 : K0 [] k128 = KT := by kernel_rfl
theorem e141 : K0 [k5] k141 = KT := by kernel_rfl
theorem e145 : K0 [] k145 = KT := by kernel_rfl
theorem e176 : K0 [] k176 = KT := by kernel_rfl
theorem e181 : K0 [] k181 = KT := by kernel_rfl
theorem e219 : K0 [] k219 = KT := by kernel_rfl
theorem e220 : K0 [k5] k220 = KT := by kernel_rfl
theorem e228 : K0 [] k228 = KT := by kernel_rfl
theorem e259 : K0 [k258,k257,k256,k255,k254,k253,k252,k250,k248] k259 = KT := by kernel_rfl
theorem e270 : K0 [] k270 = KT := by kernel_rfl
theorem e296 : K0 [] k296 = KT := by kernel_rfl
theorem e321 : K0 [] k321 = KT := by kernel_rfl
theorem e322 : K0 [k321] k322 = KT := by kernel_rfl
theorem e331 : K0 [k330,k328] k331 = KT := by kernel_rfl
theorem e333 : K0 [k5] k333 = KT := by kernel_rfl
theorem e354 : K0 [] k354 = KT := by kernel_rfl
theorem e372 : K0 [] k372 = KT := by kernel_rfl
theorem e385 : K0 [] k385 = KT := by kernel_rfl
theorem e393 : K0 [k392,k391,k385] k393 = KT := by kernel_rfl
theorem e429 : K0 [] k429 = KT := by kernel_rfl
theorem e439 : K0 [] k439 = KT := by kernel_rfl
theorem e448 : K0 [k447,k446,k445,k444,k443,k442,k441,k440,k439,k438,k88] k448 = KT := by kernel_rfl
theorem e450 : K0 [] k450 = KT := by kernel_rfl
theorem e463 : K0 [] k463 = KT := by kernel_rfl
theorem e486 : K0 [] k486 = KT := by kernel_rfl
theorem e504 : K0 [k503,k500,k499,k496,k495,k492,k423,k420,k335,k332,k271,k270,k74,k71,k62,k59,k54,k51] k504 = KT := by kernel_rfl
theorem e519 : K0 [] k519 = KT := by kernel_rfl
theorem e520 : K0 [k519,k515,k255] k520 = KT := by kernel_rfl
theorem e532 : K0 [] k532 = KT := by kernel_rfl
theorem e554 : K0 [k553,k545] k554 = KT := by kernel_rfl
theorem e570 : K0 [] k570 = KT := by kernel_rfl
theorem e576 : K0 [] k576 = KT := by kernel_rfl
theorem e593 : K0 [k592,k590] k593 = KT := by kernel_rfl
end Go.Proofs.YtncdiipfnmdgpaaGreatDoor
