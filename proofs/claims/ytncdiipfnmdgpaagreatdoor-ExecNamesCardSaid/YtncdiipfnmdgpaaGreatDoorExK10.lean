/- Known calls, each reckoned by the kernel by itself. -/
import Derived.Test.YtncdiipfnmdgpaaGreatDoorExD3
namespace Go.Proofs.YtncdiipfnmdgpaaGreatDoor
open Ab
set_option maxRecDepth 1000000
set_option maxHeartbeats 0
theorem e1 : K0 [] k1 = KT := by kernel_rfl
theorem e2 : K0 [] k2 = KT := by kernel_rfl
theorem e8 : K0 [] k8 = KT := by kernel_rfl
theorem e63 : K0 [] k63 = KT := by kernel_rfl
theorem e78 : K0 [k77,k75] k78 = KT := by kernel_rfl
theorem e98 : K0 [k5] k98 = KT := by kernel_rfl
theorem e103 : K0 [] k103 = KT := by kernel_rfl
theorem e105 : K0 [] k105 = KT := by kernel_rfl
theorem e132 : K0 [] k132 = KT := by kernel_rfl
theorem e153 : K0 [k5] k153 = KT := by kernel_rfl
theorem e173 : K0 [k172] k173 = KT := by kernel_rfl
theorem e177 : K0 [k176,k175,k174] k177 = KT := by kernel_rfl
theorem e198 : K0 [k5] k198 = KT := by kernel_rfl
theorem e213 : K0 [k212] k213 = KT := by kernel_rfl
theorem e227 : K0 [] k227 = KT := by kernel_rfl
theorem e241 : K0 [k240,k172] k241 = KT := by kernel_rfl
theorem e244 : K0 [] k244 = KT := by kernel_rfl
theorem e255 : K0 [] k255 = KT := by kernel_rfl
theorem e260 : K0 [k259,k246] k260 = KT := by kernel_rfl
theorem e266 : K0 [] k266 = KT := by kernel_rfl
theorem e275 : K0 [k274,k272] k275 = KT := by kernel_rfl
theorem e278 : K0 [k277,k172] k278 = KT := by kernel_rfl
theorem e301 : K0 [] k301 = KT := by kernel_rfl
theorem e311 : K0 [k310,k309,k308,k39,k38,k37] k311 = KT := by kernel_rfl
theorem e317 : K0 [k5] k317 = KT := by kernel_rfl
theorem e341 : K0 [] k341 = KT := by kernel_rfl
theorem e346 : K0 [] k346 = KT := by kernel_rfl
theorem e370 : K0 [k369,k368,k367] k370 = KT := by kernel_rfl
theorem e375 : K0 [] k375 = KT := by kernel_rfl
theorem e398 : K0 [] k398 = KT := by kernel_rfl
theorem e402 : K0 [k5] k402 = KT := by kernel_rfl
theorem e410 : K0 [] k410 = KT := by kernel_rfl
theorem e418 : K0 [k417] k418 = KT := by kernel_rfl
theorem e431 : K0 [] k431 = KT := by kernel_rfl
theorem e458 : K0 [] k458 = KT := by kernel_rfl
theorem e459 : K0 [] k459 = KT := by kernel_rfl
theorem e465 : K0 [k464,k449] k465 = KT := by kernel_rfl
theorem e468 : K0 [] k468 = KT := by kernel_rfl
theorem e503 : K0 [k502,k500] k503 = KT := by kernel_rfl
theorem e510 : K0 [] k510 = KT := by kernel_rfl
theorem e531 : K0 [k530,k509,k506,k491,k192] k531 = KT := by kernel_rfl
theorem e535 : K0 [] k535 = KT := by kernel_rfl
theorem e545 : K0 [k544,k39,k38,k37] k545 = KT := by kernel_rfl
theorem e569 : K0 [k5] k569 = KT := by kernel_rfl
theorem e577 : K0 [k576,k575,k574,k573,k572,k571,k570,k569,k568,k567] k577 = KT := by kernel_rfl
theorem e582 : K0 [k581,k578] k582 = KT := by kernel_rfl
theorem e592 : K0 [k591,k190,k187,k173] k592 = KT := by kernel_rfl
theorem e596 : K0 [k595,k594,k256] k596 = KT := by kernel_rfl
end Go.Proofs.YtncdiipfnmdgpaaGreatDoor
