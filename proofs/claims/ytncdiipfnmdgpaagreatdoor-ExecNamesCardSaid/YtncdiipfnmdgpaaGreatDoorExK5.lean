/- Known calls, each reckoned by the kernel by itself. -/
import Derived.Test.YtncdiipfnmdgpaaGreatDoorExD3
namespace Go.Proofs.YtncdiipfnmdgpaaGreatDoor
open Ab
set_option maxRecDepth 1000000
set_option maxHeartbeats 0
theorem e7 : K0 [] k7 = KT := by kernel_rfl
theorem e31 : K0 [] k31 = KT := by kernel_rfl
theorem e32 : K0 [k5] k32 = KT := by kernel_rfl
theorem e33 : K0 [k5] k33 = KT := by kernel_rfl
theorem e39 : K0 [k36] k39 = KT := by kernel_rfl
theorem e46 : K0 [k45,k43] k46 = KT := by kernel_rfl
theorem e50 : K0 [k49,k47] k50 = KT := by kernel_rfl
theorem e61 : K0 [k60] k61 = KT := by kernel_rfl
theorem e79 : K0 [] k79 = KT := by kernel_rfl
theorem e93 : K0 [] k93 = KT := by kernel_rfl
theorem e113 : K0 [k112,k40,k39,k38,k37] k113 = KT := by kernel_rfl
theorem e136 : K0 [k135,k41,k40,k37] k136 = KT := by kernel_rfl
theorem e154 : K0 [] k154 = KT := by kernel_rfl
theorem e160 : K0 [] k160 = KT := by kernel_rfl
theorem e178 : K0 [] k178 = KT := by kernel_rfl
theorem e183 : K0 [k182,k181,k180] k183 = KT := by kernel_rfl
theorem e200 : K0 [k5] k200 = KT := by kernel_rfl
theorem e209 : K0 [k208,k207,k206,k205,k204,k203,k202,k201,k200,k199,k198,k197,k196,k195,k194,k193,k60] k209 = KT := by kernel_rfl
theorem e214 : K0 [k213,k211] k214 = KT := by kernel_rfl
theorem e225 : K0 [k224] k225 = KT := by kernel_rfl
theorem e258 : K0 [] k258 = KT := by kernel_rfl
theorem e265 : K0 [k5] k265 = KT := by kernel_rfl
theorem e300 : K0 [] k300 = KT := by kernel_rfl
theorem e312 : K0 [] k312 = KT := by kernel_rfl
theorem e325 : K0 [] k325 = KT := by kernel_rfl
theorem e347 : K0 [] k347 = KT := by kernel_rfl
theorem e380 : K0 [] k380 = KT := by kernel_rfl
theorem e389 : K0 [] k389 = KT := by kernel_rfl
theorem e401 : K0 [k5] k401 = KT := by kernel_rfl
theorem e409 : K0 [] k409 = KT := by kernel_rfl
theorem e412 : K0 [k5] k412 = KT := by kernel_rfl
theorem e413 : K0 [] k413 = KT := by kernel_rfl
theorem e419 : K0 [k418,k416] k419 = KT := by kernel_rfl
theorem e428 : K0 [k427,k172] k428 = KT := by kernel_rfl
theorem e432 : K0 [] k432 = KT := by kernel_rfl
theorem e447 : K0 [] k447 = KT := by kernel_rfl
theorem e456 : K0 [k455] k456 = KT := by kernel_rfl
theorem e475 : K0 [k473,k471,k469,k468,k467] k475 = KT := by kernel_rfl
theorem e480 : K0 [] k480 = KT := by kernel_rfl
theorem e514 : K0 [k513,k385,k282] k514 = KT := by kernel_rfl
theorem e515 : K0 [] k515 = KT := by kernel_rfl
theorem e530 : K0 [k529,k527,k510] k530 = KT := by kernel_rfl
theorem e534 : K0 [] k534 = KT := by kernel_rfl
theorem e536 : K0 [] k536 = KT := by kernel_rfl
theorem e546 : K0 [] k546 = KT := by kernel_rfl
theorem e574 : K0 [] k574 = KT := by kernel_rfl
end Go.Proofs.YtncdiipfnmdgpaaGreatDoor
