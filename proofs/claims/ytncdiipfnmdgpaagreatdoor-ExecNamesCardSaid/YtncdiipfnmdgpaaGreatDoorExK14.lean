/- Known calls, each reckoned by the kernel by itself. -/
import Derived.Test.YtncdiipfnmdgpaaGreatDoorExD3
namespace Go.Proofs.YtncdiipfnmdgpaaGreatDoor
open Ab
set_option maxRecDepth 1000000
set_option maxHeartbeats 0
theorem e10 : K0 [] k10 = KT := by kernel_rfl
theorem e36 : K0 [k35] k36 = KT := by kernel_rfl
theorem e41 : K0 [k36] k41 = KT := by kernel_rfl
theorem e42 : K0 [k41,k40,k39,k38,k37,k34] k42 = KT := by kernel_rfl
theorem e44 : K0 [] k44 = KT := by kernel_rfl
theorem e52 : K0 [] k52 = KT := by kernel_rfl
theorem e62 : K0 [k61,k59] k62 = KT := by kernel_rfl
theorem e73 : K0 [k72] k73 = KT := by kernel_rfl
theorem e94 : K0 [] k94 = KT := by kernel_rfl
theorem e115 : K0 [] k115 = KT := by kernel_rfl
theorem e150 : K0 [k5] k150 = KT := by kernel_rfl
theorem e152 : K0 [] k152 = KT := by kernel_rfl
theorem e156 : K0 [] k156 = KT := by kernel_rfl
theorem e186 : K0 [k173] k186 = KT := by kernel_rfl
theorem e189 : K0 [k188,k187,k186] k189 = KT := by kernel_rfl
theorem e226 : K0 [k225,k223] k226 = KT := by kernel_rfl
theorem e237 : K0 [k236] k237 = KT := by kernel_rfl
theorem e242 : K0 [] k242 = KT := by kernel_rfl
theorem e263 : K0 [] k263 = KT := by kernel_rfl
theorem e264 : K0 [] k264 = KT := by kernel_rfl
theorem e284 : K0 [] k284 = KT := by kernel_rfl
theorem e302 : K0 [] k302 = KT := by kernel_rfl
theorem e324 : K0 [] k324 = KT := by kernel_rfl
theorem e349 : K0 [] k349 = KT := by kernel_rfl
theorem e359 : K0 [k358,k172] k359 = KT := by kernel_rfl
theorem e360 : K0 [k244,k243,k242] k360 = KT := by kernel_rfl
theorem e384 : K0 [] k384 = KT := by kernel_rfl
theorem e411 : K0 [] k411 = KT := by kernel_rfl
theorem e414 : K0 [k413,k412,k411,k410,k409,k408,k407,k406,k405,k404,k403,k402,k401,k400,k399,k398] k414 = KT := by kernel_rfl
theorem e455 : K0 [] k455 = KT := by kernel_rfl
theorem e457 : K0 [k456,k454] k457 = KT := by kernel_rfl
theorem e474 : K0 [k473,k471,k469,k468,k467] k474 = KT := by kernel_rfl
theorem e488 : K0 [k5] k488 = KT := by kernel_rfl
theorem e489 : K0 [] k489 = KT := by kernel_rfl
theorem e498 : K0 [k497] k498 = KT := by kernel_rfl
theorem e509 : K0 [k508,k507,k467,k244] k509 = KT := by kernel_rfl
theorem e525 : K0 [] k525 = KT := by kernel_rfl
theorem e539 : K0 [] k539 = KT := by kernel_rfl
theorem e540 : K0 [] k540 = KT := by kernel_rfl
theorem e553 : K0 [k552,k550,k549,k546,k423,k420,k335,k332,k271,k270,k238,k235,k230,k227,k214,k211,k74,k71,k62,k59,k54,k51] k553 = KT := by kernel_rfl
theorem e555 : K0 [k554,k172] k555 = KT := by kernel_rfl
theorem e565 : K0 [k564,k559,k555,k545,k192] k565 = KT := by kernel_rfl
theorem e571 : K0 [] k571 = KT := by kernel_rfl
theorem e585 : K0 [] k585 = KT := by kernel_rfl
theorem e591 : K0 [] k591 = KT := by kernel_rfl
theorem e595 : K0 [] k595 = KT := by kernel_rfl
theorem e597 : K0 [] k597 = KT := by kernel_rfl
theorem e600 : K0 [k599,k593,k588] k600 = KT := by kernel_rfl
end Go.Proofs.YtncdiipfnmdgpaaGreatDoor
