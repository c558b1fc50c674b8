/- Known calls, each reckoned by the kernel by itself. -/
import Derived.Test.YtncdiipfnmdgpaaGreatDoorExD3
namespace Go.Proofs.YtncdiipfnmdgpaaGreatDoor
open Ab
set_option maxRecDepth 1000000
set_option maxHeartbeats 0
theorem e6 : K0 [k5] k6 = KT := by kernel_rfl
theorem e23 : K0 [k5] k23 = KT := by kernel_rfl
theorem e24 : K0 [k5] k24 = KT := by kernel_rfl
theorem e35 : K0 [] k35 = KT := by kernel_rfl
theorem e48 : K0 [] k48 = KT := by kernel_rfl
theorem e57 : K0 [k56] k57 = KT := by kernel_rfl
theorem e59 : K0 [] k59 = KT := by kernel_rfl
theorem e72 : K0 [] k72 = KT := by kernel_rfl
theorem e99 : K0 [] k99 = KT := by kernel_rfl
theorem e117 : K0 [k116] k117 = KT := by kernel_rfl
theorem e126 : K0 [k125,k123] k126 = KT := by kernel_rfl
theorem e139 : K0 [] k139 = KT := by kernel_rfl
theorem e164 : K0 [] k164 = KT := by kernel_rfl
theorem e179 : K0 [k178,k177] k179 = KT := by kernel_rfl
theorem e192 : K0 [k191,k189,k185,k183,k179,k177,k42] k192 = KT := by kernel_rfl
theorem e195 : K0 [k5] k195 = KT := by kernel_rfl
theorem e197 : K0 [k5] k197 = KT := by kernel_rfl
theorem e223 : K0 [] k223 = KT := by kernel_rfl
theorem e246 : K0 [] k246 = KT := by kernel_rfl
theorem e251 : K0 [] k251 = KT := by kernel_rfl
theorem e288 : K0 [k287] k288 = KT := by kernel_rfl
theorem e306 : K0 [] k306 = KT := by kernel_rfl
theorem e308 : K0 [k307,k306,k305,k304,k303,k302,k301,k300,k299,k298,k297,k296,k295,k294,k293,k292,k291,k290,k289,k72] k308 = KT := by kernel_rfl
theorem e310 : K0 [k36] k310 = KT := by kernel_rfl
theorem e326 : K0 [k325] k326 = KT := by kernel_rfl
theorem e335 : K0 [k334,k332] k335 = KT := by kernel_rfl
theorem e373 : K0 [k372,k371,k365] k373 = KT := by kernel_rfl
theorem e374 : K0 [] k374 = KT := by kernel_rfl
theorem e404 : K0 [] k404 = KT := by kernel_rfl
theorem e421 : K0 [] k421 = KT := by kernel_rfl
theorem e424 : K0 [] k424 = KT := by kernel_rfl
theorem e438 : K0 [] k438 = KT := by kernel_rfl
theorem e445 : K0 [] k445 = KT := by kernel_rfl
theorem e454 : K0 [] k454 = KT := by kernel_rfl
theorem e467 : K0 [] k467 = KT := by kernel_rfl
theorem e470 : K0 [] k470 = KT := by kernel_rfl
theorem e472 : K0 [] k472 = KT := by kernel_rfl
theorem e479 : K0 [] k479 = KT := by kernel_rfl
theorem e491 : K0 [k490,k39,k38,k37] k491 = KT := by kernel_rfl
theorem e493 : K0 [] k493 = KT := by kernel_rfl
theorem e506 : K0 [k505,k172] k506 = KT := by kernel_rfl
theorem e526 : K0 [k525,k524] k526 = KT := by kernel_rfl
theorem e556 : K0 [] k556 = KT := by kernel_rfl
theorem e575 : K0 [k5] k575 = KT := by kernel_rfl
theorem e580 : K0 [] k580 = KT := by kernel_rfl
theorem e589 : K0 [] k589 = KT := by kernel_rfl
theorem e598 : K0 [k597,k595,k258] k598 = KT := by kernel_rfl
end Go.Proofs.YtncdiipfnmdgpaaGreatDoor
