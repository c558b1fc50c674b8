/- Known calls, each reckoned by the kernel by itself. -/
import Derived.Test.YtncdiipfnmdgpaaGreatDoorPlD1
namespace Go.Proofs.YtncdiipfnmdgpaaGreatDoor
open Ab
set_option maxRecDepth 1000000
set_option maxHeartbeats 0
theorem e1 : K0 [] k1 = KT := by kernel_rfl
theorem e7 : K0 [] k7 = KT := by kernel_rfl
theorem e17 : K0 [k16,k15,k12] k17 = KT := by kernel_rfl
theorem e24 : K0 [k4] k24 = KT := by kernel_rfl
theorem e34 : K0 [] k34 = KT := by kernel_rfl
theorem e45 : K0 [k4] k45 = KT := by kernel_rfl
theorem e52 : K0 [k14] k52 = KT := by kernel_rfl
theorem e53 : K0 [k52,k51,k50,k49,k16,k15] k53 = KT := by kernel_rfl
theorem e64 : K0 [k63] k64 = KT := by kernel_rfl
theorem e74 : K0 [] k74 = KT := by kernel_rfl
theorem e75 : K0 [] k75 = KT := by kernel_rfl
theorem e77 : K0 [k76,k74] k77 = KT := by kernel_rfl
theorem e92 : K0 [k91] k92 = KT := by kernel_rfl
theorem e104 : K0 [] k104 = KT := by kernel_rfl
theorem e109 : K0 [k4] k109 = KT := by kernel_rfl
theorem e113 : K0 [] k113 = KT := by kernel_rfl
theorem e114 : K0 [] k114 = KT := by kernel_rfl
theorem e130 : K0 [] k130 = KT := by kernel_rfl
theorem e133 : K0 [k132,k130] k133 = KT := by kernel_rfl
theorem e139 : K0 [] k139 = KT := by kernel_rfl
theorem e144 : K0 [k4] k144 = KT := by kernel_rfl
theorem e156 : K0 [] k156 = KT := by kernel_rfl
theorem e169 : K0 [k4] k169 = KT := by kernel_rfl
theorem e182 : K0 [k181,k148,k125] k182 = KT := by kernel_rfl
theorem e183 : K0 [k182] k183 = KT := by kernel_rfl
theorem e194 : K0 [k193] k194 = KT := by kernel_rfl
theorem e215 : K0 [k214,k208,k53,k17] k215 = KT := by kernel_rfl
theorem e217 : K0 [k4] k217 = KT := by kernel_rfl
theorem e221 : K0 [] k221 = KT := by kernel_rfl
theorem e234 : K0 [] k234 = KT := by kernel_rfl
theorem e237 : K0 [k236,k234] k237 = KT := by kernel_rfl
theorem e249 : K0 [] k249 = KT := by kernel_rfl
theorem e254 : K0 [] k254 = KT := by kernel_rfl
theorem e277 : K0 [] k277 = KT := by kernel_rfl
theorem e286 : K0 [k4] k286 = KT := by kernel_rfl
theorem e287 : K0 [] k287 = KT := by kernel_rfl
theorem e296 : K0 [] k296 = KT := by kernel_rfl
theorem e302 : K0 [] k302 = KT := by kernel_rfl
theorem e303 : K0 [] k303 = KT := by kernel_rfl
theorem e307 : K0 [k4] k307 = KT := by kernel_rfl
theorem e309 : K0 [k308,k50,k15] k309 = KT := by kernel_rfl
theorem e312 : K0 [k311] k312 = KT := by kernel_rfl
theorem e329 : K0 [] k329 = KT := by kernel_rfl
theorem e342 : K0 [k341,k334] k342 = KT := by kernel_rfl
end Go.Proofs.YtncdiipfnmdgpaaGreatDoor
