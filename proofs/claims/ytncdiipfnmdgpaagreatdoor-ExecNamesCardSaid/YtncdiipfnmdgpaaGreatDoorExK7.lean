/- Known calls, each reckoned by the kernel by itself. -/
import Derived.Test.YtncdiipfnmdgpaaGreatDoorExD3
namespace Go.Proofs.YtncdiipfnmdgpaaGreatDoor
open Ab
set_option maxRecDepth 1000000
set_option maxHeartbeats 0
theorem e9 : K0 [k5] k9 = KT := by kernel_rfl
theorem e20 : K0 [k5] k20 = KT := by kernel_rfl
theorem e34 : K0 [k33,k32,k31,k30,k29,k28,k27,k26,k25,k24,k23,k22,k21,k20,k19,k18,k17,k16,k15,k14,k13,k12,k11,k10,k9,k8,k7,k6,k3,k2,k1] k34 = KT := by kernel_rfl
theorem e71 : K0 [] k71 = KT := by kernel_rfl
theorem e74 : K0 [k73,k71] k74 = KT := by kernel_rfl
theorem e92 : K0 [] k92 = KT := by kernel_rfl
theorem e107 : K0 [k5] k107 = KT := by kernel_rfl
theorem e124 : K0 [] k124 = KT := by kernel_rfl
theorem e125 : K0 [k124] k125 = KT := by kernel_rfl
theorem e134 : K0 [] k134 = KT := by kernel_rfl
theorem e168 : K0 [k5] k168 = KT := by kernel_rfl
theorem e180 : K0 [k173] k180 = KT := by kernel_rfl
theorem e199 : K0 [k5] k199 = KT := by kernel_rfl
theorem e235 : K0 [] k235 = KT := by kernel_rfl
theorem e238 : K0 [k237,k235] k238 = KT := by kernel_rfl
theorem e247 : K0 [] k247 = KT := by kernel_rfl
theorem e257 : K0 [] k257 = KT := by kernel_rfl
theorem e269 : K0 [k268,k39,k37] k269 = KT := by kernel_rfl
theorem e290 : K0 [] k290 = KT := by kernel_rfl
theorem e293 : K0 [] k293 = KT := by kernel_rfl
theorem e295 : K0 [] k295 = KT := by kernel_rfl
theorem e303 : K0 [k5] k303 = KT := by kernel_rfl
theorem e305 : K0 [k5] k305 = KT := by kernel_rfl
theorem e334 : K0 [k333] k334 = KT := by kernel_rfl
theorem e348 : K0 [] k348 = KT := by kernel_rfl
theorem e358 : K0 [k357,k336] k358 = KT := by kernel_rfl
theorem e362 : K0 [] k362 = KT := by kernel_rfl
theorem e369 : K0 [] k369 = KT := by kernel_rfl
theorem e378 : K0 [] k378 = KT := by kernel_rfl
theorem e390 : K0 [k389,k388,k387] k390 = KT := by kernel_rfl
theorem e399 : K0 [] k399 = KT := by kernel_rfl
theorem e433 : K0 [k432,k431,k430,k429] k433 = KT := by kernel_rfl
theorem e444 : K0 [k5] k444 = KT := by kernel_rfl
theorem e478 : K0 [] k478 = KT := by kernel_rfl
theorem e496 : K0 [] k496 = KT := by kernel_rfl
theorem e499 : K0 [k498,k496] k499 = KT := by kernel_rfl
theorem e507 : K0 [] k507 = KT := by kernel_rfl
theorem e513 : K0 [] k513 = KT := by kernel_rfl
theorem e518 : K0 [k517,k511,k253] k518 = KT := by kernel_rfl
theorem e522 : K0 [] k522 = KT := by kernel_rfl
theorem e537 : K0 [] k537 = KT := by kernel_rfl
theorem e544 : K0 [k543,k542,k541,k540,k539,k538,k537,k536,k535,k534,k533,k532] k544 = KT := by kernel_rfl
theorem e566 : K0 [k565] k566 = KT := by kernel_rfl
theorem e579 : K0 [] k579 = KT := by kernel_rfl
theorem e583 : K0 [k582,k172] k583 = KT := by kernel_rfl
theorem e590 : K0 [k589,k178,k175,k173] k590 = KT := by kernel_rfl
theorem e599 : K0 [k598,k596,k592,k590,k584,k284,k280,k255,k253,k252,k248] k599 = KT := by kernel_rfl
end Go.Proofs.YtncdiipfnmdgpaaGreatDoor
