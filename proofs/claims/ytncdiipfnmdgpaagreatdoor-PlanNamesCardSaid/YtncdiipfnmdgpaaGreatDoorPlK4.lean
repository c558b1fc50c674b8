/- Known calls, each reckoned by the kernel by itself. -/
import Derived.Test.YtncdiipfnmdgpaaGreatDoorPlD1
namespace Go.Proofs.YtncdiipfnmdgpaaGreatDoor
open Ab
set_option maxRecDepth 1000000
set_option maxHeartbeats 0
theorem e6 : K0 [] k6 = KT := by kernel_rfl
theorem e8 : K0 [] k8 = KT := by kernel_rfl
theorem e16 : K0 [k14] k16 = KT := by kernel_rfl
theorem e18 : K0 [] k18 = KT := by kernel_rfl
theorem e22 : K0 [] k22 = KT := by kernel_rfl
theorem e27 : K0 [k4] k27 = KT := by kernel_rfl
theorem e44 : K0 [] k44 = KT := by kernel_rfl
theorem e49 : K0 [k48,k47,k46,k45,k44,k43,k42,k41,k40,k39,k38,k37,k36,k35,k34,k33,k32,k31,k30,k29,k28,k27,k26,k25,k24,k23,k22,k21,k20,k19,k18] k49 = KT := by kernel_rfl
theorem e61 : K0 [k60,k58] k61 = KT := by kernel_rfl
theorem e80 : K0 [k79] k80 = KT := by kernel_rfl
theorem e82 : K0 [] k82 = KT := by kernel_rfl
theorem e93 : K0 [k92,k90] k93 = KT := by kernel_rfl
theorem e117 : K0 [] k117 = KT := by kernel_rfl
theorem e123 : K0 [k122,k121,k120,k119,k118,k117,k116,k115,k114,k113,k112,k111,k110,k109,k108,k107,k106,k105,k104,k103,k99] k123 = KT := by kernel_rfl
theorem e135 : K0 [] k135 = KT := by kernel_rfl
theorem e136 : K0 [k135] k136 = KT := by kernel_rfl
theorem e141 : K0 [] k141 = KT := by kernel_rfl
theorem e155 : K0 [k4] k155 = KT := by kernel_rfl
theorem e167 : K0 [] k167 = KT := by kernel_rfl
theorem e168 : K0 [k4] k168 = KT := by kernel_rfl
theorem e174 : K0 [] k174 = KT := by kernel_rfl
theorem e184 : K0 [] k184 = KT := by kernel_rfl
theorem e195 : K0 [k194,k192] k195 = KT := by kernel_rfl
theorem e220 : K0 [] k220 = KT := by kernel_rfl
theorem e223 : K0 [] k223 = KT := by kernel_rfl
theorem e231 : K0 [k4] k231 = KT := by kernel_rfl
theorem e240 : K0 [k239] k240 = KT := by kernel_rfl
theorem e243 : K0 [] k243 = KT := by kernel_rfl
theorem e250 : K0 [k249,k248,k247,k213,k209] k250 = KT := by kernel_rfl
theorem e257 : K0 [] k257 = KT := by kernel_rfl
theorem e266 : K0 [] k266 = KT := by kernel_rfl
theorem e276 : K0 [] k276 = KT := by kernel_rfl
theorem e280 : K0 [] k280 = KT := by kernel_rfl
theorem e293 : K0 [k292,k290,k233,k230,k199,k196,k195,k192,k191,k188,k187,k184,k73,k70,k65,k62] k293 = KT := by kernel_rfl
theorem e295 : K0 [k294,k183] k295 = KT := by kernel_rfl
theorem e306 : K0 [] k306 = KT := by kernel_rfl
theorem e313 : K0 [k312,k310] k313 = KT := by kernel_rfl
theorem e318 : K0 [] k318 = KT := by kernel_rfl
theorem e327 : K0 [] k327 = KT := by kernel_rfl
theorem e343 : K0 [k342,k183] k343 = KT := by kernel_rfl
theorem e344 : K0 [] k344 = KT := by kernel_rfl
theorem e345 : K0 [] k345 = KT := by kernel_rfl
theorem e348 : K0 [] k348 = KT := by kernel_rfl
theorem e351 : K0 [k350,k343,k334,k53] k351 = KT := by kernel_rfl
end Go.Proofs.YtncdiipfnmdgpaaGreatDoor
