/- Known calls, each reckoned by the kernel by itself. -/
import Derived.Test.YtncdiipfnmdgpaaGreatDoorPlD1
namespace Go.Proofs.YtncdiipfnmdgpaaGreatDoor
open Ab
set_option maxRecDepth 1000000
set_option maxHeartbeats 0
theorem e21 : K0 [k4] k21 = KT := by kernel_rfl
theorem e41 : K0 [] k41 = KT := by kernel_rfl
theorem e51 : K0 [k14] k51 = KT := by kernel_rfl
theorem e56 : K0 [k55] k56 = KT := by kernel_rfl
theorem e62 : K0 [] k62 = KT := by kernel_rfl
theorem e69 : K0 [k68,k66] k69 = KT := by kernel_rfl
theorem e84 : K0 [k83] k84 = KT := by kernel_rfl
theorem e87 : K0 [] k87 = KT := by kernel_rfl
theorem e94 : K0 [] k94 = KT := by kernel_rfl
theorem e101 : K0 [k100,k98] k101 = KT := by kernel_rfl
theorem e103 : K0 [] k103 = KT := by kernel_rfl
theorem e106 : K0 [k4] k106 = KT := by kernel_rfl
theorem e110 : K0 [] k110 = KT := by kernel_rfl
theorem e111 : K0 [] k111 = KT := by kernel_rfl
theorem e120 : K0 [k4] k120 = KT := by kernel_rfl
theorem e122 : K0 [k4] k122 = KT := by kernel_rfl
theorem e124 : K0 [k123,k51,k50,k16,k15] k124 = KT := by kernel_rfl
theorem e142 : K0 [] k142 = KT := by kernel_rfl
theorem e153 : K0 [] k153 = KT := by kernel_rfl
theorem e186 : K0 [k185] k186 = KT := by kernel_rfl
theorem e189 : K0 [k4] k189 = KT := by kernel_rfl
theorem e193 : K0 [] k193 = KT := by kernel_rfl
theorem e196 : K0 [] k196 = KT := by kernel_rfl
theorem e203 : K0 [k202,k200] k203 = KT := by kernel_rfl
theorem e206 : K0 [k205,k204,k203,k200,k199,k196,k195,k192,k191,k188,k187,k184,k89,k86,k65,k62] k206 = KT := by kernel_rfl
theorem e214 : K0 [k213,k212,k211,k210,k209,k1] k214 = KT := by kernel_rfl
theorem e218 : K0 [] k218 = KT := by kernel_rfl
theorem e219 : K0 [] k219 = KT := by kernel_rfl
theorem e229 : K0 [k228,k50,k16,k15] k229 = KT := by kernel_rfl
theorem e239 : K0 [k4] k239 = KT := by kernel_rfl
theorem e246 : K0 [k245,k183] k246 = KT := by kernel_rfl
theorem e248 : K0 [] k248 = KT := by kernel_rfl
theorem e262 : K0 [k4] k262 = KT := by kernel_rfl
theorem e268 : K0 [k267] k268 = KT := by kernel_rfl
theorem e271 : K0 [] k271 = KT := by kernel_rfl
theorem e284 : K0 [] k284 = KT := by kernel_rfl
theorem e285 : K0 [] k285 = KT := by kernel_rfl
theorem e314 : K0 [k313,k310,k271,k270,k243,k242,k233,k230,k199,k196,k195,k192,k191,k188,k187,k184,k73,k70,k65,k62] k314 = KT := by kernel_rfl
theorem e322 : K0 [] k322 = KT := by kernel_rfl
theorem e330 : K0 [] k330 = KT := by kernel_rfl
theorem e337 : K0 [] k337 = KT := by kernel_rfl
theorem e338 : K0 [k4] k338 = KT := by kernel_rfl
theorem e346 : K0 [] k346 = KT := by kernel_rfl
theorem e349 : K0 [] k349 = KT := by kernel_rfl
end Go.Proofs.YtncdiipfnmdgpaaGreatDoor
