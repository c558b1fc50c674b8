/- Known calls, each reckoned by the kernel by itself. -/
import Derived.Test.YtncdiipfnmdgpaaGreatDoorPlD1
namespace Go.Proofs.YtncdiipfnmdgpaaGreatDoor
open Ab
set_option maxRecDepth 1000000
set_option maxHeartbeats 0
theorem e3 : K0 [] k3 = KT := by kernel_rfl
theorem e10 : K0 [k4] k10 = KT := by kernel_rfl
theorem e11 : K0 [] k11 = KT := by kernel_rfl
theorem e12 : K0 [k11,k10,k9,k8,k7,k6,k5,k2] k12 = KT := by kernel_rfl
theorem e26 : K0 [] k26 = KT := by kernel_rfl
theorem e28 : K0 [] k28 = KT := by kernel_rfl
theorem e31 : K0 [] k31 = KT := by kernel_rfl
theorem e35 : K0 [k4] k35 = KT := by kernel_rfl
theorem e38 : K0 [k4] k38 = KT := by kernel_rfl
theorem e58 : K0 [] k58 = KT := by kernel_rfl
theorem e59 : K0 [] k59 = KT := by kernel_rfl
theorem e68 : K0 [k67] k68 = KT := by kernel_rfl
theorem e71 : K0 [] k71 = KT := by kernel_rfl
theorem e81 : K0 [k80,k78] k81 = KT := by kernel_rfl
theorem e90 : K0 [] k90 = KT := by kernel_rfl
theorem e100 : K0 [k99] k100 = KT := by kernel_rfl
theorem e102 : K0 [k101,k98,k97,k94,k93,k90,k89,k86,k85,k82,k81,k78,k77,k74,k73,k70,k69,k66,k65,k62,k61,k58,k57,k54] k102 = KT := by kernel_rfl
theorem e105 : K0 [] k105 = KT := by kernel_rfl
theorem e137 : K0 [k136,k134] k137 = KT := by kernel_rfl
theorem e140 : K0 [] k140 = KT := by kernel_rfl
theorem e145 : K0 [] k145 = KT := by kernel_rfl
theorem e148 : K0 [k147,k138] k148 = KT := by kernel_rfl
theorem e149 : K0 [] k149 = KT := by kernel_rfl
theorem e157 : K0 [] k157 = KT := by kernel_rfl
theorem e161 : K0 [k4] k161 = KT := by kernel_rfl
theorem e175 : K0 [] k175 = KT := by kernel_rfl
theorem e176 : K0 [k4] k176 = KT := by kernel_rfl
theorem e192 : K0 [] k192 = KT := by kernel_rfl
theorem e202 : K0 [k201] k202 = KT := by kernel_rfl
theorem e204 : K0 [] k204 = KT := by kernel_rfl
theorem e210 : K0 [] k210 = KT := by kernel_rfl
theorem e241 : K0 [k240,k238] k241 = KT := by kernel_rfl
theorem e244 : K0 [k243,k242,k241,k238,k237,k234,k233,k230,k205,k204,k199,k196,k195,k192,k191,k188,k187,k184,k89,k86,k73,k70,k65,k62] k244 = KT := by kernel_rfl
theorem e261 : K0 [] k261 = KT := by kernel_rfl
theorem e265 : K0 [k264,k51,k50,k16,k15] k265 = KT := by kernel_rfl
theorem e273 : K0 [k272,k265] k273 = KT := by kernel_rfl
theorem e278 : K0 [k277,k276,k275] k278 = KT := by kernel_rfl
theorem e281 : K0 [k4] k281 = KT := by kernel_rfl
theorem e305 : K0 [k4] k305 = KT := by kernel_rfl
theorem e310 : K0 [] k310 = KT := by kernel_rfl
theorem e311 : K0 [k4] k311 = KT := by kernel_rfl
theorem e324 : K0 [] k324 = KT := by kernel_rfl
theorem e335 : K0 [] k335 = KT := by kernel_rfl
theorem e350 : K0 [k349,k348,k347,k346,k345,k344,k317] k350 = KT := by kernel_rfl
end Go.Proofs.YtncdiipfnmdgpaaGreatDoor
