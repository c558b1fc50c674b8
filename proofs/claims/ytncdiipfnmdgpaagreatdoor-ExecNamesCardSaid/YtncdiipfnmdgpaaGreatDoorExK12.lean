/- Known calls, each reckoned by the kernel by itself. -/
import Derived.Test.YtncdiipfnmdgpaaGreatDoorExD3
namespace Go.Proofs.YtncdiipfnmdgpaaGreatDoor
open Ab
set_option maxRecDepth 1000000
set_option maxHeartbeats 0
theorem e11 : K0 [] k11 = KT := by kernel_rfl
theorem e18 : K0 [k5] k18 = KT := by kernel_rfl
theorem e25 : K0 [] k25 = KT := by kernel_rfl
theorem e28 : K0 [] k28 = KT := by kernel_rfl
theorem e82 : K0 [k81,k79] k82 = KT := by kernel_rfl
theorem e84 : K0 [] k84 = KT := by kernel_rfl
theorem e91 : K0 [k90,k87,k86,k83,k82,k79,k78,k75,k74,k71,k70,k67,k66,k63,k62,k59,k58,k55,k54,k51,k50,k47,k46,k43] k91 = KT := by kernel_rfl
theorem e104 : K0 [k5] k104 = KT := by kernel_rfl
theorem e106 : K0 [] k106 = KT := by kernel_rfl
theorem e108 : K0 [] k108 = KT := by kernel_rfl
theorem e111 : K0 [k5] k111 = KT := by kernel_rfl
theorem e112 : K0 [k111,k110,k109,k108,k107,k106,k105,k104,k103,k102,k101,k100,k99,k98,k97,k96,k95,k94,k93,k92,k88] k112 = KT := by kernel_rfl
theorem e119 : K0 [] k119 = KT := by kernel_rfl
theorem e120 : K0 [] k120 = KT := by kernel_rfl
theorem e151 : K0 [] k151 = KT := by kernel_rfl
theorem e169 : K0 [k168,k167,k166,k165,k164,k163,k162,k161,k160,k159,k158,k157,k156,k155,k154,k153,k152,k151,k150,k149,k148,k147,k146,k145,k144,k143,k142,k141,k140,k139,k138] k169 = KT := by kernel_rfl
theorem e184 : K0 [] k184 = KT := by kernel_rfl
theorem e191 : K0 [k190,k189] k191 = KT := by kernel_rfl
theorem e194 : K0 [] k194 = KT := by kernel_rfl
theorem e196 : K0 [] k196 = KT := by kernel_rfl
theorem e202 : K0 [k5] k202 = KT := by kernel_rfl
theorem e216 : K0 [] k216 = KT := by kernel_rfl
theorem e217 : K0 [k216] k217 = KT := by kernel_rfl
theorem e248 : K0 [k247,k177,k173] k248 = KT := by kernel_rfl
theorem e253 : K0 [] k253 = KT := by kernel_rfl
theorem e262 : K0 [k261] k262 = KT := by kernel_rfl
theorem e268 : K0 [k267,k266,k265,k264,k263,k52] k268 = KT := by kernel_rfl
theorem e271 : K0 [] k271 = KT := by kernel_rfl
theorem e276 : K0 [k275,k272,k271,k270,k230,k227,k214,k211,k74,k71,k54,k51] k276 = KT := by kernel_rfl
theorem e283 : K0 [] k283 = KT := by kernel_rfl
theorem e315 : K0 [k314,k312] k315 = KT := by kernel_rfl
theorem e328 : K0 [] k328 = KT := by kernel_rfl
theorem e340 : K0 [] k340 = KT := by kernel_rfl
theorem e368 : K0 [] k368 = KT := by kernel_rfl
theorem e379 : K0 [k378,k377,k369] k379 = KT := by kernel_rfl
theorem e392 : K0 [] k392 = KT := by kernel_rfl
theorem e396 : K0 [k395,k361,k360,k359,k311,k192] k396 = KT := by kernel_rfl
theorem e397 : K0 [k396] k397 = KT := by kernel_rfl
theorem e422 : K0 [k421] k422 = KT := by kernel_rfl
theorem e434 : K0 [] k434 = KT := by kernel_rfl
theorem e441 : K0 [] k441 = KT := by kernel_rfl
theorem e464 : K0 [k463,k462,k461,k458,k457,k454,k453,k450,k271,k270,k90,k87,k70,k67,k58,k55,k54,k51] k464 = KT := by kernel_rfl
theorem e483 : K0 [] k483 = KT := by kernel_rfl
theorem e490 : K0 [k489,k488,k487,k486,k485,k484,k483,k482,k481,k480,k479,k478] k490 = KT := by kernel_rfl
theorem e523 : K0 [] k523 = KT := by kernel_rfl
theorem e543 : K0 [] k543 = KT := by kernel_rfl
theorem e549 : K0 [k548,k546] k549 = KT := by kernel_rfl
end Go.Proofs.YtncdiipfnmdgpaaGreatDoor
