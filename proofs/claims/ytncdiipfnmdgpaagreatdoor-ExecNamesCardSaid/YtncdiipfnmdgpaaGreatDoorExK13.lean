/- Known calls, each reckoned by the kernel by itself. -/
import Derived.Test.YtncdiipfnmdgpaaGreatDoorExD3
namespace Go.Proofs.YtncdiipfnmdgpaaGreatDoor
open Ab
set_option maxRecDepth 1000000
set_option maxHeartbeats 0
theorem e13 : K0 [] k13 = KT := by kernel_rfl
theorem e16 : K0 [] k16 = KT := by kernel_rfl
theorem e22 : K0 [k5] k22 = KT := by kernel_rfl
theorem e60 : K0 [] k60 = KT := by kernel_rfl
theorem e67 : K0 [] k67 = KT := by kernel_rfl
theorem e70 : K0 [k69,k67] k70 = KT := by kernel_rfl
theorem e80 : K0 [] k80 = KT := by kernel_rfl
theorem e96 : K0 [] k96 = KT := by kernel_rfl
theorem e121 : K0 [k120] k121 = KT := by kernel_rfl
theorem e137 : K0 [k136,k127] k137 = KT := by kernel_rfl
theorem e155 : K0 [k5] k155 = KT := by kernel_rfl
theorem e162 : K0 [] k162 = KT := by kernel_rfl
theorem e170 : K0 [k169,k41,k40,k39,k38,k37] k170 = KT := by kernel_rfl
theorem e190 : K0 [] k190 = KT := by kernel_rfl
theorem e201 : K0 [] k201 = KT := by kernel_rfl
theorem e231 : K0 [] k231 = KT := by kernel_rfl
theorem e234 : K0 [k233,k231] k234 = KT := by kernel_rfl
theorem e239 : K0 [k238,k235,k234,k231,k230,k227,k226,k223,k222,k219,k218,k215,k214,k211,k90,k87,k78,k75,k70,k67,k62,k59,k58,k55,k54,k51] k239 = KT := by kernel_rfl
theorem e256 : K0 [] k256 = KT := by kernel_rfl
theorem e297 : K0 [] k297 = KT := by kernel_rfl
theorem e304 : K0 [] k304 = KT := by kernel_rfl
theorem e307 : K0 [k5] k307 = KT := by kernel_rfl
theorem e330 : K0 [k329] k330 = KT := by kernel_rfl
theorem e337 : K0 [] k337 = KT := by kernel_rfl
theorem e357 : K0 [k356,k310,k309,k39,k38,k37] k357 = KT := by kernel_rfl
theorem e361 : K0 [k244,k243,k242] k361 = KT := by kernel_rfl
theorem e366 : K0 [k365,k364,k363] k366 = KT := by kernel_rfl
theorem e377 : K0 [] k377 = KT := by kernel_rfl
theorem e415 : K0 [k414,k40,k38,k37] k415 = KT := by kernel_rfl
theorem e430 : K0 [] k430 = KT := by kernel_rfl
theorem e440 : K0 [] k440 = KT := by kernel_rfl
theorem e443 : K0 [] k443 = KT := by kernel_rfl
theorem e451 : K0 [] k451 = KT := by kernel_rfl
theorem e462 : K0 [] k462 = KT := by kernel_rfl
theorem e466 : K0 [k465,k172] k466 = KT := by kernel_rfl
theorem e471 : K0 [k470,k469,k175] k471 = KT := by kernel_rfl
theorem e476 : K0 [k475,k474] k476 = KT := by kernel_rfl
theorem e484 : K0 [k5] k484 = KT := by kernel_rfl
theorem e492 : K0 [] k492 = KT := by kernel_rfl
theorem e495 : K0 [k494,k492] k495 = KT := by kernel_rfl
theorem e505 : K0 [k504,k491] k505 = KT := by kernel_rfl
theorem e511 : K0 [] k511 = KT := by kernel_rfl
theorem e521 : K0 [k173] k521 = KT := by kernel_rfl
theorem e528 : KN [] k528 = permQs (true = true) [4] := by kernel_rfl
theorem e541 : K0 [] k541 = KT := by kernel_rfl
theorem e558 : K0 [] k558 = KT := by kernel_rfl
theorem e559 : K0 [k558,k557,k556,k467] k559 = KT := by kernel_rfl
theorem e562 : K0 [k513,k365,k254] k562 = KT := by kernel_rfl
end Go.Proofs.YtncdiipfnmdgpaaGreatDoor
