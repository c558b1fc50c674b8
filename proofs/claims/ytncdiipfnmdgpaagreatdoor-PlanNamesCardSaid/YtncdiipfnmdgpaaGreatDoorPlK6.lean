/- Known calls, each reckoned by the kernel by itself. -/
import Derived.Test.YtncdiipfnmdgpaaGreatDoorPlD1
namespace Go.Proofs.YtncdiipfnmdgpaaGreatDoor
open Ab
set_option maxRecDepth 1000000
set_option maxHeartbeats 0
theorem e2 : K0 [] k2 = KT := by kernel_rfl
theorem e4 : K0 [k3] k4 = KT := by kernel_rfl
theorem e9 : K0 [] k9 = KT := by kernel_rfl
theorem e15 : K0 [k14] k15 = KT := by kernel_rfl
theorem e32 : K0 [] k32 = KT := by kernel_rfl
theorem e36 : K0 [] k36 = KT := by kernel_rfl
theorem e37 : K0 [k4] k37 = KT := by kernel_rfl
theorem e60 : K0 [k59] k60 = KT := by kernel_rfl
theorem e66 : K0 [] k66 = KT := by kernel_rfl
theorem e67 : K0 [k4] k67 = KT := by kernel_rfl
theorem e73 : K0 [k72,k70] k73 = KT := by kernel_rfl
theorem e88 : K0 [k87] k88 = KT := by kernel_rfl
theorem e95 : K0 [] k95 = KT := by kernel_rfl
theorem e98 : K0 [] k98 = KT := by kernel_rfl
theorem e112 : K0 [k4] k112 = KT := by kernel_rfl
theorem e119 : K0 [] k119 = KT := by kernel_rfl
theorem e129 : K0 [k128,k126] k129 = KT := by kernel_rfl
theorem e152 : K0 [k4] k152 = KT := by kernel_rfl
theorem e159 : K0 [] k159 = KT := by kernel_rfl
theorem e163 : K0 [] k163 = KT := by kernel_rfl
theorem e170 : K0 [k4] k170 = KT := by kernel_rfl
theorem e178 : K0 [k4] k178 = KT := by kernel_rfl
theorem e180 : K0 [k179,k178,k177,k176,k175,k174,k173,k172,k171,k170,k169,k168,k167,k166,k165,k164,k163,k162,k161,k160,k159,k158,k157,k156,k155,k154,k153,k152,k151,k150,k149] k180 = KT := by kernel_rfl
theorem e181 : K0 [k180,k52,k51,k50,k16,k15] k181 = KT := by kernel_rfl
theorem e190 : K0 [k189] k190 = KT := by kernel_rfl
theorem e200 : K0 [] k200 = KT := by kernel_rfl
theorem e207 : K0 [k206,k17] k207 = KT := by kernel_rfl
theorem e208 : K0 [k207,k183] k208 = KT := by kernel_rfl
theorem e213 : K0 [] k213 = KT := by kernel_rfl
theorem e222 : K0 [k4] k222 = KT := by kernel_rfl
theorem e225 : K0 [] k225 = KT := by kernel_rfl
theorem e228 : K0 [k227,k226,k225,k224,k223,k222,k221,k220,k219,k218,k217,k216] k228 = KT := by kernel_rfl
theorem e233 : K0 [k232,k230] k233 = KT := by kernel_rfl
theorem e252 : K0 [] k252 = KT := by kernel_rfl
theorem e253 : K0 [k4] k253 = KT := by kernel_rfl
theorem e291 : K0 [k287] k291 = KT := by kernel_rfl
theorem e301 : K0 [] k301 = KT := by kernel_rfl
theorem e304 : K0 [] k304 = KT := by kernel_rfl
theorem e308 : K0 [k307,k306,k305,k304,k303,k302,k301,k300,k299,k227] k308 = KT := by kernel_rfl
theorem e319 : K0 [k318,k317,k247] k319 = KT := by kernel_rfl
theorem e320 : K0 [k319,k277,k276,k275] k320 = KT := by kernel_rfl
theorem e321 : K0 [k320,k316,k309,k53] k321 = KT := by kernel_rfl
theorem e326 : K0 [] k326 = KT := by kernel_rfl
theorem e336 : K0 [] k336 = KT := by kernel_rfl
end Go.Proofs.YtncdiipfnmdgpaaGreatDoor
