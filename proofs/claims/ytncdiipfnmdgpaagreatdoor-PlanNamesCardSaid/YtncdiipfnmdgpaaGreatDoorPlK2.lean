/- Known calls, each reckoned by the kernel by itself. -/
import Derived.Test.YtncdiipfnmdgpaaGreatDoorPlD1
namespace Go.Proofs.YtncdiipfnmdgpaaGreatDoor
open Ab
set_option maxRecDepth 1000000
set_option maxHeartbeats 0
theorem e5 : K0 [k4] k5 = KT := by kernel_rfl
theorem e19 : K0 [] k19 = KT := by kernel_rfl
theorem e25 : K0 [] k25 = KT := by kernel_rfl
theorem e29 : K0 [] k29 = KT := by kernel_rfl
theorem e40 : K0 [] k40 = KT := by kernel_rfl
theorem e43 : K0 [] k43 = KT := by kernel_rfl
theorem e46 : K0 [] k46 = KT := by kernel_rfl
theorem e48 : K0 [k4] k48 = KT := by kernel_rfl
theorem e50 : K0 [k14] k50 = KT := by kernel_rfl
theorem e63 : K0 [] k63 = KT := by kernel_rfl
theorem e72 : K0 [k71] k72 = KT := by kernel_rfl
theorem e78 : K0 [] k78 = KT := by kernel_rfl
theorem e79 : K0 [k4] k79 = KT := by kernel_rfl
theorem e85 : K0 [k84,k82] k85 = KT := by kernel_rfl
theorem e99 : K0 [k4] k99 = KT := by kernel_rfl
theorem e125 : KL [⟨15,3,[6,7,91,92,93,94,95,96,97,98,99,100,101,102,103],[14],[(1,(.vec 0 2 [(.agg [(.sl 6 5 4 0 6 none),(.bool false)])] ⟨false,some 270⟩)),(6,(.vec 5 4 [q72,q76,q86,q90,q88,q80] ⟨true,some 138⟩))],[(15,(.vec 0 1 [(.str [105,110,116])] ⟨false,some 9⟩)),(16,(.vec 0 4 q79 ⟨false,some 138⟩))],17⟩,⟨24,3,[6,7,91,92,93,94,95,96,97,98,99,100,101,102,103],[23],[(1,(.vec 0 2 [(.agg [(.sl 6 8 4 0 9 none),(.bool false)])] ⟨false,some 270⟩)),(6,(.vec 8 4 [q72,q76,q86,q90,q88,q80,q89,q91,q80] ⟨true,some 138⟩))],[(24,(.vec 0 1 [(.str [105,110,116])] ⟨false,some 9⟩)),(25,(.vec 0 4 q79 ⟨false,some 138⟩))],26⟩,⟨33,3,[6,7,91,92,93,94,95,96,97,98,99,100,101,102,103],[32],[(1,(.vec 0 2 [(.agg [(.sl 6 11 4 0 12 none),(.bool false)])] ⟨false,some 270⟩)),(6,(.vec 11 4 [q72,q76,q86,q90,q88,q80,q89,q91,q80,q89,q92,q80] ⟨true,some 138⟩))],[(33,(.vec 0 1 [(.str [105,110,116])] ⟨false,some 9⟩)),(34,(.vec 0 4 q79 ⟨false,some 138⟩))],35⟩] [k124,k102] k125 = mapsP (true = true) [3,3,3] := by kernel_rfl
theorem e128 : K0 [k127] k128 = KT := by kernel_rfl
theorem e131 : K0 [] k131 = KT := by kernel_rfl
theorem e134 : K0 [] k134 = KT := by kernel_rfl
theorem e143 : K0 [] k143 = KT := by kernel_rfl
theorem e160 : K0 [] k160 = KT := by kernel_rfl
theorem e166 : K0 [k4] k166 = KT := by kernel_rfl
theorem e173 : K0 [] k173 = KT := by kernel_rfl
theorem e187 : K0 [k186,k184] k187 = KT := by kernel_rfl
theorem e205 : K0 [] k205 = KT := by kernel_rfl
theorem e226 : K0 [k4] k226 = KT := by kernel_rfl
theorem e232 : K0 [k231] k232 = KT := by kernel_rfl
theorem e238 : K0 [] k238 = KT := by kernel_rfl
theorem e242 : K0 [] k242 = KT := by kernel_rfl
theorem e251 : K0 [k250,k246,k229,k53] k251 = KT := by kernel_rfl
theorem e256 : K0 [] k256 = KT := by kernel_rfl
theorem e258 : K0 [k4] k258 = KT := by kernel_rfl
theorem e259 : K0 [] k259 = KT := by kernel_rfl
theorem e260 : K0 [] k260 = KT := by kernel_rfl
theorem e267 : K0 [] k267 = KT := by kernel_rfl
theorem e269 : K0 [k268,k266] k269 = KT := by kernel_rfl
theorem e274 : K0 [k273,k183] k274 = KT := by kernel_rfl
theorem e294 : K0 [k293,k289] k294 = KT := by kernel_rfl
theorem e299 : K0 [] k299 = KT := by kernel_rfl
theorem e300 : K0 [k4] k300 = KT := by kernel_rfl
theorem e317 : K0 [] k317 = KT := by kernel_rfl
theorem e333 : K0 [k332,k331,k330,k329,k328,k327,k326,k325,k324,k323,k322,k83] k333 = KT := by kernel_rfl
theorem e334 : K0 [k333,k51,k50,k15] k334 = KT := by kernel_rfl
theorem e347 : K0 [] k347 = KT := by kernel_rfl
end Go.Proofs.YtncdiipfnmdgpaaGreatDoor
