/- Known calls, each reckoned by the kernel by itself. -/
import Derived.Test.YtncdiipfnmdgpaaGreatDoorExD3
namespace Go.Proofs.YtncdiipfnmdgpaaGreatDoor
open Ab
set_option maxRecDepth 1000000
set_option maxHeartbeats 0
theorem e29 : K0 [] k29 = KT := by kernel_rfl
theorem e43 : K0 [] k43 = KT := by kernel_rfl
theorem e66 : K0 [k65,k63] k66 = KT := by kernel_rfl
theorem e77 : K0 [k76] k77 = KT := by kernel_rfl
theorem e95 : K0 [k5] k95 = KT := by kernel_rfl
theorem e97 : K0 [] k97 = KT := by kernel_rfl
theorem e123 : K0 [] k123 = KT := by kernel_rfl
theorem e135 : K0 [k134,k133,k132,k131,k130,k129,k128,k88] k135 = KT := by kernel_rfl
theorem e147 : K0 [k5] k147 = KT := by kernel_rfl
theorem e148 : K0 [] k148 = KT := by kernel_rfl
theorem e149 : K0 [] k149 = KT := by kernel_rfl
theorem e167 : K0 [k5] k167 = KT := by kernel_rfl
theorem e182 : K0 [] k182 = KT := by kernel_rfl
theorem e187 : K0 [] k187 = KT := by kernel_rfl
theorem e208 : K0 [] k208 = KT := by kernel_rfl
theorem e210 : K0 [k209,k40,k38,k37] k210 = KT := by kernel_rfl
theorem e212 : K0 [] k212 = KT := by kernel_rfl
theorem e230 : K0 [k229,k227] k230 = KT := by kernel_rfl
theorem e243 : K0 [] k243 = KT := by kernel_rfl
theorem e245 : K0 [k244,k243,k242] k245 = KT := by kernel_rfl
theorem e274 : K0 [k273] k274 = KT := by kernel_rfl
theorem e277 : K0 [k276,k269] k277 = KT := by kernel_rfl
theorem e281 : K0 [] k281 = KT := by kernel_rfl
theorem e287 : K0 [k286,k278,k269,k245,k192] k287 = KT := by kernel_rfl
theorem e289 : K0 [] k289 = KT := by kernel_rfl
theorem e298 : K0 [] k298 = KT := by kernel_rfl
theorem e309 : K0 [k36] k309 = KT := by kernel_rfl
theorem e332 : K0 [] k332 = KT := by kernel_rfl
theorem e355 : K0 [k5] k355 = KT := by kernel_rfl
theorem e356 : K0 [k355,k354,k353,k352,k351,k350,k349,k348,k347,k346,k345,k344,k343,k342,k341,k340,k339,k338,k337,k72] k356 = KT := by kernel_rfl
theorem e363 : K0 [] k363 = KT := by kernel_rfl
theorem e387 : K0 [] k387 = KT := by kernel_rfl
theorem e395 : K0 [k394,k362] k395 = KT := by kernel_rfl
theorem e406 : K0 [] k406 = KT := by kernel_rfl
theorem e408 : K0 [] k408 = KT := by kernel_rfl
theorem e427 : KL [⟨28,2,[10,11,169,170,171,172,173,174,175,176,177,178,179,180,181],[27],[(1,(.vec 0 2 [(.agg [(.sl 8 6 4 0 7 none),(.bool false)])] ⟨false,some 270⟩)),(8,(.vec 6 4 [q145,q152,q178,q182,q180,q176,q163] ⟨true,some 138⟩))],[(28,(.vec 0 1 [(.str [109,97,120])] ⟨false,some 9⟩)),(29,(.vec 0 4 [q163] ⟨false,some 138⟩))],30⟩] [k426,k415] k427 = mapsP (true = true) [4] := by kernel_rfl
theorem e435 : K0 [k429] k435 = KT := by kernel_rfl
theorem e442 : K0 [k5] k442 = KT := by kernel_rfl
theorem e461 : K0 [k460,k458] k461 = KT := by kernel_rfl
theorem e469 : K0 [k173] k469 = KT := by kernel_rfl
theorem e497 : K0 [] k497 = KT := by kernel_rfl
theorem e502 : K0 [k501] k502 = KT := by kernel_rfl
theorem e512 : K0 [k511,k365,k280] k512 = KT := by kernel_rfl
theorem e538 : K0 [k5] k538 = KT := by kernel_rfl
theorem e572 : K0 [] k572 = KT := by kernel_rfl
theorem e573 : K0 [] k573 = KT := by kernel_rfl
theorem e601 : K0 [k600,k587,k583,k578,k192] k601 = KT := by kernel_rfl
end Go.Proofs.YtncdiipfnmdgpaaGreatDoor
