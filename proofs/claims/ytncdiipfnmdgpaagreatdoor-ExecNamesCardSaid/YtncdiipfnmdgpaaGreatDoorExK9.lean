/- Known calls, each reckoned by the kernel by itself. -/
import Derived.Test.YtncdiipfnmdgpaaGreatDoorExD3
namespace Go.Proofs.YtncdiipfnmdgpaaGreatDoor
open Ab
set_option maxRecDepth 1000000
set_option maxHeartbeats 0
theorem e14 : K0 [] k14 = KT := by kernel_rfl
theorem e30 : K0 [k5] k30 = KT := by kernel_rfl
theorem e40 : K0 [k36] k40 = KT := by kernel_rfl
theorem e75 : K0 [] k75 = KT := by kernel_rfl
theorem e86 : K0 [k85,k83] k86 = KT := by kernel_rfl
theorem e109 : K0 [k5] k109 = KT := by kernel_rfl
theorem e110 : K0 [] k110 = KT := by kernel_rfl
theorem e114 : KL [⟨15,3,[6,7,91,92,93,94,95,96,97,98,99,100,101,102,103],[14],[(1,(.vec 0 2 [(.agg [(.sl 6 5 4 0 6 none),(.bool false)])] ⟨false,some 270⟩)),(6,(.vec 5 4 [q148,q153,q172,q178,q177,q159] ⟨true,some 138⟩))],[(15,(.vec 0 1 [(.str [105,110,116])] ⟨false,some 9⟩)),(16,(.vec 0 4 q158 ⟨false,some 138⟩))],17⟩,⟨24,3,[6,7,91,92,93,94,95,96,97,98,99,100,101,102,103],[23],[(1,(.vec 0 2 [(.agg [(.sl 6 8 4 0 9 none),(.bool false)])] ⟨false,some 270⟩)),(6,(.vec 8 4 [q148,q153,q172,q178,q177,q159,q176,q179,q159] ⟨true,some 138⟩))],[(24,(.vec 0 1 [(.str [105,110,116])] ⟨false,some 9⟩)),(25,(.vec 0 4 q158 ⟨false,some 138⟩))],26⟩,⟨33,3,[6,7,91,92,93,94,95,96,97,98,99,100,101,102,103],[32],[(1,(.vec 0 2 [(.agg [(.sl 6 11 4 0 12 none),(.bool false)])] ⟨false,some 270⟩)),(6,(.vec 11 4 [q148,q153,q172,q178,q177,q159,q176,q179,q159,q176,q181,q159] ⟨true,some 138⟩))],[(33,(.vec 0 1 [(.str [105,110,116])] ⟨false,some 9⟩)),(34,(.vec 0 4 q158 ⟨false,some 138⟩))],35⟩] [k113,k91] k114 = mapsP (true = true) [3,3,3] := by kernel_rfl
theorem e127 : K0 [k126,k123,k122,k119,k118,k115,k90,k87,k78,k75,k58,k55,k54,k51,k46,k43] k127 = KT := by kernel_rfl
theorem e129 : K0 [] k129 = KT := by kernel_rfl
theorem e131 : K0 [] k131 = KT := by kernel_rfl
theorem e143 : K0 [] k143 = KT := by kernel_rfl
theorem e157 : K0 [k5] k157 = KT := by kernel_rfl
theorem e171 : K0 [k170,k137,k114] k171 = KT := by kernel_rfl
theorem e172 : K0 [k171] k172 = KT := by kernel_rfl
theorem e175 : K0 [] k175 = KT := by kernel_rfl
theorem e193 : K0 [] k193 = KT := by kernel_rfl
theorem e203 : K0 [] k203 = KT := by kernel_rfl
theorem e221 : K0 [k220] k221 = KT := by kernel_rfl
theorem e224 : K0 [] k224 = KT := by kernel_rfl
theorem e249 : K0 [] k249 = KT := by kernel_rfl
theorem e250 : K0 [k249,k183,k173] k250 = KT := by kernel_rfl
theorem e254 : K0 [] k254 = KT := by kernel_rfl
theorem e272 : K0 [] k272 = KT := by kernel_rfl
theorem e273 : K0 [k5] k273 = KT := by kernel_rfl
theorem e286 : K0 [k285,k279] k286 = KT := by kernel_rfl
theorem e313 : K0 [] k313 = KT := by kernel_rfl
theorem e319 : K0 [k318,k316] k319 = KT := by kernel_rfl
theorem e336 : K0 [k335,k332,k331,k328,k327,k324,k323,k320,k319,k316,k315,k312,k230,k227,k214,k211,k126,k123,k74,k71,k62,k59,k54,k51] k336 = KT := by kernel_rfl
theorem e339 : K0 [k5] k339 = KT := by kernel_rfl
theorem e342 : K0 [] k342 = KT := by kernel_rfl
theorem e345 : K0 [] k345 = KT := by kernel_rfl
theorem e371 : K0 [] k371 = KT := by kernel_rfl
theorem e382 : K0 [k381,k380,k365] k382 = KT := by kernel_rfl
theorem e400 : K0 [k5] k400 = KT := by kernel_rfl
theorem e425 : K0 [] k425 = KT := by kernel_rfl
theorem e437 : K0 [k436,k433,k428,k415,k192] k437 = KT := by kernel_rfl
theorem e449 : K0 [k448,k37] k449 = KT := by kernel_rfl
theorem e452 : K0 [k451] k452 = KT := by kernel_rfl
theorem e482 : K0 [k5] k482 = KT := by kernel_rfl
theorem e487 : K0 [] k487 = KT := by kernel_rfl
theorem e500 : K0 [] k500 = KT := by kernel_rfl
theorem e501 : K0 [k5] k501 = KT := by kernel_rfl
theorem e552 : K0 [k551,k550] k552 = KT := by kernel_rfl
theorem e560 : K0 [] k560 = KT := by kernel_rfl
theorem e563 : K0 [k562,k561,k467,k282,k280,k250,k248] k563 = KT := by kernel_rfl
theorem e578 : K0 [k577,k40,k39,k38,k37] k578 = KT := by kernel_rfl
theorem e587 : K0 [k586,k585,k584,k176] k587 = KT := by kernel_rfl
end Go.Proofs.YtncdiipfnmdgpaaGreatDoor
