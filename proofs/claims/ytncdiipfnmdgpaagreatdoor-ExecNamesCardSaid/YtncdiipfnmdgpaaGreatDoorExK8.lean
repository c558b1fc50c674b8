/- Known calls, each reckoned by the kernel by itself. -/
import Derived.Test.YtncdiipfnmdgpaaGreatDoorExD3
namespace Go.Proofs.YtncdiipfnmdgpaaGreatDoor
open Ab
set_option maxRecDepth 1000000
set_option maxHeartbeats 0
theorem e17 : K0 [] k17 = KT := by kernel_rfl
theorem e38 : K0 [k36] k38 = KT := by kernel_rfl
theorem e49 : K0 [k48] k49 = KT := by kernel_rfl
theorem e51 : K0 [] k51 = KT := by kernel_rfl
theorem e56 : K0 [k5] k56 = KT := by kernel_rfl
theorem e85 : K0 [k84] k85 = KT := by kernel_rfl
theorem e116 : K0 [] k116 = KT := by kernel_rfl
theorem e118 : K0 [k117,k115] k118 = KT := by kernel_rfl
theorem e130 : K0 [] k130 = KT := by kernel_rfl
theorem e138 : K0 [] k138 = KT := by kernel_rfl
theorem e144 : K0 [k5] k144 = KT := by kernel_rfl
theorem e146 : K0 [] k146 = KT := by kernel_rfl
theorem e158 : K0 [k5] k158 = KT := by kernel_rfl
theorem e161 : K0 [] k161 = KT := by kernel_rfl
theorem e163 : K0 [] k163 = KT := by kernel_rfl
theorem e185 : K0 [k184,k183] k185 = KT := by kernel_rfl
theorem e188 : K0 [] k188 = KT := by kernel_rfl
theorem e206 : K0 [] k206 = KT := by kernel_rfl
theorem e215 : K0 [] k215 = KT := by kernel_rfl
theorem e240 : KL [⟨36,2,[10,11,169,170,171,172,173,174,175,176,177,178,179,180,181],[35],[(1,(.vec 0 2 [(.agg [(.sl 8 8 4 0 9 none),(.bool false)])] ⟨false,some 270⟩)),(8,(.vec 8 4 [q145,q177,q176,q152,q178,q182,q180,q176,q161] ⟨true,some 138⟩))],[(36,(.vec 0 1 [(.str [115,117,109])] ⟨false,some 9⟩)),(37,(.vec 0 4 [q161] ⟨false,some 138⟩))],38⟩] [k239,k210] k240 = mapsP (true = true) [4] := by kernel_rfl
theorem e252 : K0 [k251,k189,k173] k252 = KT := by kernel_rfl
theorem e261 : K0 [k260,k245,k241,k210,k192] k261 = KT := by kernel_rfl
theorem e285 : K0 [k284,k283,k282,k281,k280,k252,k250,k248] k285 = KT := by kernel_rfl
theorem e318 : K0 [k317] k318 = KT := by kernel_rfl
theorem e327 : K0 [k326,k324] k327 = KT := by kernel_rfl
theorem e329 : K0 [] k329 = KT := by kernel_rfl
theorem e344 : K0 [] k344 = KT := by kernel_rfl
theorem e351 : K0 [k5] k351 = KT := by kernel_rfl
theorem e353 : K0 [k5] k353 = KT := by kernel_rfl
theorem e365 : K0 [] k365 = KT := by kernel_rfl
theorem e367 : K0 [] k367 = KT := by kernel_rfl
theorem e386 : K0 [k385,k384,k383] k386 = KT := by kernel_rfl
theorem e391 : K0 [] k391 = KT := by kernel_rfl
theorem e405 : K0 [k5] k405 = KT := by kernel_rfl
theorem e417 : K0 [] k417 = KT := by kernel_rfl
theorem e420 : K0 [] k420 = KT := by kernel_rfl
theorem e426 : K0 [k425,k424,k423,k420,k419,k416,k335,k332,k230,k227,k222,k219,k218,k215,k214,k211,k90,k87,k78,k75,k70,k67,k62,k59,k58,k55,k54,k51] k426 = KT := by kernel_rfl
theorem e477 : K0 [k476,k466,k449,k192] k477 = KT := by kernel_rfl
theorem e533 : K0 [] k533 = KT := by kernel_rfl
theorem e547 : K0 [] k547 = KT := by kernel_rfl
theorem e551 : K0 [k543] k551 = KT := by kernel_rfl
theorem e564 : K0 [k563,k560] k564 = KT := by kernel_rfl
theorem e567 : K0 [] k567 = KT := by kernel_rfl
theorem e581 : K0 [k580,k579,k423,k420,k335,k332,k230,k227,k214,k211,k78,k75,k74,k71,k70,k67,k62,k59,k54,k51] k581 = KT := by kernel_rfl
theorem e588 : K0 [] k588 = KT := by kernel_rfl
theorem e602 : K0 [k601] k602 = KT := by kernel_rfl
end Go.Proofs.YtncdiipfnmdgpaaGreatDoor
