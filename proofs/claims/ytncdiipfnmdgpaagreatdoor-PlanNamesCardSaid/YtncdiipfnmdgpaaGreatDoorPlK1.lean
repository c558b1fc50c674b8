/- Known calls, each reckoned by the kernel by itself. -/
import Derived.Test.YtncdiipfnmdgpaaGreatDoorPlD1
namespace Go.Proofs.YtncdiipfnmdgpaaGreatDoor
open Ab
set_option maxRecDepth 1000000
set_option maxHeartbeats 0
theorem e13 : K0 [] k13 = KT := by kernel_rfl
theorem e14 : K0 [k13] k14 = KT := by kernel_rfl
theorem e23 : K0 [] k23 = KT := by kernel_rfl
theorem e30 : K0 [k4] k30 = KT := by kernel_rfl
theorem e33 : K0 [k4] k33 = KT := by kernel_rfl
theorem e39 : K0 [k4] k39 = KT := by kernel_rfl
theorem e65 : K0 [k64,k62] k65 = KT := by kernel_rfl
theorem e70 : K0 [] k70 = KT := by kernel_rfl
theorem e83 : K0 [] k83 = KT := by kernel_rfl
theorem e91 : K0 [] k91 = KT := by kernel_rfl
theorem e96 : K0 [k95] k96 = KT := by kernel_rfl
theorem e97 : K0 [k96,k94] k97 = KT := by kernel_rfl
theorem e107 : K0 [] k107 = KT := by kernel_rfl
theorem e118 : K0 [k4] k118 = KT := by kernel_rfl
theorem e126 : K0 [] k126 = KT := by kernel_rfl
theorem e147 : K0 [k146,k52,k16,k15] k147 = KT := by kernel_rfl
theorem e151 : K0 [] k151 = KT := by kernel_rfl
theorem e154 : K0 [] k154 = KT := by kernel_rfl
theorem e158 : K0 [k4] k158 = KT := by kernel_rfl
theorem e162 : K0 [] k162 = KT := by kernel_rfl
theorem e172 : K0 [] k172 = KT := by kernel_rfl
theorem e177 : K0 [] k177 = KT := by kernel_rfl
theorem e185 : K0 [] k185 = KT := by kernel_rfl
theorem e197 : K0 [] k197 = KT := by kernel_rfl
theorem e198 : K0 [k197] k198 = KT := by kernel_rfl
theorem e199 : K0 [k198,k196] k199 = KT := by kernel_rfl
theorem e209 : K0 [] k209 = KT := by kernel_rfl
theorem e211 : K0 [] k211 = KT := by kernel_rfl
theorem e216 : K0 [] k216 = KT := by kernel_rfl
theorem e230 : K0 [] k230 = KT := by kernel_rfl
theorem e247 : K0 [] k247 = KT := by kernel_rfl
theorem e263 : K0 [] k263 = KT := by kernel_rfl
theorem e264 : K0 [k263,k262,k261,k260,k259,k258,k257,k256,k255,k254,k253,k252] k264 = KT := by kernel_rfl
theorem e272 : K0 [k271,k270,k269,k266,k233,k230,k199,k196,k195,k192,k191,k188,k187,k184,k89,k86,k85,k82,k73,k70,k65,k62] k272 = KT := by kernel_rfl
theorem e279 : K0 [k278,k274,k265,k53] k279 = KT := by kernel_rfl
theorem e282 : K0 [] k282 = KT := by kernel_rfl
theorem e283 : K0 [] k283 = KT := by kernel_rfl
theorem e288 : K0 [k287,k286,k285,k284,k283,k282,k281,k280] k288 = KT := by kernel_rfl
theorem e298 : K0 [k297,k295,k289,k53] k298 = KT := by kernel_rfl
theorem e331 : K0 [] k331 = KT := by kernel_rfl
theorem e332 : K0 [k4] k332 = KT := by kernel_rfl
theorem e339 : K0 [k338] k339 = KT := by kernel_rfl
theorem e340 : K0 [k339,k337] k340 = KT := by kernel_rfl
end Go.Proofs.YtncdiipfnmdgpaaGreatDoor
