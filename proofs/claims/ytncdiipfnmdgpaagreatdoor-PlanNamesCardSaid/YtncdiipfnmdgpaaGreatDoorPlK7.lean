/- Known calls, each reckoned by the kernel by itself. -/
import Derived.Test.YtncdiipfnmdgpaaGreatDoorPlD1
namespace Go.Proofs.YtncdiipfnmdgpaaGreatDoor
open Ab
set_option maxRecDepth 1000000
set_option maxHeartbeats 0
theorem e20 : K0 [] k20 = KT := by kernel_rfl
theorem e42 : K0 [] k42 = KT := by kernel_rfl
theorem e47 : K0 [k4] k47 = KT := by kernel_rfl
theorem e54 : K0 [] k54 = KT := by kernel_rfl
theorem e55 : K0 [] k55 = KT := by kernel_rfl
theorem e57 : K0 [k56,k54] k57 = KT := by kernel_rfl
theorem e76 : K0 [k75] k76 = KT := by kernel_rfl
theorem e86 : K0 [] k86 = KT := by kernel_rfl
theorem e89 : K0 [k88,k86] k89 = KT := by kernel_rfl
theorem e108 : K0 [] k108 = KT := by kernel_rfl
theorem e115 : K0 [k4] k115 = KT := by kernel_rfl
theorem e116 : K0 [] k116 = KT := by kernel_rfl
theorem e121 : K0 [] k121 = KT := by kernel_rfl
theorem e127 : K0 [] k127 = KT := by kernel_rfl
theorem e132 : K0 [k131] k132 = KT := by kernel_rfl
theorem e138 : K0 [k137,k134,k133,k130,k129,k126,k101,k98,k89,k86,k69,k66,k65,k62,k57,k54] k138 = KT := by kernel_rfl
theorem e146 : K0 [k145,k144,k143,k142,k141,k140,k139,k99] k146 = KT := by kernel_rfl
theorem e150 : K0 [] k150 = KT := by kernel_rfl
theorem e164 : K0 [k4] k164 = KT := by kernel_rfl
theorem e165 : K0 [] k165 = KT := by kernel_rfl
theorem e171 : K0 [] k171 = KT := by kernel_rfl
theorem e179 : K0 [k4] k179 = KT := by kernel_rfl
theorem e188 : K0 [] k188 = KT := by kernel_rfl
theorem e191 : K0 [k190,k188] k191 = KT := by kernel_rfl
theorem e201 : K0 [k4] k201 = KT := by kernel_rfl
theorem e212 : K0 [] k212 = KT := by kernel_rfl
theorem e224 : K0 [] k224 = KT := by kernel_rfl
theorem e227 : K0 [] k227 = KT := by kernel_rfl
theorem e235 : K0 [] k235 = KT := by kernel_rfl
theorem e236 : K0 [k235] k236 = KT := by kernel_rfl
theorem e245 : K0 [k244,k229] k245 = KT := by kernel_rfl
theorem e255 : K0 [] k255 = KT := by kernel_rfl
theorem e270 : K0 [] k270 = KT := by kernel_rfl
theorem e275 : K0 [] k275 = KT := by kernel_rfl
theorem e289 : K0 [k288,k50,k15] k289 = KT := by kernel_rfl
theorem e290 : K0 [] k290 = KT := by kernel_rfl
theorem e292 : K0 [k291,k290] k292 = KT := by kernel_rfl
theorem e297 : K0 [k296] k297 = KT := by kernel_rfl
theorem e315 : K0 [k314,k309] k315 = KT := by kernel_rfl
theorem e316 : K0 [k315,k183] k316 = KT := by kernel_rfl
theorem e323 : K0 [k4] k323 = KT := by kernel_rfl
theorem e325 : K0 [] k325 = KT := by kernel_rfl
theorem e328 : K0 [k4] k328 = KT := by kernel_rfl
theorem e341 : K0 [k340,k337,k336,k335,k271,k270,k237,k234,k233,k230,k199,k196,k195,k192,k191,k188,k187,k184,k85,k82,k73,k70,k65,k62] k341 = KT := by kernel_rfl
end Go.Proofs.YtncdiipfnmdgpaaGreatDoor
