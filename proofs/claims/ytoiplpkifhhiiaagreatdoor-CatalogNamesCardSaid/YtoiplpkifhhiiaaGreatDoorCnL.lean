/- The closed run of CatalogNames, reckoned by the kernel. -/
import Derived.Test.YtoiplpkifhhiiaaGreatDoorCnK5
import Derived.Test.YtoiplpkifhhiiaaGreatDoorCnK6
import Derived.Test.YtoiplpkifhhiiaaGreatDoorCnK7
import Derived.Test.YtoiplpkifhhiiaaGreatDoorCnK9
namespace Go.Proofs.YtoiplpkifhhiiaaGreatDoor
open Ab
set_option maxRecDepth 1000000
attribute [local irreducible] lvm
def hints : List Hint := []
theorem run : (lvm Tryz.prog tabs tabsD [k288, k262, k252, k247, k246, k245, k244, k243, k242, k241, k240, k239, k238, k55] hints 600).1.call 3 [] ⟨0, []⟩ (fun r _ => r = .ret (.bool true)) :=
  Eq.mpr (show _ = mapsP (AEnd.ret (SV.bool true) = AEnd.ret (SV.bool true)) [] by kernel_rfl) (mapsP_ok rfl _)
theorem any : PCall Tryz.prog 3 [] (.bool true) := pcall_lvm (P := Tryz.prog) (L := [k288, k262, k252, k247, k246, k245, k244, k243, k242, k241, k240, k239, k238, k55]) hints mixed tabsOk tabsDOk (.cons r288 (.cons r262 (.cons r252 (.cons r247 (.cons r246 (.cons r245 (.cons r244 (.cons r243 (.cons r242 (.cons r241 (.cons r240 (.cons r239 (.cons r238 (.cons r55 (.nil))))))))))))))) 600 (f := 3) (args := []) (v := .bool true) (fun _ h => by simp at h) (.bool _) run
end Go.Proofs.YtoiplpkifhhiiaaGreatDoor
