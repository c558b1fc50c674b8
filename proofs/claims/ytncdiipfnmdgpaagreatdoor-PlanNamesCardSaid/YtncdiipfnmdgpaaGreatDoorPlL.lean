/- The closed run of PlanNames, reckoned by the kernel. -/
import Derived.Test.YtncdiipfnmdgpaaGreatDoorPlR
namespace Go.Proofs.YtncdiipfnmdgpaaGreatDoor
open Ab
set_option maxRecDepth 1000000
attribute [local irreducible] lvm
def hints : List Hint := []
theorem run : (lvm Tryz.prog tabs tabsD [k351,k349,k347,k321,k298,k279,k277,k251,k215,k213,k1] hints 600).1.call 3 [] ⟨0,[]⟩ (fun r _ => r = .ret (.bool true)) :=
  Eq.mpr (show _ = mapsP (AEnd.ret (SV.bool true) = AEnd.ret (SV.bool true)) [] by kernel_rfl) (mapsP_ok rfl _)
theorem any : PCall Tryz.prog 3 [] (.bool true) := pcall_lvm (P := Tryz.prog) (L := [k351,k349,k347,k321,k298,k279,k277,k251,k215,k213,k1]) hints mixed tabsOk tabsDOk (.cons r351 (.cons r349 (.cons r347 (.cons r321 (.cons r298 (.cons r279 (.cons r277 (.cons r251 (.cons r215 (.cons r213 (.cons r1 (.nil)))))))))))) 600 (f := 3) (args := []) (v := .bool true) (fun _ h => by simp at h) (.bool _) run
end Go.Proofs.YtncdiipfnmdgpaaGreatDoor
