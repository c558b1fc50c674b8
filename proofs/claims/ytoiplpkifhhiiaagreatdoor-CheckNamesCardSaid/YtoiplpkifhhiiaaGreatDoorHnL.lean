/- The closed run of CheckNames, reckoned by the kernel. -/
import Derived.Test.YtoiplpkifhhiiaaGreatDoorHnK8
namespace Go.Proofs.YtoiplpkifhhiiaaGreatDoor
open Ab
set_option maxRecDepth 1000000
attribute [local irreducible] lvm
def hints : List Hint := []
theorem run : (lvm Tryz.prog tabs tabsD [k445,k401,k377,k364,k350,k332,k317,k293,k256] hints 600).1.call 4 [] ⟨0,[]⟩ (fun r _ => r = .ret (.bool true)) :=
  Eq.mpr (show _ = mapsP (AEnd.ret (SV.bool true) = AEnd.ret (SV.bool true)) [] by kernel_rfl) (mapsP_ok rfl _)
theorem any : PCall Tryz.prog 4 [] (.bool true) := pcall_lvm (P := Tryz.prog) (L := [k445,k401,k377,k364,k350,k332,k317,k293,k256]) hints mixed tabsOk tabsDOk (.cons r445 (.cons r401 (.cons r377 (.cons r364 (.cons r350 (.cons r332 (.cons r317 (.cons r293 (.cons r256 (.nil)))))))))) 600 (f := 4) (args := []) (v := .bool true) (fun _ h => by simp at h) (.bool _) run
end Go.Proofs.YtoiplpkifhhiiaaGreatDoor
