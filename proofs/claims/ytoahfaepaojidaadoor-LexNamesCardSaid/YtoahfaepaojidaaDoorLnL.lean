/- The closed run of LexNames, reckoned by the kernel. -/
import Derived.Test.YtoahfaepaojidaaDoorLnK1
namespace Go.Proofs.YtoahfaepaojidaaDoor
open Ab
set_option maxRecDepth 1000000
attribute [local irreducible] lvk
theorem run : (lvk Tryd.prog tabs [k44, k42, k38, k21, k19, k17, k15, k13, k11, k8] 600).1.call 6 [] ⟨0, []⟩ (fun r _ => r = .ret (.bool true)) :=
  Eq.mpr (show _ = (AEnd.ret (SV.bool true) = AEnd.ret (SV.bool true)) by kernel_rfl) rfl
theorem any : PCall Tryd.prog 6 [] (.bool true) := @pcall_lvk Tryd.prog tabs [k44, k42, k38, k21, k19, k17, k15, k13, k11, k8] mixed tabsOk (.cons r44 (.cons r42 (.cons r38 (.cons r21 (.cons r19 (.cons r17 (.cons r15 (.cons r13 (.cons r11 (.cons r8 (.nil))))))))))) 600 6 [] (.bool true) (fun _ h => by simp at h) (.bool _) run
end Go.Proofs.YtoahfaepaojidaaDoor
