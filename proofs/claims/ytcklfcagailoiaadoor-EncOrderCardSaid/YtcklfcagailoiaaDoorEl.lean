/- The chapter's examples, reckoned by the kernel. -/
import Derived.Test.YtcklfcagailoiaaDoorCE
namespace Go.Proofs.YtcklfcagailoiaaDoor
open Ab
set_option maxRecDepth 1000000
def tabs : List (Nat × Tab) := [(13, t13), (15, t15), (16, t16), (27, t27), (44, t44), (56, t56), (60, t60), (61, t61), (62, t62), (63, t63), (64, t64), (89, t89), (90, t90), (99, t99), (105, t105), (106, t106), (108, t108), (119, t119), (129, t129)]
theorem tabsOk : TabsOk Tryd.prog tabs := .cons tab13 (.cons tab15 (.cons tab16 (.cons tab27 (.cons tab44 (.cons tab56 (.cons tab60 (.cons tab61 (.cons tab62 (.cons tab63 (.cons tab64 (.cons tab89 (.cons tab90 (.cons tab99 (.cons tab105 (.cons tab106 (.cons tab108 (.cons tab119 (.cons tab129 (.nil)))))))))))))))))))
theorem runL : (lvl Tryd.prog tabs 100).1.call 13 [] ⟨0, []⟩ (fun r _ => r = .ret (.bool true)) :=
  Eq.mpr (show _ = (AEnd.ret (SV.bool true) = AEnd.ret (SV.bool true)) by kernel_rfl) rfl
theorem lives_any : PCall Tryd.prog 13 [] (.bool true) := pcall_lvl mixed tabsOk 100 (fun _ h => by simp at h) (.bool _) runL
end Go.Proofs.YtcklfcagailoiaaDoor
