/- The closed run of EncNames, reckoned by the kernel. -/
import Derived.Test.YtcklfcagailoiaaDoorEnC1
namespace Go.Proofs.YtcklfcagailoiaaDoor
open Ab
set_option maxRecDepth 1000000
theorem mixed : Tryd.prog.follows .mixedOrders = true := by kernel_rfl
def tabs : List (Nat × Tab) := [(11, t11), (13, t13), (15, t15), (16, t16), (17, t17), (18, t18), (27, t27), (29, t29), (37, t37), (38, t38), (44, t44), (56, t56), (60, t60), (61, t61), (62, t62), (63, t63), (64, t64), (65, t65), (66, t66), (67, t67), (68, t68), (71, t71), (72, t72), (73, t73), (74, t74), (89, t89), (90, t90), (91, t91), (93, t93), (94, t94), (95, t95), (96, t96), (99, t99), (105, t105), (106, t106), (108, t108), (119, t119), (129, t129)]
theorem tabsOk : TabsOk Tryd.prog tabs := .cons tab11 (.cons tab13 (.cons tab15 (.cons tab16 (.cons tab17 (.cons tab18 (.cons tab27 (.cons tab29 (.cons tab37 (.cons tab38 (.cons tab44 (.cons tab56 (.cons tab60 (.cons tab61 (.cons tab62 (.cons tab63 (.cons tab64 (.cons tab65 (.cons tab66 (.cons tab67 (.cons tab68 (.cons tab71 (.cons tab72 (.cons tab73 (.cons tab74 (.cons tab89 (.cons tab90 (.cons tab91 (.cons tab93 (.cons tab94 (.cons tab95 (.cons tab96 (.cons tab99 (.cons tab105 (.cons tab106 (.cons tab108 (.cons tab119 (.cons tab129 (.nil))))))))))))))))))))))))))))))))))))))
theorem run : (lvl Tryd.prog tabs 100).1.call 11 [] ⟨0, []⟩ (fun r _ => r = .ret (.bool true)) :=
  Eq.mpr (show _ = (AEnd.ret (SV.bool true) = AEnd.ret (SV.bool true)) by kernel_rfl) rfl
theorem any : PCall Tryd.prog 11 [] (.bool true) := pcall_lvl mixed tabsOk 100 (fun _ h => by simp at h) (.bool _) run
end Go.Proofs.YtcklfcagailoiaaDoor
