/- The closed run of ValueNames, reckoned by the kernel. -/
import Derived.Test.YtcklfcagailoiaaDoorVnC1
import Derived.Test.YtcklfcagailoiaaDoorVnC2
namespace Go.Proofs.YtcklfcagailoiaaDoor
open Ab
set_option maxRecDepth 1000000
theorem mixed : Tryd.prog.follows .mixedOrders = true := by kernel_rfl
def tabs : List (Nat × Tab) := [(12, t12), (37, t37), (44, t44), (47, t47), (48, t48), (49, t49), (50, t50), (51, t51), (52, t52), (53, t53), (54, t54), (55, t55), (60, t60), (62, t62), (63, t63), (64, t64), (67, t67), (68, t68), (71, t71), (72, t72), (73, t73), (78, t78), (79, t79), (80, t80), (81, t81), (82, t82), (83, t83), (84, t84), (85, t85), (86, t86), (87, t87), (88, t88), (89, t89), (90, t90), (91, t91), (93, t93), (94, t94), (95, t95), (98, t98), (99, t99), (100, t100), (101, t101), (102, t102), (103, t103), (105, t105), (106, t106), (107, t107), (108, t108), (109, t109), (110, t110), (111, t111), (112, t112), (113, t113), (114, t114), (115, t115), (116, t116), (117, t117), (119, t119), (120, t120), (122, t122), (123, t123), (124, t124), (125, t125), (126, t126), (127, t127), (128, t128), (129, t129), (131, t131), (132, t132), (133, t133), (134, t134), (135, t135), (136, t136), (137, t137), (139, t139)]
theorem tabsOk : TabsOk Tryd.prog tabs := .cons tab12 (.cons tab37 (.cons tab44 (.cons tab47 (.cons tab48 (.cons tab49 (.cons tab50 (.cons tab51 (.cons tab52 (.cons tab53 (.cons tab54 (.cons tab55 (.cons tab60 (.cons tab62 (.cons tab63 (.cons tab64 (.cons tab67 (.cons tab68 (.cons tab71 (.cons tab72 (.cons tab73 (.cons tab78 (.cons tab79 (.cons tab80 (.cons tab81 (.cons tab82 (.cons tab83 (.cons tab84 (.cons tab85 (.cons tab86 (.cons tab87 (.cons tab88 (.cons tab89 (.cons tab90 (.cons tab91 (.cons tab93 (.cons tab94 (.cons tab95 (.cons tab98 (.cons tab99 (.cons tab100 (.cons tab101 (.cons tab102 (.cons tab103 (.cons tab105 (.cons tab106 (.cons tab107 (.cons tab108 (.cons tab109 (.cons tab110 (.cons tab111 (.cons tab112 (.cons tab113 (.cons tab114 (.cons tab115 (.cons tab116 (.cons tab117 (.cons tab119 (.cons tab120 (.cons tab122 (.cons tab123 (.cons tab124 (.cons tab125 (.cons tab126 (.cons tab127 (.cons tab128 (.cons tab129 (.cons tab131 (.cons tab132 (.cons tab133 (.cons tab134 (.cons tab135 (.cons tab136 (.cons tab137 (.cons tab139 (.nil)))))))))))))))))))))))))))))))))))))))))))))))))))))))))))))))))))))))))))
attribute [local irreducible] lvl
theorem run : (lvl Tryd.prog tabs 100).1.call 12 [] ⟨0, []⟩ (fun r _ => r = .ret (.bool true)) :=
  Eq.mpr (show _ = (AEnd.ret (SV.bool true) = AEnd.ret (SV.bool true)) by kernel_rfl) rfl
theorem any : PCall Tryd.prog 12 [] (.bool true) := @pcall_lvl Tryd.prog tabs mixed tabsOk 100 12 [] (.bool true) (fun _ h => by simp at h) (.bool _) @run
end Go.Proofs.YtcklfcagailoiaaDoor
