/- The functions that the run of LexNames comes to. -/
import Derived.Test.YtoahfaepaojidaaDoorLnC1
namespace Go.Proofs.YtoahfaepaojidaaDoor
open Ab
set_option maxRecDepth 1000000
theorem mixed : Tryd.prog.follows .mixedOrders = true := by kernel_rfl
def tabs : List (Nat × Tab) := [(6, t6), (7, t7), (8, t8), (9, t9), (13, t13), (14, t14), (15, t15), (16, t16), (17, t17), (18, t18), (19, t19), (20, t20), (21, t21), (24, t24), (25, t25), (26, t26), (27, t27), (28, t28), (29, t29), (30, t30), (31, t31), (32, t32), (33, t33), (34, t34), (35, t35), (36, t36), (37, t37), (38, t38), (39, t39), (44, t44), (46, t46), (47, t47), (48, t48), (50, t50), (51, t51), (52, t52), (53, t53), (56, t56), (61, t61), (65, t65), (74, t74), (75, t75), (90, t90)]
theorem tabsOk : TabsOk Tryd.prog tabs := .cons tab6 (.cons tab7 (.cons tab8 (.cons tab9 (.cons tab13 (.cons tab14 (.cons tab15 (.cons tab16 (.cons tab17 (.cons tab18 (.cons tab19 (.cons tab20 (.cons tab21 (.cons tab24 (.cons tab25 (.cons tab26 (.cons tab27 (.cons tab28 (.cons tab29 (.cons tab30 (.cons tab31 (.cons tab32 (.cons tab33 (.cons tab34 (.cons tab35 (.cons tab36 (.cons tab37 (.cons tab38 (.cons tab39 (.cons tab44 (.cons tab46 (.cons tab47 (.cons tab48 (.cons tab50 (.cons tab51 (.cons tab52 (.cons tab53 (.cons tab56 (.cons tab61 (.cons tab65 (.cons tab74 (.cons tab75 (.cons tab90 (.nil)))))))))))))))))))))))))))))))))))))))))))
end Go.Proofs.YtoahfaepaojidaaDoor
