/- Parts of the proof of PParserBlanks, one behind the other, with short names. -/
import Derived.Test.YtbjifmbemdhndaaGreatDoorZ50
set_option linter.unusedVariables false
set_option linter.unusedSimpArgs false
namespace Go.Proofs.YtbjifmbemdhndaaGreatDoor
open Ab
set_option maxRecDepth 1000000
set_option maxHeartbeats 0
attribute [local irreducible] z7
def k1:bg:=⟨27,[(.str [83,69,76,69,67,84,32,97,44,32,40,98,43,49,41,42,50,32,65,83,32,99,32,70,82,79,77,32,116,32,87,72,69,82,69,32,78,79,84,32,40,97,61,49,32,65,78,68,32,98,32,73,83,32,78,85,76,76,41,32,76,73,77,73,84,32,51,59])],(.bn [(.agg [(.int .u8 1),(.str [115,101,108,101,99,116]),(.int .u64 0),(.int .i64 0)]),(.int .i64 6),(.int .i64 0)]),10,[]⟩
theorem r1:aL Tryz.prog k1.f k1.args k1.v k1.N k1.H:=au mixed aE aB (L:=[]) (.nil) 600 k1 (by kernel_rfl) (Eq.mpr (show _=(true=true) by kernel_rfl) rfl)
def k2:bg:=⟨27,[(.str [97,44,32,40,98,43,49,41,42,50,32,65,83,32,99,32,70,82,79,77,32,116,32,87,72,69,82,69,32,78,79,84,32,40,97,61,49,32,65,78,68,32,98,32,73,83,32,78,85,76,76,41,32,76,73,77,73,84,32,51,59])],(.bn [(.agg [(.int .u8 1),(.str [97]),(.int .u64 0),(.int .i64 0)]),(.int .i64 1),(.int .i64 0)]),2,[]⟩
theorem r2:aL Tryz.prog k2.f k2.args k2.v k2.N k2.H:=au mixed aE aB (L:=[]) (.nil) 600 k2 (by kernel_rfl) (Eq.mpr (show _=(true=true) by kernel_rfl) rfl)
def k3:bg:=⟨129,[(.str [60,62,32,60,61,32,62,61,32,124,124,32,40,32,41,32,44,32,59,32,46,32,42,32,43,32,45,32,47,32,37,32,61,32,60,32,62])],(.sl 0 0 1 0 17 (some 17)),1,[(0,(.vec 0 1 [(.str [60,62]),(.str [60,61]),(.str [62,61]),(.str [124,124]),(.str [40]),(.str [41]),(.str [44]),(.str [59]),(.str [46]),(.str [42]),(.str [43]),(.str [45]),(.str [47]),(.str [37]),(.str [61]),(.str [60]),(.str [62])] ⟨false,some 9⟩))]⟩
theorem r3:aL Tryz.prog k3.f k3.args k3.v k3.N k3.H:=au mixed aE aB (L:=[]) (.nil) 600 k3 (by kernel_rfl) (Eq.mpr (show _=(true=true) by kernel_rfl) rfl)
def k4:bg:=⟨79,[],(.sl 0 0 1 0 17 (some 17)),1,[(0,(.vec 0 1 [(.str [60,62]),(.str [60,61]),(.str [62,61]),(.str [124,124]),(.str [40]),(.str [41]),(.str [44]),(.str [59]),(.str [46]),(.str [42]),(.str [43]),(.str [45]),(.str [47]),(.str [37]),(.str [61]),(.str [60]),(.str [62])] ⟨false,some 9⟩))]⟩
theorem r4:aL Tryz.prog k4.f k4.args k4.v k4.N k4.H:=au mixed aE aB (L:=[k3]) (.cons r3 (.nil)) 600 k4 (by kernel_rfl) (Eq.mpr (show _=(true=true) by kernel_rfl) rfl)
def k5:bg:=⟨27,[(.str [44,32,40,98,43,49,41,42,50,32,65,83,32,99,32,70,82,79,77,32,116,32,87,72,69,82,69,32,78,79,84,32,40,97,61,49,32,65,78,68,32,98,32,73,83,32,78,85,76,76,41,32,76,73,77,73,84,32,51,59])],(.bn [(.agg [(.int .u8 4),(.str [44]),(.int .u64 0),(.int .i64 0)]),(.int .i64 1),(.int .i64 0)]),2,[]⟩
theorem r5:aL Tryz.prog k5.f k5.args k5.v k5.N k5.H:=au mixed aE aB (L:=[k4]) (.cons r4 (.nil)) 600 k5 (by kernel_rfl) (Eq.mpr (show _=(true=true) by kernel_rfl) rfl)
def k6:bg:=⟨27,[(.str [40,98,43,49,41,42,50,32,65,83,32,99,32,70,82,79,77,32,116,32,87,72,69,82,69,32,78,79,84,32,40,97,61,49,32,65,78,68,32,98,32,73,83,32,78,85,76,76,41,32,76,73,77,73,84,32,51,59])],(.bn [(.agg [(.int .u8 4),(.str [40]),(.int .u64 0),(.int .i64 0)]),(.int .i64 1),(.int .i64 0)]),2,[]⟩
theorem r6:aL Tryz.prog k6.f k6.args k6.v k6.N k6.H:=au mixed aE aB (L:=[k4]) (.cons r4 (.nil)) 600 k6 (by kernel_rfl) (Eq.mpr (show _=(true=true) by kernel_rfl) rfl)
def k7:bg:=⟨27,[(.str [98,43,49,41,42,50,32,65,83,32,99,32,70,82,79,77,32,116,32,87,72,69,82,69,32,78,79,84,32,40,97,61,49,32,65,78,68,32,98,32,73,83,32,78,85,76,76,41,32,76,73,77,73,84,32,51,59])],(.bn [(.agg [(.int .u8 1),(.str [98]),(.int .u64 0),(.int .i64 0)]),(.int .i64 1),(.int .i64 0)]),2,[]⟩
theorem r7:aL Tryz.prog k7.f k7.args k7.v k7.N k7.H:=au mixed aE aB (L:=[]) (.nil) 600 k7 (by kernel_rfl) (Eq.mpr (show _=(true=true) by kernel_rfl) rfl)
def k8:bg:=⟨27,[(.str [43,49,41,42,50,32,65,83,32,99,32,70,82,79,77,32,116,32,87,72,69,82,69,32,78,79,84,32,40,97,61,49,32,65,78,68,32,98,32,73,83,32,78,85,76,76,41,32,76,73,77,73,84,32,51,59])],(.bn [(.agg [(.int .u8 4),(.str [43]),(.int .u64 0),(.int .i64 0)]),(.int .i64 1),(.int .i64 0)]),2,[]⟩
theorem r8:aL Tryz.prog k8.f k8.args k8.v k8.N k8.H:=au mixed aE aB (L:=[k4]) (.cons r4 (.nil)) 600 k8 (by kernel_rfl) (Eq.mpr (show _=(true=true) by kernel_rfl) rfl)
def k9:bg:=⟨27,[(.str [49,41,42,50,32,65,83,32,99,32,70,82,79,77,32,116,32,87,72,69,82,69,32,78,79,84,32,40,97,61,49,32,65,78,68,32,98,32,73,83,32,78,85,76,76,41,32,76,73,77,73,84,32,51,59])],(.bn [(.agg [(.int .u8 2),(.str []),(.int .u64 1),(.int .i64 0)]),(.int .i64 1),(.int .i64 0)]),3,[]⟩
theorem r9:aL Tryz.prog k9.f k9.args k9.v k9.N k9.H:=au mixed aE aB (L:=[]) (.nil) 600 k9 (by kernel_rfl) (Eq.mpr (show _=(true=true) by kernel_rfl) rfl)
def O7:bg:=⟨27,[(.str [41,42,50,32,65,83,32,99,32,70,82,79,77,32,116,32,87,72,69,82,69,32,78,79,84,32,40,97,61,49,32,65,78,68,32,98,32,73,83,32,78,85,76,76,41,32,76,73,77,73,84,32,51,59])],(.bn [(.agg [(.int .u8 4),(.str [41]),(.int .u64 0),(.int .i64 0)]),(.int .i64 1),(.int .i64 0)]),2,[]⟩
theorem XG:aL Tryz.prog O7.f O7.args O7.v O7.N O7.H:=au mixed aE aB (L:=[k4]) (.cons r4 (.nil)) 600 O7 (by kernel_rfl) (Eq.mpr (show _=(true=true) by kernel_rfl) rfl)
def O8:bg:=⟨27,[(.str [42,50,32,65,83,32,99,32,70,82,79,77,32,116,32,87,72,69,82,69,32,78,79,84,32,40,97,61,49,32,65,78,68,32,98,32,73,83,32,78,85,76,76,41,32,76,73,77,73,84,32,51,59])],(.bn [(.agg [(.int .u8 4),(.str [42]),(.int .u64 0),(.int .i64 0)]),(.int .i64 1),(.int .i64 0)]),2,[]⟩
theorem XH:aL Tryz.prog O8.f O8.args O8.v O8.N O8.H:=au mixed aE aB (L:=[k4]) (.cons r4 (.nil)) 600 O8 (by kernel_rfl) (Eq.mpr (show _=(true=true) by kernel_rfl) rfl)
def O9:bg:=⟨27,[(.str [50,32,65,83,32,99,32,70,82,79,77,32,116,32,87,72,69,82,69,32,78,79,84,32,40,97,61,49,32,65,78,68,32,98,32,73,83,32,78,85,76,76,41,32,76,73,77,73,84,32,51,59])],(.bn [(.agg [(.int .u8 2),(.str []),(.int .u64 2),(.int .i64 0)]),(.int .i64 1),(.int .i64 0)]),3,[]⟩
theorem XI:aL Tryz.prog O9.f O9.args O9.v O9.N O9.H:=au mixed aE aB (L:=[]) (.nil) 600 O9 (by kernel_rfl) (Eq.mpr (show _=(true=true) by kernel_rfl) rfl)
def Pa:bg:=⟨27,[(.str [65,83,32,99,32,70,82,79,77,32,116,32,87,72,69,82,69,32,78,79,84,32,40,97,61,49,32,65,78,68,32,98,32,73,83,32,78,85,76,76,41,32,76,73,77,73,84,32,51,59])],(.bn [(.agg [(.int .u8 1),(.str [97,115]),(.int .u64 0),(.int .i64 0)]),(.int .i64 2),(.int .i64 0)]),6,[]⟩
theorem XJ:aL Tryz.prog Pa.f Pa.args Pa.v Pa.N Pa.H:=au mixed aE aB (L:=[]) (.nil) 600 Pa (by kernel_rfl) (Eq.mpr (show _=(true=true) by kernel_rfl) rfl)
def Pb:bg:=⟨27,[(.str [99,32,70,82,79,77,32,116,32,87,72,69,82,69,32,78,79,84,32,40,97,61,49,32,65,78,68,32,98,32,73,83,32,78,85,76,76,41,32,76,73,77,73,84,32,51,59])],(.bn [(.agg [(.int .u8 1),(.str [99]),(.int .u64 0),(.int .i64 0)]),(.int .i64 1),(.int .i64 0)]),2,[]⟩
theorem XK:aL Tryz.prog Pb.f Pb.args Pb.v Pb.N Pb.H:=au mixed aE aB (L:=[]) (.nil) 600 Pb (by kernel_rfl) (Eq.mpr (show _=(true=true) by kernel_rfl) rfl)
def Pc:bg:=⟨27,[(.str [70,82,79,77,32,116,32,87,72,69,82,69,32,78,79,84,32,40,97,61,49,32,65,78,68,32,98,32,73,83,32,78,85,76,76,41,32,76,73,77,73,84,32,51,59])],(.bn [(.agg [(.int .u8 1),(.str [102,114,111,109]),(.int .u64 0),(.int .i64 0)]),(.int .i64 4),(.int .i64 0)]),8,[]⟩
theorem XL:aL Tryz.prog Pc.f Pc.args Pc.v Pc.N Pc.H:=au mixed aE aB (L:=[]) (.nil) 600 Pc (by kernel_rfl) (Eq.mpr (show _=(true=true) by kernel_rfl) rfl)
def Pe:bg:=⟨27,[(.str [116,32,87,72,69,82,69,32,78,79,84,32,40,97,61,49,32,65,78,68,32,98,32,73,83,32,78,85,76,76,41,32,76,73,77,73,84,32,51,59])],(.bn [(.agg [(.int .u8 1),(.str [116]),(.int .u64 0),(.int .i64 0)]),(.int .i64 1),(.int .i64 0)]),2,[]⟩
theorem r16:aL Tryz.prog Pe.f Pe.args Pe.v Pe.N Pe.H:=au mixed aE aB (L:=[]) (.nil) 600 Pe (by kernel_rfl) (Eq.mpr (show _=(true=true) by kernel_rfl) rfl)
def Pf:bg:=⟨27,[(.str [87,72,69,82,69,32,78,79,84,32,40,97,61,49,32,65,78,68,32,98,32,73,83,32,78,85,76,76,41,32,76,73,77,73,84,32,51,59])],(.bn [(.agg [(.int .u8 1),(.str [119,104,101,114,101]),(.int .u64 0),(.int .i64 0)]),(.int .i64 5),(.int .i64 0)]),9,[]⟩
theorem XM:aL Tryz.prog Pf.f Pf.args Pf.v Pf.N Pf.H:=au mixed aE aB (L:=[]) (.nil) 600 Pf (by kernel_rfl) (Eq.mpr (show _=(true=true) by kernel_rfl) rfl)
def Pg:bg:=⟨27,[(.str [78,79,84,32,40,97,61,49,32,65,78,68,32,98,32,73,83,32,78,85,76,76,41,32,76,73,77,73,84,32,51,59])],(.bn [(.agg [(.int .u8 1),(.str [110,111,116]),(.int .u64 0),(.int .i64 0)]),(.int .i64 3),(.int .i64 0)]),7,[]⟩
theorem XN:aL Tryz.prog Pg.f Pg.args Pg.v Pg.N Pg.H:=au mixed aE aB (L:=[]) (.nil) 600 Pg (by kernel_rfl) (Eq.mpr (show _=(true=true) by kernel_rfl) rfl)
def Ph:bg:=⟨27,[(.str [40,97,61,49,32,65,78,68,32,98,32,73,83,32,78,85,76,76,41,32,76,73,77,73,84,32,51,59])],(.bn [(.agg [(.int .u8 4),(.str [40]),(.int .u64 0),(.int .i64 0)]),(.int .i64 1),(.int .i64 0)]),2,[]⟩
theorem XO:aL Tryz.prog Ph.f Ph.args Ph.v Ph.N Ph.H:=au mixed aE aB (L:=[k4]) (.cons r4 (.nil)) 600 Ph (by kernel_rfl) (Eq.mpr (show _=(true=true) by kernel_rfl) rfl)
def Pj:bg:=⟨27,[(.str [97,61,49,32,65,78,68,32,98,32,73,83,32,78,85,76,76,41,32,76,73,77,73,84,32,51,59])],(.bn [(.agg [(.int .u8 1),(.str [97]),(.int .u64 0),(.int .i64 0)]),(.int .i64 1),(.int .i64 0)]),2,[]⟩
theorem XP:aL Tryz.prog Pj.f Pj.args Pj.v Pj.N Pj.H:=au mixed aE aB (L:=[]) (.nil) 600 Pj (by kernel_rfl) (Eq.mpr (show _=(true=true) by kernel_rfl) rfl)
def Pk:bg:=⟨27,[(.str [61,49,32,65,78,68,32,98,32,73,83,32,78,85,76,76,41,32,76,73,77,73,84,32,51,59])],(.bn [(.agg [(.int .u8 4),(.str [61]),(.int .u64 0),(.int .i64 0)]),(.int .i64 1),(.int .i64 0)]),2,[]⟩
theorem XQ:aL Tryz.prog Pk.f Pk.args Pk.v Pk.N Pk.H:=au mixed aE aB (L:=[k4]) (.cons r4 (.nil)) 600 Pk (by kernel_rfl) (Eq.mpr (show _=(true=true) by kernel_rfl) rfl)
def Pm:bg:=⟨27,[(.str [49,32,65,78,68,32,98,32,73,83,32,78,85,76,76,41,32,76,73,77,73,84,32,51,59])],(.bn [(.agg [(.int .u8 2),(.str []),(.int .u64 1),(.int .i64 0)]),(.int .i64 1),(.int .i64 0)]),3,[]⟩
theorem XR:aL Tryz.prog Pm.f Pm.args Pm.v Pm.N Pm.H:=au mixed aE aB (L:=[]) (.nil) 600 Pm (by kernel_rfl) (Eq.mpr (show _=(true=true) by kernel_rfl) rfl)
def Pn:bg:=⟨27,[(.str [65,78,68,32,98,32,73,83,32,78,85,76,76,41,32,76,73,77,73,84,32,51,59])],(.bn [(.agg [(.int .u8 1),(.str [97,110,100]),(.int .u64 0),(.int .i64 0)]),(.int .i64 3),(.int .i64 0)]),7,[]⟩
theorem XS:aL Tryz.prog Pn.f Pn.args Pn.v Pn.N Pn.H:=au mixed aE aB (L:=[]) (.nil) 600 Pn (by kernel_rfl) (Eq.mpr (show _=(true=true) by kernel_rfl) rfl)
def Po:bg:=⟨27,[(.str [98,32,73,83,32,78,85,76,76,41,32,76,73,77,73,84,32,51,59])],(.bn [(.agg [(.int .u8 1),(.str [98]),(.int .u64 0),(.int .i64 0)]),(.int .i64 1),(.int .i64 0)]),2,[]⟩
theorem XT:aL Tryz.prog Po.f Po.args Po.v Po.N Po.H:=au mixed aE aB (L:=[]) (.nil) 600 Po (by kernel_rfl) (Eq.mpr (show _=(true=true) by kernel_rfl) rfl)
def Pp:bg:=⟨27,[(.str [73,83,32,78,85,76,76,41,32,76,73,77,73,84,32,51,59])],(.bn [(.agg [(.int .u8 1),(.str [105,115]),(.int .u64 0),(.int .i64 0)]),(.int .i64 2),(.int .i64 0)]),6,[]⟩
theorem XU:aL Tryz.prog Pp.f Pp.args Pp.v Pp.N Pp.H:=au mixed aE aB (L:=[]) (.nil) 600 Pp (by kernel_rfl) (Eq.mpr (show _=(true=true) by kernel_rfl) rfl)
def Pq:bg:=⟨27,[(.str [78,85,76,76,41,32,76,73,77,73,84,32,51,59])],(.bn [(.agg [(.int .u8 1),(.str [110,117,108,108]),(.int .u64 0),(.int .i64 0)]),(.int .i64 4),(.int .i64 0)]),8,[]⟩
theorem XV:aL Tryz.prog Pq.f Pq.args Pq.v Pq.N Pq.H:=au mixed aE aB (L:=[]) (.nil) 600 Pq (by kernel_rfl) (Eq.mpr (show _=(true=true) by kernel_rfl) rfl)
def Pr:bg:=⟨27,[(.str [41,32,76,73,77,73,84,32,51,59])],(.bn [(.agg [(.int .u8 4),(.str [41]),(.int .u64 0),(.int .i64 0)]),(.int .i64 1),(.int .i64 0)]),2,[]⟩
theorem XW:aL Tryz.prog Pr.f Pr.args Pr.v Pr.N Pr.H:=au mixed aE aB (L:=[k4]) (.cons r4 (.nil)) 600 Pr (by kernel_rfl) (Eq.mpr (show _=(true=true) by kernel_rfl) rfl)
def Pt:bg:=⟨27,[(.str [76,73,77,73,84,32,51,59])],(.bn [(.agg [(.int .u8 1),(.str [108,105,109,105,116]),(.int .u64 0),(.int .i64 0)]),(.int .i64 5),(.int .i64 0)]),9,[]⟩
theorem XX:aL Tryz.prog Pt.f Pt.args Pt.v Pt.N Pt.H:=au mixed aE aB (L:=[]) (.nil) 600 Pt (by kernel_rfl) (Eq.mpr (show _=(true=true) by kernel_rfl) rfl)
def Pv:bg:=⟨27,[(.str [51,59])],(.bn [(.agg [(.int .u8 2),(.str []),(.int .u64 3),(.int .i64 0)]),(.int .i64 1),(.int .i64 0)]),3,[]⟩
theorem XY:aL Tryz.prog Pv.f Pv.args Pv.v Pv.N Pv.H:=au mixed aE aB (L:=[]) (.nil) 600 Pv (by kernel_rfl) (Eq.mpr (show _=(true=true) by kernel_rfl) rfl)
def Pw:bg:=⟨27,[(.str [59])],(.bn [(.agg [(.int .u8 4),(.str [59]),(.int .u64 0),(.int .i64 0)]),(.int .i64 1),(.int .i64 0)]),2,[]⟩
theorem XZ:aL Tryz.prog Pw.f Pw.args Pw.v Pw.N Pw.H:=au mixed aE aB (L:=[k4]) (.cons r4 (.nil)) 600 Pw (by kernel_rfl) (Eq.mpr (show _=(true=true) by kernel_rfl) rfl)
def Px:bg:=⟨9,[(.str [83,69,76,69,67,84,32,97,44,32,40,98,43,49,41,42,50,32,65,83,32,99,32,70,82,79,77,32,116,32,87,72,69,82,69,32,78,79,84,32,40,97,61,49,32,65,78,68,32,98,32,73,83,32,78,85,76,76,41,32,76,73,77,73,84,32,51,59])],(.bn [(.sl 13 27 4 0 28 none),(.agg [(.int .i64 0),(.int .i64 0)])]),170,[(13,(.vec 27 4 [(.agg [(.int .u8 1),(.str [115,101,108,101,99,116]),(.int .u64 0),(.int .i64 0)]),(.agg [(.int .u8 1),(.str [97]),(.int .u64 0),(.int .i64 7)]),(.agg [(.int .u8 4),(.str [44]),(.int .u64 0),(.int .i64 8)]),(.agg [(.int .u8 4),(.str [40]),(.int .u64 0),(.int .i64 10)]),(.agg [(.int .u8 1),(.str [98]),(.int .u64 0),(.int .i64 11)]),(.agg [(.int .u8 4),(.str [43]),(.int .u64 0),(.int .i64 12)]),(.agg [(.int .u8 2),(.str []),(.int .u64 1),(.int .i64 13)]),(.agg [(.int .u8 4),(.str [41]),(.int .u64 0),(.int .i64 14)]),(.agg [(.int .u8 4),(.str [42]),(.int .u64 0),(.int .i64 15)]),(.agg [(.int .u8 2),(.str []),(.int .u64 2),(.int .i64 16)]),(.agg [(.int .u8 1),(.str [97,115]),(.int .u64 0),(.int .i64 18)]),(.agg [(.int .u8 1),(.str [99]),(.int .u64 0),(.int .i64 21)]),(.agg [(.int .u8 1),(.str [102,114,111,109]),(.int .u64 0),(.int .i64 23)]),(.agg [(.int .u8 1),(.str [116]),(.int .u64 0),(.int .i64 28)]),(.agg [(.int .u8 1),(.str [119,104,101,114,101]),(.int .u64 0),(.int .i64 30)]),(.agg [(.int .u8 1),(.str [110,111,116]),(.int .u64 0),(.int .i64 36)]),(.agg [(.int .u8 4),(.str [40]),(.int .u64 0),(.int .i64 40)]),(.agg [(.int .u8 1),(.str [97]),(.int .u64 0),(.int .i64 41)]),(.agg [(.int .u8 4),(.str [61]),(.int .u64 0),(.int .i64 42)]),(.agg [(.int .u8 2),(.str []),(.int .u64 1),(.int .i64 43)]),(.agg [(.int .u8 1),(.str [97,110,100]),(.int .u64 0),(.int .i64 45)]),(.agg [(.int .u8 1),(.str [98]),(.int .u64 0),(.int .i64 49)]),(.agg [(.int .u8 1),(.str [105,115]),(.int .u64 0),(.int .i64 51)]),(.agg [(.int .u8 1),(.str [110,117,108,108]),(.int .u64 0),(.int .i64 54)]),(.agg [(.int .u8 4),(.str [41]),(.int .u64 0),(.int .i64 58)]),(.agg [(.int .u8 1),(.str [108,105,109,105,116]),(.int .u64 0),(.int .i64 60)]),(.agg [(.int .u8 2),(.str []),(.int .u64 3),(.int .i64 66)]),(.agg [(.int .u8 4),(.str [59]),(.int .u64 0),(.int .i64 67)])] ⟨true,some 57⟩))]⟩
theorem X0:aL Tryz.prog Px.f Px.args Px.v Px.N Px.H:=au mixed aE aB (L:=[Pw,Pv,Pt,Pr,Pq,Pp,Po,Pn,Pm,Pk,Pj,Ph,Pg,Pf,Pe,Pc,Pb,Pa,O9,O8,O7,k9,k8,k7,k6,k5,k2,k1]) (.cons XZ (.cons XY (.cons XX (.cons XW (.cons XV (.cons XU (.cons XT (.cons XS (.cons XR (.cons XQ (.cons XP (.cons XO (.cons XN (.cons XM (.cons r16 (.cons XL (.cons XK (.cons XJ (.cons XI (.cons XH (.cons XG (.cons r9 (.cons r8 (.cons r7 (.cons r6 (.cons r5 (.cons r2 (.cons r1 (.nil))))))))))))))))))))))))))))) 600 Px (by kernel_rfl) (Eq.mpr (show _=(true=true) by kernel_rfl) rfl)
def Py:bg:=⟨129,[(.str [97,110,100,32,97,115,32,97,115,99,32,98,101,103,105,110,32,98,111,111,108,32,98,121,32,99,111,109,109,105,116,32,99,111,117,110,116,32,99,114,101,97,116,101,32,100,101,108,101,116,101,32,100,101,115,99,32,102,97,108,115,101,32,102,114,111,109,32,103,114,111,117,112,32,105,110,100,101,120,32,105,110,115,101,114,116,32,105,110,116,32,105,110,116,111,32,105,115,32,106,111,105,110,32,107,101,121,32,108,105,109,105,116,32,109,97,120,32,109,105,110,32,110,111,116,32,110,117,108,108,32,111,110,32,111,114,32,111,114,100,101,114,32,112,114,105,109,97,114,121,32,114,111,108,108,98,97,99,107,32,115,97,118,101,112,111,105,110,116,32,115,101,108,101,99,116,32,115,101,116,32,115,117,109,32,116,97,98,108,101,32,116,101,120,116,32,116,111,32,116,114,117,101,32,117,110,105,113,117,101,32,117,112,100,97,116,101,32,118,97,108,117,101,115,32,119,104,101,114,101])],(.sl 0 0 1 0 43 (some 43)),1,[(0,(.vec 0 1 ((.str [97,110,100])::(.str [97,115])::(.str [97,115,99])::(.str [98,101,103,105,110])::(.str [98,111,111,108])::(.str [98,121])::(.str [99,111,109,109,105,116])::(.str [99,111,117,110,116])::(.str [99,114,101,97,116,101])::(.str [100,101,108,101,116,101])::(.str [100,101,115,99])::(.str [102,97,108,115,101])::(.str [102,114,111,109])::(.str [103,114,111,117,112])::(.str [105,110,100,101,120])::(.str [105,110,115,101,114,116])::(.str [105,110,116])::(.str [105,110,116,111])::(.str [105,115])::(.str [106,111,105,110])::(.str [107,101,121])::(.str [108,105,109,105,116])::(.str [109,97,120])::(.str [109,105,110])::(.str [110,111,116])::(.str [110,117,108,108])::(.str [111,110])::(.str [111,114])::(.str [111,114,100,101,114])::(.str [112,114,105,109,97,114,121])::(.str [114,111,108,108,98,97,99,107])::(.str [115,97,118,101,112,111,105,110,116])::(.str [115,101,108,101,99,116])::(.str [115,101,116])::(.str [115,117,109])::(.str [116,97,98,108,101])::(.str [116,101,120,116])::(.str [116,111])::(.str [116,114,117,101])::(.str [117,110,105,113,117,101])::(.str [117,112,100,97,116,101])::(.str [118,97,108,117,101,115])::(.str [119,104,101,114,101])::[]) ⟨false,some 9⟩))]⟩
theorem r32:aL Tryz.prog Py.f Py.args Py.v Py.N Py.H:=au mixed aE aB (L:=[]) (.nil) 600 Py (by kernel_rfl) (Eq.mpr (show _=(true=true) by kernel_rfl) rfl)
def JX:bg:=⟨179,[],(.sl 0 0 1 0 43 (some 43)),1,[(0,(.vec 0 1 ((.str [97,110,100])::(.str [97,115])::(.str [97,115,99])::(.str [98,101,103,105,110])::(.str [98,111,111,108])::(.str [98,121])::(.str [99,111,109,109,105,116])::(.str [99,111,117,110,116])::(.str [99,114,101,97,116,101])::(.str [100,101,108,101,116,101])::(.str [100,101,115,99])::(.str [102,97,108,115,101])::(.str [102,114,111,109])::(.str [103,114,111,117,112])::(.str [105,110,100,101,120])::(.str [105,110,115,101,114,116])::(.str [105,110,116])::(.str [105,110,116,111])::(.str [105,115])::(.str [106,111,105,110])::(.str [107,101,121])::(.str [108,105,109,105,116])::(.str [109,97,120])::(.str [109,105,110])::(.str [110,111,116])::(.str [110,117,108,108])::(.str [111,110])::(.str [111,114])::(.str [111,114,100,101,114])::(.str [112,114,105,109,97,114,121])::(.str [114,111,108,108,98,97,99,107])::(.str [115,97,118,101,112,111,105,110,116])::(.str [115,101,108,101,99,116])::(.str [115,101,116])::(.str [115,117,109])::(.str [116,97,98,108,101])::(.str [116,101,120,116])::(.str [116,111])::(.str [116,114,117,101])::(.str [117,110,105,113,117,101])::(.str [117,112,100,97,116,101])::(.str [118,97,108,117,101,115])::(.str [119,104,101,114,101])::[]) ⟨false,some 9⟩))]⟩
theorem Tj:aL Tryz.prog JX.f JX.args JX.v JX.N JX.H:=au mixed aE aB (L:=[Py]) (.cons r32 (.nil)) 600 JX (by kernel_rfl) (Eq.mpr (show _=(true=true) by kernel_rfl) rfl)
def ML:bg:=⟨144,[(.str [97])],(.bool false),1,[]⟩
theorem Wb:aL Tryz.prog ML.f ML.args ML.v ML.N ML.H:=au mixed aE aB (L:=[JX]) (.cons Tj (.nil)) 600 ML (by kernel_rfl) (Eq.mpr (show _=(true=true) by kernel_rfl) rfl)
def MM:bg:=⟨144,[(.str [98])],(.bool false),1,[]⟩
theorem Wc:aL Tryz.prog MM.f MM.args MM.v MM.N MM.H:=au mixed aE aB (L:=[JX]) (.cons Tj (.nil)) 600 MM (by kernel_rfl) (Eq.mpr (show _=(true=true) by kernel_rfl) rfl)
def MN:bg:=⟨144,[(.str [99])],(.bool false),1,[]⟩
theorem Wd:aL Tryz.prog MN.f MN.args MN.v MN.N MN.H:=au mixed aE aB (L:=[JX]) (.cons Tj (.nil)) 600 MN (by kernel_rfl) (Eq.mpr (show _=(true=true) by kernel_rfl) rfl)
def MO:bg:=⟨144,[(.str [116])],(.bool false),1,[]⟩
theorem Wf:aL Tryz.prog MO.f MO.args MO.v MO.N MO.H:=au mixed aE aB (L:=[JX]) (.cons Tj (.nil)) 600 MO (by kernel_rfl) (Eq.mpr (show _=(true=true) by kernel_rfl) rfl)
def MP:bg:=⟨71,[(.agg [(.int .u8 1),(.str [115,101,108,101,99,116]),(.int .u64 0),(.int .i64 0)])],(.str [115,101,108,101,99,116]),1,[]⟩
theorem Wg:aL Tryz.prog MP.f MP.args MP.v MP.N MP.H:=au mixed aE aB (L:=[]) (.nil) 600 MP (by kernel_rfl) (Eq.mpr (show _=(true=true) by kernel_rfl) rfl)
def Pz:bg:=⟨27,[(.str [115,101,108,101,99,116])],(.bn [(.agg [(.int .u8 1),(.str [115,101,108,101,99,116]),(.int .u64 0),(.int .i64 0)]),(.int .i64 6),(.int .i64 0)]),2,[]⟩
theorem X1:aL Tryz.prog Pz.f Pz.args Pz.v Pz.N Pz.H:=au mixed aE aB (L:=[]) (.nil) 600 Pz (by kernel_rfl) (Eq.mpr (show _=(true=true) by kernel_rfl) rfl)
def PA:bg:=⟨9,[(.str [115,101,108,101,99,116])],(.bn [(.sl 5 0 4 0 1 none),(.agg [(.int .i64 0),(.int .i64 0)])]),6,[(5,(.vec 0 4 [(.agg [(.int .u8 1),(.str [115,101,108,101,99,116]),(.int .u64 0),(.int .i64 0)])] ⟨true,some 57⟩))]⟩
theorem X2:aL Tryz.prog PA.f PA.args PA.v PA.N PA.H:=au mixed aE aB (L:=[Pz]) (.cons X1 (.nil)) 600 PA (by kernel_rfl) (Eq.mpr (show _=(true=true) by kernel_rfl) rfl)
def PB:bg:=⟨70,[(.agg [(.int .u8 1),(.str [115,101,108,101,99,116]),(.int .u64 0),(.int .i64 0)])],(.bool true),9,[]⟩
theorem X3:aL Tryz.prog PB.f PB.args PB.v PB.N PB.H:=au mixed aE aB (L:=[PA,MP]) (.cons X2 (.cons Wg (.nil))) 600 PB (by kernel_rfl) (Eq.mpr (show _=(true=true) by kernel_rfl) rfl)
def MQ:bg:=⟨71,[(.agg [(.int .u8 1),(.str [97]),(.int .u64 0),(.int .i64 0)])],(.str [97]),1,[]⟩
theorem Wh:aL Tryz.prog MQ.f MQ.args MQ.v MQ.N MQ.H:=au mixed aE aB (L:=[]) (.nil) 600 MQ (by kernel_rfl) (Eq.mpr (show _=(true=true) by kernel_rfl) rfl)
def PC:bg:=⟨27,[(.str [97])],(.bn [(.agg [(.int .u8 1),(.str [97]),(.int .u64 0),(.int .i64 0)]),(.int .i64 1),(.int .i64 0)]),2,[]⟩
theorem X4:aL Tryz.prog PC.f PC.args PC.v PC.N PC.H:=au mixed aE aB (L:=[]) (.nil) 600 PC (by kernel_rfl) (Eq.mpr (show _=(true=true) by kernel_rfl) rfl)
def PD:bg:=⟨9,[(.str [97])],(.bn [(.sl 5 0 4 0 1 none),(.agg [(.int .i64 0),(.int .i64 0)])]),6,[(5,(.vec 0 4 [(.agg [(.int .u8 1),(.str [97]),(.int .u64 0),(.int .i64 0)])] ⟨true,some 57⟩))]⟩
theorem X5:aL Tryz.prog PD.f PD.args PD.v PD.N PD.H:=au mixed aE aB (L:=[PC]) (.cons X4 (.nil)) 600 PD (by kernel_rfl) (Eq.mpr (show _=(true=true) by kernel_rfl) rfl)
def PE:bg:=⟨70,[(.agg [(.int .u8 1),(.str [97]),(.int .u64 0),(.int .i64 0)])],(.bool true),9,[]⟩
theorem X6:aL Tryz.prog PE.f PE.args PE.v PE.N PE.H:=au mixed aE aB (L:=[PD,MQ]) (.cons X5 (.cons Wh (.nil))) 600 PE (by kernel_rfl) (Eq.mpr (show _=(true=true) by kernel_rfl) rfl)
def MS:bg:=⟨71,[(.agg [(.int .u8 4),(.str [44]),(.int .u64 0),(.int .i64 0)])],(.str [44]),1,[]⟩
theorem Wi:aL Tryz.prog MS.f MS.args MS.v MS.N MS.H:=au mixed aE aB (L:=[]) (.nil) 600 MS (by kernel_rfl) (Eq.mpr (show _=(true=true) by kernel_rfl) rfl)
def PF:bg:=⟨27,[(.str [44])],(.bn [(.agg [(.int .u8 4),(.str [44]),(.int .u64 0),(.int .i64 0)]),(.int .i64 1),(.int .i64 0)]),2,[]⟩
theorem X7:aL Tryz.prog PF.f PF.args PF.v PF.N PF.H:=au mixed aE aB (L:=[k4]) (.cons r4 (.nil)) 600 PF (by kernel_rfl) (Eq.mpr (show _=(true=true) by kernel_rfl) rfl)
def PG:bg:=⟨9,[(.str [44])],(.bn [(.sl 5 0 4 0 1 none),(.agg [(.int .i64 0),(.int .i64 0)])]),6,[(5,(.vec 0 4 [(.agg [(.int .u8 4),(.str [44]),(.int .u64 0),(.int .i64 0)])] ⟨true,some 57⟩))]⟩
theorem X8:aL Tryz.prog PG.f PG.args PG.v PG.N PG.H:=au mixed aE aB (L:=[PF]) (.cons X7 (.nil)) 600 PG (by kernel_rfl) (Eq.mpr (show _=(true=true) by kernel_rfl) rfl)
def PI:bg:=⟨70,[(.agg [(.int .u8 4),(.str [44]),(.int .u64 0),(.int .i64 0)])],(.bool true),9,[]⟩
theorem X9:aL Tryz.prog PI.f PI.args PI.v PI.N PI.H:=au mixed aE aB (L:=[PG,MS]) (.cons X8 (.cons Wi (.nil))) 600 PI (by kernel_rfl) (Eq.mpr (show _=(true=true) by kernel_rfl) rfl)
def MT:bg:=⟨71,[(.agg [(.int .u8 4),(.str [40]),(.int .u64 0),(.int .i64 0)])],(.str [40]),1,[]⟩
theorem Wj:aL Tryz.prog MT.f MT.args MT.v MT.N MT.H:=au mixed aE aB (L:=[]) (.nil) 600 MT (by kernel_rfl) (Eq.mpr (show _=(true=true) by kernel_rfl) rfl)
def PJ:bg:=⟨27,[(.str [40])],(.bn [(.agg [(.int .u8 4),(.str [40]),(.int .u64 0),(.int .i64 0)]),(.int .i64 1),(.int .i64 0)]),2,[]⟩
theorem Ya:aL Tryz.prog PJ.f PJ.args PJ.v PJ.N PJ.H:=au mixed aE aB (L:=[k4]) (.cons r4 (.nil)) 600 PJ (by kernel_rfl) (Eq.mpr (show _=(true=true) by kernel_rfl) rfl)
def PK:bg:=⟨9,[(.str [40])],(.bn [(.sl 5 0 4 0 1 none),(.agg [(.int .i64 0),(.int .i64 0)])]),6,[(5,(.vec 0 4 [(.agg [(.int .u8 4),(.str [40]),(.int .u64 0),(.int .i64 0)])] ⟨true,some 57⟩))]⟩
theorem Yb:aL Tryz.prog PK.f PK.args PK.v PK.N PK.H:=au mixed aE aB (L:=[PJ]) (.cons Ya (.nil)) 600 PK (by kernel_rfl) (Eq.mpr (show _=(true=true) by kernel_rfl) rfl)
def PL:bg:=⟨70,[(.agg [(.int .u8 4),(.str [40]),(.int .u64 0),(.int .i64 0)])],(.bool true),9,[]⟩
theorem Yc:aL Tryz.prog PL.f PL.args PL.v PL.N PL.H:=au mixed aE aB (L:=[PK,MT]) (.cons Yb (.cons Wj (.nil))) 600 PL (by kernel_rfl) (Eq.mpr (show _=(true=true) by kernel_rfl) rfl)
def MU:bg:=⟨71,[(.agg [(.int .u8 1),(.str [98]),(.int .u64 0),(.int .i64 0)])],(.str [98]),1,[]⟩
theorem Wk:aL Tryz.prog MU.f MU.args MU.v MU.N MU.H:=au mixed aE aB (L:=[]) (.nil) 600 MU (by kernel_rfl) (Eq.mpr (show _=(true=true) by kernel_rfl) rfl)
def PN:bg:=⟨27,[(.str [98])],(.bn [(.agg [(.int .u8 1),(.str [98]),(.int .u64 0),(.int .i64 0)]),(.int .i64 1),(.int .i64 0)]),2,[]⟩
theorem Yd:aL Tryz.prog PN.f PN.args PN.v PN.N PN.H:=au mixed aE aB (L:=[]) (.nil) 600 PN (by kernel_rfl) (Eq.mpr (show _=(true=true) by kernel_rfl) rfl)
def PO:bg:=⟨9,[(.str [98])],(.bn [(.sl 5 0 4 0 1 none),(.agg [(.int .i64 0),(.int .i64 0)])]),6,[(5,(.vec 0 4 [(.agg [(.int .u8 1),(.str [98]),(.int .u64 0),(.int .i64 0)])] ⟨true,some 57⟩))]⟩
theorem Ye:aL Tryz.prog PO.f PO.args PO.v PO.N PO.H:=au mixed aE aB (L:=[PN]) (.cons Yd (.nil)) 600 PO (by kernel_rfl) (Eq.mpr (show _=(true=true) by kernel_rfl) rfl)
def PR:bg:=⟨70,[(.agg [(.int .u8 1),(.str [98]),(.int .u64 0),(.int .i64 0)])],(.bool true),9,[]⟩
theorem Yf:aL Tryz.prog PR.f PR.args PR.v PR.N PR.H:=au mixed aE aB (L:=[PO,MU]) (.cons Ye (.cons Wk (.nil))) 600 PR (by kernel_rfl) (Eq.mpr (show _=(true=true) by kernel_rfl) rfl)
def MV:bg:=⟨71,[(.agg [(.int .u8 4),(.str [43]),(.int .u64 0),(.int .i64 0)])],(.str [43]),1,[]⟩
theorem Wl:aL Tryz.prog MV.f MV.args MV.v MV.N MV.H:=au mixed aE aB (L:=[]) (.nil) 600 MV (by kernel_rfl) (Eq.mpr (show _=(true=true) by kernel_rfl) rfl)
def PS:bg:=⟨27,[(.str [43])],(.bn [(.agg [(.int .u8 4),(.str [43]),(.int .u64 0),(.int .i64 0)]),(.int .i64 1),(.int .i64 0)]),2,[]⟩
theorem Yg:aL Tryz.prog PS.f PS.args PS.v PS.N PS.H:=au mixed aE aB (L:=[k4]) (.cons r4 (.nil)) 600 PS (by kernel_rfl) (Eq.mpr (show _=(true=true) by kernel_rfl) rfl)
def PT:bg:=⟨9,[(.str [43])],(.bn [(.sl 5 0 4 0 1 none),(.agg [(.int .i64 0),(.int .i64 0)])]),6,[(5,(.vec 0 4 [(.agg [(.int .u8 4),(.str [43]),(.int .u64 0),(.int .i64 0)])] ⟨true,some 57⟩))]⟩
theorem Yh:aL Tryz.prog PT.f PT.args PT.v PT.N PT.H:=au mixed aE aB (L:=[PS]) (.cons Yg (.nil)) 600 PT (by kernel_rfl) (Eq.mpr (show _=(true=true) by kernel_rfl) rfl)
def PU:bg:=⟨70,[(.agg [(.int .u8 4),(.str [43]),(.int .u64 0),(.int .i64 0)])],(.bool true),9,[]⟩
theorem Yi:aL Tryz.prog PU.f PU.args PU.v PU.N PU.H:=au mixed aE aB (L:=[PT,MV]) (.cons Yh (.cons Wl (.nil))) 600 PU (by kernel_rfl) (Eq.mpr (show _=(true=true) by kernel_rfl) rfl)
def PV:bg:=⟨70,[(.agg [(.int .u8 2),(.str []),(.int .u64 1),(.int .i64 0)])],(.bool true),1,[]⟩
theorem Yj:aL Tryz.prog PV.f PV.args PV.v PV.N PV.H:=au mixed aE aB (L:=[]) (.nil) 600 PV (by kernel_rfl) (Eq.mpr (show _=(true=true) by kernel_rfl) rfl)
def PW:bg:=⟨71,[(.agg [(.int .u8 2),(.str []),(.int .u64 1),(.int .i64 0)])],(.str [49]),1,[]⟩
theorem r64:aL Tryz.prog PW.f PW.args PW.v PW.N PW.H:=au mixed aE aB (L:=[]) (.nil) 600 PW (by kernel_rfl) (Eq.mpr (show _=(true=true) by kernel_rfl) rfl)
def MW:bg:=⟨71,[(.agg [(.int .u8 4),(.str [41]),(.int .u64 0),(.int .i64 0)])],(.str [41]),1,[]⟩
theorem Wm:aL Tryz.prog MW.f MW.args MW.v MW.N MW.H:=au mixed aE aB (L:=[]) (.nil) 600 MW (by kernel_rfl) (Eq.mpr (show _=(true=true) by kernel_rfl) rfl)
def PX:bg:=⟨27,[(.str [41])],(.bn [(.agg [(.int .u8 4),(.str [41]),(.int .u64 0),(.int .i64 0)]),(.int .i64 1),(.int .i64 0)]),2,[]⟩
theorem Yk:aL Tryz.prog PX.f PX.args PX.v PX.N PX.H:=au mixed aE aB (L:=[k4]) (.cons r4 (.nil)) 600 PX (by kernel_rfl) (Eq.mpr (show _=(true=true) by kernel_rfl) rfl)
def PY:bg:=⟨9,[(.str [41])],(.bn [(.sl 5 0 4 0 1 none),(.agg [(.int .i64 0),(.int .i64 0)])]),6,[(5,(.vec 0 4 [(.agg [(.int .u8 4),(.str [41]),(.int .u64 0),(.int .i64 0)])] ⟨true,some 57⟩))]⟩
theorem Yl:aL Tryz.prog PY.f PY.args PY.v PY.N PY.H:=au mixed aE aB (L:=[PX]) (.cons Yk (.nil)) 600 PY (by kernel_rfl) (Eq.mpr (show _=(true=true) by kernel_rfl) rfl)
def PZ:bg:=⟨70,[(.agg [(.int .u8 4),(.str [41]),(.int .u64 0),(.int .i64 0)])],(.bool true),9,[]⟩
theorem Ym:aL Tryz.prog PZ.f PZ.args PZ.v PZ.N PZ.H:=au mixed aE aB (L:=[PY,MW]) (.cons Yl (.cons Wm (.nil))) 600 PZ (by kernel_rfl) (Eq.mpr (show _=(true=true) by kernel_rfl) rfl)
def MX:bg:=⟨71,[(.agg [(.int .u8 4),(.str [42]),(.int .u64 0),(.int .i64 0)])],(.str [42]),1,[]⟩
theorem Wn:aL Tryz.prog MX.f MX.args MX.v MX.N MX.H:=au mixed aE aB (L:=[]) (.nil) 600 MX (by kernel_rfl) (Eq.mpr (show _=(true=true) by kernel_rfl) rfl)
def P0:bg:=⟨27,[(.str [42])],(.bn [(.agg [(.int .u8 4),(.str [42]),(.int .u64 0),(.int .i64 0)]),(.int .i64 1),(.int .i64 0)]),2,[]⟩
theorem Yn:aL Tryz.prog P0.f P0.args P0.v P0.N P0.H:=au mixed aE aB (L:=[k4]) (.cons r4 (.nil)) 600 P0 (by kernel_rfl) (Eq.mpr (show _=(true=true) by kernel_rfl) rfl)
def P4:bg:=⟨9,[(.str [42])],(.bn [(.sl 5 0 4 0 1 none),(.agg [(.int .i64 0),(.int .i64 0)])]),6,[(5,(.vec 0 4 [(.agg [(.int .u8 4),(.str [42]),(.int .u64 0),(.int .i64 0)])] ⟨true,some 57⟩))]⟩
theorem Yo:aL Tryz.prog P4.f P4.args P4.v P4.N P4.H:=au mixed aE aB (L:=[P0]) (.cons Yn (.nil)) 600 P4 (by kernel_rfl) (Eq.mpr (show _=(true=true) by kernel_rfl) rfl)
def P5:bg:=⟨70,[(.agg [(.int .u8 4),(.str [42]),(.int .u64 0),(.int .i64 0)])],(.bool true),9,[]⟩
theorem Yp:aL Tryz.prog P5.f P5.args P5.v P5.N P5.H:=au mixed aE aB (L:=[P4,MX]) (.cons Yo (.cons Wn (.nil))) 600 P5 (by kernel_rfl) (Eq.mpr (show _=(true=true) by kernel_rfl) rfl)
def P6:bg:=⟨70,[(.agg [(.int .u8 2),(.str []),(.int .u64 2),(.int .i64 0)])],(.bool true),1,[]⟩
theorem Yq:aL Tryz.prog P6.f P6.args P6.v P6.N P6.H:=au mixed aE aB (L:=[]) (.nil) 600 P6 (by kernel_rfl) (Eq.mpr (show _=(true=true) by kernel_rfl) rfl)
def P7:bg:=⟨71,[(.agg [(.int .u8 2),(.str []),(.int .u64 2),(.int .i64 0)])],(.str [50]),1,[]⟩
theorem Yr:aL Tryz.prog P7.f P7.args P7.v P7.N P7.H:=au mixed aE aB (L:=[]) (.nil) 600 P7 (by kernel_rfl) (Eq.mpr (show _=(true=true) by kernel_rfl) rfl)
def MY:bg:=⟨71,[(.agg [(.int .u8 1),(.str [97,115]),(.int .u64 0),(.int .i64 0)])],(.str [97,115]),1,[]⟩
theorem Wo:aL Tryz.prog MY.f MY.args MY.v MY.N MY.H:=au mixed aE aB (L:=[]) (.nil) 600 MY (by kernel_rfl) (Eq.mpr (show _=(true=true) by kernel_rfl) rfl)
def P8:bg:=⟨27,[(.str [97,115])],(.bn [(.agg [(.int .u8 1),(.str [97,115]),(.int .u64 0),(.int .i64 0)]),(.int .i64 2),(.int .i64 0)]),2,[]⟩
theorem Yt:aL Tryz.prog P8.f P8.args P8.v P8.N P8.H:=au mixed aE aB (L:=[]) (.nil) 600 P8 (by kernel_rfl) (Eq.mpr (show _=(true=true) by kernel_rfl) rfl)
def P9:bg:=⟨9,[(.str [97,115])],(.bn [(.sl 5 0 4 0 1 none),(.agg [(.int .i64 0),(.int .i64 0)])]),6,[(5,(.vec 0 4 [(.agg [(.int .u8 1),(.str [97,115]),(.int .u64 0),(.int .i64 0)])] ⟨true,some 57⟩))]⟩
theorem Yu:aL Tryz.prog P9.f P9.args P9.v P9.N P9.H:=au mixed aE aB (L:=[P8]) (.cons Yt (.nil)) 600 P9 (by kernel_rfl) (Eq.mpr (show _=(true=true) by kernel_rfl) rfl)
def Qa:bg:=⟨70,[(.agg [(.int .u8 1),(.str [97,115]),(.int .u64 0),(.int .i64 0)])],(.bool true),9,[]⟩
theorem Yv:aL Tryz.prog Qa.f Qa.args Qa.v Qa.N Qa.H:=au mixed aE aB (L:=[P9,MY]) (.cons Yu (.cons Wo (.nil))) 600 Qa (by kernel_rfl) (Eq.mpr (show _=(true=true) by kernel_rfl) rfl)
def MZ:bg:=⟨71,[(.agg [(.int .u8 1),(.str [99]),(.int .u64 0),(.int .i64 0)])],(.str [99]),1,[]⟩
theorem Wp:aL Tryz.prog MZ.f MZ.args MZ.v MZ.N MZ.H:=au mixed aE aB (L:=[]) (.nil) 600 MZ (by kernel_rfl) (Eq.mpr (show _=(true=true) by kernel_rfl) rfl)
def Qb:bg:=⟨27,[(.str [99])],(.bn [(.agg [(.int .u8 1),(.str [99]),(.int .u64 0),(.int .i64 0)]),(.int .i64 1),(.int .i64 0)]),2,[]⟩
theorem Yw:aL Tryz.prog Qb.f Qb.args Qb.v Qb.N Qb.H:=au mixed aE aB (L:=[]) (.nil) 600 Qb (by kernel_rfl) (Eq.mpr (show _=(true=true) by kernel_rfl) rfl)
def Qc:bg:=⟨9,[(.str [99])],(.bn [(.sl 5 0 4 0 1 none),(.agg [(.int .i64 0),(.int .i64 0)])]),6,[(5,(.vec 0 4 [(.agg [(.int .u8 1),(.str [99]),(.int .u64 0),(.int .i64 0)])] ⟨true,some 57⟩))]⟩
theorem Yx:aL Tryz.prog Qc.f Qc.args Qc.v Qc.N Qc.H:=au mixed aE aB (L:=[Qb]) (.cons Yw (.nil)) 600 Qc (by kernel_rfl) (Eq.mpr (show _=(true=true) by kernel_rfl) rfl)
def Qd:bg:=⟨70,[(.agg [(.int .u8 1),(.str [99]),(.int .u64 0),(.int .i64 0)])],(.bool true),9,[]⟩
theorem Yy:aL Tryz.prog Qd.f Qd.args Qd.v Qd.N Qd.H:=au mixed aE aB (L:=[Qc,MZ]) (.cons Yx (.cons Wp (.nil))) 600 Qd (by kernel_rfl) (Eq.mpr (show _=(true=true) by kernel_rfl) rfl)
def M0:bg:=⟨71,[(.agg [(.int .u8 1),(.str [102,114,111,109]),(.int .u64 0),(.int .i64 0)])],(.str [102,114,111,109]),1,[]⟩
theorem Wq:aL Tryz.prog M0.f M0.args M0.v M0.N M0.H:=au mixed aE aB (L:=[]) (.nil) 600 M0 (by kernel_rfl) (Eq.mpr (show _=(true=true) by kernel_rfl) rfl)
def Qe:bg:=⟨27,[(.str [102,114,111,109])],(.bn [(.agg [(.int .u8 1),(.str [102,114,111,109]),(.int .u64 0),(.int .i64 0)]),(.int .i64 4),(.int .i64 0)]),2,[]⟩
theorem Yz:aL Tryz.prog Qe.f Qe.args Qe.v Qe.N Qe.H:=au mixed aE aB (L:=[]) (.nil) 600 Qe (by kernel_rfl) (Eq.mpr (show _=(true=true) by kernel_rfl) rfl)
def Qf:bg:=⟨9,[(.str [102,114,111,109])],(.bn [(.sl 5 0 4 0 1 none),(.agg [(.int .i64 0),(.int .i64 0)])]),6,[(5,(.vec 0 4 [(.agg [(.int .u8 1),(.str [102,114,111,109]),(.int .u64 0),(.int .i64 0)])] ⟨true,some 57⟩))]⟩
theorem YA:aL Tryz.prog Qf.f Qf.args Qf.v Qf.N Qf.H:=au mixed aE aB (L:=[Qe]) (.cons Yz (.nil)) 600 Qf (by kernel_rfl) (Eq.mpr (show _=(true=true) by kernel_rfl) rfl)
def Qg:bg:=⟨70,[(.agg [(.int .u8 1),(.str [102,114,111,109]),(.int .u64 0),(.int .i64 0)])],(.bool true),9,[]⟩
theorem YB:aL Tryz.prog Qg.f Qg.args Qg.v Qg.N Qg.H:=au mixed aE aB (L:=[Qf,M0]) (.cons YA (.cons Wq (.nil))) 600 Qg (by kernel_rfl) (Eq.mpr (show _=(true=true) by kernel_rfl) rfl)
def M1:bg:=⟨71,[(.agg [(.int .u8 1),(.str [116]),(.int .u64 0),(.int .i64 0)])],(.str [116]),1,[]⟩
theorem Wr:aL Tryz.prog M1.f M1.args M1.v M1.N M1.H:=au mixed aE aB (L:=[]) (.nil) 600 M1 (by kernel_rfl) (Eq.mpr (show _=(true=true) by kernel_rfl) rfl)
def Qh:bg:=⟨27,[(.str [116])],(.bn [(.agg [(.int .u8 1),(.str [116]),(.int .u64 0),(.int .i64 0)]),(.int .i64 1),(.int .i64 0)]),2,[]⟩
theorem YC:aL Tryz.prog Qh.f Qh.args Qh.v Qh.N Qh.H:=au mixed aE aB (L:=[]) (.nil) 600 Qh (by kernel_rfl) (Eq.mpr (show _=(true=true) by kernel_rfl) rfl)
def Qi:bg:=⟨9,[(.str [116])],(.bn [(.sl 5 0 4 0 1 none),(.agg [(.int .i64 0),(.int .i64 0)])]),6,[(5,(.vec 0 4 [(.agg [(.int .u8 1),(.str [116]),(.int .u64 0),(.int .i64 0)])] ⟨true,some 57⟩))]⟩
theorem YD:aL Tryz.prog Qi.f Qi.args Qi.v Qi.N Qi.H:=au mixed aE aB (L:=[Qh]) (.cons YC (.nil)) 600 Qi (by kernel_rfl) (Eq.mpr (show _=(true=true) by kernel_rfl) rfl)
def Qj:bg:=⟨70,[(.agg [(.int .u8 1),(.str [116]),(.int .u64 0),(.int .i64 0)])],(.bool true),9,[]⟩
theorem YE:aL Tryz.prog Qj.f Qj.args Qj.v Qj.N Qj.H:=au mixed aE aB (L:=[Qi,M1]) (.cons YD (.cons Wr (.nil))) 600 Qj (by kernel_rfl) (Eq.mpr (show _=(true=true) by kernel_rfl) rfl)
def M3:bg:=⟨71,[(.agg [(.int .u8 1),(.str [119,104,101,114,101]),(.int .u64 0),(.int .i64 0)])],(.str [119,104,101,114,101]),1,[]⟩
theorem Ws:aL Tryz.prog M3.f M3.args M3.v M3.N M3.H:=au mixed aE aB (L:=[]) (.nil) 600 M3 (by kernel_rfl) (Eq.mpr (show _=(true=true) by kernel_rfl) rfl)
def Qk:bg:=⟨27,[(.str [119,104,101,114,101])],(.bn [(.agg [(.int .u8 1),(.str [119,104,101,114,101]),(.int .u64 0),(.int .i64 0)]),(.int .i64 5),(.int .i64 0)]),2,[]⟩
theorem YF:aL Tryz.prog Qk.f Qk.args Qk.v Qk.N Qk.H:=au mixed aE aB (L:=[]) (.nil) 600 Qk (by kernel_rfl) (Eq.mpr (show _=(true=true) by kernel_rfl) rfl)
def Ql:bg:=⟨9,[(.str [119,104,101,114,101])],(.bn [(.sl 5 0 4 0 1 none),(.agg [(.int .i64 0),(.int .i64 0)])]),6,[(5,(.vec 0 4 [(.agg [(.int .u8 1),(.str [119,104,101,114,101]),(.int .u64 0),(.int .i64 0)])] ⟨true,some 57⟩))]⟩
theorem YG:aL Tryz.prog Ql.f Ql.args Ql.v Ql.N Ql.H:=au mixed aE aB (L:=[Qk]) (.cons YF (.nil)) 600 Ql (by kernel_rfl) (Eq.mpr (show _=(true=true) by kernel_rfl) rfl)
def Qm:bg:=⟨70,[(.agg [(.int .u8 1),(.str [119,104,101,114,101]),(.int .u64 0),(.int .i64 0)])],(.bool true),9,[]⟩
theorem YH:aL Tryz.prog Qm.f Qm.args Qm.v Qm.N Qm.H:=au mixed aE aB (L:=[Ql,M3]) (.cons YG (.cons Ws (.nil))) 600 Qm (by kernel_rfl) (Eq.mpr (show _=(true=true) by kernel_rfl) rfl)
def M4:bg:=⟨71,[(.agg [(.int .u8 1),(.str [110,111,116]),(.int .u64 0),(.int .i64 0)])],(.str [110,111,116]),1,[]⟩
theorem Wt:aL Tryz.prog M4.f M4.args M4.v M4.N M4.H:=au mixed aE aB (L:=[]) (.nil) 600 M4 (by kernel_rfl) (Eq.mpr (show _=(true=true) by kernel_rfl) rfl)
def Qn:bg:=⟨27,[(.str [110,111,116])],(.bn [(.agg [(.int .u8 1),(.str [110,111,116]),(.int .u64 0),(.int .i64 0)]),(.int .i64 3),(.int .i64 0)]),2,[]⟩
theorem YI:aL Tryz.prog Qn.f Qn.args Qn.v Qn.N Qn.H:=au mixed aE aB (L:=[]) (.nil) 600 Qn (by kernel_rfl) (Eq.mpr (show _=(true=true) by kernel_rfl) rfl)
def Qo:bg:=⟨9,[(.str [110,111,116])],(.bn [(.sl 5 0 4 0 1 none),(.agg [(.int .i64 0),(.int .i64 0)])]),6,[(5,(.vec 0 4 [(.agg [(.int .u8 1),(.str [110,111,116]),(.int .u64 0),(.int .i64 0)])] ⟨true,some 57⟩))]⟩
theorem YJ:aL Tryz.prog Qo.f Qo.args Qo.v Qo.N Qo.H:=au mixed aE aB (L:=[Qn]) (.cons YI (.nil)) 600 Qo (by kernel_rfl) (Eq.mpr (show _=(true=true) by kernel_rfl) rfl)
def Qp:bg:=⟨70,[(.agg [(.int .u8 1),(.str [110,111,116]),(.int .u64 0),(.int .i64 0)])],(.bool true),9,[]⟩
theorem YK:aL Tryz.prog Qp.f Qp.args Qp.v Qp.N Qp.H:=au mixed aE aB (L:=[Qo,M4]) (.cons YJ (.cons Wt (.nil))) 600 Qp (by kernel_rfl) (Eq.mpr (show _=(true=true) by kernel_rfl) rfl)
def M5:bg:=⟨71,[(.agg [(.int .u8 4),(.str [61]),(.int .u64 0),(.int .i64 0)])],(.str [61]),1,[]⟩
theorem Wu:aL Tryz.prog M5.f M5.args M5.v M5.N M5.H:=au mixed aE aB (L:=[]) (.nil) 600 M5 (by kernel_rfl) (Eq.mpr (show _=(true=true) by kernel_rfl) rfl)
def D3:bg:=⟨27,[(.str [61])],(.bn [(.agg [(.int .u8 4),(.str [61]),(.int .u64 0),(.int .i64 0)]),(.int .i64 1),(.int .i64 0)]),2,[]⟩
theorem UH:aL Tryz.prog D3.f D3.args D3.v D3.N D3.H:=au mixed aE aB (L:=[k4]) (.cons r4 (.nil)) 600 D3 (by kernel_rfl) (Eq.mpr (show _=(true=true) by kernel_rfl) rfl)
def D4:bg:=⟨9,[(.str [61])],(.bn [(.sl 5 0 4 0 1 none),(.agg [(.int .i64 0),(.int .i64 0)])]),6,[(5,(.vec 0 4 [(.agg [(.int .u8 4),(.str [61]),(.int .u64 0),(.int .i64 0)])] ⟨true,some 57⟩))]⟩
theorem UI:aL Tryz.prog D4.f D4.args D4.v D4.N D4.H:=au mixed aE aB (L:=[D3]) (.cons UH (.nil)) 600 D4 (by kernel_rfl) (Eq.mpr (show _=(true=true) by kernel_rfl) rfl)
def D5:bg:=⟨70,[(.agg [(.int .u8 4),(.str [61]),(.int .u64 0),(.int .i64 0)])],(.bool true),9,[]⟩
theorem UJ:aL Tryz.prog D5.f D5.args D5.v D5.N D5.H:=au mixed aE aB (L:=[D4,M5]) (.cons UI (.cons Wu (.nil))) 600 D5 (by kernel_rfl) (Eq.mpr (show _=(true=true) by kernel_rfl) rfl)
def Cv:bg:=⟨71,[(.agg [(.int .u8 1),(.str [97,110,100]),(.int .u64 0),(.int .i64 0)])],(.str [97,110,100]),1,[]⟩
theorem SK:aL Tryz.prog Cv.f Cv.args Cv.v Cv.N Cv.H:=au mixed aE aB (L:=[]) (.nil) 600 Cv (by kernel_rfl) (Eq.mpr (show _=(true=true) by kernel_rfl) rfl)
def D6:bg:=⟨27,[(.str [97,110,100])],(.bn [(.agg [(.int .u8 1),(.str [97,110,100]),(.int .u64 0),(.int .i64 0)]),(.int .i64 3),(.int .i64 0)]),2,[]⟩
theorem UK:aL Tryz.prog D6.f D6.args D6.v D6.N D6.H:=au mixed aE aB (L:=[]) (.nil) 600 D6 (by kernel_rfl) (Eq.mpr (show _=(true=true) by kernel_rfl) rfl)
def D7:bg:=⟨9,[(.str [97,110,100])],(.bn [(.sl 5 0 4 0 1 none),(.agg [(.int .i64 0),(.int .i64 0)])]),6,[(5,(.vec 0 4 [(.agg [(.int .u8 1),(.str [97,110,100]),(.int .u64 0),(.int .i64 0)])] ⟨true,some 57⟩))]⟩
theorem UL:aL Tryz.prog D7.f D7.args D7.v D7.N D7.H:=au mixed aE aB (L:=[D6]) (.cons UK (.nil)) 600 D7 (by kernel_rfl) (Eq.mpr (show _=(true=true) by kernel_rfl) rfl)
def D8:bg:=⟨70,[(.agg [(.int .u8 1),(.str [97,110,100]),(.int .u64 0),(.int .i64 0)])],(.bool true),9,[]⟩
theorem UM:aL Tryz.prog D8.f D8.args D8.v D8.N D8.H:=au mixed aE aB (L:=[D7,Cv]) (.cons UL (.cons SK (.nil))) 600 D8 (by kernel_rfl) (Eq.mpr (show _=(true=true) by kernel_rfl) rfl)
def Cw:bg:=⟨71,[(.agg [(.int .u8 1),(.str [105,115]),(.int .u64 0),(.int .i64 0)])],(.str [105,115]),1,[]⟩
theorem SM:aL Tryz.prog Cw.f Cw.args Cw.v Cw.N Cw.H:=au mixed aE aB (L:=[]) (.nil) 600 Cw (by kernel_rfl) (Eq.mpr (show _=(true=true) by kernel_rfl) rfl)
def D9:bg:=⟨27,[(.str [105,115])],(.bn [(.agg [(.int .u8 1),(.str [105,115]),(.int .u64 0),(.int .i64 0)]),(.int .i64 2),(.int .i64 0)]),2,[]⟩
theorem UN:aL Tryz.prog D9.f D9.args D9.v D9.N D9.H:=au mixed aE aB (L:=[]) (.nil) 600 D9 (by kernel_rfl) (Eq.mpr (show _=(true=true) by kernel_rfl) rfl)
def Ea:bg:=⟨9,[(.str [105,115])],(.bn [(.sl 5 0 4 0 1 none),(.agg [(.int .i64 0),(.int .i64 0)])]),6,[(5,(.vec 0 4 [(.agg [(.int .u8 1),(.str [105,115]),(.int .u64 0),(.int .i64 0)])] ⟨true,some 57⟩))]⟩
theorem UO:aL Tryz.prog Ea.f Ea.args Ea.v Ea.N Ea.H:=au mixed aE aB (L:=[D9]) (.cons UN (.nil)) 600 Ea (by kernel_rfl) (Eq.mpr (show _=(true=true) by kernel_rfl) rfl)
def Ec:bg:=⟨70,[(.agg [(.int .u8 1),(.str [105,115]),(.int .u64 0),(.int .i64 0)])],(.bool true),9,[]⟩
theorem UP:aL Tryz.prog Ec.f Ec.args Ec.v Ec.N Ec.H:=au mixed aE aB (L:=[Ea,Cw]) (.cons UO (.cons SM (.nil))) 600 Ec (by kernel_rfl) (Eq.mpr (show _=(true=true) by kernel_rfl) rfl)
def Cy:bg:=⟨71,[(.agg [(.int .u8 1),(.str [110,117,108,108]),(.int .u64 0),(.int .i64 0)])],(.str [110,117,108,108]),1,[]⟩
theorem SN:aL Tryz.prog Cy.f Cy.args Cy.v Cy.N Cy.H:=au mixed aE aB (L:=[]) (.nil) 600 Cy (by kernel_rfl) (Eq.mpr (show _=(true=true) by kernel_rfl) rfl)
def Ed:bg:=⟨27,[(.str [110,117,108,108])],(.bn [(.agg [(.int .u8 1),(.str [110,117,108,108]),(.int .u64 0),(.int .i64 0)]),(.int .i64 4),(.int .i64 0)]),2,[]⟩
theorem UQ:aL Tryz.prog Ed.f Ed.args Ed.v Ed.N Ed.H:=au mixed aE aB (L:=[]) (.nil) 600 Ed (by kernel_rfl) (Eq.mpr (show _=(true=true) by kernel_rfl) rfl)
def Ee:bg:=⟨9,[(.str [110,117,108,108])],(.bn [(.sl 5 0 4 0 1 none),(.agg [(.int .i64 0),(.int .i64 0)])]),6,[(5,(.vec 0 4 [(.agg [(.int .u8 1),(.str [110,117,108,108]),(.int .u64 0),(.int .i64 0)])] ⟨true,some 57⟩))]⟩
theorem UR:aL Tryz.prog Ee.f Ee.args Ee.v Ee.N Ee.H:=au mixed aE aB (L:=[Ed]) (.cons UQ (.nil)) 600 Ee (by kernel_rfl) (Eq.mpr (show _=(true=true) by kernel_rfl) rfl)
def Ef:bg:=⟨70,[(.agg [(.int .u8 1),(.str [110,117,108,108]),(.int .u64 0),(.int .i64 0)])],(.bool true),9,[]⟩
theorem US:aL Tryz.prog Ef.f Ef.args Ef.v Ef.N Ef.H:=au mixed aE aB (L:=[Ee,Cy]) (.cons UR (.cons SN (.nil))) 600 Ef (by kernel_rfl) (Eq.mpr (show _=(true=true) by kernel_rfl) rfl)
def Cz:bg:=⟨71,[(.agg [(.int .u8 1),(.str [108,105,109,105,116]),(.int .u64 0),(.int .i64 0)])],(.str [108,105,109,105,116]),1,[]⟩
theorem SO:aL Tryz.prog Cz.f Cz.args Cz.v Cz.N Cz.H:=au mixed aE aB (L:=[]) (.nil) 600 Cz (by kernel_rfl) (Eq.mpr (show _=(true=true) by kernel_rfl) rfl)
def Eg:bg:=⟨27,[(.str [108,105,109,105,116])],(.bn [(.agg [(.int .u8 1),(.str [108,105,109,105,116]),(.int .u64 0),(.int .i64 0)]),(.int .i64 5),(.int .i64 0)]),2,[]⟩
theorem UT:aL Tryz.prog Eg.f Eg.args Eg.v Eg.N Eg.H:=au mixed aE aB (L:=[]) (.nil) 600 Eg (by kernel_rfl) (Eq.mpr (show _=(true=true) by kernel_rfl) rfl)
def Eh:bg:=⟨9,[(.str [108,105,109,105,116])],(.bn [(.sl 5 0 4 0 1 none),(.agg [(.int .i64 0),(.int .i64 0)])]),6,[(5,(.vec 0 4 [(.agg [(.int .u8 1),(.str [108,105,109,105,116]),(.int .u64 0),(.int .i64 0)])] ⟨true,some 57⟩))]⟩
theorem UU:aL Tryz.prog Eh.f Eh.args Eh.v Eh.N Eh.H:=au mixed aE aB (L:=[Eg]) (.cons UT (.nil)) 600 Eh (by kernel_rfl) (Eq.mpr (show _=(true=true) by kernel_rfl) rfl)
def Ei:bg:=⟨70,[(.agg [(.int .u8 1),(.str [108,105,109,105,116]),(.int .u64 0),(.int .i64 0)])],(.bool true),9,[]⟩
theorem UW:aL Tryz.prog Ei.f Ei.args Ei.v Ei.N Ei.H:=au mixed aE aB (L:=[Eh,Cz]) (.cons UU (.cons SO (.nil))) 600 Ei (by kernel_rfl) (Eq.mpr (show _=(true=true) by kernel_rfl) rfl)
def Ej:bg:=⟨70,[(.agg [(.int .u8 2),(.str []),(.int .u64 3),(.int .i64 0)])],(.bool true),1,[]⟩
theorem UX:aL Tryz.prog Ej.f Ej.args Ej.v Ej.N Ej.H:=au mixed aE aB (L:=[]) (.nil) 600 Ej (by kernel_rfl) (Eq.mpr (show _=(true=true) by kernel_rfl) rfl)
def Ek:bg:=⟨71,[(.agg [(.int .u8 2),(.str []),(.int .u64 3),(.int .i64 0)])],(.str [51]),1,[]⟩
theorem UY:aL Tryz.prog Ek.f Ek.args Ek.v Ek.N Ek.H:=au mixed aE aB (L:=[]) (.nil) 600 Ek (by kernel_rfl) (Eq.mpr (show _=(true=true) by kernel_rfl) rfl)
def El:bg:=⟨25,[(sF 4 [(.agg [(.int .u8 1),(.str [115,101,108,101,99,116]),(.int .u64 0),(.int .i64 0)]),(.agg [(.int .u8 1),(.str [97]),(.int .u64 0),(.int .i64 0)]),(.agg [(.int .u8 4),(.str [44]),(.int .u64 0),(.int .i64 0)]),(.agg [(.int .u8 4),(.str [40]),(.int .u64 0),(.int .i64 0)]),(.agg [(.int .u8 1),(.str [98]),(.int .u64 0),(.int .i64 0)]),(.agg [(.int .u8 4),(.str [43]),(.int .u64 0),(.int .i64 0)]),(.agg [(.int .u8 2),(.str []),(.int .u64 1),(.int .i64 0)]),(.agg [(.int .u8 4),(.str [41]),(.int .u64 0),(.int .i64 0)]),(.agg [(.int .u8 4),(.str [42]),(.int .u64 0),(.int .i64 0)]),(.agg [(.int .u8 2),(.str []),(.int .u64 2),(.int .i64 0)]),(.agg [(.int .u8 1),(.str [97,115]),(.int .u64 0),(.int .i64 0)]),(.agg [(.int .u8 1),(.str [99]),(.int .u64 0),(.int .i64 0)]),(.agg [(.int .u8 1),(.str [102,114,111,109]),(.int .u64 0),(.int .i64 0)]),(.agg [(.int .u8 1),(.str [116]),(.int .u64 0),(.int .i64 0)]),(.agg [(.int .u8 1),(.str [119,104,101,114,101]),(.int .u64 0),(.int .i64 0)]),(.agg [(.int .u8 1),(.str [110,111,116]),(.int .u64 0),(.int .i64 0)]),(.agg [(.int .u8 4),(.str [40]),(.int .u64 0),(.int .i64 0)]),(.agg [(.int .u8 1),(.str [97]),(.int .u64 0),(.int .i64 0)]),(.agg [(.int .u8 4),(.str [61]),(.int .u64 0),(.int .i64 0)]),(.agg [(.int .u8 2),(.str []),(.int .u64 1),(.int .i64 0)]),(.agg [(.int .u8 1),(.str [97,110,100]),(.int .u64 0),(.int .i64 0)]),(.agg [(.int .u8 1),(.str [98]),(.int .u64 0),(.int .i64 0)]),(.agg [(.int .u8 1),(.str [105,115]),(.int .u64 0),(.int .i64 0)]),(.agg [(.int .u8 1),(.str [110,117,108,108]),(.int .u64 0),(.int .i64 0)]),(.agg [(.int .u8 4),(.str [41]),(.int .u64 0),(.int .i64 0)]),(.agg [(.int .u8 1),(.str [108,105,109,105,116]),(.int .u64 0),(.int .i64 0)]),(.agg [(.int .u8 2),(.str []),(.int .u64 3),(.int .i64 0)])])],(.bn [(.str [115,101,108,101,99,116,32,97,32,44,32,40,32,98,32,43,32,49,32,41,32,42,32,50,32,97,115,32,99,32,102,114,111,109,32,116,32,119,104,101,114,101,32,110,111,116,32,40,32,97,32,61,32,49,32,97,110,100,32,98,32,105,115,32,110,117,108,108,32,41,32,108,105,109,105,116,32,51]),(.agg [(.int .i64 0),(.int .i64 0)])]),269,[]⟩
theorem UZ:aL Tryz.prog El.f El.args El.v El.N El.H:=au mixed aE aB (L:=[Ek,Ej,Ei,Cz,Ef,Cy,Ec,Cw,D8,Cv,D5,M5,Qp,M4,Qm,M3,Qj,M1,Qg,M0,Qd,MZ,Qa,MY,P7,P6,P5,MX,PZ,MW,PW,PV,PU,MV,PR,MU,PL,MT,PI,MS,PE,MQ,PB,MP]) (.cons UY (.cons UX (.cons UW (.cons SO (.cons US (.cons SN (.cons UP (.cons SM (.cons UM (.cons SK (.cons UJ (.cons Wu (.cons YK (.cons Wt (.cons YH (.cons Ws (.cons YE (.cons Wr (.cons YB (.cons Wq (.cons Yy (.cons Wp (.cons Yv (.cons Wo (.cons Yr (.cons Yq (.cons Yp (.cons Wn (.cons Ym (.cons Wm (.cons r64 (.cons Yj (.cons Yi (.cons Wl (.cons Yf (.cons Wk (.cons Yc (.cons Wj (.cons X9 (.cons Wi (.cons X6 (.cons Wh (.cons X3 (.cons Wg (.nil))))))))))))))))))))))))))))))))))))))))))))) 600 El (by kernel_rfl) (Eq.mpr (show _=(true=true) by kernel_rfl) rfl)
def Em:bg:=⟨27,[(.str [115,101,108,101,99,116,32,97,32,44,32,40,32,98,32,43,32,49,32,41,32,42,32,50,32,97,115,32,99,32,102,114,111,109,32,116,32,119,104,101,114,101,32,110,111,116,32,40,32,97,32,61,32,49,32,97,110,100,32,98,32,105,115,32,110,117,108,108,32,41,32,108,105,109,105,116,32,51])],(.bn [(.agg [(.int .u8 1),(.str [115,101,108,101,99,116]),(.int .u64 0),(.int .i64 0)]),(.int .i64 6),(.int .i64 0)]),2,[]⟩
theorem U0:aL Tryz.prog Em.f Em.args Em.v Em.N Em.H:=au mixed aE aB (L:=[]) (.nil) 600 Em (by kernel_rfl) (Eq.mpr (show _=(true=true) by kernel_rfl) rfl)
def En:bg:=⟨27,[(.str [97,32,44,32,40,32,98,32,43,32,49,32,41,32,42,32,50,32,97,115,32,99,32,102,114,111,109,32,116,32,119,104,101,114,101,32,110,111,116,32,40,32,97,32,61,32,49,32,97,110,100,32,98,32,105,115,32,110,117,108,108,32,41,32,108,105,109,105,116,32,51])],(.bn [(.agg [(.int .u8 1),(.str [97]),(.int .u64 0),(.int .i64 0)]),(.int .i64 1),(.int .i64 0)]),2,[]⟩
theorem U1:aL Tryz.prog En.f En.args En.v En.N En.H:=au mixed aE aB (L:=[]) (.nil) 600 En (by kernel_rfl) (Eq.mpr (show _=(true=true) by kernel_rfl) rfl)
end Go.Proofs.YtbjifmbemdhndaaGreatDoor
