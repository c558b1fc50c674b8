/- Parts of the proof of PParserDepth, one behind the other, with short names. -/
import Derived.Test.YtbjifmbemdhndaaGreatDoorY46
set_option linter.unusedVariables false
set_option linter.unusedSimpArgs false
namespace Go.Proofs.YtbjifmbemdhndaaGreatDoor
open Ab
set_option maxRecDepth 1000000
set_option maxHeartbeats 0
attribute [local irreducible] yB
def k1:aM:=⟨27,[(.str [83,69,76,69,67,84,32,97,44,32,40,98,43,49,41,42,50,32,65,83,32,99,32,70,82,79,77,32,116,32,87,72,69,82,69,32,78,79,84,32,40,97,61,49,32,65,78,68,32,98,32,73,83,32,78,85,76,76,41,32,76,73,77,73,84,32,51,59])],(.aN [(.agg [(.int .u8 1),(.str [115,101,108,101,99,116]),(.int .u64 0),(.int .i64 0)]),(.int .i64 6),(.int .i64 0)]),10,[]⟩
theorem r1:aD Tryz.prog k1.f k1.args k1.v k1.N k1.H:=af mixed az aj (L:=[]) (.nil) 600 k1 (by kernel_rfl) (Eq.mpr (show _=(true=true) by kernel_rfl) rfl)
def k2:aM:=⟨27,[(.str [97,44,32,40,98,43,49,41,42,50,32,65,83,32,99,32,70,82,79,77,32,116,32,87,72,69,82,69,32,78,79,84,32,40,97,61,49,32,65,78,68,32,98,32,73,83,32,78,85,76,76,41,32,76,73,77,73,84,32,51,59])],(.aN [(.agg [(.int .u8 1),(.str [97]),(.int .u64 0),(.int .i64 0)]),(.int .i64 1),(.int .i64 0)]),2,[]⟩
theorem r2:aD Tryz.prog k2.f k2.args k2.v k2.N k2.H:=af mixed az aj (L:=[]) (.nil) 600 k2 (by kernel_rfl) (Eq.mpr (show _=(true=true) by kernel_rfl) rfl)
def k3:aM:=⟨129,[(.str [60,62,32,60,61,32,62,61,32,124,124,32,40,32,41,32,44,32,59,32,46,32,42,32,43,32,45,32,47,32,37,32,61,32,60,32,62])],(.sl 0 0 1 0 17 (some 17)),1,[(0,(.vec 0 1 [(.str [60,62]),(.str [60,61]),(.str [62,61]),(.str [124,124]),(.str [40]),(.str [41]),(.str [44]),(.str [59]),(.str [46]),(.str [42]),(.str [43]),(.str [45]),(.str [47]),(.str [37]),(.str [61]),(.str [60]),(.str [62])] ⟨false,some 9⟩))]⟩
theorem r3:aD Tryz.prog k3.f k3.args k3.v k3.N k3.H:=af mixed az aj (L:=[]) (.nil) 600 k3 (by kernel_rfl) (Eq.mpr (show _=(true=true) by kernel_rfl) rfl)
def k4:aM:=⟨79,[],(.sl 0 0 1 0 17 (some 17)),1,[(0,(.vec 0 1 [(.str [60,62]),(.str [60,61]),(.str [62,61]),(.str [124,124]),(.str [40]),(.str [41]),(.str [44]),(.str [59]),(.str [46]),(.str [42]),(.str [43]),(.str [45]),(.str [47]),(.str [37]),(.str [61]),(.str [60]),(.str [62])] ⟨false,some 9⟩))]⟩
theorem r4:aD Tryz.prog k4.f k4.args k4.v k4.N k4.H:=af mixed az aj (L:=[k3]) (.cons r3 (.nil)) 600 k4 (by kernel_rfl) (Eq.mpr (show _=(true=true) by kernel_rfl) rfl)
def k5:aM:=⟨27,[(.str [44,32,40,98,43,49,41,42,50,32,65,83,32,99,32,70,82,79,77,32,116,32,87,72,69,82,69,32,78,79,84,32,40,97,61,49,32,65,78,68,32,98,32,73,83,32,78,85,76,76,41,32,76,73,77,73,84,32,51,59])],(.aN [(.agg [(.int .u8 4),(.str [44]),(.int .u64 0),(.int .i64 0)]),(.int .i64 1),(.int .i64 0)]),2,[]⟩
theorem r5:aD Tryz.prog k5.f k5.args k5.v k5.N k5.H:=af mixed az aj (L:=[k4]) (.cons r4 (.nil)) 600 k5 (by kernel_rfl) (Eq.mpr (show _=(true=true) by kernel_rfl) rfl)
def k6:aM:=⟨27,[(.str [40,98,43,49,41,42,50,32,65,83,32,99,32,70,82,79,77,32,116,32,87,72,69,82,69,32,78,79,84,32,40,97,61,49,32,65,78,68,32,98,32,73,83,32,78,85,76,76,41,32,76,73,77,73,84,32,51,59])],(.aN [(.agg [(.int .u8 4),(.str [40]),(.int .u64 0),(.int .i64 0)]),(.int .i64 1),(.int .i64 0)]),2,[]⟩
theorem r6:aD Tryz.prog k6.f k6.args k6.v k6.N k6.H:=af mixed az aj (L:=[k4]) (.cons r4 (.nil)) 600 k6 (by kernel_rfl) (Eq.mpr (show _=(true=true) by kernel_rfl) rfl)
def k7:aM:=⟨27,[(.str [98,43,49,41,42,50,32,65,83,32,99,32,70,82,79,77,32,116,32,87,72,69,82,69,32,78,79,84,32,40,97,61,49,32,65,78,68,32,98,32,73,83,32,78,85,76,76,41,32,76,73,77,73,84,32,51,59])],(.aN [(.agg [(.int .u8 1),(.str [98]),(.int .u64 0),(.int .i64 0)]),(.int .i64 1),(.int .i64 0)]),2,[]⟩
theorem r7:aD Tryz.prog k7.f k7.args k7.v k7.N k7.H:=af mixed az aj (L:=[]) (.nil) 600 k7 (by kernel_rfl) (Eq.mpr (show _=(true=true) by kernel_rfl) rfl)
def k8:aM:=⟨27,[(.str [43,49,41,42,50,32,65,83,32,99,32,70,82,79,77,32,116,32,87,72,69,82,69,32,78,79,84,32,40,97,61,49,32,65,78,68,32,98,32,73,83,32,78,85,76,76,41,32,76,73,77,73,84,32,51,59])],(.aN [(.agg [(.int .u8 4),(.str [43]),(.int .u64 0),(.int .i64 0)]),(.int .i64 1),(.int .i64 0)]),2,[]⟩
theorem r8:aD Tryz.prog k8.f k8.args k8.v k8.N k8.H:=af mixed az aj (L:=[k4]) (.cons r4 (.nil)) 600 k8 (by kernel_rfl) (Eq.mpr (show _=(true=true) by kernel_rfl) rfl)
def k9:aM:=⟨27,[(.str [49,41,42,50,32,65,83,32,99,32,70,82,79,77,32,116,32,87,72,69,82,69,32,78,79,84,32,40,97,61,49,32,65,78,68,32,98,32,73,83,32,78,85,76,76,41,32,76,73,77,73,84,32,51,59])],(.aN [(.agg [(.int .u8 2),(.str []),(.int .u64 1),(.int .i64 0)]),(.int .i64 1),(.int .i64 0)]),3,[]⟩
theorem r9:aD Tryz.prog k9.f k9.args k9.v k9.N k9.H:=af mixed az aj (L:=[]) (.nil) 600 k9 (by kernel_rfl) (Eq.mpr (show _=(true=true) by kernel_rfl) rfl)
def Nw:aM:=⟨27,[(.str [41,42,50,32,65,83,32,99,32,70,82,79,77,32,116,32,87,72,69,82,69,32,78,79,84,32,40,97,61,49,32,65,78,68,32,98,32,73,83,32,78,85,76,76,41,32,76,73,77,73,84,32,51,59])],(.aN [(.agg [(.int .u8 4),(.str [41]),(.int .u64 0),(.int .i64 0)]),(.int .i64 1),(.int .i64 0)]),2,[]⟩
theorem WT:aD Tryz.prog Nw.f Nw.args Nw.v Nw.N Nw.H:=af mixed az aj (L:=[k4]) (.cons r4 (.nil)) 600 Nw (by kernel_rfl) (Eq.mpr (show _=(true=true) by kernel_rfl) rfl)
def Nx:aM:=⟨27,[(.str [42,50,32,65,83,32,99,32,70,82,79,77,32,116,32,87,72,69,82,69,32,78,79,84,32,40,97,61,49,32,65,78,68,32,98,32,73,83,32,78,85,76,76,41,32,76,73,77,73,84,32,51,59])],(.aN [(.agg [(.int .u8 4),(.str [42]),(.int .u64 0),(.int .i64 0)]),(.int .i64 1),(.int .i64 0)]),2,[]⟩
theorem WU:aD Tryz.prog Nx.f Nx.args Nx.v Nx.N Nx.H:=af mixed az aj (L:=[k4]) (.cons r4 (.nil)) 600 Nx (by kernel_rfl) (Eq.mpr (show _=(true=true) by kernel_rfl) rfl)
def Ny:aM:=⟨27,[(.str [50,32,65,83,32,99,32,70,82,79,77,32,116,32,87,72,69,82,69,32,78,79,84,32,40,97,61,49,32,65,78,68,32,98,32,73,83,32,78,85,76,76,41,32,76,73,77,73,84,32,51,59])],(.aN [(.agg [(.int .u8 2),(.str []),(.int .u64 2),(.int .i64 0)]),(.int .i64 1),(.int .i64 0)]),3,[]⟩
theorem WV:aD Tryz.prog Ny.f Ny.args Ny.v Ny.N Ny.H:=af mixed az aj (L:=[]) (.nil) 600 Ny (by kernel_rfl) (Eq.mpr (show _=(true=true) by kernel_rfl) rfl)
def Nz:aM:=⟨27,[(.str [65,83,32,99,32,70,82,79,77,32,116,32,87,72,69,82,69,32,78,79,84,32,40,97,61,49,32,65,78,68,32,98,32,73,83,32,78,85,76,76,41,32,76,73,77,73,84,32,51,59])],(.aN [(.agg [(.int .u8 1),(.str [97,115]),(.int .u64 0),(.int .i64 0)]),(.int .i64 2),(.int .i64 0)]),6,[]⟩
theorem WW:aD Tryz.prog Nz.f Nz.args Nz.v Nz.N Nz.H:=af mixed az aj (L:=[]) (.nil) 600 Nz (by kernel_rfl) (Eq.mpr (show _=(true=true) by kernel_rfl) rfl)
def NA:aM:=⟨27,[(.str [99,32,70,82,79,77,32,116,32,87,72,69,82,69,32,78,79,84,32,40,97,61,49,32,65,78,68,32,98,32,73,83,32,78,85,76,76,41,32,76,73,77,73,84,32,51,59])],(.aN [(.agg [(.int .u8 1),(.str [99]),(.int .u64 0),(.int .i64 0)]),(.int .i64 1),(.int .i64 0)]),2,[]⟩
theorem WY:aD Tryz.prog NA.f NA.args NA.v NA.N NA.H:=af mixed az aj (L:=[]) (.nil) 600 NA (by kernel_rfl) (Eq.mpr (show _=(true=true) by kernel_rfl) rfl)
def NB:aM:=⟨27,[(.str [70,82,79,77,32,116,32,87,72,69,82,69,32,78,79,84,32,40,97,61,49,32,65,78,68,32,98,32,73,83,32,78,85,76,76,41,32,76,73,77,73,84,32,51,59])],(.aN [(.agg [(.int .u8 1),(.str [102,114,111,109]),(.int .u64 0),(.int .i64 0)]),(.int .i64 4),(.int .i64 0)]),8,[]⟩
theorem WZ:aD Tryz.prog NB.f NB.args NB.v NB.N NB.H:=af mixed az aj (L:=[]) (.nil) 600 NB (by kernel_rfl) (Eq.mpr (show _=(true=true) by kernel_rfl) rfl)
def NC:aM:=⟨27,[(.str [116,32,87,72,69,82,69,32,78,79,84,32,40,97,61,49,32,65,78,68,32,98,32,73,83,32,78,85,76,76,41,32,76,73,77,73,84,32,51,59])],(.aN [(.agg [(.int .u8 1),(.str [116]),(.int .u64 0),(.int .i64 0)]),(.int .i64 1),(.int .i64 0)]),2,[]⟩
theorem r16:aD Tryz.prog NC.f NC.args NC.v NC.N NC.H:=af mixed az aj (L:=[]) (.nil) 600 NC (by kernel_rfl) (Eq.mpr (show _=(true=true) by kernel_rfl) rfl)
def ND:aM:=⟨27,[(.str [87,72,69,82,69,32,78,79,84,32,40,97,61,49,32,65,78,68,32,98,32,73,83,32,78,85,76,76,41,32,76,73,77,73,84,32,51,59])],(.aN [(.agg [(.int .u8 1),(.str [119,104,101,114,101]),(.int .u64 0),(.int .i64 0)]),(.int .i64 5),(.int .i64 0)]),9,[]⟩
theorem W0:aD Tryz.prog ND.f ND.args ND.v ND.N ND.H:=af mixed az aj (L:=[]) (.nil) 600 ND (by kernel_rfl) (Eq.mpr (show _=(true=true) by kernel_rfl) rfl)
def NF:aM:=⟨27,[(.str [78,79,84,32,40,97,61,49,32,65,78,68,32,98,32,73,83,32,78,85,76,76,41,32,76,73,77,73,84,32,51,59])],(.aN [(.agg [(.int .u8 1),(.str [110,111,116]),(.int .u64 0),(.int .i64 0)]),(.int .i64 3),(.int .i64 0)]),7,[]⟩
theorem W1:aD Tryz.prog NF.f NF.args NF.v NF.N NF.H:=af mixed az aj (L:=[]) (.nil) 600 NF (by kernel_rfl) (Eq.mpr (show _=(true=true) by kernel_rfl) rfl)
def NG:aM:=⟨27,[(.str [40,97,61,49,32,65,78,68,32,98,32,73,83,32,78,85,76,76,41,32,76,73,77,73,84,32,51,59])],(.aN [(.agg [(.int .u8 4),(.str [40]),(.int .u64 0),(.int .i64 0)]),(.int .i64 1),(.int .i64 0)]),2,[]⟩
theorem W2:aD Tryz.prog NG.f NG.args NG.v NG.N NG.H:=af mixed az aj (L:=[k4]) (.cons r4 (.nil)) 600 NG (by kernel_rfl) (Eq.mpr (show _=(true=true) by kernel_rfl) rfl)
def NH:aM:=⟨27,[(.str [97,61,49,32,65,78,68,32,98,32,73,83,32,78,85,76,76,41,32,76,73,77,73,84,32,51,59])],(.aN [(.agg [(.int .u8 1),(.str [97]),(.int .u64 0),(.int .i64 0)]),(.int .i64 1),(.int .i64 0)]),2,[]⟩
theorem W3:aD Tryz.prog NH.f NH.args NH.v NH.N NH.H:=af mixed az aj (L:=[]) (.nil) 600 NH (by kernel_rfl) (Eq.mpr (show _=(true=true) by kernel_rfl) rfl)
def NI:aM:=⟨27,[(.str [61,49,32,65,78,68,32,98,32,73,83,32,78,85,76,76,41,32,76,73,77,73,84,32,51,59])],(.aN [(.agg [(.int .u8 4),(.str [61]),(.int .u64 0),(.int .i64 0)]),(.int .i64 1),(.int .i64 0)]),2,[]⟩
theorem W4:aD Tryz.prog NI.f NI.args NI.v NI.N NI.H:=af mixed az aj (L:=[k4]) (.cons r4 (.nil)) 600 NI (by kernel_rfl) (Eq.mpr (show _=(true=true) by kernel_rfl) rfl)
def NJ:aM:=⟨27,[(.str [49,32,65,78,68,32,98,32,73,83,32,78,85,76,76,41,32,76,73,77,73,84,32,51,59])],(.aN [(.agg [(.int .u8 2),(.str []),(.int .u64 1),(.int .i64 0)]),(.int .i64 1),(.int .i64 0)]),3,[]⟩
theorem W5:aD Tryz.prog NJ.f NJ.args NJ.v NJ.N NJ.H:=af mixed az aj (L:=[]) (.nil) 600 NJ (by kernel_rfl) (Eq.mpr (show _=(true=true) by kernel_rfl) rfl)
def NK:aM:=⟨27,[(.str [65,78,68,32,98,32,73,83,32,78,85,76,76,41,32,76,73,77,73,84,32,51,59])],(.aN [(.agg [(.int .u8 1),(.str [97,110,100]),(.int .u64 0),(.int .i64 0)]),(.int .i64 3),(.int .i64 0)]),7,[]⟩
theorem W6:aD Tryz.prog NK.f NK.args NK.v NK.N NK.H:=af mixed az aj (L:=[]) (.nil) 600 NK (by kernel_rfl) (Eq.mpr (show _=(true=true) by kernel_rfl) rfl)
def NL:aM:=⟨27,[(.str [98,32,73,83,32,78,85,76,76,41,32,76,73,77,73,84,32,51,59])],(.aN [(.agg [(.int .u8 1),(.str [98]),(.int .u64 0),(.int .i64 0)]),(.int .i64 1),(.int .i64 0)]),2,[]⟩
theorem W7:aD Tryz.prog NL.f NL.args NL.v NL.N NL.H:=af mixed az aj (L:=[]) (.nil) 600 NL (by kernel_rfl) (Eq.mpr (show _=(true=true) by kernel_rfl) rfl)
def NM:aM:=⟨27,[(.str [73,83,32,78,85,76,76,41,32,76,73,77,73,84,32,51,59])],(.aN [(.agg [(.int .u8 1),(.str [105,115]),(.int .u64 0),(.int .i64 0)]),(.int .i64 2),(.int .i64 0)]),6,[]⟩
theorem W8:aD Tryz.prog NM.f NM.args NM.v NM.N NM.H:=af mixed az aj (L:=[]) (.nil) 600 NM (by kernel_rfl) (Eq.mpr (show _=(true=true) by kernel_rfl) rfl)
def NN:aM:=⟨27,[(.str [78,85,76,76,41,32,76,73,77,73,84,32,51,59])],(.aN [(.agg [(.int .u8 1),(.str [110,117,108,108]),(.int .u64 0),(.int .i64 0)]),(.int .i64 4),(.int .i64 0)]),8,[]⟩
theorem W9:aD Tryz.prog NN.f NN.args NN.v NN.N NN.H:=af mixed az aj (L:=[]) (.nil) 600 NN (by kernel_rfl) (Eq.mpr (show _=(true=true) by kernel_rfl) rfl)
def NO:aM:=⟨27,[(.str [41,32,76,73,77,73,84,32,51,59])],(.aN [(.agg [(.int .u8 4),(.str [41]),(.int .u64 0),(.int .i64 0)]),(.int .i64 1),(.int .i64 0)]),2,[]⟩
theorem Xa:aD Tryz.prog NO.f NO.args NO.v NO.N NO.H:=af mixed az aj (L:=[k4]) (.cons r4 (.nil)) 600 NO (by kernel_rfl) (Eq.mpr (show _=(true=true) by kernel_rfl) rfl)
def NP:aM:=⟨27,[(.str [76,73,77,73,84,32,51,59])],(.aN [(.agg [(.int .u8 1),(.str [108,105,109,105,116]),(.int .u64 0),(.int .i64 0)]),(.int .i64 5),(.int .i64 0)]),9,[]⟩
theorem Xb:aD Tryz.prog NP.f NP.args NP.v NP.N NP.H:=af mixed az aj (L:=[]) (.nil) 600 NP (by kernel_rfl) (Eq.mpr (show _=(true=true) by kernel_rfl) rfl)
def NQ:aM:=⟨27,[(.str [51,59])],(.aN [(.agg [(.int .u8 2),(.str []),(.int .u64 3),(.int .i64 0)]),(.int .i64 1),(.int .i64 0)]),3,[]⟩
theorem Xc:aD Tryz.prog NQ.f NQ.args NQ.v NQ.N NQ.H:=af mixed az aj (L:=[]) (.nil) 600 NQ (by kernel_rfl) (Eq.mpr (show _=(true=true) by kernel_rfl) rfl)
def NR:aM:=⟨27,[(.str [59])],(.aN [(.agg [(.int .u8 4),(.str [59]),(.int .u64 0),(.int .i64 0)]),(.int .i64 1),(.int .i64 0)]),2,[]⟩
theorem Xd:aD Tryz.prog NR.f NR.args NR.v NR.N NR.H:=af mixed az aj (L:=[k4]) (.cons r4 (.nil)) 600 NR (by kernel_rfl) (Eq.mpr (show _=(true=true) by kernel_rfl) rfl)
def NS:aM:=⟨9,[(.str [83,69,76,69,67,84,32,97,44,32,40,98,43,49,41,42,50,32,65,83,32,99,32,70,82,79,77,32,116,32,87,72,69,82,69,32,78,79,84,32,40,97,61,49,32,65,78,68,32,98,32,73,83,32,78,85,76,76,41,32,76,73,77,73,84,32,51,59])],(.aN [(.sl 13 27 4 0 28 none),(.agg [(.int .i64 0),(.int .i64 0)])]),170,[(13,(.vec 27 4 [(.agg [(.int .u8 1),(.str [115,101,108,101,99,116]),(.int .u64 0),(.int .i64 0)]),(.agg [(.int .u8 1),(.str [97]),(.int .u64 0),(.int .i64 7)]),(.agg [(.int .u8 4),(.str [44]),(.int .u64 0),(.int .i64 8)]),(.agg [(.int .u8 4),(.str [40]),(.int .u64 0),(.int .i64 10)]),(.agg [(.int .u8 1),(.str [98]),(.int .u64 0),(.int .i64 11)]),(.agg [(.int .u8 4),(.str [43]),(.int .u64 0),(.int .i64 12)]),(.agg [(.int .u8 2),(.str []),(.int .u64 1),(.int .i64 13)]),(.agg [(.int .u8 4),(.str [41]),(.int .u64 0),(.int .i64 14)]),(.agg [(.int .u8 4),(.str [42]),(.int .u64 0),(.int .i64 15)]),(.agg [(.int .u8 2),(.str []),(.int .u64 2),(.int .i64 16)]),(.agg [(.int .u8 1),(.str [97,115]),(.int .u64 0),(.int .i64 18)]),(.agg [(.int .u8 1),(.str [99]),(.int .u64 0),(.int .i64 21)]),(.agg [(.int .u8 1),(.str [102,114,111,109]),(.int .u64 0),(.int .i64 23)]),(.agg [(.int .u8 1),(.str [116]),(.int .u64 0),(.int .i64 28)]),(.agg [(.int .u8 1),(.str [119,104,101,114,101]),(.int .u64 0),(.int .i64 30)]),(.agg [(.int .u8 1),(.str [110,111,116]),(.int .u64 0),(.int .i64 36)]),(.agg [(.int .u8 4),(.str [40]),(.int .u64 0),(.int .i64 40)]),(.agg [(.int .u8 1),(.str [97]),(.int .u64 0),(.int .i64 41)]),(.agg [(.int .u8 4),(.str [61]),(.int .u64 0),(.int .i64 42)]),(.agg [(.int .u8 2),(.str []),(.int .u64 1),(.int .i64 43)]),(.agg [(.int .u8 1),(.str [97,110,100]),(.int .u64 0),(.int .i64 45)]),(.agg [(.int .u8 1),(.str [98]),(.int .u64 0),(.int .i64 49)]),(.agg [(.int .u8 1),(.str [105,115]),(.int .u64 0),(.int .i64 51)]),(.agg [(.int .u8 1),(.str [110,117,108,108]),(.int .u64 0),(.int .i64 54)]),(.agg [(.int .u8 4),(.str [41]),(.int .u64 0),(.int .i64 58)]),(.agg [(.int .u8 1),(.str [108,105,109,105,116]),(.int .u64 0),(.int .i64 60)]),(.agg [(.int .u8 2),(.str []),(.int .u64 3),(.int .i64 66)]),(.agg [(.int .u8 4),(.str [59]),(.int .u64 0),(.int .i64 67)])] ⟨true,some 57⟩))]⟩
theorem Xe:aD Tryz.prog NS.f NS.args NS.v NS.N NS.H:=af mixed az aj (L:=[NR,NQ,NP,NO,NN,NM,NL,NK,NJ,NI,NH,NG,NF,ND,NC,NB,NA,Nz,Ny,Nx,Nw,k9,k8,k7,k6,k5,k2,k1]) (.cons Xd (.cons Xc (.cons Xb (.cons Xa (.cons W9 (.cons W8 (.cons W7 (.cons W6 (.cons W5 (.cons W4 (.cons W3 (.cons W2 (.cons W1 (.cons W0 (.cons r16 (.cons WZ (.cons WY (.cons WW (.cons WV (.cons WU (.cons WT (.cons r9 (.cons r8 (.cons r7 (.cons r6 (.cons r5 (.cons r2 (.cons r1 (.nil))))))))))))))))))))))))))))) 600 NS (by kernel_rfl) (Eq.mpr (show _=(true=true) by kernel_rfl) rfl)
def NT:aM:=⟨129,[(.str [97,110,100,32,97,115,32,97,115,99,32,98,101,103,105,110,32,98,111,111,108,32,98,121,32,99,111,109,109,105,116,32,99,111,117,110,116,32,99,114,101,97,116,101,32,100,101,108,101,116,101,32,100,101,115,99,32,102,97,108,115,101,32,102,114,111,109,32,103,114,111,117,112,32,105,110,100,101,120,32,105,110,115,101,114,116,32,105,110,116,32,105,110,116,111,32,105,115,32,106,111,105,110,32,107,101,121,32,108,105,109,105,116,32,109,97,120,32,109,105,110,32,110,111,116,32,110,117,108,108,32,111,110,32,111,114,32,111,114,100,101,114,32,112,114,105,109,97,114,121,32,114,111,108,108,98,97,99,107,32,115,97,118,101,112,111,105,110,116,32,115,101,108,101,99,116,32,115,101,116,32,115,117,109,32,116,97,98,108,101,32,116,101,120,116,32,116,111,32,116,114,117,101,32,117,110,105,113,117,101,32,117,112,100,97,116,101,32,118,97,108,117,101,115,32,119,104,101,114,101])],(.sl 0 0 1 0 43 (some 43)),1,[(0,(.vec 0 1 ((.str [97,110,100])::(.str [97,115])::(.str [97,115,99])::(.str [98,101,103,105,110])::(.str [98,111,111,108])::(.str [98,121])::(.str [99,111,109,109,105,116])::(.str [99,111,117,110,116])::(.str [99,114,101,97,116,101])::(.str [100,101,108,101,116,101])::(.str [100,101,115,99])::(.str [102,97,108,115,101])::(.str [102,114,111,109])::(.str [103,114,111,117,112])::(.str [105,110,100,101,120])::(.str [105,110,115,101,114,116])::(.str [105,110,116])::(.str [105,110,116,111])::(.str [105,115])::(.str [106,111,105,110])::(.str [107,101,121])::(.str [108,105,109,105,116])::(.str [109,97,120])::(.str [109,105,110])::(.str [110,111,116])::(.str [110,117,108,108])::(.str [111,110])::(.str [111,114])::(.str [111,114,100,101,114])::(.str [112,114,105,109,97,114,121])::(.str [114,111,108,108,98,97,99,107])::(.str [115,97,118,101,112,111,105,110,116])::(.str [115,101,108,101,99,116])::(.str [115,101,116])::(.str [115,117,109])::(.str [116,97,98,108,101])::(.str [116,101,120,116])::(.str [116,111])::(.str [116,114,117,101])::(.str [117,110,105,113,117,101])::(.str [117,112,100,97,116,101])::(.str [118,97,108,117,101,115])::(.str [119,104,101,114,101])::[]) ⟨false,some 9⟩))]⟩
theorem r32:aD Tryz.prog NT.f NT.args NT.v NT.N NT.H:=af mixed az aj (L:=[]) (.nil) 600 NT (by kernel_rfl) (Eq.mpr (show _=(true=true) by kernel_rfl) rfl)
def Iq:aM:=⟨179,[],(.sl 0 0 1 0 43 (some 43)),1,[(0,(.vec 0 1 ((.str [97,110,100])::(.str [97,115])::(.str [97,115,99])::(.str [98,101,103,105,110])::(.str [98,111,111,108])::(.str [98,121])::(.str [99,111,109,109,105,116])::(.str [99,111,117,110,116])::(.str [99,114,101,97,116,101])::(.str [100,101,108,101,116,101])::(.str [100,101,115,99])::(.str [102,97,108,115,101])::(.str [102,114,111,109])::(.str [103,114,111,117,112])::(.str [105,110,100,101,120])::(.str [105,110,115,101,114,116])::(.str [105,110,116])::(.str [105,110,116,111])::(.str [105,115])::(.str [106,111,105,110])::(.str [107,101,121])::(.str [108,105,109,105,116])::(.str [109,97,120])::(.str [109,105,110])::(.str [110,111,116])::(.str [110,117,108,108])::(.str [111,110])::(.str [111,114])::(.str [111,114,100,101,114])::(.str [112,114,105,109,97,114,121])::(.str [114,111,108,108,98,97,99,107])::(.str [115,97,118,101,112,111,105,110,116])::(.str [115,101,108,101,99,116])::(.str [115,101,116])::(.str [115,117,109])::(.str [116,97,98,108,101])::(.str [116,101,120,116])::(.str [116,111])::(.str [116,114,117,101])::(.str [117,110,105,113,117,101])::(.str [117,112,100,97,116,101])::(.str [118,97,108,117,101,115])::(.str [119,104,101,114,101])::[]) ⟨false,some 9⟩))]⟩
theorem RJ:aD Tryz.prog Iq.f Iq.args Iq.v Iq.N Iq.H:=af mixed az aj (L:=[NT]) (.cons r32 (.nil)) 600 Iq (by kernel_rfl) (Eq.mpr (show _=(true=true) by kernel_rfl) rfl)
def La:aM:=⟨144,[(.str [97])],(.bool false),1,[]⟩
theorem UP:aD Tryz.prog La.f La.args La.v La.N La.H:=af mixed az aj (L:=[Iq]) (.cons RJ (.nil)) 600 La (by kernel_rfl) (Eq.mpr (show _=(true=true) by kernel_rfl) rfl)
def Lc:aM:=⟨144,[(.str [98])],(.bool false),1,[]⟩
theorem UQ:aD Tryz.prog Lc.f Lc.args Lc.v Lc.N Lc.H:=af mixed az aj (L:=[Iq]) (.cons RJ (.nil)) 600 Lc (by kernel_rfl) (Eq.mpr (show _=(true=true) by kernel_rfl) rfl)
def Ld:aM:=⟨144,[(.str [99])],(.bool false),1,[]⟩
theorem UR:aD Tryz.prog Ld.f Ld.args Ld.v Ld.N Ld.H:=af mixed az aj (L:=[Iq]) (.cons RJ (.nil)) 600 Ld (by kernel_rfl) (Eq.mpr (show _=(true=true) by kernel_rfl) rfl)
def Le:aM:=⟨144,[(.str [116])],(.bool false),1,[]⟩
theorem US:aD Tryz.prog Le.f Le.args Le.v Le.N Le.H:=af mixed az aj (L:=[Iq]) (.cons RJ (.nil)) 600 Le (by kernel_rfl) (Eq.mpr (show _=(true=true) by kernel_rfl) rfl)
def Lf:aM:=⟨71,[(.agg [(.int .u8 1),(.str [115,101,108,101,99,116]),(.int .u64 0),(.int .i64 0)])],(.str [115,101,108,101,99,116]),1,[]⟩
theorem UT:aD Tryz.prog Lf.f Lf.args Lf.v Lf.N Lf.H:=af mixed az aj (L:=[]) (.nil) 600 Lf (by kernel_rfl) (Eq.mpr (show _=(true=true) by kernel_rfl) rfl)
def NU:aM:=⟨27,[(.str [115,101,108,101,99,116])],(.aN [(.agg [(.int .u8 1),(.str [115,101,108,101,99,116]),(.int .u64 0),(.int .i64 0)]),(.int .i64 6),(.int .i64 0)]),2,[]⟩
theorem Xf:aD Tryz.prog NU.f NU.args NU.v NU.N NU.H:=af mixed az aj (L:=[]) (.nil) 600 NU (by kernel_rfl) (Eq.mpr (show _=(true=true) by kernel_rfl) rfl)
def NV:aM:=⟨9,[(.str [115,101,108,101,99,116])],(.aN [(.sl 5 0 4 0 1 none),(.agg [(.int .i64 0),(.int .i64 0)])]),6,[(5,(.vec 0 4 [(.agg [(.int .u8 1),(.str [115,101,108,101,99,116]),(.int .u64 0),(.int .i64 0)])] ⟨true,some 57⟩))]⟩
theorem Xg:aD Tryz.prog NV.f NV.args NV.v NV.N NV.H:=af mixed az aj (L:=[NU]) (.cons Xf (.nil)) 600 NV (by kernel_rfl) (Eq.mpr (show _=(true=true) by kernel_rfl) rfl)
def NW:aM:=⟨70,[(.agg [(.int .u8 1),(.str [115,101,108,101,99,116]),(.int .u64 0),(.int .i64 0)])],(.bool true),9,[]⟩
theorem Xh:aD Tryz.prog NW.f NW.args NW.v NW.N NW.H:=af mixed az aj (L:=[NV,Lf]) (.cons Xg (.cons UT (.nil))) 600 NW (by kernel_rfl) (Eq.mpr (show _=(true=true) by kernel_rfl) rfl)
def Lg:aM:=⟨71,[(.agg [(.int .u8 1),(.str [97]),(.int .u64 0),(.int .i64 0)])],(.str [97]),1,[]⟩
theorem UU:aD Tryz.prog Lg.f Lg.args Lg.v Lg.N Lg.H:=af mixed az aj (L:=[]) (.nil) 600 Lg (by kernel_rfl) (Eq.mpr (show _=(true=true) by kernel_rfl) rfl)
def NY:aM:=⟨27,[(.str [97])],(.aN [(.agg [(.int .u8 1),(.str [97]),(.int .u64 0),(.int .i64 0)]),(.int .i64 1),(.int .i64 0)]),2,[]⟩
theorem Xi:aD Tryz.prog NY.f NY.args NY.v NY.N NY.H:=af mixed az aj (L:=[]) (.nil) 600 NY (by kernel_rfl) (Eq.mpr (show _=(true=true) by kernel_rfl) rfl)
def NZ:aM:=⟨9,[(.str [97])],(.aN [(.sl 5 0 4 0 1 none),(.agg [(.int .i64 0),(.int .i64 0)])]),6,[(5,(.vec 0 4 [(.agg [(.int .u8 1),(.str [97]),(.int .u64 0),(.int .i64 0)])] ⟨true,some 57⟩))]⟩
theorem Xj:aD Tryz.prog NZ.f NZ.args NZ.v NZ.N NZ.H:=af mixed az aj (L:=[NY]) (.cons Xi (.nil)) 600 NZ (by kernel_rfl) (Eq.mpr (show _=(true=true) by kernel_rfl) rfl)
def N0:aM:=⟨70,[(.agg [(.int .u8 1),(.str [97]),(.int .u64 0),(.int .i64 0)])],(.bool true),9,[]⟩
theorem Xk:aD Tryz.prog N0.f N0.args N0.v N0.N N0.H:=af mixed az aj (L:=[NZ,Lg]) (.cons Xj (.cons UU (.nil))) 600 N0 (by kernel_rfl) (Eq.mpr (show _=(true=true) by kernel_rfl) rfl)
def Lh:aM:=⟨71,[(.agg [(.int .u8 4),(.str [44]),(.int .u64 0),(.int .i64 0)])],(.str [44]),1,[]⟩
theorem UW:aD Tryz.prog Lh.f Lh.args Lh.v Lh.N Lh.H:=af mixed az aj (L:=[]) (.nil) 600 Lh (by kernel_rfl) (Eq.mpr (show _=(true=true) by kernel_rfl) rfl)
def N1:aM:=⟨27,[(.str [44])],(.aN [(.agg [(.int .u8 4),(.str [44]),(.int .u64 0),(.int .i64 0)]),(.int .i64 1),(.int .i64 0)]),2,[]⟩
theorem Xl:aD Tryz.prog N1.f N1.args N1.v N1.N N1.H:=af mixed az aj (L:=[k4]) (.cons r4 (.nil)) 600 N1 (by kernel_rfl) (Eq.mpr (show _=(true=true) by kernel_rfl) rfl)
def N2:aM:=⟨9,[(.str [44])],(.aN [(.sl 5 0 4 0 1 none),(.agg [(.int .i64 0),(.int .i64 0)])]),6,[(5,(.vec 0 4 [(.agg [(.int .u8 4),(.str [44]),(.int .u64 0),(.int .i64 0)])] ⟨true,some 57⟩))]⟩
theorem Xm:aD Tryz.prog N2.f N2.args N2.v N2.N N2.H:=af mixed az aj (L:=[N1]) (.cons Xl (.nil)) 600 N2 (by kernel_rfl) (Eq.mpr (show _=(true=true) by kernel_rfl) rfl)
def N3:aM:=⟨70,[(.agg [(.int .u8 4),(.str [44]),(.int .u64 0),(.int .i64 0)])],(.bool true),9,[]⟩
theorem Xn:aD Tryz.prog N3.f N3.args N3.v N3.N N3.H:=af mixed az aj (L:=[N2,Lh]) (.cons Xm (.cons UW (.nil))) 600 N3 (by kernel_rfl) (Eq.mpr (show _=(true=true) by kernel_rfl) rfl)
def Li:aM:=⟨71,[(.agg [(.int .u8 4),(.str [40]),(.int .u64 0),(.int .i64 0)])],(.str [40]),1,[]⟩
theorem UX:aD Tryz.prog Li.f Li.args Li.v Li.N Li.H:=af mixed az aj (L:=[]) (.nil) 600 Li (by kernel_rfl) (Eq.mpr (show _=(true=true) by kernel_rfl) rfl)
def N4:aM:=⟨27,[(.str [40])],(.aN [(.agg [(.int .u8 4),(.str [40]),(.int .u64 0),(.int .i64 0)]),(.int .i64 1),(.int .i64 0)]),2,[]⟩
theorem Xo:aD Tryz.prog N4.f N4.args N4.v N4.N N4.H:=af mixed az aj (L:=[k4]) (.cons r4 (.nil)) 600 N4 (by kernel_rfl) (Eq.mpr (show _=(true=true) by kernel_rfl) rfl)
def N5:aM:=⟨9,[(.str [40])],(.aN [(.sl 5 0 4 0 1 none),(.agg [(.int .i64 0),(.int .i64 0)])]),6,[(5,(.vec 0 4 [(.agg [(.int .u8 4),(.str [40]),(.int .u64 0),(.int .i64 0)])] ⟨true,some 57⟩))]⟩
theorem Xp:aD Tryz.prog N5.f N5.args N5.v N5.N N5.H:=af mixed az aj (L:=[N4]) (.cons Xo (.nil)) 600 N5 (by kernel_rfl) (Eq.mpr (show _=(true=true) by kernel_rfl) rfl)
def N6:aM:=⟨70,[(.agg [(.int .u8 4),(.str [40]),(.int .u64 0),(.int .i64 0)])],(.bool true),9,[]⟩
theorem Xq:aD Tryz.prog N6.f N6.args N6.v N6.N N6.H:=af mixed az aj (L:=[N5,Li]) (.cons Xp (.cons UX (.nil))) 600 N6 (by kernel_rfl) (Eq.mpr (show _=(true=true) by kernel_rfl) rfl)
def Lj:aM:=⟨71,[(.agg [(.int .u8 1),(.str [98]),(.int .u64 0),(.int .i64 0)])],(.str [98]),1,[]⟩
theorem UY:aD Tryz.prog Lj.f Lj.args Lj.v Lj.N Lj.H:=af mixed az aj (L:=[]) (.nil) 600 Lj (by kernel_rfl) (Eq.mpr (show _=(true=true) by kernel_rfl) rfl)
def N7:aM:=⟨27,[(.str [98])],(.aN [(.agg [(.int .u8 1),(.str [98]),(.int .u64 0),(.int .i64 0)]),(.int .i64 1),(.int .i64 0)]),2,[]⟩
theorem Xr:aD Tryz.prog N7.f N7.args N7.v N7.N N7.H:=af mixed az aj (L:=[]) (.nil) 600 N7 (by kernel_rfl) (Eq.mpr (show _=(true=true) by kernel_rfl) rfl)
def N8:aM:=⟨9,[(.str [98])],(.aN [(.sl 5 0 4 0 1 none),(.agg [(.int .i64 0),(.int .i64 0)])]),6,[(5,(.vec 0 4 [(.agg [(.int .u8 1),(.str [98]),(.int .u64 0),(.int .i64 0)])] ⟨true,some 57⟩))]⟩
theorem Xt:aD Tryz.prog N8.f N8.args N8.v N8.N N8.H:=af mixed az aj (L:=[N7]) (.cons Xr (.nil)) 600 N8 (by kernel_rfl) (Eq.mpr (show _=(true=true) by kernel_rfl) rfl)
def N9:aM:=⟨70,[(.agg [(.int .u8 1),(.str [98]),(.int .u64 0),(.int .i64 0)])],(.bool true),9,[]⟩
theorem Xu:aD Tryz.prog N9.f N9.args N9.v N9.N N9.H:=af mixed az aj (L:=[N8,Lj]) (.cons Xt (.cons UY (.nil))) 600 N9 (by kernel_rfl) (Eq.mpr (show _=(true=true) by kernel_rfl) rfl)
def Ll:aM:=⟨71,[(.agg [(.int .u8 4),(.str [43]),(.int .u64 0),(.int .i64 0)])],(.str [43]),1,[]⟩
theorem UZ:aD Tryz.prog Ll.f Ll.args Ll.v Ll.N Ll.H:=af mixed az aj (L:=[]) (.nil) 600 Ll (by kernel_rfl) (Eq.mpr (show _=(true=true) by kernel_rfl) rfl)
def Oa:aM:=⟨27,[(.str [43])],(.aN [(.agg [(.int .u8 4),(.str [43]),(.int .u64 0),(.int .i64 0)]),(.int .i64 1),(.int .i64 0)]),2,[]⟩
theorem Xv:aD Tryz.prog Oa.f Oa.args Oa.v Oa.N Oa.H:=af mixed az aj (L:=[k4]) (.cons r4 (.nil)) 600 Oa (by kernel_rfl) (Eq.mpr (show _=(true=true) by kernel_rfl) rfl)
def Ob:aM:=⟨9,[(.str [43])],(.aN [(.sl 5 0 4 0 1 none),(.agg [(.int .i64 0),(.int .i64 0)])]),6,[(5,(.vec 0 4 [(.agg [(.int .u8 4),(.str [43]),(.int .u64 0),(.int .i64 0)])] ⟨true,some 57⟩))]⟩
theorem Xw:aD Tryz.prog Ob.f Ob.args Ob.v Ob.N Ob.H:=af mixed az aj (L:=[Oa]) (.cons Xv (.nil)) 600 Ob (by kernel_rfl) (Eq.mpr (show _=(true=true) by kernel_rfl) rfl)
def Oc:aM:=⟨70,[(.agg [(.int .u8 4),(.str [43]),(.int .u64 0),(.int .i64 0)])],(.bool true),9,[]⟩
theorem Xx:aD Tryz.prog Oc.f Oc.args Oc.v Oc.N Oc.H:=af mixed az aj (L:=[Ob,Ll]) (.cons Xw (.cons UZ (.nil))) 600 Oc (by kernel_rfl) (Eq.mpr (show _=(true=true) by kernel_rfl) rfl)
def Od:aM:=⟨70,[(.agg [(.int .u8 2),(.str []),(.int .u64 1),(.int .i64 0)])],(.bool true),1,[]⟩
theorem Xy:aD Tryz.prog Od.f Od.args Od.v Od.N Od.H:=af mixed az aj (L:=[]) (.nil) 600 Od (by kernel_rfl) (Eq.mpr (show _=(true=true) by kernel_rfl) rfl)
def Oe:aM:=⟨71,[(.agg [(.int .u8 2),(.str []),(.int .u64 1),(.int .i64 0)])],(.str [49]),1,[]⟩
theorem r64:aD Tryz.prog Oe.f Oe.args Oe.v Oe.N Oe.H:=af mixed az aj (L:=[]) (.nil) 600 Oe (by kernel_rfl) (Eq.mpr (show _=(true=true) by kernel_rfl) rfl)
def Lm:aM:=⟨71,[(.agg [(.int .u8 4),(.str [41]),(.int .u64 0),(.int .i64 0)])],(.str [41]),1,[]⟩
theorem U0:aD Tryz.prog Lm.f Lm.args Lm.v Lm.N Lm.H:=af mixed az aj (L:=[]) (.nil) 600 Lm (by kernel_rfl) (Eq.mpr (show _=(true=true) by kernel_rfl) rfl)
def Og:aM:=⟨27,[(.str [41])],(.aN [(.agg [(.int .u8 4),(.str [41]),(.int .u64 0),(.int .i64 0)]),(.int .i64 1),(.int .i64 0)]),2,[]⟩
theorem Xz:aD Tryz.prog Og.f Og.args Og.v Og.N Og.H:=af mixed az aj (L:=[k4]) (.cons r4 (.nil)) 600 Og (by kernel_rfl) (Eq.mpr (show _=(true=true) by kernel_rfl) rfl)
def Oh:aM:=⟨9,[(.str [41])],(.aN [(.sl 5 0 4 0 1 none),(.agg [(.int .i64 0),(.int .i64 0)])]),6,[(5,(.vec 0 4 [(.agg [(.int .u8 4),(.str [41]),(.int .u64 0),(.int .i64 0)])] ⟨true,some 57⟩))]⟩
theorem XA:aD Tryz.prog Oh.f Oh.args Oh.v Oh.N Oh.H:=af mixed az aj (L:=[Og]) (.cons Xz (.nil)) 600 Oh (by kernel_rfl) (Eq.mpr (show _=(true=true) by kernel_rfl) rfl)
def Oi:aM:=⟨70,[(.agg [(.int .u8 4),(.str [41]),(.int .u64 0),(.int .i64 0)])],(.bool true),9,[]⟩
theorem XB:aD Tryz.prog Oi.f Oi.args Oi.v Oi.N Oi.H:=af mixed az aj (L:=[Oh,Lm]) (.cons XA (.cons U0 (.nil))) 600 Oi (by kernel_rfl) (Eq.mpr (show _=(true=true) by kernel_rfl) rfl)
def Ln:aM:=⟨71,[(.agg [(.int .u8 4),(.str [42]),(.int .u64 0),(.int .i64 0)])],(.str [42]),1,[]⟩
theorem U1:aD Tryz.prog Ln.f Ln.args Ln.v Ln.N Ln.H:=af mixed az aj (L:=[]) (.nil) 600 Ln (by kernel_rfl) (Eq.mpr (show _=(true=true) by kernel_rfl) rfl)
def Oj:aM:=⟨27,[(.str [42])],(.aN [(.agg [(.int .u8 4),(.str [42]),(.int .u64 0),(.int .i64 0)]),(.int .i64 1),(.int .i64 0)]),2,[]⟩
theorem XC:aD Tryz.prog Oj.f Oj.args Oj.v Oj.N Oj.H:=af mixed az aj (L:=[k4]) (.cons r4 (.nil)) 600 Oj (by kernel_rfl) (Eq.mpr (show _=(true=true) by kernel_rfl) rfl)
def Ol:aM:=⟨9,[(.str [42])],(.aN [(.sl 5 0 4 0 1 none),(.agg [(.int .i64 0),(.int .i64 0)])]),6,[(5,(.vec 0 4 [(.agg [(.int .u8 4),(.str [42]),(.int .u64 0),(.int .i64 0)])] ⟨true,some 57⟩))]⟩
theorem XD:aD Tryz.prog Ol.f Ol.args Ol.v Ol.N Ol.H:=af mixed az aj (L:=[Oj]) (.cons XC (.nil)) 600 Ol (by kernel_rfl) (Eq.mpr (show _=(true=true) by kernel_rfl) rfl)
def Om:aM:=⟨70,[(.agg [(.int .u8 4),(.str [42]),(.int .u64 0),(.int .i64 0)])],(.bool true),9,[]⟩
theorem XE:aD Tryz.prog Om.f Om.args Om.v Om.N Om.H:=af mixed az aj (L:=[Ol,Ln]) (.cons XD (.cons U1 (.nil))) 600 Om (by kernel_rfl) (Eq.mpr (show _=(true=true) by kernel_rfl) rfl)
def On:aM:=⟨70,[(.agg [(.int .u8 2),(.str []),(.int .u64 2),(.int .i64 0)])],(.bool true),1,[]⟩
theorem XF:aD Tryz.prog On.f On.args On.v On.N On.H:=af mixed az aj (L:=[]) (.nil) 600 On (by kernel_rfl) (Eq.mpr (show _=(true=true) by kernel_rfl) rfl)
def Oo:aM:=⟨71,[(.agg [(.int .u8 2),(.str []),(.int .u64 2),(.int .i64 0)])],(.str [50]),1,[]⟩
theorem XG:aD Tryz.prog Oo.f Oo.args Oo.v Oo.N Oo.H:=af mixed az aj (L:=[]) (.nil) 600 Oo (by kernel_rfl) (Eq.mpr (show _=(true=true) by kernel_rfl) rfl)
def Lo:aM:=⟨71,[(.agg [(.int .u8 1),(.str [97,115]),(.int .u64 0),(.int .i64 0)])],(.str [97,115]),1,[]⟩
theorem U2:aD Tryz.prog Lo.f Lo.args Lo.v Lo.N Lo.H:=af mixed az aj (L:=[]) (.nil) 600 Lo (by kernel_rfl) (Eq.mpr (show _=(true=true) by kernel_rfl) rfl)
def Oq:aM:=⟨27,[(.str [97,115])],(.aN [(.agg [(.int .u8 1),(.str [97,115]),(.int .u64 0),(.int .i64 0)]),(.int .i64 2),(.int .i64 0)]),2,[]⟩
theorem XH:aD Tryz.prog Oq.f Oq.args Oq.v Oq.N Oq.H:=af mixed az aj (L:=[]) (.nil) 600 Oq (by kernel_rfl) (Eq.mpr (show _=(true=true) by kernel_rfl) rfl)
def Ot:aM:=⟨9,[(.str [97,115])],(.aN [(.sl 5 0 4 0 1 none),(.agg [(.int .i64 0),(.int .i64 0)])]),6,[(5,(.vec 0 4 [(.agg [(.int .u8 1),(.str [97,115]),(.int .u64 0),(.int .i64 0)])] ⟨true,some 57⟩))]⟩
theorem XI:aD Tryz.prog Ot.f Ot.args Ot.v Ot.N Ot.H:=af mixed az aj (L:=[Oq]) (.cons XH (.nil)) 600 Ot (by kernel_rfl) (Eq.mpr (show _=(true=true) by kernel_rfl) rfl)
def Ou:aM:=⟨70,[(.agg [(.int .u8 1),(.str [97,115]),(.int .u64 0),(.int .i64 0)])],(.bool true),9,[]⟩
theorem XJ:aD Tryz.prog Ou.f Ou.args Ou.v Ou.N Ou.H:=af mixed az aj (L:=[Ot,Lo]) (.cons XI (.cons U2 (.nil))) 600 Ou (by kernel_rfl) (Eq.mpr (show _=(true=true) by kernel_rfl) rfl)
def Lp:aM:=⟨71,[(.agg [(.int .u8 1),(.str [99]),(.int .u64 0),(.int .i64 0)])],(.str [99]),1,[]⟩
theorem U3:aD Tryz.prog Lp.f Lp.args Lp.v Lp.N Lp.H:=af mixed az aj (L:=[]) (.nil) 600 Lp (by kernel_rfl) (Eq.mpr (show _=(true=true) by kernel_rfl) rfl)
def Ov:aM:=⟨27,[(.str [99])],(.aN [(.agg [(.int .u8 1),(.str [99]),(.int .u64 0),(.int .i64 0)]),(.int .i64 1),(.int .i64 0)]),2,[]⟩
theorem XK:aD Tryz.prog Ov.f Ov.args Ov.v Ov.N Ov.H:=af mixed az aj (L:=[]) (.nil) 600 Ov (by kernel_rfl) (Eq.mpr (show _=(true=true) by kernel_rfl) rfl)
def Ow:aM:=⟨9,[(.str [99])],(.aN [(.sl 5 0 4 0 1 none),(.agg [(.int .i64 0),(.int .i64 0)])]),6,[(5,(.vec 0 4 [(.agg [(.int .u8 1),(.str [99]),(.int .u64 0),(.int .i64 0)])] ⟨true,some 57⟩))]⟩
theorem XL:aD Tryz.prog Ow.f Ow.args Ow.v Ow.N Ow.H:=af mixed az aj (L:=[Ov]) (.cons XK (.nil)) 600 Ow (by kernel_rfl) (Eq.mpr (show _=(true=true) by kernel_rfl) rfl)
def Ox:aM:=⟨70,[(.agg [(.int .u8 1),(.str [99]),(.int .u64 0),(.int .i64 0)])],(.bool true),9,[]⟩
theorem XM:aD Tryz.prog Ox.f Ox.args Ox.v Ox.N Ox.H:=af mixed az aj (L:=[Ow,Lp]) (.cons XL (.cons U3 (.nil))) 600 Ox (by kernel_rfl) (Eq.mpr (show _=(true=true) by kernel_rfl) rfl)
def Lq:aM:=⟨71,[(.agg [(.int .u8 1),(.str [102,114,111,109]),(.int .u64 0),(.int .i64 0)])],(.str [102,114,111,109]),1,[]⟩
theorem U4:aD Tryz.prog Lq.f Lq.args Lq.v Lq.N Lq.H:=af mixed az aj (L:=[]) (.nil) 600 Lq (by kernel_rfl) (Eq.mpr (show _=(true=true) by kernel_rfl) rfl)
def Oy:aM:=⟨27,[(.str [102,114,111,109])],(.aN [(.agg [(.int .u8 1),(.str [102,114,111,109]),(.int .u64 0),(.int .i64 0)]),(.int .i64 4),(.int .i64 0)]),2,[]⟩
theorem XN:aD Tryz.prog Oy.f Oy.args Oy.v Oy.N Oy.H:=af mixed az aj (L:=[]) (.nil) 600 Oy (by kernel_rfl) (Eq.mpr (show _=(true=true) by kernel_rfl) rfl)
def Oz:aM:=⟨9,[(.str [102,114,111,109])],(.aN [(.sl 5 0 4 0 1 none),(.agg [(.int .i64 0),(.int .i64 0)])]),6,[(5,(.vec 0 4 [(.agg [(.int .u8 1),(.str [102,114,111,109]),(.int .u64 0),(.int .i64 0)])] ⟨true,some 57⟩))]⟩
theorem XO:aD Tryz.prog Oz.f Oz.args Oz.v Oz.N Oz.H:=af mixed az aj (L:=[Oy]) (.cons XN (.nil)) 600 Oz (by kernel_rfl) (Eq.mpr (show _=(true=true) by kernel_rfl) rfl)
def OA:aM:=⟨70,[(.agg [(.int .u8 1),(.str [102,114,111,109]),(.int .u64 0),(.int .i64 0)])],(.bool true),9,[]⟩
theorem XP:aD Tryz.prog OA.f OA.args OA.v OA.N OA.H:=af mixed az aj (L:=[Oz,Lq]) (.cons XO (.cons U4 (.nil))) 600 OA (by kernel_rfl) (Eq.mpr (show _=(true=true) by kernel_rfl) rfl)
def Lr:aM:=⟨71,[(.agg [(.int .u8 1),(.str [116]),(.int .u64 0),(.int .i64 0)])],(.str [116]),1,[]⟩
theorem U5:aD Tryz.prog Lr.f Lr.args Lr.v Lr.N Lr.H:=af mixed az aj (L:=[]) (.nil) 600 Lr (by kernel_rfl) (Eq.mpr (show _=(true=true) by kernel_rfl) rfl)
def OB:aM:=⟨27,[(.str [116])],(.aN [(.agg [(.int .u8 1),(.str [116]),(.int .u64 0),(.int .i64 0)]),(.int .i64 1),(.int .i64 0)]),2,[]⟩
theorem XQ:aD Tryz.prog OB.f OB.args OB.v OB.N OB.H:=af mixed az aj (L:=[]) (.nil) 600 OB (by kernel_rfl) (Eq.mpr (show _=(true=true) by kernel_rfl) rfl)
def OC:aM:=⟨9,[(.str [116])],(.aN [(.sl 5 0 4 0 1 none),(.agg [(.int .i64 0),(.int .i64 0)])]),6,[(5,(.vec 0 4 [(.agg [(.int .u8 1),(.str [116]),(.int .u64 0),(.int .i64 0)])] ⟨true,some 57⟩))]⟩
theorem XR:aD Tryz.prog OC.f OC.args OC.v OC.N OC.H:=af mixed az aj (L:=[OB]) (.cons XQ (.nil)) 600 OC (by kernel_rfl) (Eq.mpr (show _=(true=true) by kernel_rfl) rfl)
def OD:aM:=⟨70,[(.agg [(.int .u8 1),(.str [116]),(.int .u64 0),(.int .i64 0)])],(.bool true),9,[]⟩
theorem XS:aD Tryz.prog OD.f OD.args OD.v OD.N OD.H:=af mixed az aj (L:=[OC,Lr]) (.cons XR (.cons U5 (.nil))) 600 OD (by kernel_rfl) (Eq.mpr (show _=(true=true) by kernel_rfl) rfl)
def Ls:aM:=⟨71,[(.agg [(.int .u8 1),(.str [119,104,101,114,101]),(.int .u64 0),(.int .i64 0)])],(.str [119,104,101,114,101]),1,[]⟩
theorem U6:aD Tryz.prog Ls.f Ls.args Ls.v Ls.N Ls.H:=af mixed az aj (L:=[]) (.nil) 600 Ls (by kernel_rfl) (Eq.mpr (show _=(true=true) by kernel_rfl) rfl)
def OE:aM:=⟨27,[(.str [119,104,101,114,101])],(.aN [(.agg [(.int .u8 1),(.str [119,104,101,114,101]),(.int .u64 0),(.int .i64 0)]),(.int .i64 5),(.int .i64 0)]),2,[]⟩
theorem XT:aD Tryz.prog OE.f OE.args OE.v OE.N OE.H:=af mixed az aj (L:=[]) (.nil) 600 OE (by kernel_rfl) (Eq.mpr (show _=(true=true) by kernel_rfl) rfl)
def OF:aM:=⟨9,[(.str [119,104,101,114,101])],(.aN [(.sl 5 0 4 0 1 none),(.agg [(.int .i64 0),(.int .i64 0)])]),6,[(5,(.vec 0 4 [(.agg [(.int .u8 1),(.str [119,104,101,114,101]),(.int .u64 0),(.int .i64 0)])] ⟨true,some 57⟩))]⟩
theorem XU:aD Tryz.prog OF.f OF.args OF.v OF.N OF.H:=af mixed az aj (L:=[OE]) (.cons XT (.nil)) 600 OF (by kernel_rfl) (Eq.mpr (show _=(true=true) by kernel_rfl) rfl)
def OG:aM:=⟨70,[(.agg [(.int .u8 1),(.str [119,104,101,114,101]),(.int .u64 0),(.int .i64 0)])],(.bool true),9,[]⟩
theorem XV:aD Tryz.prog OG.f OG.args OG.v OG.N OG.H:=af mixed az aj (L:=[OF,Ls]) (.cons XU (.cons U6 (.nil))) 600 OG (by kernel_rfl) (Eq.mpr (show _=(true=true) by kernel_rfl) rfl)
def Lt:aM:=⟨71,[(.agg [(.int .u8 1),(.str [110,111,116]),(.int .u64 0),(.int .i64 0)])],(.str [110,111,116]),1,[]⟩
theorem U7:aD Tryz.prog Lt.f Lt.args Lt.v Lt.N Lt.H:=af mixed az aj (L:=[]) (.nil) 600 Lt (by kernel_rfl) (Eq.mpr (show _=(true=true) by kernel_rfl) rfl)
def OH:aM:=⟨27,[(.str [110,111,116])],(.aN [(.agg [(.int .u8 1),(.str [110,111,116]),(.int .u64 0),(.int .i64 0)]),(.int .i64 3),(.int .i64 0)]),2,[]⟩
theorem XW:aD Tryz.prog OH.f OH.args OH.v OH.N OH.H:=af mixed az aj (L:=[]) (.nil) 600 OH (by kernel_rfl) (Eq.mpr (show _=(true=true) by kernel_rfl) rfl)
def OI:aM:=⟨9,[(.str [110,111,116])],(.aN [(.sl 5 0 4 0 1 none),(.agg [(.int .i64 0),(.int .i64 0)])]),6,[(5,(.vec 0 4 [(.agg [(.int .u8 1),(.str [110,111,116]),(.int .u64 0),(.int .i64 0)])] ⟨true,some 57⟩))]⟩
theorem XX:aD Tryz.prog OI.f OI.args OI.v OI.N OI.H:=af mixed az aj (L:=[OH]) (.cons XW (.nil)) 600 OI (by kernel_rfl) (Eq.mpr (show _=(true=true) by kernel_rfl) rfl)
def OJ:aM:=⟨70,[(.agg [(.int .u8 1),(.str [110,111,116]),(.int .u64 0),(.int .i64 0)])],(.bool true),9,[]⟩
theorem XY:aD Tryz.prog OJ.f OJ.args OJ.v OJ.N OJ.H:=af mixed az aj (L:=[OI,Lt]) (.cons XX (.cons U7 (.nil))) 600 OJ (by kernel_rfl) (Eq.mpr (show _=(true=true) by kernel_rfl) rfl)
def Lu:aM:=⟨71,[(.agg [(.int .u8 4),(.str [61]),(.int .u64 0),(.int .i64 0)])],(.str [61]),1,[]⟩
theorem U8:aD Tryz.prog Lu.f Lu.args Lu.v Lu.N Lu.H:=af mixed az aj (L:=[]) (.nil) 600 Lu (by kernel_rfl) (Eq.mpr (show _=(true=true) by kernel_rfl) rfl)
def CC:aM:=⟨27,[(.str [61])],(.aN [(.agg [(.int .u8 4),(.str [61]),(.int .u64 0),(.int .i64 0)]),(.int .i64 1),(.int .i64 0)]),2,[]⟩
theorem Tf:aD Tryz.prog CC.f CC.args CC.v CC.N CC.H:=af mixed az aj (L:=[k4]) (.cons r4 (.nil)) 600 CC (by kernel_rfl) (Eq.mpr (show _=(true=true) by kernel_rfl) rfl)
def CD:aM:=⟨9,[(.str [61])],(.aN [(.sl 5 0 4 0 1 none),(.agg [(.int .i64 0),(.int .i64 0)])]),6,[(5,(.vec 0 4 [(.agg [(.int .u8 4),(.str [61]),(.int .u64 0),(.int .i64 0)])] ⟨true,some 57⟩))]⟩
theorem Tg:aD Tryz.prog CD.f CD.args CD.v CD.N CD.H:=af mixed az aj (L:=[CC]) (.cons Tf (.nil)) 600 CD (by kernel_rfl) (Eq.mpr (show _=(true=true) by kernel_rfl) rfl)
def CF:aM:=⟨70,[(.agg [(.int .u8 4),(.str [61]),(.int .u64 0),(.int .i64 0)])],(.bool true),9,[]⟩
theorem Ti:aD Tryz.prog CF.f CF.args CF.v CF.N CF.H:=af mixed az aj (L:=[CD,Lu]) (.cons Tg (.cons U8 (.nil))) 600 CF (by kernel_rfl) (Eq.mpr (show _=(true=true) by kernel_rfl) rfl)
def A8:aM:=⟨71,[(.agg [(.int .u8 1),(.str [97,110,100]),(.int .u64 0),(.int .i64 0)])],(.str [97,110,100]),1,[]⟩
theorem Q9:aD Tryz.prog A8.f A8.args A8.v A8.N A8.H:=af mixed az aj (L:=[]) (.nil) 600 A8 (by kernel_rfl) (Eq.mpr (show _=(true=true) by kernel_rfl) rfl)
def CG:aM:=⟨27,[(.str [97,110,100])],(.aN [(.agg [(.int .u8 1),(.str [97,110,100]),(.int .u64 0),(.int .i64 0)]),(.int .i64 3),(.int .i64 0)]),2,[]⟩
theorem Tj:aD Tryz.prog CG.f CG.args CG.v CG.N CG.H:=af mixed az aj (L:=[]) (.nil) 600 CG (by kernel_rfl) (Eq.mpr (show _=(true=true) by kernel_rfl) rfl)
def CH:aM:=⟨9,[(.str [97,110,100])],(.aN [(.sl 5 0 4 0 1 none),(.agg [(.int .i64 0),(.int .i64 0)])]),6,[(5,(.vec 0 4 [(.agg [(.int .u8 1),(.str [97,110,100]),(.int .u64 0),(.int .i64 0)])] ⟨true,some 57⟩))]⟩
theorem Tl:aD Tryz.prog CH.f CH.args CH.v CH.N CH.H:=af mixed az aj (L:=[CG]) (.cons Tj (.nil)) 600 CH (by kernel_rfl) (Eq.mpr (show _=(true=true) by kernel_rfl) rfl)
def CI:aM:=⟨70,[(.agg [(.int .u8 1),(.str [97,110,100]),(.int .u64 0),(.int .i64 0)])],(.bool true),9,[]⟩
theorem Tm:aD Tryz.prog CI.f CI.args CI.v CI.N CI.H:=af mixed az aj (L:=[CH,A8]) (.cons Tl (.cons Q9 (.nil))) 600 CI (by kernel_rfl) (Eq.mpr (show _=(true=true) by kernel_rfl) rfl)
def A9:aM:=⟨71,[(.agg [(.int .u8 1),(.str [105,115]),(.int .u64 0),(.int .i64 0)])],(.str [105,115]),1,[]⟩
theorem Ra:aD Tryz.prog A9.f A9.args A9.v A9.N A9.H:=af mixed az aj (L:=[]) (.nil) 600 A9 (by kernel_rfl) (Eq.mpr (show _=(true=true) by kernel_rfl) rfl)
def CJ:aM:=⟨27,[(.str [105,115])],(.aN [(.agg [(.int .u8 1),(.str [105,115]),(.int .u64 0),(.int .i64 0)]),(.int .i64 2),(.int .i64 0)]),2,[]⟩
theorem Tn:aD Tryz.prog CJ.f CJ.args CJ.v CJ.N CJ.H:=af mixed az aj (L:=[]) (.nil) 600 CJ (by kernel_rfl) (Eq.mpr (show _=(true=true) by kernel_rfl) rfl)
def CK:aM:=⟨9,[(.str [105,115])],(.aN [(.sl 5 0 4 0 1 none),(.agg [(.int .i64 0),(.int .i64 0)])]),6,[(5,(.vec 0 4 [(.agg [(.int .u8 1),(.str [105,115]),(.int .u64 0),(.int .i64 0)])] ⟨true,some 57⟩))]⟩
theorem To:aD Tryz.prog CK.f CK.args CK.v CK.N CK.H:=af mixed az aj (L:=[CJ]) (.cons Tn (.nil)) 600 CK (by kernel_rfl) (Eq.mpr (show _=(true=true) by kernel_rfl) rfl)
def CL:aM:=⟨70,[(.agg [(.int .u8 1),(.str [105,115]),(.int .u64 0),(.int .i64 0)])],(.bool true),9,[]⟩
theorem Tp:aD Tryz.prog CL.f CL.args CL.v CL.N CL.H:=af mixed az aj (L:=[CK,A9]) (.cons To (.cons Ra (.nil))) 600 CL (by kernel_rfl) (Eq.mpr (show _=(true=true) by kernel_rfl) rfl)
def Ba:aM:=⟨71,[(.agg [(.int .u8 1),(.str [110,117,108,108]),(.int .u64 0),(.int .i64 0)])],(.str [110,117,108,108]),1,[]⟩
theorem Rb:aD Tryz.prog Ba.f Ba.args Ba.v Ba.N Ba.H:=af mixed az aj (L:=[]) (.nil) 600 Ba (by kernel_rfl) (Eq.mpr (show _=(true=true) by kernel_rfl) rfl)
def CM:aM:=⟨27,[(.str [110,117,108,108])],(.aN [(.agg [(.int .u8 1),(.str [110,117,108,108]),(.int .u64 0),(.int .i64 0)]),(.int .i64 4),(.int .i64 0)]),2,[]⟩
theorem Tq:aD Tryz.prog CM.f CM.args CM.v CM.N CM.H:=af mixed az aj (L:=[]) (.nil) 600 CM (by kernel_rfl) (Eq.mpr (show _=(true=true) by kernel_rfl) rfl)
def CN:aM:=⟨9,[(.str [110,117,108,108])],(.aN [(.sl 5 0 4 0 1 none),(.agg [(.int .i64 0),(.int .i64 0)])]),6,[(5,(.vec 0 4 [(.agg [(.int .u8 1),(.str [110,117,108,108]),(.int .u64 0),(.int .i64 0)])] ⟨true,some 57⟩))]⟩
theorem Tr:aD Tryz.prog CN.f CN.args CN.v CN.N CN.H:=af mixed az aj (L:=[CM]) (.cons Tq (.nil)) 600 CN (by kernel_rfl) (Eq.mpr (show _=(true=true) by kernel_rfl) rfl)
def CO:aM:=⟨70,[(.agg [(.int .u8 1),(.str [110,117,108,108]),(.int .u64 0),(.int .i64 0)])],(.bool true),9,[]⟩
theorem Ts:aD Tryz.prog CO.f CO.args CO.v CO.N CO.H:=af mixed az aj (L:=[CN,Ba]) (.cons Tr (.cons Rb (.nil))) 600 CO (by kernel_rfl) (Eq.mpr (show _=(true=true) by kernel_rfl) rfl)
def Bb:aM:=⟨71,[(.agg [(.int .u8 1),(.str [108,105,109,105,116]),(.int .u64 0),(.int .i64 0)])],(.str [108,105,109,105,116]),1,[]⟩
theorem Rc:aD Tryz.prog Bb.f Bb.args Bb.v Bb.N Bb.H:=af mixed az aj (L:=[]) (.nil) 600 Bb (by kernel_rfl) (Eq.mpr (show _=(true=true) by kernel_rfl) rfl)
def CP:aM:=⟨27,[(.str [108,105,109,105,116])],(.aN [(.agg [(.int .u8 1),(.str [108,105,109,105,116]),(.int .u64 0),(.int .i64 0)]),(.int .i64 5),(.int .i64 0)]),2,[]⟩
theorem Tt:aD Tryz.prog CP.f CP.args CP.v CP.N CP.H:=af mixed az aj (L:=[]) (.nil) 600 CP (by kernel_rfl) (Eq.mpr (show _=(true=true) by kernel_rfl) rfl)
def CQ:aM:=⟨9,[(.str [108,105,109,105,116])],(.aN [(.sl 5 0 4 0 1 none),(.agg [(.int .i64 0),(.int .i64 0)])]),6,[(5,(.vec 0 4 [(.agg [(.int .u8 1),(.str [108,105,109,105,116]),(.int .u64 0),(.int .i64 0)])] ⟨true,some 57⟩))]⟩
theorem Tv:aD Tryz.prog CQ.f CQ.args CQ.v CQ.N CQ.H:=af mixed az aj (L:=[CP]) (.cons Tt (.nil)) 600 CQ (by kernel_rfl) (Eq.mpr (show _=(true=true) by kernel_rfl) rfl)
def CS:aM:=⟨70,[(.agg [(.int .u8 1),(.str [108,105,109,105,116]),(.int .u64 0),(.int .i64 0)])],(.bool true),9,[]⟩
theorem Tw:aD Tryz.prog CS.f CS.args CS.v CS.N CS.H:=af mixed az aj (L:=[CQ,Bb]) (.cons Tv (.cons Rc (.nil))) 600 CS (by kernel_rfl) (Eq.mpr (show _=(true=true) by kernel_rfl) rfl)
def CT:aM:=⟨70,[(.agg [(.int .u8 2),(.str []),(.int .u64 3),(.int .i64 0)])],(.bool true),1,[]⟩
theorem Tx:aD Tryz.prog CT.f CT.args CT.v CT.N CT.H:=af mixed az aj (L:=[]) (.nil) 600 CT (by kernel_rfl) (Eq.mpr (show _=(true=true) by kernel_rfl) rfl)
def CU:aM:=⟨71,[(.agg [(.int .u8 2),(.str []),(.int .u64 3),(.int .i64 0)])],(.str [51]),1,[]⟩
theorem Ty:aD Tryz.prog CU.f CU.args CU.v CU.N CU.H:=af mixed az aj (L:=[]) (.nil) 600 CU (by kernel_rfl) (Eq.mpr (show _=(true=true) by kernel_rfl) rfl)
def CV:aM:=⟨25,[(qQ 4 [(.agg [(.int .u8 1),(.str [115,101,108,101,99,116]),(.int .u64 0),(.int .i64 0)]),(.agg [(.int .u8 1),(.str [97]),(.int .u64 0),(.int .i64 0)]),(.agg [(.int .u8 4),(.str [44]),(.int .u64 0),(.int .i64 0)]),(.agg [(.int .u8 4),(.str [40]),(.int .u64 0),(.int .i64 0)]),(.agg [(.int .u8 1),(.str [98]),(.int .u64 0),(.int .i64 0)]),(.agg [(.int .u8 4),(.str [43]),(.int .u64 0),(.int .i64 0)]),(.agg [(.int .u8 2),(.str []),(.int .u64 1),(.int .i64 0)]),(.agg [(.int .u8 4),(.str [41]),(.int .u64 0),(.int .i64 0)]),(.agg [(.int .u8 4),(.str [42]),(.int .u64 0),(.int .i64 0)]),(.agg [(.int .u8 2),(.str []),(.int .u64 2),(.int .i64 0)]),(.agg [(.int .u8 1),(.str [97,115]),(.int .u64 0),(.int .i64 0)]),(.agg [(.int .u8 1),(.str [99]),(.int .u64 0),(.int .i64 0)]),(.agg [(.int .u8 1),(.str [102,114,111,109]),(.int .u64 0),(.int .i64 0)]),(.agg [(.int .u8 1),(.str [116]),(.int .u64 0),(.int .i64 0)]),(.agg [(.int .u8 1),(.str [119,104,101,114,101]),(.int .u64 0),(.int .i64 0)]),(.agg [(.int .u8 1),(.str [110,111,116]),(.int .u64 0),(.int .i64 0)]),(.agg [(.int .u8 4),(.str [40]),(.int .u64 0),(.int .i64 0)]),(.agg [(.int .u8 1),(.str [97]),(.int .u64 0),(.int .i64 0)]),(.agg [(.int .u8 4),(.str [61]),(.int .u64 0),(.int .i64 0)]),(.agg [(.int .u8 2),(.str []),(.int .u64 1),(.int .i64 0)]),(.agg [(.int .u8 1),(.str [97,110,100]),(.int .u64 0),(.int .i64 0)]),(.agg [(.int .u8 1),(.str [98]),(.int .u64 0),(.int .i64 0)]),(.agg [(.int .u8 1),(.str [105,115]),(.int .u64 0),(.int .i64 0)]),(.agg [(.int .u8 1),(.str [110,117,108,108]),(.int .u64 0),(.int .i64 0)]),(.agg [(.int .u8 4),(.str [41]),(.int .u64 0),(.int .i64 0)]),(.agg [(.int .u8 1),(.str [108,105,109,105,116]),(.int .u64 0),(.int .i64 0)]),(.agg [(.int .u8 2),(.str []),(.int .u64 3),(.int .i64 0)])])],(.aN [(.str [115,101,108,101,99,116,32,97,32,44,32,40,32,98,32,43,32,49,32,41,32,42,32,50,32,97,115,32,99,32,102,114,111,109,32,116,32,119,104,101,114,101,32,110,111,116,32,40,32,97,32,61,32,49,32,97,110,100,32,98,32,105,115,32,110,117,108,108,32,41,32,108,105,109,105,116,32,51]),(.agg [(.int .i64 0),(.int .i64 0)])]),269,[]⟩
theorem Tz:aD Tryz.prog CV.f CV.args CV.v CV.N CV.H:=af mixed az aj (L:=[CU,CT,CS,Bb,CO,Ba,CL,A9,CI,A8,CF,Lu,OJ,Lt,OG,Ls,OD,Lr,OA,Lq,Ox,Lp,Ou,Lo,Oo,On,Om,Ln,Oi,Lm,Oe,Od,Oc,Ll,N9,Lj,N6,Li,N3,Lh,N0,Lg,NW,Lf]) (.cons Ty (.cons Tx (.cons Tw (.cons Rc (.cons Ts (.cons Rb (.cons Tp (.cons Ra (.cons Tm (.cons Q9 (.cons Ti (.cons U8 (.cons XY (.cons U7 (.cons XV (.cons U6 (.cons XS (.cons U5 (.cons XP (.cons U4 (.cons XM (.cons U3 (.cons XJ (.cons U2 (.cons XG (.cons XF (.cons XE (.cons U1 (.cons XB (.cons U0 (.cons r64 (.cons Xy (.cons Xx (.cons UZ (.cons Xu (.cons UY (.cons Xq (.cons UX (.cons Xn (.cons UW (.cons Xk (.cons UU (.cons Xh (.cons UT (.nil))))))))))))))))))))))))))))))))))))))))))))) 600 CV (by kernel_rfl) (Eq.mpr (show _=(true=true) by kernel_rfl) rfl)
def CW:aM:=⟨27,[(.str [115,101,108,101,99,116,32,97,32,44,32,40,32,98,32,43,32,49,32,41,32,42,32,50,32,97,115,32,99,32,102,114,111,109,32,116,32,119,104,101,114,101,32,110,111,116,32,40,32,97,32,61,32,49,32,97,110,100,32,98,32,105,115,32,110,117,108,108,32,41,32,108,105,109,105,116,32,51])],(.aN [(.agg [(.int .u8 1),(.str [115,101,108,101,99,116]),(.int .u64 0),(.int .i64 0)]),(.int .i64 6),(.int .i64 0)]),2,[]⟩
theorem TA:aD Tryz.prog CW.f CW.args CW.v CW.N CW.H:=af mixed az aj (L:=[]) (.nil) 600 CW (by kernel_rfl) (Eq.mpr (show _=(true=true) by kernel_rfl) rfl)
def CX:aM:=⟨27,[(.str [97,32,44,32,40,32,98,32,43,32,49,32,41,32,42,32,50,32,97,115,32,99,32,102,114,111,109,32,116,32,119,104,101,114,101,32,110,111,116,32,40,32,97,32,61,32,49,32,97,110,100,32,98,32,105,115,32,110,117,108,108,32,41,32,108,105,109,105,116,32,51])],(.aN [(.agg [(.int .u8 1),(.str [97]),(.int .u64 0),(.int .i64 0)]),(.int .i64 1),(.int .i64 0)]),2,[]⟩
theorem TB:aD Tryz.prog CX.f CX.args CX.v CX.N CX.H:=af mixed az aj (L:=[]) (.nil) 600 CX (by kernel_rfl) (Eq.mpr (show _=(true=true) by kernel_rfl) rfl)
end Go.Proofs.YtbjifmbemdhndaaGreatDoor
