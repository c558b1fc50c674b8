/- Parts of the proof of PnP, one behind the other. -/
import Derived.Test.YtaficpgadjemcaaGreatDoorM9
import Derived.Test.YtaficpgadjemcaaGreatDoorProg
import Derived.Test.YtaficpgadjemcaaGreatDoorM7
import Derived.KernelRfl
import Derived.Test.YtaficpgadjemcaaGreatDoorM8
import Derived.Test.YtaficpgadjemcaaGreatDoorM6
import Derived.RowKit
import Derived.WalkKit
namespace Go.Proofs.YtaficpgadjemcaaGreatDoor
open Ab
set_option maxRecDepth 1000000
def c252 : ACode := aR [(aO 1 (.box 28 9 (aT 0))), (aO 2 (.mov (aI 0)))] [] (.seq (aR [(aF 3 0 1), (aL 4 3)] [3] (.block 0 (aR [(aO 6 (.bin .eql (aT 4) (.const (.int .u8 16)))), (aM 5 6)] [6] (.cond (aT 5) (aR [(aO 2 (.mov (aI 1)))] [] (.ret)) (aR [(aO 8 (.bin .eql (aT 4) (.const (.int .u8 15)))), (aM 7 8)] [8] (.cond (aT 7) (aR [(aO 2 (.mov (aI 2)))] [] (.ret)) (aR [(aO 10 (.bin .eql (aT 4) (.const (.int .u8 17)))), (aM 9 10)] [10] (.cond (aT 9) (aR [(aO 2 (.mov (aI 3)))] [] (.ret)) (.seq (aR [(aO 12 (.bin .eql (aT 4) (.const (.int .u8 9)))), (aM 11 12)] [12] (.cond (aT 11) (.skip) (aR [(aO 13 (.bin .eql (aT 4) (.const (.int .u8 10)))), (aM 11 13)] [13] (.cond (aT 11) (.skip) (aR [(aO 14 (.bin .eql (aT 4) (.const (.int .u8 11)))), (aM 11 14)] [14] (.cond (aT 11) (.skip) (aR [(aO 15 (.bin .eql (aT 4) (.const (.int .u8 12)))), (aM 11 15)] [15] (.cond (aT 11) (.skip) (aR [(aO 16 (.bin .eql (aT 4) (.const (.int .u8 13)))), (aM 11 16)] [16] (.cond (aT 11) (.skip) (aR [(aO 17 (.bin .eql (aT 4) (.const (.int .u8 14)))), (aM 11 17)] [17] (.cond (aT 11) (.skip) (aR [(aO 18 (.bin .eql (aT 4) (.const (.int .u8 19)))), (aM 11 18)] [18] (.cond (aT 11) (.skip) (.region [(aO 19 (.bin .eql (aT 4) (.const (.int .u8 20)))), (aM 11 19)] [19]))))))))))))))) (.cond (aT 11) (aR [(aO 2 (.mov (aI 4)))] [] (.ret)) (.seq (aR [(aO 21 (.bin .eql (aT 4) (.const (.int .u8 3)))), (aM 20 21)] [21] (.cond (aT 20) (.skip) (aR [(aO 22 (.bin .eql (aT 4) (.const (.int .u8 4)))), (aM 20 22)] [22] (.cond (aT 20) (.skip) (.region [(aO 23 (.bin .eql (aT 4) (.const (.int .u8 8)))), (aM 20 23)] [23]))))) (.cond (aT 20) (aR [(aO 2 (.mov (aI 5)))] [] (.ret)) (.seq (aR [(aO 25 (.bin .eql (aT 4) (.const (.int .u8 5)))), (aM 24 25)] [25] (.cond (aT 24) (.skip) (aR [(aO 26 (.bin .eql (aT 4) (.const (.int .u8 6)))), (aM 24 26)] [26] (.cond (aT 24) (.skip) (.region [(aO 27 (.bin .eql (aT 4) (.const (.int .u8 7)))), (aM 24 27)] [27]))))) (.cond (aT 24) (aR [(aO 2 (.mov (aI 6)))] [] (.ret)) (aR [(aO 29 (.bin .eql (aT 4) (.const (.int .u8 18)))), (aM 28 29)] [29] (.cond (aT 28) (aR [(aO 2 (.mov (aI 7)))] [] (.ret)) (aR [(aO 31 (.bin .eql (aT 4) (.const (.int .u8 1)))), (aM 30 31)] [31] (.cond (aT 30) (aR [(aF 32 1 1), (aF 33 0 32), (aL 34 33), (aO 35 (.bin .eql (aT 34) (.const (.int .u8 2)))), (aM 36 35), ⟨some 37,.fieldAddr 1 (aT 1),(some (36,true)),[]⟩, ⟨some 38,.fieldAddr 1 (aT 37),(some (36,true)),[]⟩, ⟨some 39,.loadS (aT 38),(some (36,true)),[]⟩, ⟨some 40,.bin .lss (aT 39) (aI 0),(some (36,true)),[]⟩, (aO 41 (.pick (aT 36) (aT 40) (.const (.bool false))))] [32,33,34,35,36,37,38,39,40] (.cond (aT 41) (aR [(aO 2 (.mov (aI 7)))] [] (.ret)) (.skip))) (.skip))))))))))))))))))) (aR [(aO 2 (.mov (aI 8)))] [] (.ret)))
def t252 : Tab := ⟨42,c252,[.tmp 2]⟩
theorem tab252 : TabOk Tryz.prog 252 t252 := tk Tryz.func252 (by kernel_rfl) (by kernel_rfl) (by kernel_rfl)
def c253 : ACode := aR [(aO 4 (.box 28 9 (aT 1)))] [] (.seq (aR [(aO 6 (.loadA 9 (aT 4))), (aO 7 (.call 252 [(aT 6)])), (aM 8 2), (aO 9 (.bin .geq (aT 7) (aT 8)))] [6,7,8] (.cond (aT 9) (aR [(aM 10 0), (aO 11 (.loadA 9 (aT 4))), (aO 12 (.call 189 [(aT 10),(aT 11)]))] [10,11,12] (.ret)) (.skip))) (aR [(aM 13 0), (aO 14 (.buildSlice 9 1 (.str []) 1 [(0,(.const (.str [40])))])), (aO 15 (.call 184 [(aT 13),(aT 14)]))] [13,14,15] (aR [(aM 16 0), (aO 17 (.loadA 9 (aT 4))), (aO 18 (.call 189 [(aT 16),(aT 17)]))] [16,17,18] (.region [(aM 19 0), (aO 20 (.buildSlice 9 1 (.str []) 1 [(0,(.const (.str [41])))])), (aO 21 (.call 184 [(aT 19),(aT 20)]))] [19,20,21]))))
def t253 : Tab := ⟨22,c253,[]⟩
theorem tab253 : TabOk Tryz.prog 253 t253 := tk Tryz.func253 (by kernel_rfl) (by kernel_rfl) (by kernel_rfl)
def c254 : ACode := aR [(aO 0 (.mov (.const .nilm)))] [] (aR [(aO 1 .mkMap), ⟨none,.mapSet true (aT 1) (.const (.str [99,111,117,110,116])) (.const (.int .u8 22)),none,[]⟩, ⟨none,.mapSet true (aT 1) (.const (.str [115,117,109])) (.const (.int .u8 23)),none,[]⟩, ⟨none,.mapSet true (aT 1) (.const (.str [109,105,110])) (.const (.int .u8 24)),none,[]⟩, ⟨none,.mapSet true (aT 1) (.const (.str [109,97,120])) (.const (.int .u8 25)),none,[]⟩, (aM 2 1), (aM 0 2)] [1,2] (.ret))
def t254 : Tab := ⟨3,c254,[.tmp 0]⟩
theorem tab254 : TabOk Tryz.prog 254 t254 := tk Tryz.func254 (by kernel_rfl) (by kernel_rfl) (by kernel_rfl)
def c256 : ACode := aR [(aO 4 (.mov (.const (.str []))))] [] (aR [(aM 5 0), (aM 6 1), (aO 7 (.call 270 [(aT 5),(aT 6)])), (aM 4 7)] [5,6,7] (.ret))
def t256 : Tab := ⟨8,c256,[.tmp 4]⟩
theorem tab256 : TabOk Tryz.prog 256 t256 := tk Tryz.func256 (by kernel_rfl) (by kernel_rfl) (by kernel_rfl)
def c257 : ACode := aR [(aO 4 (.mov (aI 0)))] [] (.seq (aR [(aM 6 0), (aO 7 (.len false (aT 6))), (aO 8 (.mov (aI 0)))] [6] (.block 0 (.loop (aR [(aO 9 (.bin .lss (aT 8) (aT 7)))] [] (.seq (.cond (aT 9) (.skip) (.exit 0)) (.seq (.block 1 (aR [(aM 10 8), (aM 5 10)] [10] (aR [(aM 11 1), (aM 12 0), (aM 13 5), (aO 14 (.indexAddr 11 (aT 12) (aT 13))), (aO 15 (.loadA 11 (aT 14))), (aO 16 (.callv (aT 11) [(aT 15)]))] [11,12,13,14,15] (.cond (aT 16) (aR [(aM 17 5), (aM 4 17)] [17] (.ret)) (.skip))))) (.region [(aO 18 (.bin .add (aT 8) (aI 1))), (aM 8 18)] [18]))))))) (aR [(aO 4 (.mov (aI (-1))))] [] (.ret)))
def t257 : Tab := ⟨19,c257,[.tmp 4]⟩
theorem tab257 : TabOk Tryz.prog 257 t257 := tk Tryz.func257 (by kernel_rfl) (by kernel_rfl) (by kernel_rfl)
def c258 : ACode := aR [(aO 4 (.mov (aI 0)))] [] (.seq (aR [(aM 6 0), (aO 7 (.len false (aT 6))), (aO 8 (.mov (aI 0)))] [6] (.block 0 (.loop (aR [(aO 9 (.bin .lss (aT 8) (aT 7)))] [] (.seq (.cond (aT 9) (.skip) (.exit 0)) (.seq (.block 1 (aR [(aM 10 8), (aM 5 10)] [10] (aR [(aM 11 1), (aM 12 0), (aM 13 5), (aO 14 (.indexAddr 9 (aT 12) (aT 13))), (aO 15 (.loadA 9 (aT 14))), (aO 16 (.callv (aT 11) [(aT 15)]))] [11,12,13,14,15] (.cond (aT 16) (aR [(aM 17 5), (aM 4 17)] [17] (.ret)) (.skip))))) (.region [(aO 18 (.bin .add (aT 8) (aI 1))), (aM 8 18)] [18]))))))) (aR [(aO 4 (.mov (aI (-1))))] [] (.ret)))
def t258 : Tab := ⟨19,c258,[.tmp 4]⟩
theorem tab258 : TabOk Tryz.prog 258 t258 := tk Tryz.func258 (by kernel_rfl) (by kernel_rfl) (by kernel_rfl)
def c267 : ACode := aR [(aO 2 (.box 28 9 (.const q22)))] [] (aR [(aM 3 0), (aM 4 0), (aO 5 (.mkFunc (.func 275) [(aT 4)] [])), (aO 6 .mkMap), ⟨none,.mapSet true (aT 6) (.const (.str [43])) (.const (.int .u8 3)),none,[]⟩, ⟨none,.mapSet true (aT 6) (.const (.str [45])) (.const (.int .u8 4)),none,[]⟩, ⟨none,.mapSet true (aT 6) (.const (.str [124,124])) (.const (.int .u8 8)),none,[]⟩, (aM 7 6), (aO 8 (.call 135 [(aT 3),(aT 5),(aT 7)])), (aS 9 2 8)] [3,4,5,6,7,8] (.ret))
def t267 : Tab := ⟨9,c267,[.cellA 2 9]⟩
theorem tab267 : TabOk Tryz.prog 267 t267 := tk Tryz.func267 (by kernel_rfl) (by kernel_rfl) (by kernel_rfl)
def c268 : ACode := aR [(aO 0 (.mov (.const .nilm)))] [] (aR [(aO 1 .mkMap), ⟨none,.mapSet true (aT 1) (.const (.str [61])) (.const (.int .u8 9)),none,[]⟩, ⟨none,.mapSet true (aT 1) (.const (.str [60,62])) (.const (.int .u8 10)),none,[]⟩, ⟨none,.mapSet true (aT 1) (.const (.str [60])) (.const (.int .u8 11)),none,[]⟩, ⟨none,.mapSet true (aT 1) (.const (.str [60,61])) (.const (.int .u8 12)),none,[]⟩, ⟨none,.mapSet true (aT 1) (.const (.str [62])) (.const (.int .u8 13)),none,[]⟩, ⟨none,.mapSet true (aT 1) (.const (.str [62,61])) (.const (.int .u8 14)),none,[]⟩, (aM 2 1), (aM 0 2)] [1,2] (.ret))
def t268 : Tab := ⟨3,c268,[.tmp 0]⟩
theorem tab268 : TabOk Tryz.prog 268 t268 := tk Tryz.func268 (by kernel_rfl) (by kernel_rfl) (by kernel_rfl)
def c270 : ACode := aR [(aO 4 (.mov (.const (.str []))))] [] (.seq (aR [(aM 9 1), (aO 10 (.bin .eql (aT 9) (aI 10)))] [9] (.cond (aT 10) (.seq (aR [(aM 11 0), (aO 12 (.bin .lss (aT 11) (.const (.int .u64 100))))] [11] (.cond (aT 12) (aR [(aM 13 0), (aO 14 (.conv .i64 (aT 13))), (aO 15 (.call 276 [(aT 14)])), (aM 4 15)] [13,14,15] (.ret)) (.skip))) (aR [(aO 5 (.boxR 362 24 (.const (.agg [(.int .u8 0),(.int .u8 0),(.int .u8 0),(.int .u8 0),(.int .u8 0),(.int .u8 0),(.int .u8 0),(.int .u8 0),(.int .u8 0),(.int .u8 0),(.int .u8 0),(.int .u8 0),(.int .u8 0),(.int .u8 0),(.int .u8 0),(.int .u8 0),(.int .u8 0),(.int .u8 0),(.int .u8 0),(.int .u8 0),(.int .u8 0),(.int .u8 0),(.int .u8 0),(.int .u8 0)]))))] [] (aR [(aM 16 0), (aO 17 (.call 277 [(aT 16)])), (aM 6 17)] [16,17] (aR [(aM 18 6), (aO 19 (.sliceArr 24 (aT 5) none (some (aT 18)))), (aM 20 0), (aO 21 (.call 278 [(aT 19),(aT 20)]))] [18,19,20,21] (aR [(aM 22 6), (aO 23 (.sliceArr 24 (aT 5) none (some (aT 22)))), (aO 24 (.toStr (aT 23))), (aM 4 24)] [22,23,24] (.ret)))))) (.skip))) (aR [(aM 26 0), (aM 27 1), (aO 28 (.call 279 [(.const .nils),(aT 26),(aT 27),(.const (.bool false)),(.const (.bool false))])), (aM 25 28), (aO 29 (.extract (aT 25) 0)), (aO 30 (.extract (aT 25) 1)), (aM 7 29), (aM 8 30)] [26,27,28,25,29,30,7] (aR [(aM 31 8), (aM 4 31)] [31] (.ret))))
def t270 : Tab := ⟨32,c270,[.tmp 4]⟩
theorem tab270 : TabOk Tryz.prog 270 t270 := tk Tryz.func270 (by kernel_rfl) (by kernel_rfl) (by kernel_rfl)
def c275 : ACode := aR [(aO 2 (.box 28 9 (.const q22)))] [] (aR [(aM 3 0), (aM 4 0), (aO 5 (.mkFunc (.func 281) [(aT 4)] [])), (aO 6 .mkMap), ⟨none,.mapSet true (aT 6) (.const (.str [42])) (.const (.int .u8 5)),none,[]⟩, ⟨none,.mapSet true (aT 6) (.const (.str [47])) (.const (.int .u8 6)),none,[]⟩, ⟨none,.mapSet true (aT 6) (.const (.str [37])) (.const (.int .u8 7)),none,[]⟩, (aM 7 6), (aO 8 (.call 135 [(aT 3),(aT 5),(aT 7)])), (aS 9 2 8)] [3,4,5,6,7,8] (.ret))
def t275 : Tab := ⟨9,c275,[.cellA 2 9]⟩
theorem tab275 : TabOk Tryz.prog 275 t275 := tk Tryz.func275 (by kernel_rfl) (by kernel_rfl) (by kernel_rfl)
def c276 : ACode := aR [(aO 2 (.mov (.const (.str []))))] [] (.seq (aR [(aM 3 0), (aO 4 (.bin .lss (aT 3) (aI 10)))] [3] (.cond (aT 4) (aR [(aM 5 0), (aM 6 0), (aO 7 (.bin .add (aT 6) (aI 1))), (aO 8 (.sliceStr (.const (.str [48,49,50,51,52,53,54,55,56,57,97,98,99,100,101,102,103,104,105,106,107,108,109,110,111,112,113,114,115,116,117,118,119,120,121,122])) (some (aT 5)) (some (aT 7)))), (aM 2 8)] [5,6,7,8] (.ret)) (.skip))) (aR [(aM 9 0), (aO 10 (.bin .mul (aT 9) (aI 2))), (aM 11 0), (aO 12 (.bin .mul (aT 11) (aI 2))), (aO 13 (.bin .add (aT 12) (aI 2))), (aO 14 (.sliceStr (.const (.str [48,48,48,49,48,50,48,51,48,52,48,53,48,54,48,55,48,56,48,57,49,48,49,49,49,50,49,51,49,52,49,53,49,54,49,55,49,56,49,57,50,48,50,49,50,50,50,51,50,52,50,53,50,54,50,55,50,56,50,57,51,48,51,49,51,50,51,51,51,52,51,53,51,54,51,55,51,56,51,57,52,48,52,49,52,50,52,51,52,52,52,53,52,54,52,55,52,56,52,57,53,48,53,49,53,50,53,51,53,52,53,53,53,54,53,55,53,56,53,57,54,48,54,49,54,50,54,51,54,52,54,53,54,54,54,55,54,56,54,57,55,48,55,49,55,50,55,51,55,52,55,53,55,54,55,55,55,56,55,57,56,48,56,49,56,50,56,51,56,52,56,53,56,54,56,55,56,56,56,57,57,48,57,49,57,50,57,51,57,52,57,53,57,54,57,55,57,56,57,57])) (some (aT 10)) (some (aT 13)))), (aM 2 14)] [9,10,11,12,13,14] (.ret)))
def t276 : Tab := ⟨15,c276,[.tmp 2]⟩
theorem tab276 : TabOk Tryz.prog 276 t276 := tk Tryz.func276 (by kernel_rfl) (by kernel_rfl) (by kernel_rfl)
def c281r3 : List AOper := [(aL 8 1), ⟨some 9,.nilChk (aT 8),none,[0]⟩, ⟨some 10,.fieldAddr 1 (aT 9),none,[1]⟩, ⟨some 11,.loadS (aT 10),none,[2]⟩, ⟨some 12,.bin .add (aT 11) (aI 1),none,[3]⟩, (aL 13 1), ⟨some 14,.nilChk (aT 13),none,[5]⟩, ⟨some 15,.fieldAddr 0 (aT 14),none,[6]⟩, ⟨some 16,.loadS (aT 15),none,[7]⟩, ⟨some 17,.len false (aT 16),none,[8]⟩, ⟨some 18,.bin .lss (aT 12) (aT 17),none,[4,9]⟩, ⟨some 19,.mov (aT 18),none,[10]⟩, ⟨some 20,.loadS (aT 1),(some (19,true)),[11]⟩, ⟨some 21,.nilChk (aT 20),(some (19,true)),[12,11]⟩, ⟨some 22,.fieldAddr 0 (aT 21),(some (19,true)),[13,11]⟩, ⟨some 23,.loadS (aT 22),(some (19,true)),[14,11]⟩, ⟨some 24,.loadS (aT 1),(some (19,true)),[11]⟩, ⟨some 25,.nilChk (aT 24),(some (19,true)),[16,11]⟩, ⟨some 26,.fieldAddr 1 (aT 25),(some (19,true)),[17,11]⟩, ⟨some 27,.loadS (aT 26),(some (19,true)),[18,11]⟩, ⟨some 28,.bin .add (aT 27) (aI 1),(some (19,true)),[19,11]⟩, ⟨some 29,.indexAddr 4 (aT 23) (aT 28),(some (19,true)),[15,20,11]⟩, ⟨some 30,.fieldAddr 0 (aT 29),(some (19,true)),[21,11]⟩, ⟨some 31,.loadS (aT 30),(some (19,true)),[22,11]⟩, ⟨some 32,.bin .eql (aT 31) (.const (.int .u8 2)),(some (19,true)),[23,11]⟩, ⟨some 33,.pick (aT 19) (aT 32) (.const (.bool false)),none,[11,24]⟩]
def c281r5 : List AOper := [(aL 41 1), ⟨some 42,.nilChk (aT 41),none,[0]⟩, ⟨some 43,.fieldAddr 0 (aT 42),none,[1]⟩, ⟨some 44,.loadS (aT 43),none,[2]⟩, (aL 45 1), ⟨some 46,.nilChk (aT 45),none,[4]⟩, ⟨some 47,.fieldAddr 1 (aT 46),none,[5]⟩, ⟨some 48,.loadS (aT 47),none,[6]⟩, ⟨some 49,.bin .sub (aT 48) (aI 1),none,[7]⟩, ⟨some 50,.indexAddr 4 (aT 44) (aT 49),none,[3,8]⟩, ⟨some 51,.fieldAddr 2 (aT 50),none,[9]⟩, ⟨some 52,.loadS (aT 51),none,[10]⟩, ⟨some 53,.un .neg (aT 52),none,[11]⟩, ⟨some 54,.conv .i64 (aT 53),none,[12]⟩, ⟨some 55,.build [(.int .u8 0),(.int .i64 0),(.str [])] [(0,1,(.const (.int .u8 2))),(1,1,(aT 54))],none,[13]⟩, ⟨some 56,.call 288 [(aT 55)],none,[14]⟩, ⟨none,.store 9 (aT 2) (aT 56),none,[15,15,0,1,2,3,4,5,6,7,8,9,10,11,12,13,14,15]⟩]
def c281 : ACode := aR [(aO 1 (.box 87 1 (aT 0))), (aO 2 (.box 28 9 (.const q22)))] [] (.seq (aR [(aL 3 1), (aO 4 (.call 49 [(aT 3),(.const (.str [45]))])), (aO 5 (.un .not (aT 4)))] [3,4] (.cond (aT 5) (aR [(aL 6 1), (aO 7 (.call 287 [(aT 6)])), (aS 9 2 7)] [6,7] (.ret)) (.skip))) (.seq (.seq (.dregion c281r3 [(0,false,[]),(1,false,[]),(2,false,[]),(3,false,[]),(4,false,[]),(5,false,[]),(6,false,[]),(7,false,[]),(8,false,[]),(9,false,[]),(10,false,[]),(11,false,[]),(12,false,[]),(13,false,[]),(14,false,[]),(15,false,[]),(16,false,[]),(17,false,[]),(18,false,[]),(19,false,[]),(20,false,[]),(21,false,[]),(22,false,[]),(23,false,[]),(24,false,[]),(25,false,[])] [8,9,10,11,12,13,14,15,16,17,18,19,20,21,22,23,24,25,26,27,28,29,30,31,32]) (.cond (aT 33) (aR [(aL 34 1), (aO 35 (.nilChk (aT 34))), (aF 36 1 35), (aL 37 36), (aO 38 (.bin .add (aT 37) (aI 2))), (aO 39 (.nilChk (aT 34))), (aF 40 1 39), (aS 1 40 38)] [34,35,36,37,38,39,40] (.seq (.dregion c281r5 [(0,false,[]),(1,false,[]),(2,false,[]),(3,false,[]),(4,false,[]),(5,false,[]),(6,false,[]),(7,false,[]),(8,false,[]),(9,false,[]),(10,false,[]),(11,false,[]),(12,false,[]),(13,false,[]),(14,false,[]),(15,true,[]),(16,true,[])] [41,42,43,44,45,46,47,48,49,50,51,52,53,54,55,56]) (.ret))) (.skip))) (aR [(aL 57 1), (aO 58 (.mkFunc (.func 289) [] [(aT 1)])), (aO 59 (.call 237 [(aT 57),(aT 58)])), (aS 9 2 59)] [57,58,59] (.ret))))
def t281 : Tab := ⟨60,c281,[.cellA 2 9]⟩
theorem tab281 : TabOk Tryz.prog 281 t281 := tk Tryz.func281 (by kernel_rfl) (by kernel_rfl) (by kernel_rfl)
def c287r12 : List AOper := [(aO 47 (.call 292 [])), (aF 48 1 3), ⟨some 49,.loadS (aT 48),none,[1]⟩, ⟨some 50,.mapGet true (.agg [(.int .u8 0),(.int .i64 0),(.str [])]) true (aT 47) (aT 49),none,[0,2]⟩, ⟨some 46,.mov (aT 50),none,[3]⟩, ⟨some 51,.extract (aT 46) 0,none,[4]⟩, ⟨some 52,.extract (aT 46) 1,none,[4]⟩, (aO 4 (.box 25 3 (.const (.agg [(.int .u8 0),(.int .i64 0),(.str [])])))), ⟨none,.store 3 (aT 4) (aT 51),none,[7,5,0,0,1,2,3,4,5,7]⟩, ⟨some 5,.mov (aT 52),none,[6,8,0,1,2,3,4,5,6,7,8]⟩]
def c287r16 : List AOper := [(aO 64 (.call 254 [])), (aF 65 1 3), ⟨some 66,.loadS (aT 65),none,[1]⟩, ⟨some 67,.mapGet true (.int .u8 0) true (aT 64) (aT 66),none,[0,2]⟩, ⟨some 63,.mov (aT 67),none,[3]⟩, ⟨some 68,.extract (aT 63) 0,none,[4]⟩, ⟨some 69,.extract (aT 63) 1,none,[4]⟩, (aO 6 (.box 22 1 (.const (.int .u8 0)))), ⟨none,.store 1 (aT 6) (aT 68),none,[7,5,0,0,1,2,3,4,5,7]⟩, ⟨some 7,.mov (aT 69),none,[6,8,0,1,2,3,4,5,6,7,8]⟩]
def c287 : ACode := aR [(aO 1 (.box 87 1 (aT 0))), (aO 2 (.box 28 9 (.const q22)))] [] (aR [(aL 8 1), (aO 9 (.call 83 [(aT 8)])), (aO 3 (.box 127 4 (.const q56))), (aS 4 3 9)] [8,9] (.seq (aR [(aF 10 0 3), (aL 11 10)] [10] (.block 0 (aR [(aO 13 (.bin .eql (aT 11) (.const (.int .u8 2)))), (aM 12 13)] [13] (.cond (aT 12) (.seq (aR [(aF 14 2 3), (aL 15 14), (aO 16 (.bin .gtr (aT 15) (.const (.int .u64 9223372036854775807))))] [14,15] (.cond (aT 16) (.region [(aL 17 1), (aO 18 (.call 57 [(aT 17),(aI 233)]))] [17,18]) (.skip))) (aR [(aL 19 1), (aO 20 (.nilChk (aT 19))), (aF 21 1 20), (aL 22 21), (aO 23 (.bin .add (aT 22) (aI 1))), (aO 24 (.nilChk (aT 19))), (aF 25 1 24), (aS 1 25 23)] [19,20,21,22,23,24,25] (aR [(aF 26 2 3), (aL 27 26), (aO 28 (.conv .i64 (aT 27))), (aO 29 (.build [(.int .u8 0),(.int .i64 0),(.str [])] [(0,1,(.const (.int .u8 2))),(1,1,(aT 28))])), (aO 30 (.call 288 [(aT 29)])), (aS 9 2 30)] [26,27,28,29,30] (.ret)))) (aR [(aO 32 (.bin .eql (aT 11) (.const (.int .u8 3)))), (aM 31 32)] [32] (.cond (aT 31) (aR [(aL 33 1), (aO 34 (.nilChk (aT 33))), (aF 35 1 34), (aL 36 35), (aO 37 (.bin .add (aT 36) (aI 1))), (aO 38 (.nilChk (aT 33))), (aF 39 1 38), (aS 1 39 37)] [33,34,35,36,37,38,39] (aR [(aF 40 1 3), (aL 41 40), (aO 42 (.build [(.int .u8 0),(.int .i64 0),(.str [])] [(0,1,(.const (.int .u8 3))),(2,1,(aT 41))])), (aO 43 (.call 288 [(aT 42)])), (aS 9 2 43)] [40,41,42,43] (.ret))) (aR [(aO 45 (.bin .eql (aT 11) (.const (.int .u8 1)))), (aM 44 45)] [45] (.cond (aT 44) (.seq (.seq (.dregion c287r12 [(1,false,[]),(2,false,[]),(0,true,[1,2]),(3,false,[]),(4,false,[]),(5,false,[]),(6,false,[]),(7,true,[1,2,3]),(8,true,[]),(9,false,[])] [47,48,49,50,46,51,52]) (aR [(aM 53 5)] [] (.cond (aT 53) (aR [(aL 54 1), (aO 55 (.nilChk (aT 54))), (aF 56 1 55), (aL 57 56), (aO 58 (.bin .add (aT 57) (aI 1))), (aO 59 (.nilChk (aT 54))), (aF 60 1 59), (aS 1 60 58)] [54,55,56,57,58,59,60] (aR [(aO 61 (.loadA 3 (aT 4))), (aO 62 (.call 288 [(aT 61)])), (aS 9 2 62)] [61,62] (.ret))) (.skip)))) (.seq (.dregion c287r16 [(1,false,[]),(2,false,[]),(0,true,[1,2]),(3,false,[]),(4,false,[]),(5,false,[]),(6,false,[]),(7,true,[1,2,3]),(8,true,[]),(9,false,[])] [64,65,66,67,63,68,69]) (aR [(aM 70 7)] [] (.cond (aT 70) (aR [(aL 71 1), (aO 72 (.mkFunc (.func 293) [] [(aT 1),(aT 6)])), (aO 73 (.call 237 [(aT 71),(aT 72)])), (aS 9 2 73)] [71,72,73] (.ret)) (.skip))))) (.skip))))))))) (.seq (aR [(aL 74 1), (aO 75 (.call 49 [(aT 74),(.const (.str [40]))])), (aO 76 (.un .not (aT 75)))] [74,75] (.cond (aT 76) (aR [(aL 77 1), (aO 78 (.call 92 [(aT 77)])), (aS 9 2 78)] [77,78] (.ret)) (.skip))) (aR [(aL 79 1), (aO 80 (.mkFunc (.func 295) [] [(aT 1)])), (aO 81 (.call 237 [(aT 79),(aT 80)])), (aS 9 2 81)] [79,80,81] (.ret)))))
def t287 : Tab := ⟨82,c287,[.cellA 2 9]⟩
theorem tab287 : TabOk Tryz.prog 287 t287 := tk Tryz.func287 (by kernel_rfl) (by kernel_rfl) (by kernel_rfl)
def c288 : ACode := aR [(aO 1 (.box 25 3 (aT 0))), (aO 2 (.box 28 9 (.const q22)))] [] (aR [(aO 3 (.loadA 3 (aT 1))), (aO 4 (.build q24 [(0,1,(.const (.int .u8 1))),(1,3,(aT 3))])), (aS 9 2 4)] [3,4] (.ret))
def t288 : Tab := ⟨5,c288,[.cellA 2 9]⟩
theorem tab288 : TabOk Tryz.prog 288 t288 := tk Tryz.func288 (by kernel_rfl) (by kernel_rfl) (by kernel_rfl)
def c292 : ACode := aR [(aO 0 (.mov (.const .nilm)))] [] (aR [(aO 1 .mkMap), (aO 2 (.build [(.int .u8 0),(.int .i64 0),(.str [])] [(0,1,(.const (.int .u8 1))),(1,1,(aI 1))])), ⟨none,.mapSet true (aT 1) (.const (.str [116,114,117,101])) (aT 2),none,[]⟩, (aO 3 (.build [(.int .u8 0),(.int .i64 0),(.str [])] [(0,1,(.const (.int .u8 1)))])), ⟨none,.mapSet true (aT 1) (.const (.str [102,97,108,115,101])) (aT 3),none,[]⟩, (aO 4 (.build [(.int .u8 0),(.int .i64 0),(.str [])] [])), ⟨none,.mapSet true (aT 1) (.const (.str [110,117,108,108])) (aT 4),none,[]⟩, (aM 5 1), (aM 0 5)] [1,2,3,4,5] (.ret))
def t292 : Tab := ⟨6,c292,[.tmp 0]⟩
theorem tab292 : TabOk Tryz.prog 292 t292 := tk Tryz.func292 (by kernel_rfl) (by kernel_rfl) (by kernel_rfl)
end Go.Proofs.YtaficpgadjemcaaGreatDoor
namespace Go.Proofs.YtaficpgadjemcaaGreatDoor
open Ab
set_option maxRecDepth 1000000
theorem mixed : Tryz.prog.follows .mixedOrders = true := by kernel_rfl
def tabs : List (Nat × Tab) := [(4, t4), (7, t7), (8, t8), (9, t9), (10, t10), (11, t11), (14, t14), (15, t15), (16, t16), (17, t17), (18, t18), (25, t25), (26, t26), (27, t27), (28, t28), (29, t29), (30, t30), (31, t31), (32, t32), (33, t33), (34, t34), (35, t35), (36, t36), (37, t37), (38, t38), (40, t40), (41, t41), (47, t47), (48, t48), (49, t49), (50, t50), (54, t54), (55, t55), (56, t56), (58, t58), (59, t59), (60, t60), (61, t61), (62, t62), (63, t63), (64, t64), (65, t65), (67, t67), (68, t68), (69, t69), (75, t75), (76, t76), (77, t77), (78, t78), (79, t79), (81, t81), (82, t82), (83, t83), (84, t84), (85, t85), (86, t86), (87, t87), (88, t88), (89, t89), (90, t90), (92, t92), (94, t94), (98, t98), (99, t99), (101, t101), (102, t102), (103, t103), (104, t104), (107, t107), (108, t108), (109, t109), (110, t110), (111, t111), (112, t112), (113, t113), (114, t114), (115, t115), (116, t116), (117, t117), (118, t118), (119, t119), (120, t120), (121, t121), (123, t123), (126, t126), (130, t130), (131, t131), (133, t133), (134, t134), (135, t135), (136, t136), (137, t137), (138, t138), (139, t139), (140, t140), (141, t141), (142, t142), (143, t143), (144, t144), (145, t145), (146, t146), (147, t147), (148, t148), (149, t149), (150, t150), (151, t151), (152, t152), (153, t153), (155, t155), (156, t156), (157, t157), (160, t160), (164, t164), (165, t165), (166, t166), (167, t167), (168, t168), (171, t171), (176, t176), (180, t180), (181, t181), (182, t182), (183, t183), (184, t184), (185, t185), (186, t186), (191, t191), (192, t192), (193, t193), (194, t194), (195, t195), (196, t196), (197, t197), (199, t199), (200, t200), (201, t201), (202, t202), (203, t203), (204, t204), (205, t205), (207, t207), (209, t209), (211, t211), (212, t212), (213, t213), (214, t214), (215, t215), (216, t216), (217, t217), (220, t220), (236, t236), (239, t239), (240, t240), (241, t241), (242, t242), (243, t243), (244, t244), (245, t245), (248, t248), (249, t249), (250, t250), (251, t251), (252, t252), (253, t253), (254, t254), (256, t256), (257, t257), (258, t258), (267, t267), (268, t268), (270, t270), (275, t275), (276, t276), (281, t281), (287, t287), (288, t288), (292, t292)]
theorem tabsOk : TabsOk Tryz.prog tabs := .cons tab4 (.cons tab7 (.cons tab8 (.cons tab9 (.cons tab10 (.cons tab11 (.cons tab14 (.cons tab15 (.cons tab16 (.cons tab17 (.cons tab18 (.cons tab25 (.cons tab26 (.cons tab27 (.cons tab28 (.cons tab29 (.cons tab30 (.cons tab31 (.cons tab32 (.cons tab33 (.cons tab34 (.cons tab35 (.cons tab36 (.cons tab37 (.cons tab38 (.cons tab40 (.cons tab41 (.cons tab47 (.cons tab48 (.cons tab49 (.cons tab50 (.cons tab54 (.cons tab55 (.cons tab56 (.cons tab58 (.cons tab59 (.cons tab60 (.cons tab61 (.cons tab62 (.cons tab63 (.cons tab64 (.cons tab65 (.cons tab67 (.cons tab68 (.cons tab69 (.cons tab75 (.cons tab76 (.cons tab77 (.cons tab78 (.cons tab79 (.cons tab81 (.cons tab82 (.cons tab83 (.cons tab84 (.cons tab85 (.cons tab86 (.cons tab87 (.cons tab88 (.cons tab89 (.cons tab90 (.cons tab92 (.cons tab94 (.cons tab98 (.cons tab99 (.cons tab101 (.cons tab102 (.cons tab103 (.cons tab104 (.cons tab107 (.cons tab108 (.cons tab109 (.cons tab110 (.cons tab111 (.cons tab112 (.cons tab113 (.cons tab114 (.cons tab115 (.cons tab116 (.cons tab117 (.cons tab118 (.cons tab119 (.cons tab120 (.cons tab121 (.cons tab123 (.cons tab126 (.cons tab130 (.cons tab131 (.cons tab133 (.cons tab134 (.cons tab135 (.cons tab136 (.cons tab137 (.cons tab138 (.cons tab139 (.cons tab140 (.cons tab141 (.cons tab142 (.cons tab143 (.cons tab144 (.cons tab145 (.cons tab146 (.cons tab147 (.cons tab148 (.cons tab149 (.cons tab150 (.cons tab151 (.cons tab152 (.cons tab153 (.cons tab155 (.cons tab156 (.cons tab157 (.cons tab160 (.cons tab164 (.cons tab165 (.cons tab166 (.cons tab167 (.cons tab168 (.cons tab171 (.cons tab176 (.cons tab180 (.cons tab181 (.cons tab182 (.cons tab183 (.cons tab184 (.cons tab185 (.cons tab186 (.cons tab191 (.cons tab192 (.cons tab193 (.cons tab194 (.cons tab195 (.cons tab196 (.cons tab197 (.cons tab199 (.cons tab200 (.cons tab201 (.cons tab202 (.cons tab203 (.cons tab204 (.cons tab205 (.cons tab207 (.cons tab209 (.cons tab211 (.cons tab212 (.cons tab213 (.cons tab214 (.cons tab215 (.cons tab216 (.cons tab217 (.cons tab220 (.cons tab236 (.cons tab239 (.cons tab240 (.cons tab241 (.cons tab242 (.cons tab243 (.cons tab244 (.cons tab245 (.cons tab248 (.cons tab249 (.cons tab250 (.cons tab251 (.cons tab252 (.cons tab253 (.cons tab254 (.cons tab256 (.cons tab257 (.cons tab258 (.cons tab267 (.cons tab268 (.cons tab270 (.cons tab275 (.cons tab276 (.cons tab281 (.cons tab287 (.cons tab288 (.cons tab292 (.nil)))))))))))))))))))))))))))))))))))))))))))))))))))))))))))))))))))))))))))))))))))))))))))))))))))))))))))))))))))))))))))))))))))))))))))))))))))))))))))))))))))))))))))))))))
def tabsD : List (Nat × Tab) := [(13, t13), (66, t66), (189, t189)]
theorem tabsDOk : TabsOk Tryz.prog tabsD := .cons tab13 (.cons tab66 (.cons tab189 (.nil)))
def KR (k : Know) : Prop := RCall Tryz.prog k.f k.args k.v k.N k.H
def KL (M : List Hint) (L : List Know) (k : Know) : Prop := asr (k.args.all (litB 8) && (firmB 8 k.v && firmL k.H)) ((lvm Tryz.prog tabs tabsD L M 600).1.call k.f k.args ⟨0, []⟩ (fun r h => endR k.v k.N k.H r h = true))
def K0 (L : List Know) (k : Know) : Prop := KL [] L k
def KT : Prop := mapsP (true = true) []
theorem kc {k : Know} {L : List Know} (h : KR k) (r : KnowsOk Tryz.prog L) : KnowsOk Tryz.prog (k :: L) := .cons h r
theorem kl {M : List Hint} {L : List Know} {k : Know} (hL : KnowsOk Tryz.prog L) (h : KL M L k) : KR k :=
  rcall_lvm M [] mixed tabsOk tabsDOk hL 600 k (asr_iff.1 h).1 (asr_iff.1 h).2
theorem kn {L : List Know} {k : Know} (hL : KnowsOk Tryz.prog L) (h2 : K0 L k = KT) : KR k := kl (M := []) hL (Eq.mpr h2 (mapsP_ok rfl _))
theorem km {M : List Hint} {L : List Know} {k : Know} {l : List Nat} (hL : KnowsOk Tryz.prog L) (h2 : KL M L k = mapsP (true = true) l) : KR k := kl hL (Eq.mpr h2 (mapsP_ok rfl _))
end Go.Proofs.YtaficpgadjemcaaGreatDoor
namespace Go.Proofs.YtaficpgadjemcaaGreatDoor
open Ab
set_option maxRecDepth 1000000
/-- stagepost/stagepostlaw17.PlanNamed -/
def c3 : ACode :=
 .seq (.region [
  ⟨some 3, .box 28 9 (.tmp 0), none, []⟩, 
  ⟨some 6, .mov (.const (.bool false)), none, []⟩] [])
 (.seq (.seq (.region [
  ⟨some 13, .call 4 [], none, []⟩, 
  ⟨some 14, .un .not (.tmp 13), none, []⟩] [13])
 (.cond (.tmp 14)
  (.seq (.region [
   ⟨some 6, .mov (.const (.bool false)), none, []⟩] [])
  (.ret))
  (.skip)))
 (.seq (.seq (.region [
  ⟨some 15, .loadA 9 (.tmp 3), none, []⟩, 
  ⟨some 16, .call 5 [(.tmp 15), (.const (.int .i64 301))], none, []⟩, 
  ⟨some 17, .bin .gtr (.tmp 16) (.const (.int .i64 300)), none, []⟩, 
  ⟨some 18, .mov (.tmp 17), none, []⟩, 
  ⟨some 19, .mov (.tmp 1), (some (18, false)), []⟩, 
  ⟨some 20, .len false (.tmp 19), (some (18, false)), []⟩, 
  ⟨some 21, .bin .gtr (.tmp 20) (.const (.int .i64 60)), (some (18, false)), []⟩, 
  ⟨some 22, .pick (.tmp 18) (.const (.bool true)) (.tmp 21), none, []⟩, 
  ⟨some 23, .mov (.tmp 22), none, []⟩, 
  ⟨some 24, .mov (.tmp 1), (some (23, false)), []⟩, 
  ⟨some 25, .len false (.tmp 24), (some (23, false)), []⟩, 
  ⟨some 26, .mov (.tmp 2), (some (23, false)), []⟩, 
  ⟨some 27, .len false (.tmp 26), (some (23, false)), []⟩, 
  ⟨some 28, .bin .neq (.tmp 25) (.tmp 27), (some (23, false)), []⟩, 
  ⟨some 29, .pick (.tmp 23) (.const (.bool true)) (.tmp 28), none, []⟩] [15, 16, 17, 18, 19, 20, 21, 22, 23, 24, 25, 26, 27, 28])
 (.cond (.tmp 29)
  (.seq (.region [
   ⟨some 6, .mov (.const (.bool true)), none, []⟩] [])
  (.ret))
  (.skip)))
 (.seq (.region [
  ⟨some 30, .buildSlice 25 3 (.agg [(.int .u8 0), (.int .i64 0), (.str [])]) 0 [], none, []⟩, 
  ⟨some 31, .mov (.tmp 2), none, []⟩, 
  ⟨some 32, .append 25 3 32 (.tmp 30) (.tmp 31), none, []⟩, 
  ⟨some 7, .mov (.tmp 32), none, []⟩] [30, 31, 32])
 (.seq (.seq (.region [
  ⟨some 8, .mov (.const (.int .i64 0)), none, []⟩] [])
 (.block 0 (.loop (.seq (.seq (.region [
    ⟨some 33, .mov (.tmp 8), none, []⟩, 
    ⟨some 34, .mov (.tmp 1), none, []⟩, 
    ⟨some 35, .len false (.tmp 34), none, []⟩, 
    ⟨some 36, .bin .lss (.tmp 33) (.tmp 35), none, []⟩] [33, 34, 35])
   (.cond (.tmp 36)
    (.skip)
    (.exit 0)))
   (.seq (.block 1 (.seq (.region [
     ⟨some 39, .loadA 9 (.tmp 3), none, []⟩, 
     ⟨some 40, .mov (.tmp 8), none, []⟩, 
     ⟨some 41, .call 6 [(.tmp 39), (.tmp 40)], none, []⟩] [39, 40])
    (.cond (.tmp 41)
     (.region [
      ⟨some 42, .mov (.tmp 7), none, []⟩, 
      ⟨some 43, .mov (.tmp 8), none, []⟩, 
      ⟨some 44, .mov (.tmp 1), none, []⟩, 
      ⟨some 45, .mov (.tmp 8), none, []⟩, 
      ⟨some 46, .indexAddr 3 (.tmp 44) (.tmp 45), none, []⟩, 
      ⟨some 47, .loadA 3 (.tmp 46), none, []⟩, 
      ⟨some 48, .indexAddr 3 (.tmp 42) (.tmp 43), none, []⟩, 
      ⟨none, .store 3 (.tmp 48) (.tmp 47), none, []⟩] [42, 43, 44, 45, 46, 47, 48])
     (.skip))))
   (.region [
    ⟨some 37, .mov (.tmp 8), none, []⟩, 
    ⟨some 38, .bin .add (.tmp 37) (.const (.int .i64 1)), none, []⟩, 
    ⟨some 8, .mov (.tmp 38), none, []⟩] [37, 38]))))))
 (.seq (.region [
  ⟨some 50, .loadA 9 (.tmp 3), none, []⟩, 
  ⟨some 51, .mov (.tmp 1), none, []⟩, 
  ⟨some 52, .call 7 [(.tmp 50), (.tmp 51)], none, []⟩, 
  ⟨some 49, .mov (.tmp 52), none, []⟩, 
  ⟨some 53, .extract (.tmp 49) 0, none, []⟩, 
  ⟨some 54, .extract (.tmp 49) 1, none, []⟩, 
  ⟨some 9, .box 25 3 (.const (.agg [(.int .u8 0), (.int .i64 0), (.str [])])), none, []⟩, 
  ⟨none, .store 3 (.tmp 9) (.tmp 53), none, []⟩, 
  ⟨some 10, .mov (.tmp 54), none, []⟩] [50, 51, 52, 49, 53, 54])
 (.seq (.region [
  ⟨some 56, .loadA 9 (.tmp 3), none, []⟩, 
  ⟨some 57, .mov (.tmp 7), none, []⟩, 
  ⟨some 58, .call 7 [(.tmp 56), (.tmp 57)], none, []⟩, 
  ⟨some 55, .mov (.tmp 58), none, []⟩, 
  ⟨some 59, .extract (.tmp 55) 0, none, []⟩, 
  ⟨some 60, .extract (.tmp 55) 1, none, []⟩, 
  ⟨some 11, .box 25 3 (.const (.agg [(.int .u8 0), (.int .i64 0), (.str [])])), none, []⟩, 
  ⟨none, .store 3 (.tmp 11) (.tmp 59), none, []⟩, 
  ⟨some 12, .mov (.tmp 60), none, []⟩] [56, 57, 58, 55, 59, 60])
 (.seq (.region [
  ⟨some 61, .loadA 3 (.tmp 9), none, []⟩, 
  ⟨some 62, .loadA 3 (.tmp 11), none, []⟩, 
  ⟨some 63, .eqA false [.int, .int, .str] (.tmp 61) (.tmp 62), none, []⟩, 
  ⟨some 64, .mov (.tmp 63), none, []⟩, 
  ⟨some 65, .mov (.tmp 10), (some (64, true)), []⟩, 
  ⟨some 66, .mov (.tmp 12), (some (64, true)), []⟩, 
  ⟨some 67, .bin .eql (.tmp 65) (.tmp 66), (some (64, true)), []⟩, 
  ⟨some 68, .pick (.tmp 64) (.tmp 67) (.const (.bool false)), none, []⟩, 
  ⟨some 6, .mov (.tmp 68), none, []⟩] [61, 62, 63, 64, 65, 66, 67, 68])
 (.ret))))))))
theorem ok3 : erase c3 = cCode Tryz.prog 69 ((Tryz.f3).body.getD .skip) := by kernel_rfl
theorem ord3 : ordsOk c3 = true := by kernel_rfl
theorem call3 {args : List SV} {h : Heap} {R : AEnd → Heap → Prop} (hn : Nat.ble args.length 69 = true) (hp : awp Tryz.prog c3 (finQ [.tmp 6] R) (argEnv 0 args) h) : ACall Tryz.prog 3 args h R :=
  acall_of_awp mixed Tryz.func3 rfl ord3 ok3 (by kernel_rfl) hn hp
def t3 : Tab := ⟨69, c3, [.tmp 6]⟩
theorem tab3 : TabOk Tryz.prog 3 t3 := tabOk Tryz.func3 rfl ord3 ok3 (by kernel_rfl) rfl
/-- stagepost/stagepostlaw17.size -/
def c5 : ACode :=
 .seq (.region [
  ⟨some 2, .box 28 9 (.tmp 0), none, []⟩, 
  ⟨some 4, .mov (.const (.int .i64 0)), none, []⟩] [])
 (.seq (.region [
  ⟨some 5, .mov (.const (.int .i64 1)), none, []⟩] [])
 (.seq (.seq (.region [
  ⟨some 6, .mov (.const (.int .i64 0)), none, []⟩] [])
 (.block 0 (.loop (.seq (.seq (.region [
    ⟨some 7, .mov (.tmp 6), none, []⟩, 
    ⟨some 8, .fieldAddr 8 (.tmp 2), none, []⟩, 
    ⟨some 9, .loadS (.tmp 8), none, []⟩, 
    ⟨some 10, .len false (.tmp 9), none, []⟩, 
    ⟨some 11, .bin .lss (.tmp 7) (.tmp 10), none, []⟩, 
    ⟨some 12, .mov (.tmp 11), none, []⟩, 
    ⟨some 13, .mov (.tmp 5), (some (12, true)), []⟩, 
    ⟨some 14, .mov (.tmp 1), (some (12, true)), []⟩, 
    ⟨some 15, .bin .lss (.tmp 13) (.tmp 14), (some (12, true)), []⟩, 
    ⟨some 16, .pick (.tmp 12) (.tmp 15) (.const (.bool false)), none, []⟩] [7, 8, 9, 10, 11, 12, 13, 14, 15])
   (.cond (.tmp 16)
    (.skip)
    (.exit 0)))
   (.seq (.block 1 (.region [
     ⟨some 19, .mov (.tmp 5), none, []⟩, 
     ⟨some 20, .fieldAddr 8 (.tmp 2), none, []⟩, 
     ⟨some 21, .loadS (.tmp 20), none, []⟩, 
     ⟨some 22, .mov (.tmp 6), none, []⟩, 
     ⟨some 23, .indexAddr 9 (.tmp 21) (.tmp 22), none, []⟩, 
     ⟨some 24, .loadA 9 (.tmp 23), none, []⟩, 
     ⟨some 25, .mov (.tmp 1), none, []⟩, 
     ⟨some 26, .mov (.tmp 5), none, []⟩, 
     ⟨some 27, .bin .sub (.tmp 25) (.tmp 26), none, []⟩, 
     ⟨some 28, .call 5 [(.tmp 24), (.tmp 27)], none, []⟩, 
     ⟨some 29, .bin .add (.tmp 19) (.tmp 28), none, []⟩, 
     ⟨some 5, .mov (.tmp 29), none, []⟩] [19, 20, 21, 22, 23, 24, 25, 26, 27, 28, 29]))
   (.region [
    ⟨some 17, .mov (.tmp 6), none, []⟩, 
    ⟨some 18, .bin .add (.tmp 17) (.const (.int .i64 1)), none, []⟩, 
    ⟨some 6, .mov (.tmp 18), none, []⟩] [17, 18]))))))
 (.seq (.region [
  ⟨some 30, .mov (.tmp 5), none, []⟩, 
  ⟨some 4, .mov (.tmp 30), none, []⟩] [30])
 (.ret))))
theorem ok5 : erase c5 = cCode Tryz.prog 31 ((Tryz.f5).body.getD .skip) := by kernel_rfl
theorem ord5 : ordsOk c5 = true := by kernel_rfl
theorem call5 {args : List SV} {h : Heap} {R : AEnd → Heap → Prop} (hn : Nat.ble args.length 31 = true) (hp : awp Tryz.prog c5 (finQ [.tmp 4] R) (argEnv 0 args) h) : ACall Tryz.prog 5 args h R :=
  acall_of_awp mixed Tryz.func5 rfl ord5 ok5 (by kernel_rfl) hn hp
def t5 : Tab := ⟨31, c5, [.tmp 4]⟩
theorem tab5 : TabOk Tryz.prog 5 t5 := tabOk Tryz.func5 rfl ord5 ok5 (by kernel_rfl) rfl
/-- stagepost/stagepostlaw17.named -/
def c6 : ACode :=
 .seq (.region [
  ⟨some 2, .box 28 9 (.tmp 0), none, []⟩, 
  ⟨some 4, .mov (.const (.bool false)), none, []⟩] [])
 (.seq (.seq (.region [
  ⟨some 5, .mov (.const (.int .i64 0)), none, []⟩] [])
 (.block 0 (.loop (.seq (.seq (.region [
    ⟨some 6, .mov (.tmp 5), none, []⟩, 
    ⟨some 7, .fieldAddr 8 (.tmp 2), none, []⟩, 
    ⟨some 8, .loadS (.tmp 7), none, []⟩, 
    ⟨some 9, .len false (.tmp 8), none, []⟩, 
    ⟨some 10, .bin .lss (.tmp 6) (.tmp 9), none, []⟩] [6, 7, 8, 9])
   (.cond (.tmp 10)
    (.skip)
    (.exit 0)))
   (.seq (.block 1 (.seq (.region [
     ⟨some 13, .fieldAddr 8 (.tmp 2), none, []⟩, 
     ⟨some 14, .loadS (.tmp 13), none, []⟩, 
     ⟨some 15, .mov (.tmp 5), none, []⟩, 
     ⟨some 16, .indexAddr 9 (.tmp 14) (.tmp 15), none, []⟩, 
     ⟨some 17, .loadA 9 (.tmp 16), none, []⟩, 
     ⟨some 18, .mov (.tmp 1), none, []⟩, 
     ⟨some 19, .call 6 [(.tmp 17), (.tmp 18)], none, []⟩] [13, 14, 15, 16, 17, 18])
    (.cond (.tmp 19)
     (.seq (.region [
      ⟨some 4, .mov (.const (.bool true)), none, []⟩] [])
     (.ret))
     (.skip))))
   (.region [
    ⟨some 11, .mov (.tmp 5), none, []⟩, 
    ⟨some 12, .bin .add (.tmp 11) (.const (.int .i64 1)), none, []⟩, 
    ⟨some 5, .mov (.tmp 12), none, []⟩] [11, 12]))))))
 (.seq (.region [
  ⟨some 20, .fieldAddr 0 (.tmp 2), none, []⟩, 
  ⟨some 21, .loadS (.tmp 20), none, []⟩, 
  ⟨some 22, .bin .eql (.tmp 21) (.const (.int .u8 2)), none, []⟩, 
  ⟨some 23, .mov (.tmp 22), none, []⟩, 
  ⟨some 24, .fieldAddr 6 (.tmp 2), (some (23, true)), []⟩, 
  ⟨some 25, .loadS (.tmp 24), (some (23, true)), []⟩, 
  ⟨some 26, .mov (.tmp 1), (some (23, true)), []⟩, 
  ⟨some 27, .bin .eql (.tmp 25) (.tmp 26), (some (23, true)), []⟩, 
  ⟨some 28, .pick (.tmp 23) (.tmp 27) (.const (.bool false)), none, []⟩, 
  ⟨some 4, .mov (.tmp 28), none, []⟩] [20, 21, 22, 23, 24, 25, 26, 27, 28])
 (.ret)))
theorem ok6 : erase c6 = cCode Tryz.prog 29 ((Tryz.f6).body.getD .skip) := by kernel_rfl
theorem ord6 : ordsOk c6 = true := by kernel_rfl
theorem call6 {args : List SV} {h : Heap} {R : AEnd → Heap → Prop} (hn : Nat.ble args.length 29 = true) (hp : awp Tryz.prog c6 (finQ [.tmp 4] R) (argEnv 0 args) h) : ACall Tryz.prog 6 args h R :=
  acall_of_awp mixed Tryz.func6 rfl ord6 ok6 (by kernel_rfl) hn hp
def t6 : Tab := ⟨29, c6, [.tmp 4]⟩
theorem tab6 : TabOk Tryz.prog 6 t6 := tabOk Tryz.func6 rfl ord6 ok6 (by kernel_rfl) rfl
theorem ok7 : erase c7 = cCode Tryz.prog 76 ((Tryz.f7).body.getD .skip) := by kernel_rfl
theorem ord7 : ordsOk c7 = true := by kernel_rfl
theorem call7 {args : List SV} {h : Heap} {R : AEnd → Heap → Prop} (hn : Nat.ble args.length 76 = true) (hp : awp Tryz.prog c7 (finQ [.cellA 4 3, .tmp 5] R) (argEnv 0 args) h) : ACall Tryz.prog 7 args h R :=
  acall_of_awp mixed Tryz.func7 rfl ord7 ok7 (by kernel_rfl) hn hp
theorem ok11 : erase c11 = cCode Tryz.prog 24 ((Tryz.f11).body.getD .skip) := by kernel_rfl
theorem ord11 : ordsOk c11 = true := by kernel_rfl
theorem call11 {args : List SV} {h : Heap} {R : AEnd → Heap → Prop} (hn : Nat.ble args.length 24 = true) (hp : awp Tryz.prog c11 (finQ [.tmp 2] R) (argEnv 0 args) h) : ACall Tryz.prog 11 args h R :=
  acall_of_awp mixed Tryz.func11 rfl ord11 ok11 (by kernel_rfl) hn hp
def c12r12 : List AOper := [
 ⟨some 42, .mov (.tmp 7), none, []⟩, 
 ⟨some 43, .mov (.tmp 9), none, []⟩, 
 ⟨some 44, .fieldAddr 0 (.tmp 10), none, []⟩, 
 ⟨some 45, .loadS (.tmp 44), none, [2]⟩, 
 ⟨some 46, .mov (.tmp 8), none, []⟩, 
 ⟨some 47, .mov (.tmp 46), none, [4]⟩, 
 ⟨some 48, .fieldAddr 0 (.tmp 10), (some (47, false)), [5]⟩, 
 ⟨some 49, .loadS (.tmp 48), (some (47, false)), [6, 5]⟩, 
 ⟨some 50, .bin .eql (.tmp 49) (.const (.int .u8 0)), (some (47, false)), [7, 5]⟩, 
 ⟨some 51, .pick (.tmp 47) (.const (.bool true)) (.tmp 50), none, [5, 8]⟩, 
 ⟨some 52, .indexAddr 1 (.tmp 42) (.tmp 43), none, [0, 1, 0, 1, 2, 3]⟩, 
 ⟨none, .store 1 (.tmp 52) (.tmp 45), none, [10, 3, 5, 0, 1, 2, 3]⟩, 
 ⟨some 8, .mov (.tmp 51), none, [9, 11, 0, 1, 2, 3, 4, 5, 6, 7, 8, 9, 10, 11]⟩]
def c12r40 : List AOper := [
 ⟨some 129, .mov (.tmp 1), none, []⟩, 
 ⟨some 130, .indexAddr 3 (.tmp 129) (.const (.int .i64 0)), none, [0]⟩, 
 ⟨some 131, .fieldAddr 2 (.tmp 130), none, [1]⟩, 
 ⟨some 132, .loadS (.tmp 131), none, [2]⟩, 
 ⟨some 133, .mov (.tmp 1), none, []⟩, 
 ⟨some 134, .indexAddr 3 (.tmp 133) (.const (.int .i64 1)), none, [4]⟩, 
 ⟨some 135, .fieldAddr 2 (.tmp 134), none, [5]⟩, 
 ⟨some 136, .loadS (.tmp 135), none, [6]⟩, 
 ⟨some 137, .bin .add (.tmp 132) (.tmp 136), none, [3, 7]⟩, 
 ⟨some 14, .mov (.tmp 137), none, [8, 0, 1, 2, 3, 4, 5, 6, 7, 8]⟩]
def c12r49 : List AOper := [
 ⟨some 150, .mov (.tmp 0), none, []⟩, 
 ⟨some 151, .mov (.tmp 1), none, []⟩, 
 ⟨some 152, .indexAddr 3 (.tmp 151) (.const (.int .i64 0)), none, [1]⟩, 
 ⟨some 153, .fieldAddr 1 (.tmp 152), none, [2]⟩, 
 ⟨some 154, .loadS (.tmp 153), none, [3]⟩, 
 ⟨some 155, .mov (.tmp 1), none, []⟩, 
 ⟨some 156, .indexAddr 3 (.tmp 155) (.const (.int .i64 1)), none, [5]⟩, 
 ⟨some 157, .fieldAddr 1 (.tmp 156), none, [6]⟩, 
 ⟨some 158, .loadS (.tmp 157), none, [7]⟩, 
 ⟨some 159, .call 22 [(.tmp 150), (.tmp 154), (.tmp 158)], none, [0, 4, 8]⟩, 
 ⟨some 160, .extract (.tmp 159) 0, none, [9]⟩, 
 ⟨some 161, .extract (.tmp 159) 1, none, [9]⟩, 
 ⟨none, .store 3 (.tmp 4) (.tmp 160), none, [10, 9, 0, 1, 2, 3, 4, 5, 6, 7, 8, 9, 10, 11]⟩, 
 ⟨some 5, .mov (.tmp 161), none, [11, 12, 0, 1, 2, 3, 4, 5, 6, 7, 8, 9, 10, 11, 12]⟩]
def c12r50 : List AOper := [
 ⟨some 162, .mov (.tmp 0), none, []⟩, 
 ⟨some 163, .mov (.tmp 1), none, []⟩, 
 ⟨some 164, .slice 3 (.tmp 163) none (some (.const (.int .i64 1))), none, [1]⟩, 
 ⟨some 165, .mov (.tmp 1), none, []⟩, 
 ⟨some 166, .slice 3 (.tmp 165) (some (.const (.int .i64 1))) none, none, [3]⟩, 
 ⟨some 167, .call 24 [(.tmp 164), (.tmp 166)], none, [2, 4]⟩, 
 ⟨some 168, .call 23 [(.tmp 162), (.tmp 167)], none, [0, 5, 5]⟩, 
 ⟨some 169, .call 19 [(.tmp 168)], none, [6, 6]⟩, 
 ⟨none, .store 3 (.tmp 4) (.tmp 169), none, [7, 7, 0, 1, 2, 3, 4, 5, 6, 7]⟩, 
 ⟨some 5, .mov (.const (.int .i64 0)), none, [8, 0, 1, 2, 3, 4, 5, 6, 7, 8]⟩]
/-- stagepost/value.Do -/
def c12 : ACode :=
 .seq (.region [
  ⟨some 4, .box 25 3 (.const (.agg [(.int .u8 0), (.int .i64 0), (.str [])])), none, []⟩, 
  ⟨some 5, .mov (.const (.int .i64 0)), none, []⟩] [])
 (.seq (.region [
  ⟨some 15, .build [(.int .u8 0), (.int .i64 0), (.str [])] [], none, []⟩, 
  ⟨some 6, .box 25 3 (.const (.agg [(.int .u8 0), (.int .i64 0), (.str [])])), none, []⟩, 
  ⟨none, .store 3 (.tmp 6) (.tmp 15), none, []⟩] [15])
 (.seq (.seq (.region [
  ⟨some 16, .mov (.tmp 0), none, []⟩, 
  ⟨some 17, .call 11 [(.tmp 16)], none, []⟩, 
  ⟨some 18, .bin .eql (.tmp 17) (.const (.int .i64 0)), none, []⟩, 
  ⟨some 19, .mov (.tmp 18), none, []⟩, 
  ⟨some 20, .mov (.tmp 1), (some (19, false)), []⟩, 
  ⟨some 21, .len false (.tmp 20), (some (19, false)), []⟩, 
  ⟨some 22, .mov (.tmp 0), (some (19, false)), []⟩, 
  ⟨some 23, .call 11 [(.tmp 22)], (some (19, false)), []⟩, 
  ⟨some 24, .bin .neq (.tmp 21) (.tmp 23), (some (19, false)), []⟩, 
  ⟨some 25, .pick (.tmp 19) (.const (.bool true)) (.tmp 24), none, []⟩] [16, 17, 18, 19, 20, 21, 22, 23, 24])
 (.cond (.tmp 25)
  (.seq (.region [
   ⟨some 26, .loadA 3 (.tmp 6), none, []⟩, 
   ⟨none, .store 3 (.tmp 4) (.tmp 26), none, []⟩, 
   ⟨some 5, .mov (.const (.int .i64 2)), none, []⟩] [26])
  (.ret))
  (.skip)))
 (.seq (.region [
  ⟨some 27, .mov (.tmp 1), none, []⟩, 
  ⟨some 28, .len false (.tmp 27), none, []⟩, 
  ⟨some 29, .makeSlice 23 1 1 (.int .u8 0) (.tmp 28) (.tmp 28), none, []⟩, 
  ⟨some 7, .mov (.tmp 29), none, []⟩] [27, 28, 29])
 (.seq (.region [
  ⟨some 8, .mov (.const (.bool false)), none, []⟩] [])
 (.seq (.seq (.region [
  ⟨some 30, .mov (.tmp 1), none, []⟩, 
  ⟨some 31, .len false (.tmp 30), none, []⟩, 
  ⟨some 32, .mov (.const (.int .i64 0)), none, []⟩] [])
 (.block 0 (.loop (.seq (.region [
    ⟨some 33, .bin .lss (.tmp 32) (.tmp 31), none, []⟩] [])
   (.seq (.cond (.tmp 33)
    (.skip)
    (.exit 0))
   (.seq (.block 1 (.seq (.region [
     ⟨some 34, .mov (.tmp 32), none, []⟩, 
     ⟨some 35, .indexAddr 3 (.tmp 30) (.tmp 32), none, []⟩, 
     ⟨some 36, .loadA 3 (.tmp 35), none, []⟩, 
     ⟨some 10, .box 25 3 (.const (.agg [(.int .u8 0), (.int .i64 0), (.str [])])), none, []⟩, 
     ⟨some 9, .mov (.tmp 34), none, []⟩, 
     ⟨none, .store 3 (.tmp 10) (.tmp 36), none, []⟩] [34, 35, 36])
    (.seq (.seq (.region [
     ⟨some 37, .loadA 3 (.tmp 10), none, []⟩, 
     ⟨some 38, .call 17 [(.tmp 37)], none, []⟩, 
     ⟨some 11, .mov (.tmp 38), none, []⟩] [37, 38])
    (.seq (.region [
     ⟨some 39, .mov (.tmp 11), none, []⟩, 
     ⟨some 40, .bin .neq (.tmp 39) (.const (.int .i64 0)), none, []⟩] [39])
    (.cond (.tmp 40)
     (.seq (.region [
      ⟨some 41, .loadA 3 (.tmp 6), none, []⟩, 
      ⟨none, .store 3 (.tmp 4) (.tmp 41), none, []⟩, 
      ⟨some 5, .mov (.const (.int .i64 2)), none, []⟩] [41])
     (.ret))
     (.skip))))
    (.dregion c12r12 [(0, false, []), (1, false, []), (2, false, []), (3, false, []), (4, false, []), (5, false, []), (6, false, []), (7, false, []), (8, false, []), (9, false, []), (10, false, []), (11, true, [6, 7]), (12, true, [])] [42, 43, 44, 45, 46, 47, 48, 49, 50, 51, 52]))))
   (.region [
    ⟨some 53, .bin .add (.tmp 32) (.const (.int .i64 1)), none, []⟩, 
    ⟨some 32, .mov (.tmp 53), none, []⟩] [53])))))))
 (.seq (.seq (.region [
  ⟨some 55, .mov (.tmp 0), none, []⟩, 
  ⟨some 56, .mov (.tmp 7), none, []⟩, 
  ⟨some 57, .call 18 [(.tmp 55), (.tmp 56)], none, []⟩, 
  ⟨some 54, .mov (.tmp 57), none, []⟩, 
  ⟨some 58, .extract (.tmp 54) 0, none, []⟩, 
  ⟨some 59, .extract (.tmp 54) 1, none, []⟩, 
  ⟨some 12, .mov (.tmp 58), none, []⟩, 
  ⟨some 13, .mov (.tmp 59), none, []⟩] [55, 56, 57, 54, 58, 59, 12])
 (.seq (.region [
  ⟨some 60, .mov (.tmp 13), none, []⟩, 
  ⟨some 61, .bin .neq (.tmp 60) (.const (.int .i64 0)), none, []⟩] [60])
 (.cond (.tmp 61)
  (.seq (.region [
   ⟨some 62, .loadA 3 (.tmp 6), none, []⟩, 
   ⟨some 63, .mov (.tmp 13), none, []⟩, 
   ⟨none, .store 3 (.tmp 4) (.tmp 62), none, []⟩, 
   ⟨some 5, .mov (.tmp 63), none, []⟩] [62, 63])
  (.ret))
  (.skip))))
 (.seq (.seq (.region [
  ⟨some 64, .mov (.tmp 0), none, []⟩] [])
 (.block 2 (.seq (.region [
   ⟨some 66, .bin .eql (.tmp 64) (.const (.int .u8 19)), none, []⟩, 
   ⟨some 65, .mov (.tmp 66), none, []⟩] [66])
  (.cond (.tmp 65)
   (.seq (.region [
    ⟨some 67, .mov (.tmp 8), none, []⟩, 
    ⟨some 68, .call 19 [(.tmp 67)], none, []⟩, 
    ⟨none, .store 3 (.tmp 4) (.tmp 68), none, []⟩, 
    ⟨some 5, .mov (.const (.int .i64 0)), none, []⟩] [67, 68])
   (.ret))
   (.seq (.region [
    ⟨some 70, .bin .eql (.tmp 64) (.const (.int .u8 20)), none, []⟩, 
    ⟨some 69, .mov (.tmp 70), none, []⟩] [70])
   (.cond (.tmp 69)
    (.seq (.region [
     ⟨some 71, .mov (.tmp 8), none, []⟩, 
     ⟨some 72, .un .not (.tmp 71), none, []⟩, 
     ⟨some 73, .call 19 [(.tmp 72)], none, []⟩, 
     ⟨none, .store 3 (.tmp 4) (.tmp 73), none, []⟩, 
     ⟨some 5, .mov (.const (.int .i64 0)), none, []⟩] [71, 72, 73])
    (.ret))
    (.seq (.region [
     ⟨some 75, .bin .eql (.tmp 64) (.const (.int .u8 15)), none, []⟩, 
     ⟨some 74, .mov (.tmp 75), none, []⟩] [75])
    (.cond (.tmp 74)
     (.seq (.region [
      ⟨some 76, .mov (.tmp 1), none, []⟩, 
      ⟨some 77, .indexAddr 3 (.tmp 76) (.const (.int .i64 0)), none, []⟩, 
      ⟨some 78, .loadA 3 (.tmp 77), none, []⟩, 
      ⟨some 79, .call 20 [(.tmp 78)], none, []⟩, 
      ⟨some 80, .mov (.tmp 79), none, []⟩, 
      ⟨some 81, .mov (.tmp 1), (some (80, false)), []⟩, 
      ⟨some 82, .indexAddr 3 (.tmp 81) (.const (.int .i64 1)), (some (80, false)), []⟩, 
      ⟨some 83, .loadA 3 (.tmp 82), (some (80, false)), []⟩, 
      ⟨some 84, .call 20 [(.tmp 83)], (some (80, false)), []⟩, 
      ⟨some 85, .pick (.tmp 80) (.const (.bool true)) (.tmp 84), none, []⟩] [76, 77, 78, 79, 80, 81, 82, 83, 84])
     (.cond (.tmp 85)
      (.seq (.region [
       ⟨some 86, .call 19 [(.const (.bool false))], none, []⟩, 
       ⟨none, .store 3 (.tmp 4) (.tmp 86), none, []⟩, 
       ⟨some 5, .mov (.const (.int .i64 0)), none, []⟩] [86])
      (.ret))
      (.skip)))
     (.seq (.region [
      ⟨some 88, .bin .eql (.tmp 64) (.const (.int .u8 16)), none, []⟩, 
      ⟨some 87, .mov (.tmp 88), none, []⟩] [88])
     (.cond (.tmp 87)
      (.seq (.region [
       ⟨some 89, .mov (.tmp 1), none, []⟩, 
       ⟨some 90, .indexAddr 3 (.tmp 89) (.const (.int .i64 0)), none, []⟩, 
       ⟨some 91, .loadA 3 (.tmp 90), none, []⟩, 
       ⟨some 92, .call 21 [(.tmp 91)], none, []⟩, 
       ⟨some 93, .mov (.tmp 92), none, []⟩, 
       ⟨some 94, .mov (.tmp 1), (some (93, false)), []⟩, 
       ⟨some 95, .indexAddr 3 (.tmp 94) (.const (.int .i64 1)), (some (93, false)), []⟩, 
       ⟨some 96, .loadA 3 (.tmp 95), (some (93, false)), []⟩, 
       ⟨some 97, .call 21 [(.tmp 96)], (some (93, false)), []⟩, 
       ⟨some 98, .pick (.tmp 93) (.const (.bool true)) (.tmp 97), none, []⟩] [89, 90, 91, 92, 93, 94, 95, 96, 97])
      (.cond (.tmp 98)
       (.seq (.region [
        ⟨some 99, .call 19 [(.const (.bool true))], none, []⟩, 
        ⟨none, .store 3 (.tmp 4) (.tmp 99), none, []⟩, 
        ⟨some 5, .mov (.const (.int .i64 0)), none, []⟩] [99])
       (.ret))
       (.skip)))
      (.skip)))))))))))
 (.seq (.seq (.region [
  ⟨some 100, .mov (.tmp 8), none, []⟩] [])
 (.cond (.tmp 100)
  (.seq (.region [
   ⟨some 101, .loadA 3 (.tmp 6), none, []⟩, 
   ⟨none, .store 3 (.tmp 4) (.tmp 101), none, []⟩, 
   ⟨some 5, .mov (.const (.int .i64 0)), none, []⟩] [101])
  (.ret))
  (.skip)))
 (.seq (.seq (.region [
  ⟨some 102, .mov (.tmp 0), none, []⟩] [])
 (.block 3 (.seq (.region [
   ⟨some 104, .bin .eql (.tmp 102) (.const (.int .u8 15)), none, []⟩, 
   ⟨some 103, .mov (.tmp 104), none, []⟩] [104])
  (.cond (.tmp 103)
   (.seq (.region [
    ⟨some 105, .call 19 [(.const (.bool true))], none, []⟩, 
    ⟨none, .store 3 (.tmp 4) (.tmp 105), none, []⟩, 
    ⟨some 5, .mov (.const (.int .i64 0)), none, []⟩] [105])
   (.ret))
   (.seq (.region [
    ⟨some 107, .bin .eql (.tmp 102) (.const (.int .u8 16)), none, []⟩, 
    ⟨some 106, .mov (.tmp 107), none, []⟩] [107])
   (.cond (.tmp 106)
    (.seq (.region [
     ⟨some 108, .call 19 [(.const (.bool false))], none, []⟩, 
     ⟨none, .store 3 (.tmp 4) (.tmp 108), none, []⟩, 
     ⟨some 5, .mov (.const (.int .i64 0)), none, []⟩] [108])
    (.ret))
    (.seq (.region [
     ⟨some 110, .bin .eql (.tmp 102) (.const (.int .u8 17)), none, []⟩, 
     ⟨some 109, .mov (.tmp 110), none, []⟩] [110])
    (.cond (.tmp 109)
     (.seq (.region [
      ⟨some 111, .mov (.tmp 1), none, []⟩, 
      ⟨some 112, .indexAddr 3 (.tmp 111) (.const (.int .i64 0)), none, []⟩, 
      ⟨some 113, .loadA 3 (.tmp 112), none, []⟩, 
      ⟨some 114, .call 21 [(.tmp 113)], none, []⟩, 
      ⟨some 115, .un .not (.tmp 114), none, []⟩, 
      ⟨some 116, .call 19 [(.tmp 115)], none, []⟩, 
      ⟨none, .store 3 (.tmp 4) (.tmp 116), none, []⟩, 
      ⟨some 5, .mov (.const (.int .i64 0)), none, []⟩] [111, 112, 113, 114, 115, 116])
     (.ret))
     (.seq (.region [
      ⟨some 118, .bin .eql (.tmp 102) (.const (.int .u8 18)), none, []⟩, 
      ⟨some 117, .mov (.tmp 118), none, []⟩] [118])
     (.cond (.tmp 117)
      (.seq (.region [
       ⟨some 119, .mov (.tmp 0), none, []⟩, 
       ⟨some 120, .mov (.tmp 1), none, []⟩, 
       ⟨some 121, .indexAddr 3 (.tmp 120) (.const (.int .i64 0)), none, []⟩, 
       ⟨some 122, .fieldAddr 1 (.tmp 121), none, []⟩, 
       ⟨some 123, .loadS (.tmp 122), none, []⟩, 
       ⟨some 124, .call 22 [(.tmp 119), (.const (.int .i64 0)), (.tmp 123)], none, []⟩, 
       ⟨some 125, .extract (.tmp 124) 0, none, []⟩, 
       ⟨some 126, .extract (.tmp 124) 1, none, []⟩, 
       ⟨none, .store 3 (.tmp 4) (.tmp 125), none, []⟩, 
       ⟨some 5, .mov (.tmp 126), none, []⟩] [119, 120, 121, 122, 123, 124, 125, 126])
      (.ret))
      (.seq (.region [
       ⟨some 128, .bin .eql (.tmp 102) (.const (.int .u8 8)), none, []⟩, 
       ⟨some 127, .mov (.tmp 128), none, []⟩] [128])
      (.cond (.tmp 127)
       (.seq (.dregion c12r40 [(0, false, []), (1, false, []), (2, false, []), (3, false, []), (4, false, []), (5, false, []), (6, false, []), (7, false, []), (8, false, []), (9, false, [])] [129, 130, 131, 132, 133, 134, 135, 136, 137])
       (.seq (.seq (.region [
        ⟨some 138, .mov (.tmp 14), none, []⟩, 
        ⟨some 139, .len true (.tmp 138), none, []⟩, 
        ⟨some 140, .bin .gtr (.tmp 139) (.const (.int .i64 64)), none, []⟩] [138, 139])
       (.cond (.tmp 140)
        (.seq (.region [
         ⟨some 141, .loadA 3 (.tmp 6), none, []⟩, 
         ⟨none, .store 3 (.tmp 4) (.tmp 141), none, []⟩, 
         ⟨some 5, .mov (.const (.int .i64 3)), none, []⟩] [141])
        (.ret))
        (.skip)))
       (.seq (.region [
        ⟨some 142, .mov (.tmp 14), none, []⟩, 
        ⟨some 143, .build [(.int .u8 0), (.int .i64 0), (.str [])] [(0, 1, (.const (.int .u8 3))), (2, 1, (.tmp 142))], none, []⟩, 
        ⟨none, .store 3 (.tmp 4) (.tmp 143), none, []⟩, 
        ⟨some 5, .mov (.const (.int .i64 0)), none, []⟩] [142, 143])
       (.ret))))
       (.seq (.seq (.region [
        ⟨some 145, .bin .eql (.tmp 102) (.const (.int .u8 3)), none, []⟩, 
        ⟨some 144, .mov (.tmp 145), none, []⟩] [145])
       (.cond (.tmp 144)
        (.skip)
        (.seq (.region [
         ⟨some 146, .bin .eql (.tmp 102) (.const (.int .u8 4)), none, []⟩, 
         ⟨some 144, .mov (.tmp 146), none, []⟩] [146])
        (.cond (.tmp 144)
         (.skip)
         (.seq (.region [
          ⟨some 147, .bin .eql (.tmp 102) (.const (.int .u8 5)), none, []⟩, 
          ⟨some 144, .mov (.tmp 147), none, []⟩] [147])
         (.cond (.tmp 144)
          (.skip)
          (.seq (.region [
           ⟨some 148, .bin .eql (.tmp 102) (.const (.int .u8 6)), none, []⟩, 
           ⟨some 144, .mov (.tmp 148), none, []⟩] [148])
          (.cond (.tmp 144)
           (.skip)
           (.region [
            ⟨some 149, .bin .eql (.tmp 102) (.const (.int .u8 7)), none, []⟩, 
            ⟨some 144, .mov (.tmp 149), none, []⟩] [149])))))))))
       (.cond (.tmp 144)
        (.seq (.dregion c12r49 [(0, false, []), (1, false, []), (2, false, []), (3, false, []), (4, false, []), (5, false, []), (6, false, []), (7, false, []), (8, false, []), (9, true, []), (10, false, []), (11, false, []), (12, true, []), (13, false, [])] [150, 151, 152, 153, 154, 155, 156, 157, 158, 159, 160, 161])
        (.ret))
        (.skip)))))))))))))))
 (.seq (.dregion c12r50 [(0, false, []), (1, false, []), (2, false, []), (3, false, []), (4, false, []), (5, true, []), (6, true, []), (7, true, []), (8, true, []), (9, false, [])] [162, 163, 164, 165, 166, 167, 168, 169])
 (.ret)))))))))))
theorem ok12 : erase c12 = cCode Tryz.prog 170 ((Tryz.f12).body.getD .skip) := by kernel_rfl
theorem ord12 : ordsOk c12 = true := by kernel_rfl
theorem call12 {args : List SV} {h : Heap} {R : AEnd → Heap → Prop} (hn : Nat.ble args.length 170 = true) (hp : awp Tryz.prog c12 (finQ [.cellA 4 3, .tmp 5] R) (argEnv 0 args) h) : ACall Tryz.prog 12 args h R :=
  acall_of_awp mixed Tryz.func12 rfl ord12 ok12 (by kernel_rfl) hn hp
def t12 : Tab := ⟨170, c12, [.cellA 4 3, .tmp 5]⟩
theorem tab12 : TabOk Tryz.prog 12 t12 := tabOk Tryz.func12 rfl ord12 ok12 (by kernel_rfl) rfl
theorem ok17 : erase c17 = cCode Tryz.prog 49 ((Tryz.f17).body.getD .skip) := by kernel_rfl
theorem ord17 : ordsOk c17 = true := by kernel_rfl
theorem call17 {args : List SV} {h : Heap} {R : AEnd → Heap → Prop} (hn : Nat.ble args.length 49 = true) (hp : awp Tryz.prog c17 (finQ [.tmp 2] R) (argEnv 0 args) h) : ACall Tryz.prog 17 args h R :=
  acall_of_awp mixed Tryz.func17 rfl ord17 ok17 (by kernel_rfl) hn hp
theorem ok18 : erase c18 = cCode Tryz.prog 66 ((Tryz.f18).body.getD .skip) := by kernel_rfl
theorem ord18 : ordsOk c18 = true := by kernel_rfl
theorem call18 {args : List SV} {h : Heap} {R : AEnd → Heap → Prop} (hn : Nat.ble args.length 66 = true) (hp : awp Tryz.prog c18 (finQ [.tmp 4, .tmp 5] R) (argEnv 0 args) h) : ACall Tryz.prog 18 args h R :=
  acall_of_awp mixed Tryz.func18 rfl ord18 ok18 (by kernel_rfl) hn hp
/-- stagepost/value.truth -/
def c19 : ACode :=
 .seq (.region [
  ⟨some 2, .box 25 3 (.const (.agg [(.int .u8 0), (.int .i64 0), (.str [])])), none, []⟩] [])
 (.seq (.seq (.region [
  ⟨some 3, .mov (.tmp 0), none, []⟩] [])
 (.cond (.tmp 3)
  (.seq (.region [
   ⟨some 4, .build [(.int .u8 0), (.int .i64 0), (.str [])] [(0, 1, (.const (.int .u8 1))), (1, 1, (.const (.int .i64 1)))], none, []⟩, 
   ⟨none, .store 3 (.tmp 2) (.tmp 4), none, []⟩] [4])
  (.ret))
  (.skip)))
 (.seq (.region [
  ⟨some 5, .build [(.int .u8 0), (.int .i64 0), (.str [])] [(0, 1, (.const (.int .u8 1)))], none, []⟩, 
  ⟨none, .store 3 (.tmp 2) (.tmp 5), none, []⟩] [5])
 (.ret)))
theorem ok19 : erase c19 = cCode Tryz.prog 6 ((Tryz.f19).body.getD .skip) := by kernel_rfl
theorem ord19 : ordsOk c19 = true := by kernel_rfl
theorem call19 {args : List SV} {h : Heap} {R : AEnd → Heap → Prop} (hn : Nat.ble args.length 6 = true) (hp : awp Tryz.prog c19 (finQ [.cellA 2 3] R) (argEnv 0 args) h) : ACall Tryz.prog 19 args h R :=
  acall_of_awp mixed Tryz.func19 rfl ord19 ok19 (by kernel_rfl) hn hp
def t19 : Tab := ⟨6, c19, [.cellA 2 3]⟩
theorem tab19 : TabOk Tryz.prog 19 t19 := tabOk Tryz.func19 rfl ord19 ok19 (by kernel_rfl) rfl
/-- stagepost/value.false0 -/
def c20 : ACode :=
 .seq (.region [
  ⟨some 1, .box 25 3 (.tmp 0), none, []⟩, 
  ⟨some 2, .mov (.const (.bool false)), none, []⟩] [])
 (.seq (.region [
  ⟨some 3, .fieldAddr 0 (.tmp 1), none, []⟩, 
  ⟨some 4, .loadS (.tmp 3), none, []⟩, 
  ⟨some 5, .bin .eql (.tmp 4) (.const (.int .u8 1)), none, []⟩, 
  ⟨some 6, .mov (.tmp 5), none, []⟩, 
  ⟨some 7, .fieldAddr 1 (.tmp 1), (some (6, true)), []⟩, 
  ⟨some 8, .loadS (.tmp 7), (some (6, true)), []⟩, 
  ⟨some 9, .bin .eql (.tmp 8) (.const (.int .i64 0)), (some (6, true)), []⟩, 
  ⟨some 10, .pick (.tmp 6) (.tmp 9) (.const (.bool false)), none, []⟩, 
  ⟨some 2, .mov (.tmp 10), none, []⟩] [3, 4, 5, 6, 7, 8, 9, 10])
 (.ret))
theorem ok20 : erase c20 = cCode Tryz.prog 11 ((Tryz.f20).body.getD .skip) := by kernel_rfl
theorem ord20 : ordsOk c20 = true := by kernel_rfl
theorem call20 {args : List SV} {h : Heap} {R : AEnd → Heap → Prop} (hn : Nat.ble args.length 11 = true) (hp : awp Tryz.prog c20 (finQ [.tmp 2] R) (argEnv 0 args) h) : ACall Tryz.prog 20 args h R :=
  acall_of_awp mixed Tryz.func20 rfl ord20 ok20 (by kernel_rfl) hn hp
def t20 : Tab := ⟨11, c20, [.tmp 2]⟩
theorem tab20 : TabOk Tryz.prog 20 t20 := tabOk Tryz.func20 rfl ord20 ok20 (by kernel_rfl) rfl
def c21r1 : List AOper := [
 ⟨some 3, .loadA 3 (.tmp 1), none, []⟩, 
 ⟨some 4, .call 19 [(.const (.bool true))], none, []⟩, 
 ⟨some 5, .eqA false [.int, .int, .str] (.tmp 3) (.tmp 4), none, [0, 1]⟩, 
 ⟨some 2, .mov (.tmp 5), none, [2, 1, 0, 1, 2]⟩]
/-- stagepost/value.True -/
def c21 : ACode :=
 .seq (.region [
  ⟨some 1, .box 25 3 (.tmp 0), none, []⟩, 
  ⟨some 2, .mov (.const (.bool false)), none, []⟩] [])
 (.seq (.dregion c21r1 [(0, false, []), (1, true, [0]), (2, false, []), (3, false, [])] [3, 4, 5])
 (.ret))
theorem ok21 : erase c21 = cCode Tryz.prog 6 ((Tryz.f21).body.getD .skip) := by kernel_rfl
theorem ord21 : ordsOk c21 = true := by kernel_rfl
theorem call21 {args : List SV} {h : Heap} {R : AEnd → Heap → Prop} (hn : Nat.ble args.length 6 = true) (hp : awp Tryz.prog c21 (finQ [.tmp 2] R) (argEnv 0 args) h) : ACall Tryz.prog 21 args h R :=
  acall_of_awp mixed Tryz.func21 rfl ord21 ok21 (by kernel_rfl) hn hp
def t21 : Tab := ⟨6, c21, [.tmp 2]⟩
theorem tab21 : TabOk Tryz.prog 21 t21 := tabOk Tryz.func21 rfl ord21 ok21 (by kernel_rfl) rfl
/-- stagepost/value.number -/
def c22 : ACode :=
 .seq (.region [
  ⟨some 6, .box 25 3 (.const (.agg [(.int .u8 0), (.int .i64 0), (.str [])])), none, []⟩, 
  ⟨some 7, .mov (.const (.int .i64 0)), none, []⟩] [])
 (.seq (.region [
  ⟨some 8, .mov (.const (.int .i64 0)), none, []⟩, 
  ⟨some 9, .mov (.const (.bool true)), none, []⟩] [])
 (.seq (.seq (.region [
  ⟨some 10, .mov (.tmp 0), none, []⟩] [])
 (.block 0 (.seq (.region [
   ⟨some 32, .bin .eql (.tmp 10) (.const (.int .u8 3)), none, []⟩, 
   ⟨some 31, .mov (.tmp 32), none, []⟩] [32])
  (.cond (.tmp 31)
   (.seq (.region [
    ⟨some 33, .mov (.tmp 1), none, []⟩, 
    ⟨some 34, .mov (.tmp 2), none, []⟩, 
    ⟨some 35, .bin .add (.tmp 33) (.tmp 34), none, []⟩, 
    ⟨some 8, .mov (.tmp 35), none, []⟩] [33, 34, 35])
   (.region [
    ⟨some 36, .mov (.tmp 8), none, []⟩, 
    ⟨some 37, .mov (.tmp 1), none, []⟩, 
    ⟨some 38, .bin .gtr (.tmp 36) (.tmp 37), none, []⟩, 
    ⟨some 39, .mov (.tmp 2), none, []⟩, 
    ⟨some 40, .bin .gtr (.tmp 39) (.const (.int .i64 0)), none, []⟩, 
    ⟨some 41, .eqB false (.tmp 38) (.tmp 40), none, []⟩, 
    ⟨some 9, .mov (.tmp 41), none, []⟩] [36, 37, 38, 39, 40, 41]))
   (.seq (.seq (.region [
    ⟨some 43, .bin .eql (.tmp 10) (.const (.int .u8 4)), none, []⟩, 
    ⟨some 42, .mov (.tmp 43), none, []⟩] [43])
   (.cond (.tmp 42)
    (.skip)
    (.region [
     ⟨some 44, .bin .eql (.tmp 10) (.const (.int .u8 18)), none, []⟩, 
     ⟨some 42, .mov (.tmp 44), none, []⟩] [44])))
   (.cond (.tmp 42)
    (.seq (.region [
     ⟨some 45, .mov (.tmp 1), none, []⟩, 
     ⟨some 46, .mov (.tmp 2), none, []⟩, 
     ⟨some 47, .bin .sub (.tmp 45) (.tmp 46), none, []⟩, 
     ⟨some 8, .mov (.tmp 47), none, []⟩] [45, 46, 47])
    (.region [
     ⟨some 48, .mov (.tmp 8), none, []⟩, 
     ⟨some 49, .mov (.tmp 1), none, []⟩, 
     ⟨some 50, .bin .lss (.tmp 48) (.tmp 49), none, []⟩, 
     ⟨some 51, .mov (.tmp 2), none, []⟩, 
     ⟨some 52, .bin .gtr (.tmp 51) (.const (.int .i64 0)), none, []⟩, 
     ⟨some 53, .eqB false (.tmp 50) (.tmp 52), none, []⟩, 
     ⟨some 9, .mov (.tmp 53), none, []⟩] [48, 49, 50, 51, 52, 53]))
    (.seq (.region [
     ⟨some 55, .bin .eql (.tmp 10) (.const (.int .u8 5)), none, []⟩, 
     ⟨some 54, .mov (.tmp 55), none, []⟩] [55])
    (.cond (.tmp 54)
     (.seq (.region [
      ⟨some 56, .mov (.tmp 1), none, []⟩, 
      ⟨some 57, .mov (.tmp 2), none, []⟩, 
      ⟨some 58, .bin .mul (.tmp 56) (.tmp 57), none, []⟩, 
      ⟨some 8, .mov (.tmp 58), none, []⟩] [56, 57, 58])
     (.region [
      ⟨some 59, .mov (.tmp 1), none, []⟩, 
      ⟨some 60, .bin .eql (.tmp 59) (.const (.int .i64 0)), none, []⟩, 
      ⟨some 61, .mov (.tmp 60), none, []⟩, 
      ⟨some 62, .mov (.tmp 8), (some (61, false)), []⟩, 
      ⟨some 63, .mov (.tmp 1), (some (61, false)), []⟩, 
      ⟨some 64, .bin .quo (.tmp 62) (.tmp 63), (some (61, false)), []⟩, 
      ⟨some 65, .mov (.tmp 2), (some (61, false)), []⟩, 
      ⟨some 66, .bin .eql (.tmp 64) (.tmp 65), (some (61, false)), []⟩, 
      ⟨some 67, .mov (.tmp 66), (some (61, false)), []⟩, 
      ⟨some 68, .mov (.tmp 1), (some (67, true)), []⟩, 
      ⟨some 69, .bin .eql (.tmp 68) (.const (.int .i64 (-1))), (some (67, true)), []⟩, 
      ⟨some 70, .mov (.tmp 69), (some (67, true)), []⟩, 
      ⟨some 71, .mov (.tmp 2), (some (70, true)), []⟩, 
      ⟨some 72, .bin .eql (.tmp 71) (.const (.int .i64 (-9223372036854775808))), (some (70, true)), []⟩, 
      ⟨some 73, .pick (.tmp 70) (.tmp 72) (.const (.bool false)), (some (67, true)), []⟩, 
      ⟨some 74, .un .not (.tmp 73), (some (67, true)), []⟩, 
      ⟨some 75, .pick (.tmp 67) (.tmp 74) (.const (.bool false)), (some (61, false)), []⟩, 
      ⟨some 76, .pick (.tmp 61) (.const (.bool true)) (.tmp 75), none, []⟩, 
      ⟨some 9, .mov (.tmp 76), none, []⟩] [59, 60, 61, 62, 63, 64, 65, 66, 67, 68, 69, 70, 71, 72, 73, 74, 75, 76]))
     (.seq (.seq (.region [
      ⟨some 11, .mov (.tmp 2), none, []⟩, 
      ⟨some 12, .bin .eql (.tmp 11) (.const (.int .i64 0)), none, []⟩] [11])
     (.cond (.tmp 12)
      (.seq (.region [
       ⟨some 13, .build [(.int .u8 0), (.int .i64 0), (.str [])] [], none, []⟩, 
       ⟨none, .store 3 (.tmp 6) (.tmp 13), none, []⟩, 
       ⟨some 7, .mov (.const (.int .i64 222)), none, []⟩] [13])
      (.ret))
      (.skip)))
     (.seq (.seq (.region [
      ⟨some 14, .mov (.tmp 2), none, []⟩, 
      ⟨some 15, .bin .eql (.tmp 14) (.const (.int .i64 (-1))), none, []⟩] [14])
     (.cond (.tmp 15)
      (.seq (.seq (.region [
       ⟨some 16, .mov (.tmp 0), none, []⟩, 
       ⟨some 17, .bin .eql (.tmp 16) (.const (.int .u8 7)), none, []⟩] [16])
      (.cond (.tmp 17)
       (.seq (.region [
        ⟨some 18, .build [(.int .u8 0), (.int .i64 0), (.str [])] [(0, 1, (.const (.int .u8 2)))], none, []⟩, 
        ⟨none, .store 3 (.tmp 6) (.tmp 18), none, []⟩, 
        ⟨some 7, .mov (.const (.int .i64 0)), none, []⟩] [18])
       (.ret))
       (.skip)))
      (.seq (.region [
       ⟨some 19, .mov (.tmp 1), none, []⟩, 
       ⟨some 20, .call 22 [(.const (.int .u8 4)), (.const (.int .i64 0)), (.tmp 19)], none, []⟩, 
       ⟨some 21, .extract (.tmp 20) 0, none, []⟩, 
       ⟨some 22, .extract (.tmp 20) 1, none, []⟩, 
       ⟨none, .store 3 (.tmp 6) (.tmp 21), none, []⟩, 
       ⟨some 7, .mov (.tmp 22), none, []⟩] [19, 20, 21, 22])
      (.ret)))
      (.skip)))
     (.seq (.region [
      ⟨some 23, .mov (.tmp 1), none, []⟩, 
      ⟨some 24, .mov (.tmp 2), none, []⟩, 
      ⟨some 25, .bin .quo (.tmp 23) (.tmp 24), none, []⟩, 
      ⟨some 8, .mov (.tmp 25), none, []⟩] [23, 24, 25])
     (.seq (.region [
      ⟨some 26, .mov (.tmp 0), none, []⟩, 
      ⟨some 27, .bin .eql (.tmp 26) (.const (.int .u8 7)), none, []⟩] [26])
     (.cond (.tmp 27)
      (.region [
       ⟨some 28, .mov (.tmp 1), none, []⟩, 
       ⟨some 29, .mov (.tmp 2), none, []⟩, 
       ⟨some 30, .bin .rem (.tmp 28) (.tmp 29), none, []⟩, 
       ⟨some 8, .mov (.tmp 30), none, []⟩] [28, 29, 30])
      (.skip))))))))))))))
 (.seq (.seq (.region [
  ⟨some 77, .mov (.tmp 9), none, []⟩, 
  ⟨some 78, .un .not (.tmp 77), none, []⟩] [77])
 (.cond (.tmp 78)
  (.seq (.region [
   ⟨some 79, .build [(.int .u8 0), (.int .i64 0), (.str [])] [], none, []⟩, 
   ⟨none, .store 3 (.tmp 6) (.tmp 79), none, []⟩, 
   ⟨some 7, .mov (.const (.int .i64 221)), none, []⟩] [79])
  (.ret))
  (.skip)))
 (.seq (.region [
  ⟨some 80, .mov (.tmp 8), none, []⟩, 
  ⟨some 81, .build [(.int .u8 0), (.int .i64 0), (.str [])] [(0, 1, (.const (.int .u8 2))), (1, 1, (.tmp 80))], none, []⟩, 
  ⟨none, .store 3 (.tmp 6) (.tmp 81), none, []⟩, 
  ⟨some 7, .mov (.const (.int .i64 0)), none, []⟩] [80, 81])
 (.ret)))))
theorem ok22 : erase c22 = cCode Tryz.prog 82 ((Tryz.f22).body.getD .skip) := by kernel_rfl
theorem ord22 : ordsOk c22 = true := by kernel_rfl
theorem call22 {args : List SV} {h : Heap} {R : AEnd → Heap → Prop} (hn : Nat.ble args.length 82 = true) (hp : awp Tryz.prog c22 (finQ [.cellA 6 3, .tmp 7] R) (argEnv 0 args) h) : ACall Tryz.prog 22 args h R :=
  acall_of_awp mixed Tryz.func22 rfl ord22 ok22 (by kernel_rfl) hn hp
def t22 : Tab := ⟨82, c22, [.cellA 6 3, .tmp 7]⟩
theorem tab22 : TabOk Tryz.prog 22 t22 := tabOk Tryz.func22 rfl ord22 ok22 (by kernel_rfl) rfl
/-- stagepost/value.holds -/
def c23 : ACode :=
 .seq (.region [
  ⟨some 4, .mov (.const (.bool false)), none, []⟩] [])
 (.seq (.seq (.region [
  ⟨some 5, .mov (.tmp 0), none, []⟩] [])
 (.block 0 (.seq (.region [
   ⟨some 7, .bin .eql (.tmp 5) (.const (.int .u8 9)), none, []⟩, 
   ⟨some 6, .mov (.tmp 7), none, []⟩] [7])
  (.cond (.tmp 6)
   (.seq (.region [
    ⟨some 8, .mov (.tmp 1), none, []⟩, 
    ⟨some 9, .bin .eql (.tmp 8) (.const (.int .i64 0)), none, []⟩, 
    ⟨some 4, .mov (.tmp 9), none, []⟩] [8, 9])
   (.ret))
   (.seq (.region [
    ⟨some 11, .bin .eql (.tmp 5) (.const (.int .u8 10)), none, []⟩, 
    ⟨some 10, .mov (.tmp 11), none, []⟩] [11])
   (.cond (.tmp 10)
    (.seq (.region [
     ⟨some 12, .mov (.tmp 1), none, []⟩, 
     ⟨some 13, .bin .neq (.tmp 12) (.const (.int .i64 0)), none, []⟩, 
     ⟨some 4, .mov (.tmp 13), none, []⟩] [12, 13])
    (.ret))
    (.seq (.region [
     ⟨some 15, .bin .eql (.tmp 5) (.const (.int .u8 11)), none, []⟩, 
     ⟨some 14, .mov (.tmp 15), none, []⟩] [15])
    (.cond (.tmp 14)
     (.seq (.region [
      ⟨some 16, .mov (.tmp 1), none, []⟩, 
      ⟨some 17, .bin .lss (.tmp 16) (.const (.int .i64 0)), none, []⟩, 
      ⟨some 4, .mov (.tmp 17), none, []⟩] [16, 17])
     (.ret))
     (.seq (.region [
      ⟨some 19, .bin .eql (.tmp 5) (.const (.int .u8 12)), none, []⟩, 
      ⟨some 18, .mov (.tmp 19), none, []⟩] [19])
     (.cond (.tmp 18)
      (.seq (.region [
       ⟨some 20, .mov (.tmp 1), none, []⟩, 
       ⟨some 21, .bin .leq (.tmp 20) (.const (.int .i64 0)), none, []⟩, 
       ⟨some 4, .mov (.tmp 21), none, []⟩] [20, 21])
      (.ret))
      (.seq (.region [
       ⟨some 23, .bin .eql (.tmp 5) (.const (.int .u8 13)), none, []⟩, 
       ⟨some 22, .mov (.tmp 23), none, []⟩] [23])
      (.cond (.tmp 22)
       (.seq (.region [
        ⟨some 24, .mov (.tmp 1), none, []⟩, 
        ⟨some 25, .bin .gtr (.tmp 24) (.const (.int .i64 0)), none, []⟩, 
        ⟨some 4, .mov (.tmp 25), none, []⟩] [24, 25])
       (.ret))
       (.skip)))))))))))))
 (.seq (.region [
  ⟨some 26, .mov (.tmp 1), none, []⟩, 
  ⟨some 27, .bin .geq (.tmp 26) (.const (.int .i64 0)), none, []⟩, 
  ⟨some 4, .mov (.tmp 27), none, []⟩] [26, 27])
 (.ret)))
theorem ok23 : erase c23 = cCode Tryz.prog 28 ((Tryz.f23).body.getD .skip) := by kernel_rfl
theorem ord23 : ordsOk c23 = true := by kernel_rfl
theorem call23 {args : List SV} {h : Heap} {R : AEnd → Heap → Prop} (hn : Nat.ble args.length 28 = true) (hp : awp Tryz.prog c23 (finQ [.tmp 4] R) (argEnv 0 args) h) : ACall Tryz.prog 23 args h R :=
  acall_of_awp mixed Tryz.func23 rfl ord23 ok23 (by kernel_rfl) hn hp
def t23 : Tab := ⟨28, c23, [.tmp 4]⟩
theorem tab23 : TabOk Tryz.prog 23 t23 := tabOk Tryz.func23 rfl ord23 ok23 (by kernel_rfl) rfl
def c24r4 : List AOper := (
 ⟨some 15, .mov (.tmp 0), none, []⟩ :: 
 ⟨some 16, .mov (.tmp 5), none, []⟩ :: 
 ⟨some 17, .indexAddr 3 (.tmp 15) (.tmp 16), none, [0, 1]⟩ :: 
 ⟨some 18, .fieldAddr 0 (.tmp 17), none, [2]⟩ :: 
 ⟨some 19, .loadS (.tmp 18), none, [3]⟩ :: 
 ⟨some 20, .mov (.tmp 1), none, []⟩ :: 
 ⟨some 21, .mov (.tmp 5), none, []⟩ :: 
 ⟨some 22, .indexAddr 3 (.tmp 20) (.tmp 21), none, [5, 6]⟩ :: 
 ⟨some 23, .fieldAddr 0 (.tmp 22), none, [7]⟩ :: 
 ⟨some 24, .loadS (.tmp 23), none, [8]⟩ :: 
 ⟨some 25, .call 43 [(.tmp 19), (.tmp 24)], none, [4, 9]⟩ :: 
 ⟨some 26, .mov (.tmp 0), none, []⟩ :: 
 ⟨some 27, .mov (.tmp 5), none, []⟩ :: 
 ⟨some 28, .indexAddr 3 (.tmp 26) (.tmp 27), none, [11, 12]⟩ :: 
 ⟨some 29, .fieldAddr 1 (.tmp 28), none, [13]⟩ :: 
 ⟨some 30, .loadS (.tmp 29), none, [14]⟩ :: 
 ⟨some 31, .mov (.tmp 1), none, []⟩ :: 
 ⟨some 32, .mov (.tmp 5), none, []⟩ :: 
 ⟨some 33, .indexAddr 3 (.tmp 31) (.tmp 32), none, [16, 17]⟩ :: 
 ⟨some 34, .fieldAddr 1 (.tmp 33), none, [18]⟩ :: 
 ⟨some 35, .loadS (.tmp 34), none, [19]⟩ :: 
 ⟨some 36, .call 44 [(.tmp 30), (.tmp 35)], none, [15, 20, 10]⟩ :: 
 ⟨some 37, .mov (.tmp 0), none, []⟩ :: 
 ⟨some 38, .mov (.tmp 5), none, []⟩ :: 
 ⟨some 39, .indexAddr 3 (.tmp 37) (.tmp 38), none, [22, 23]⟩ :: 
 ⟨some 40, .fieldAddr 2 (.tmp 39), none, [24]⟩ :: 
 ⟨some 41, .loadS (.tmp 40), none, [25]⟩ :: 
 ⟨some 42, .mov (.tmp 1), none, []⟩ :: 
 ⟨some 43, .mov (.tmp 5), none, []⟩ :: 
 ⟨some 44, .indexAddr 3 (.tmp 42) (.tmp 43), none, [27, 28]⟩ :: 
 ⟨some 45, .fieldAddr 2 (.tmp 44), none, [29]⟩ :: 
 ⟨some 46, .loadS (.tmp 45), none, [30]⟩ :: 
 ⟨some 47, .call 45 [(.tmp 41), (.tmp 46)], none, [26, 31, 21]⟩ :: 
 ⟨some 48, .buildSlice 3 1 (.int .i64 0) 3 [(0, (.tmp 25)), (1, (.tmp 36)), (2, (.tmp 47))], none, [10, 21, 32]⟩ :: 
 ⟨some 49, .call 42 [(.tmp 48)], none, [33, 32]⟩ :: 
 ⟨some 6, .mov (.tmp 49), none, (34 :: 34 :: 0 :: 1 :: 2 :: 3 :: 4 :: 5 :: 6 :: 7 :: 8 :: 9 :: 10 :: 11 :: 12 :: 13 :: 14 :: 15 :: 16 :: 17 :: 18 :: 19 :: 20 :: 21 :: 22 :: 23 :: 24 :: 25 :: 26 :: 27 :: 28 :: 29 :: 30 :: 31 :: 32 :: 33 :: 34 :: [])⟩ :: [])
/-- stagepost/enc.Compare -/
def c24 : ACode :=
 .seq (.region [
  ⟨some 4, .mov (.const (.int .i64 0)), none, []⟩] [])
 (.seq (.seq (.region [
  ⟨some 7, .mov (.tmp 0), none, []⟩, 
  ⟨some 8, .len false (.tmp 7), none, []⟩, 
  ⟨some 9, .mov (.tmp 1), none, []⟩, 
  ⟨some 10, .len false (.tmp 9), none, []⟩, 
  ⟨some 11, .mm false (.tmp 8) (.tmp 10), none, []⟩, 
  ⟨some 12, .mov (.const (.int .i64 0)), none, []⟩] [7, 8, 9, 10])
 (.block 0 (.loop (.seq (.region [
    ⟨some 13, .bin .lss (.tmp 12) (.tmp 11), none, []⟩] [])
   (.seq (.cond (.tmp 13)
    (.skip)
    (.exit 0))
   (.seq (.block 1 (.seq (.region [
     ⟨some 14, .mov (.tmp 12), none, []⟩, 
     ⟨some 5, .mov (.tmp 14), none, []⟩] [14])
    (.seq (.dregion c24r4 ((0, false, []) :: (1, false, []) :: (2, false, []) :: (3, false, []) :: (4, false, []) :: (5, false, []) :: (6, false, []) :: (7, false, []) :: (8, false, []) :: (9, false, []) :: (11, false, []) :: (12, false, []) :: (13, false, []) :: (14, false, []) :: (15, false, []) :: (16, false, []) :: (17, false, []) :: (18, false, []) :: (19, false, []) :: (20, false, []) :: (22, false, []) :: (23, false, []) :: (24, false, []) :: (25, false, []) :: (26, false, []) :: (27, false, []) :: (28, false, []) :: (29, false, []) :: (30, false, []) :: (31, false, []) :: (10, true, [13, 14, 15, 18, 19, 20, 24, 25, 26, 29, 30, 31]) :: (21, true, [24, 25, 26, 29, 30, 31]) :: (32, true, []) :: (33, true, []) :: (34, true, []) :: (35, false, []) :: []) (15 :: 16 :: 17 :: 18 :: 19 :: 20 :: 21 :: 22 :: 23 :: 24 :: 25 :: 26 :: 27 :: 28 :: 29 :: 30 :: 31 :: 32 :: 33 :: 34 :: 35 :: 36 :: 37 :: 38 :: 39 :: 40 :: 41 :: 42 :: 43 :: 44 :: 45 :: 46 :: 47 :: 48 :: 49 :: []))
    (.seq (.region [
     ⟨some 50, .mov (.tmp 6), none, []⟩, 
     ⟨some 51, .bin .neq (.tmp 50) (.const (.int .i64 0)), none, []⟩] [50])
    (.cond (.tmp 51)
     (.seq (.region [
      ⟨some 52, .mov (.tmp 6), none, []⟩, 
      ⟨some 4, .mov (.tmp 52), none, []⟩] [52])
     (.ret))
     (.skip))))))
   (.region [
    ⟨some 53, .bin .add (.tmp 12) (.const (.int .i64 1)), none, []⟩, 
    ⟨some 12, .mov (.tmp 53), none, []⟩] [53])))))))
 (.seq (.region [
  ⟨some 54, .mov (.tmp 0), none, []⟩, 
  ⟨some 55, .len false (.tmp 54), none, []⟩, 
  ⟨some 56, .mov (.tmp 1), none, []⟩, 
  ⟨some 57, .len false (.tmp 56), none, []⟩, 
  ⟨some 58, .call 46 [(.tmp 55), (.tmp 57)], none, []⟩, 
  ⟨some 4, .mov (.tmp 58), none, []⟩] [54, 55, 56, 57, 58])
 (.ret)))
theorem ok24 : erase c24 = cCode Tryz.prog 59 ((Tryz.f24).body.getD .skip) := by kernel_rfl
theorem ord24 : ordsOk c24 = true := by kernel_rfl
theorem call24 {args : List SV} {h : Heap} {R : AEnd → Heap → Prop} (hn : Nat.ble args.length 59 = true) (hp : awp Tryz.prog c24 (finQ [.tmp 4] R) (argEnv 0 args) h) : ACall Tryz.prog 24 args h R :=
  acall_of_awp mixed Tryz.func24 rfl ord24 ok24 (by kernel_rfl) hn hp
def t24 : Tab := ⟨59, c24, [.tmp 4]⟩
theorem tab24 : TabOk Tryz.prog 24 t24 := tabOk Tryz.func24 rfl ord24 ok24 (by kernel_rfl) rfl
theorem ok41 : erase c41 = cCode Tryz.prog 20 ((Tryz.f41).body.getD .skip) := by kernel_rfl
theorem ord41 : ordsOk c41 = true := by kernel_rfl
theorem call41 {args : List SV} {h : Heap} {R : AEnd → Heap → Prop} (hn : Nat.ble args.length 20 = true) (hp : awp Tryz.prog c41 (finQ [.tmp 3] R) (argEnv 0 args) h) : ACall Tryz.prog 41 args h R :=
  acall_of_awp mixed Tryz.func41 rfl ord41 ok41 (by kernel_rfl) hn hp
/-- cmp.Or[int] -/
def c42 : ACode :=
 .seq (.region [
  ⟨some 2, .mov (.const (.int .i64 0)), none, []⟩] [])
 (.seq (.region [
  ⟨some 3, .mov (.const (.int .i64 0)), none, []⟩] [])
 (.seq (.seq (.region [
  ⟨some 6, .mov (.tmp 0), none, []⟩, 
  ⟨some 7, .len false (.tmp 6), none, []⟩, 
  ⟨some 8, .mov (.const (.int .i64 0)), none, []⟩] [])
 (.block 0 (.loop (.seq (.region [
    ⟨some 9, .bin .lss (.tmp 8) (.tmp 7), none, []⟩] [])
   (.seq (.cond (.tmp 9)
    (.skip)
    (.exit 0))
   (.seq (.block 1 (.seq (.region [
     ⟨some 10, .indexAddr 1 (.tmp 6) (.tmp 8), none, []⟩, 
     ⟨some 11, .loadS (.tmp 10), none, []⟩, 
     ⟨some 5, .mov (.tmp 11), none, []⟩] [10, 11])
    (.seq (.region [
     ⟨some 12, .mov (.tmp 5), none, []⟩, 
     ⟨some 13, .mov (.tmp 3), none, []⟩, 
     ⟨some 14, .bin .neq (.tmp 12) (.tmp 13), none, []⟩] [12, 13])
    (.cond (.tmp 14)
     (.seq (.region [
      ⟨some 15, .mov (.tmp 5), none, []⟩, 
      ⟨some 2, .mov (.tmp 15), none, []⟩] [15])
     (.ret))
     (.skip)))))
   (.region [
    ⟨some 16, .bin .add (.tmp 8) (.const (.int .i64 1)), none, []⟩, 
    ⟨some 8, .mov (.tmp 16), none, []⟩] [16])))))))
 (.seq (.region [
  ⟨some 17, .mov (.tmp 3), none, []⟩, 
  ⟨some 2, .mov (.tmp 17), none, []⟩] [17])
 (.ret))))
theorem ok42 : erase c42 = cCode Tryz.prog 18 ((Tryz.f42).body.getD .skip) := by kernel_rfl
theorem ord42 : ordsOk c42 = true := by kernel_rfl
theorem call42 {args : List SV} {h : Heap} {R : AEnd → Heap → Prop} (hn : Nat.ble args.length 18 = true) (hp : awp Tryz.prog c42 (finQ [.tmp 2] R) (argEnv 0 args) h) : ACall Tryz.prog 42 args h R :=
  acall_of_awp mixed Tryz.func42 rfl ord42 ok42 (by kernel_rfl) hn hp
def t42 : Tab := ⟨18, c42, [.tmp 2]⟩
theorem tab42 : TabOk Tryz.prog 42 t42 := tabOk Tryz.func42 rfl ord42 ok42 (by kernel_rfl) rfl
/-- cmp.Compare[stagepost/api.Kind] -/
def c43 : ACode :=
 .seq (.region [
  ⟨some 4, .mov (.const (.int .i64 0)), none, []⟩] [])
 (.seq (.region [
  ⟨some 7, .mov (.tmp 0), none, []⟩, 
  ⟨some 8, .call 71 [(.tmp 7)], none, []⟩, 
  ⟨some 5, .mov (.tmp 8), none, []⟩] [7, 8])
 (.seq (.region [
  ⟨some 9, .mov (.tmp 1), none, []⟩, 
  ⟨some 10, .call 71 [(.tmp 9)], none, []⟩, 
  ⟨some 6, .mov (.tmp 10), none, []⟩] [9, 10])
 (.seq (.seq (.region [
  ⟨some 11, .mov (.tmp 5), none, []⟩] [])
 (.cond (.tmp 11)
  (.seq (.seq (.region [
   ⟨some 12, .mov (.tmp 6), none, []⟩] [])
  (.cond (.tmp 12)
   (.seq (.region [
    ⟨some 4, .mov (.const (.int .i64 0)), none, []⟩] [])
   (.ret))
   (.skip)))
  (.seq (.region [
   ⟨some 4, .mov (.const (.int .i64 (-1))), none, []⟩] [])
  (.ret)))
  (.skip)))
 (.seq (.seq (.region [
  ⟨some 13, .mov (.tmp 6), none, []⟩] [])
 (.cond (.tmp 13)
  (.seq (.region [
   ⟨some 4, .mov (.const (.int .i64 1)), none, []⟩] [])
  (.ret))
  (.skip)))
 (.seq (.seq (.region [
  ⟨some 14, .mov (.tmp 0), none, []⟩, 
  ⟨some 15, .mov (.tmp 1), none, []⟩, 
  ⟨some 16, .bin .lss (.tmp 14) (.tmp 15), none, []⟩] [14, 15])
 (.cond (.tmp 16)
  (.seq (.region [
   ⟨some 4, .mov (.const (.int .i64 (-1))), none, []⟩] [])
  (.ret))
  (.skip)))
 (.seq (.seq (.region [
  ⟨some 17, .mov (.tmp 0), none, []⟩, 
  ⟨some 18, .mov (.tmp 1), none, []⟩, 
  ⟨some 19, .bin .gtr (.tmp 17) (.tmp 18), none, []⟩] [17, 18])
 (.cond (.tmp 19)
  (.seq (.region [
   ⟨some 4, .mov (.const (.int .i64 1)), none, []⟩] [])
  (.ret))
  (.skip)))
 (.seq (.region [
  ⟨some 4, .mov (.const (.int .i64 0)), none, []⟩] [])
 (.ret))))))))
theorem ok43 : erase c43 = cCode Tryz.prog 20 ((Tryz.f43).body.getD .skip) := by kernel_rfl
theorem ord43 : ordsOk c43 = true := by kernel_rfl
theorem call43 {args : List SV} {h : Heap} {R : AEnd → Heap → Prop} (hn : Nat.ble args.length 20 = true) (hp : awp Tryz.prog c43 (finQ [.tmp 4] R) (argEnv 0 args) h) : ACall Tryz.prog 43 args h R :=
  acall_of_awp mixed Tryz.func43 rfl ord43 ok43 (by kernel_rfl) hn hp
def t43 : Tab := ⟨20, c43, [.tmp 4]⟩
theorem tab43 : TabOk Tryz.prog 43 t43 := tabOk Tryz.func43 rfl ord43 ok43 (by kernel_rfl) rfl
/-- cmp.Compare[int64] -/
def c44 : ACode :=
 .seq (.region [
  ⟨some 4, .mov (.const (.int .i64 0)), none, []⟩] [])
 (.seq (.region [
  ⟨some 7, .mov (.tmp 0), none, []⟩, 
  ⟨some 8, .call 72 [(.tmp 7)], none, []⟩, 
  ⟨some 5, .mov (.tmp 8), none, []⟩] [7, 8])
 (.seq (.region [
  ⟨some 9, .mov (.tmp 1), none, []⟩, 
  ⟨some 10, .call 72 [(.tmp 9)], none, []⟩, 
  ⟨some 6, .mov (.tmp 10), none, []⟩] [9, 10])
 (.seq (.seq (.region [
  ⟨some 11, .mov (.tmp 5), none, []⟩] [])
 (.cond (.tmp 11)
  (.seq (.seq (.region [
   ⟨some 12, .mov (.tmp 6), none, []⟩] [])
  (.cond (.tmp 12)
   (.seq (.region [
    ⟨some 4, .mov (.const (.int .i64 0)), none, []⟩] [])
   (.ret))
   (.skip)))
  (.seq (.region [
   ⟨some 4, .mov (.const (.int .i64 (-1))), none, []⟩] [])
  (.ret)))
  (.skip)))
 (.seq (.seq (.region [
  ⟨some 13, .mov (.tmp 6), none, []⟩] [])
 (.cond (.tmp 13)
  (.seq (.region [
   ⟨some 4, .mov (.const (.int .i64 1)), none, []⟩] [])
  (.ret))
  (.skip)))
 (.seq (.seq (.region [
  ⟨some 14, .mov (.tmp 0), none, []⟩, 
  ⟨some 15, .mov (.tmp 1), none, []⟩, 
  ⟨some 16, .bin .lss (.tmp 14) (.tmp 15), none, []⟩] [14, 15])
 (.cond (.tmp 16)
  (.seq (.region [
   ⟨some 4, .mov (.const (.int .i64 (-1))), none, []⟩] [])
  (.ret))
  (.skip)))
 (.seq (.seq (.region [
  ⟨some 17, .mov (.tmp 0), none, []⟩, 
  ⟨some 18, .mov (.tmp 1), none, []⟩, 
  ⟨some 19, .bin .gtr (.tmp 17) (.tmp 18), none, []⟩] [17, 18])
 (.cond (.tmp 19)
  (.seq (.region [
   ⟨some 4, .mov (.const (.int .i64 1)), none, []⟩] [])
  (.ret))
  (.skip)))
 (.seq (.region [
  ⟨some 4, .mov (.const (.int .i64 0)), none, []⟩] [])
 (.ret))))))))
theorem ok44 : erase c44 = cCode Tryz.prog 20 ((Tryz.f44).body.getD .skip) := by kernel_rfl
theorem ord44 : ordsOk c44 = true := by kernel_rfl
theorem call44 {args : List SV} {h : Heap} {R : AEnd → Heap → Prop} (hn : Nat.ble args.length 20 = true) (hp : awp Tryz.prog c44 (finQ [.tmp 4] R) (argEnv 0 args) h) : ACall Tryz.prog 44 args h R :=
  acall_of_awp mixed Tryz.func44 rfl ord44 ok44 (by kernel_rfl) hn hp
def t44 : Tab := ⟨20, c44, [.tmp 4]⟩
theorem tab44 : TabOk Tryz.prog 44 t44 := tabOk Tryz.func44 rfl ord44 ok44 (by kernel_rfl) rfl
/-- cmp.Compare[string] -/
def c45 : ACode :=
 .seq (.region [
  ⟨some 4, .mov (.const (.int .i64 0)), none, []⟩] [])
 (.seq (.region [
  ⟨some 7, .mov (.tmp 0), none, []⟩, 
  ⟨some 8, .call 73 [(.tmp 7)], none, []⟩, 
  ⟨some 5, .mov (.tmp 8), none, []⟩] [7, 8])
 (.seq (.region [
  ⟨some 9, .mov (.tmp 1), none, []⟩, 
  ⟨some 10, .call 73 [(.tmp 9)], none, []⟩, 
  ⟨some 6, .mov (.tmp 10), none, []⟩] [9, 10])
 (.seq (.seq (.region [
  ⟨some 11, .mov (.tmp 5), none, []⟩] [])
 (.cond (.tmp 11)
  (.seq (.seq (.region [
   ⟨some 12, .mov (.tmp 6), none, []⟩] [])
  (.cond (.tmp 12)
   (.seq (.region [
    ⟨some 4, .mov (.const (.int .i64 0)), none, []⟩] [])
   (.ret))
   (.skip)))
  (.seq (.region [
   ⟨some 4, .mov (.const (.int .i64 (-1))), none, []⟩] [])
  (.ret)))
  (.skip)))
 (.seq (.seq (.region [
  ⟨some 13, .mov (.tmp 6), none, []⟩] [])
 (.cond (.tmp 13)
  (.seq (.region [
   ⟨some 4, .mov (.const (.int .i64 1)), none, []⟩] [])
  (.ret))
  (.skip)))
 (.seq (.seq (.region [
  ⟨some 14, .mov (.tmp 0), none, []⟩, 
  ⟨some 15, .mov (.tmp 1), none, []⟩, 
  ⟨some 16, .bin .lss (.tmp 14) (.tmp 15), none, []⟩] [14, 15])
 (.cond (.tmp 16)
  (.seq (.region [
   ⟨some 4, .mov (.const (.int .i64 (-1))), none, []⟩] [])
  (.ret))
  (.skip)))
 (.seq (.seq (.region [
  ⟨some 17, .mov (.tmp 0), none, []⟩, 
  ⟨some 18, .mov (.tmp 1), none, []⟩, 
  ⟨some 19, .bin .gtr (.tmp 17) (.tmp 18), none, []⟩] [17, 18])
 (.cond (.tmp 19)
  (.seq (.region [
   ⟨some 4, .mov (.const (.int .i64 1)), none, []⟩] [])
  (.ret))
  (.skip)))
 (.seq (.region [
  ⟨some 4, .mov (.const (.int .i64 0)), none, []⟩] [])
 (.ret))))))))
theorem ok45 : erase c45 = cCode Tryz.prog 20 ((Tryz.f45).body.getD .skip) := by kernel_rfl
theorem ord45 : ordsOk c45 = true := by kernel_rfl
theorem call45 {args : List SV} {h : Heap} {R : AEnd → Heap → Prop} (hn : Nat.ble args.length 20 = true) (hp : awp Tryz.prog c45 (finQ [.tmp 4] R) (argEnv 0 args) h) : ACall Tryz.prog 45 args h R :=
  acall_of_awp mixed Tryz.func45 rfl ord45 ok45 (by kernel_rfl) hn hp
def t45 : Tab := ⟨20, c45, [.tmp 4]⟩
theorem tab45 : TabOk Tryz.prog 45 t45 := tabOk Tryz.func45 rfl ord45 ok45 (by kernel_rfl) rfl
/-- cmp.Compare[int] -/
def c46 : ACode :=
 .seq (.region [
  ⟨some 4, .mov (.const (.int .i64 0)), none, []⟩] [])
 (.seq (.region [
  ⟨some 7, .mov (.tmp 0), none, []⟩, 
  ⟨some 8, .call 74 [(.tmp 7)], none, []⟩, 
  ⟨some 5, .mov (.tmp 8), none, []⟩] [7, 8])
 (.seq (.region [
  ⟨some 9, .mov (.tmp 1), none, []⟩, 
  ⟨some 10, .call 74 [(.tmp 9)], none, []⟩, 
  ⟨some 6, .mov (.tmp 10), none, []⟩] [9, 10])
 (.seq (.seq (.region [
  ⟨some 11, .mov (.tmp 5), none, []⟩] [])
 (.cond (.tmp 11)
  (.seq (.seq (.region [
   ⟨some 12, .mov (.tmp 6), none, []⟩] [])
  (.cond (.tmp 12)
   (.seq (.region [
    ⟨some 4, .mov (.const (.int .i64 0)), none, []⟩] [])
   (.ret))
   (.skip)))
  (.seq (.region [
   ⟨some 4, .mov (.const (.int .i64 (-1))), none, []⟩] [])
  (.ret)))
  (.skip)))
 (.seq (.seq (.region [
  ⟨some 13, .mov (.tmp 6), none, []⟩] [])
 (.cond (.tmp 13)
  (.seq (.region [
   ⟨some 4, .mov (.const (.int .i64 1)), none, []⟩] [])
  (.ret))
  (.skip)))
 (.seq (.seq (.region [
  ⟨some 14, .mov (.tmp 0), none, []⟩, 
  ⟨some 15, .mov (.tmp 1), none, []⟩, 
  ⟨some 16, .bin .lss (.tmp 14) (.tmp 15), none, []⟩] [14, 15])
 (.cond (.tmp 16)
  (.seq (.region [
   ⟨some 4, .mov (.const (.int .i64 (-1))), none, []⟩] [])
  (.ret))
  (.skip)))
 (.seq (.seq (.region [
  ⟨some 17, .mov (.tmp 0), none, []⟩, 
  ⟨some 18, .mov (.tmp 1), none, []⟩, 
  ⟨some 19, .bin .gtr (.tmp 17) (.tmp 18), none, []⟩] [17, 18])
 (.cond (.tmp 19)
  (.seq (.region [
   ⟨some 4, .mov (.const (.int .i64 1)), none, []⟩] [])
  (.ret))
  (.skip)))
 (.seq (.region [
  ⟨some 4, .mov (.const (.int .i64 0)), none, []⟩] [])
 (.ret))))))))
theorem ok46 : erase c46 = cCode Tryz.prog 20 ((Tryz.f46).body.getD .skip) := by kernel_rfl
theorem ord46 : ordsOk c46 = true := by kernel_rfl
theorem call46 {args : List SV} {h : Heap} {R : AEnd → Heap → Prop} (hn : Nat.ble args.length 20 = true) (hp : awp Tryz.prog c46 (finQ [.tmp 4] R) (argEnv 0 args) h) : ACall Tryz.prog 46 args h R :=
  acall_of_awp mixed Tryz.func46 rfl ord46 ok46 (by kernel_rfl) hn hp
def t46 : Tab := ⟨20, c46, [.tmp 4]⟩
theorem tab46 : TabOk Tryz.prog 46 t46 := tabOk Tryz.func46 rfl ord46 ok46 (by kernel_rfl) rfl
/-- cmp.isNaN[stagepost/api.Kind] -/
def c71 : ACode :=
 .seq (.region [
  ⟨some 2, .mov (.const (.bool false)), none, []⟩] [])
 (.seq (.region [
  ⟨some 3, .mov (.tmp 0), none, []⟩, 
  ⟨some 4, .mov (.tmp 0), none, []⟩, 
  ⟨some 5, .bin .neq (.tmp 3) (.tmp 4), none, []⟩, 
  ⟨some 2, .mov (.tmp 5), none, []⟩] [3, 4, 5])
 (.ret))
theorem ok71 : erase c71 = cCode Tryz.prog 6 ((Tryz.f71).body.getD .skip) := by kernel_rfl
theorem ord71 : ordsOk c71 = true := by kernel_rfl
theorem call71 {args : List SV} {h : Heap} {R : AEnd → Heap → Prop} (hn : Nat.ble args.length 6 = true) (hp : awp Tryz.prog c71 (finQ [.tmp 2] R) (argEnv 0 args) h) : ACall Tryz.prog 71 args h R :=
  acall_of_awp mixed Tryz.func71 rfl ord71 ok71 (by kernel_rfl) hn hp
def t71 : Tab := ⟨6, c71, [.tmp 2]⟩
theorem tab71 : TabOk Tryz.prog 71 t71 := tabOk Tryz.func71 rfl ord71 ok71 (by kernel_rfl) rfl
/-- cmp.isNaN[int64] -/
def c72 : ACode :=
 .seq (.region [
  ⟨some 2, .mov (.const (.bool false)), none, []⟩] [])
 (.seq (.region [
  ⟨some 3, .mov (.tmp 0), none, []⟩, 
  ⟨some 4, .mov (.tmp 0), none, []⟩, 
  ⟨some 5, .bin .neq (.tmp 3) (.tmp 4), none, []⟩, 
  ⟨some 2, .mov (.tmp 5), none, []⟩] [3, 4, 5])
 (.ret))
theorem ok72 : erase c72 = cCode Tryz.prog 6 ((Tryz.f72).body.getD .skip) := by kernel_rfl
theorem ord72 : ordsOk c72 = true := by kernel_rfl
theorem call72 {args : List SV} {h : Heap} {R : AEnd → Heap → Prop} (hn : Nat.ble args.length 6 = true) (hp : awp Tryz.prog c72 (finQ [.tmp 2] R) (argEnv 0 args) h) : ACall Tryz.prog 72 args h R :=
  acall_of_awp mixed Tryz.func72 rfl ord72 ok72 (by kernel_rfl) hn hp
def t72 : Tab := ⟨6, c72, [.tmp 2]⟩
theorem tab72 : TabOk Tryz.prog 72 t72 := tabOk Tryz.func72 rfl ord72 ok72 (by kernel_rfl) rfl
/-- cmp.isNaN[string] -/
def c73 : ACode :=
 .seq (.region [
  ⟨some 2, .mov (.const (.bool false)), none, []⟩] [])
 (.seq (.region [
  ⟨some 3, .mov (.tmp 0), none, []⟩, 
  ⟨some 4, .mov (.tmp 0), none, []⟩, 
  ⟨some 5, .bin .neq (.tmp 3) (.tmp 4), none, []⟩, 
  ⟨some 2, .mov (.tmp 5), none, []⟩] [3, 4, 5])
 (.ret))
theorem ok73 : erase c73 = cCode Tryz.prog 6 ((Tryz.f73).body.getD .skip) := by kernel_rfl
theorem ord73 : ordsOk c73 = true := by kernel_rfl
theorem call73 {args : List SV} {h : Heap} {R : AEnd → Heap → Prop} (hn : Nat.ble args.length 6 = true) (hp : awp Tryz.prog c73 (finQ [.tmp 2] R) (argEnv 0 args) h) : ACall Tryz.prog 73 args h R :=
  acall_of_awp mixed Tryz.func73 rfl ord73 ok73 (by kernel_rfl) hn hp
def t73 : Tab := ⟨6, c73, [.tmp 2]⟩
theorem tab73 : TabOk Tryz.prog 73 t73 := tabOk Tryz.func73 rfl ord73 ok73 (by kernel_rfl) rfl
/-- cmp.isNaN[int] -/
def c74 : ACode :=
 .seq (.region [
  ⟨some 2, .mov (.const (.bool false)), none, []⟩] [])
 (.seq (.region [
  ⟨some 3, .mov (.tmp 0), none, []⟩, 
  ⟨some 4, .mov (.tmp 0), none, []⟩, 
  ⟨some 5, .bin .neq (.tmp 3) (.tmp 4), none, []⟩, 
  ⟨some 2, .mov (.tmp 5), none, []⟩] [3, 4, 5])
 (.ret))
theorem ok74 : erase c74 = cCode Tryz.prog 6 ((Tryz.f74).body.getD .skip) := by kernel_rfl
theorem ord74 : ordsOk c74 = true := by kernel_rfl
theorem call74 {args : List SV} {h : Heap} {R : AEnd → Heap → Prop} (hn : Nat.ble args.length 6 = true) (hp : awp Tryz.prog c74 (finQ [.tmp 2] R) (argEnv 0 args) h) : ACall Tryz.prog 74 args h R :=
  acall_of_awp mixed Tryz.func74 rfl ord74 ok74 (by kernel_rfl) hn hp
def t74 : Tab := ⟨6, c74, [.tmp 2]⟩
theorem tab74 : TabOk Tryz.prog 74 t74 := tabOk Tryz.func74 rfl ord74 ok74 (by kernel_rfl) rfl
end Go.Proofs.YtaficpgadjemcaaGreatDoor
namespace Go.Proofs.YtaficpgadjemcaaGreatDoor
open Go.RowKit


structure V where
  k : Int
  n : Int
  t : List UInt8



def vnull : V := ⟨0, 0, []⟩
def vint (n : Int) : V := ⟨2, n, []⟩
def vbool (b : Bool) : V := ⟨1, if b then 1 else 0, []⟩

def cmpI (a b : Int) : Int := if a < b then -1 else if b < a then 1 else 0
def cmpS (a b : List UInt8) : Int := if Op.bytesLess a b then -1 else if a == b then 0 else 1
def or3 (a b c : Int) : Int := if a ≠ 0 then a else if b ≠ 0 then b else c
def cmpV (a b : V) : Int := or3 (cmpI a.k b.k) (cmpI a.n b.n) (cmpS a.t b.t)
def cmpL : List V → List V → Int
  | a :: ar, b :: br => if cmpV a b ≠ 0 then cmpV a b else cmpL ar br
  | ar, br => cmpI ar.length br.length

def okV (v : V) : Bool :=
  if v.k = 0 then v.n == 0 && v.t == []
  else if v.k = 1 then (v.n == 0 || v.n == 1) && v.t == []
  else if v.k = 2 then v.t == []
  else if v.k = 3 then v.n == 0 && decide (v.t.length ≤ 64)
  else false
def chk (v : V) : Int := if okV v then 0 else 2

/-- Are two values the same? -/
def eq3 (k n : Int) (t : List UInt8) (k' n' : Int) (t' : List UInt8) : Bool := k == k' && (n == n' && t == t')
def eqV (a b : V) : Bool := eq3 a.k a.n a.t b.k b.n b.t
def isT (v : V) : Bool := eq3 v.k v.n v.t (vbool true).k (vbool true).n (vbool true).t
def isF (v : V) : Bool := v.k == 1 && v.n == 0

def takes (op : Int) : Int := if 3 ≤ op ∧ op ≤ 16 then 2 else if 17 ≤ op ∧ op ≤ 20 then 1 else 0
def holdsI (op c : Int) : Bool :=
  if op = 9 then c == 0 else if op = 10 then c != 0 else if op = 11 then decide (c < 0) else if op = 12 then decide (c ≤ 0) else if op = 13 then decide (0 < c) else decide (0 ≤ c)

def inI (x : Int) : Bool := decide (-9223372036854775808 ≤ x ∧ x ≤ 9223372036854775807)
/-- What an operation of two whole numbers comes to: a number, or an error. -/
def numI (op a b : Int) : Int × Int :=
  if op = 3 then (if inI (a + b) then (a + b, 0) else (0, 221))
  else if op = 4 ∨ op = 18 then (if inI (a - b) then (a - b, 0) else (0, 221))
  else if op = 5 then (if inI (a * b) then (a * b, 0) else (0, 221))
  else if b = 0 then (0, 222)
  else if op = 7 then (a.tmod b, 0)
  else if inI (a.tdiv b) then (a.tdiv b, 0) else (0, 221)
def numV (op a b : Int) : V × Int := if (numI op a b).2 = 0 then (vint (numI op a b).1, 0) else (vnull, (numI op a b).2)

def allK (want : Int) (ks : List Int) : Bool := ks.all fun k => k == want || k == 0
/-- The kind that an operation gives, and the error. -/
def givesI (op : Int) (ks : List Int) : Int × Int :=
  if takes op = 0 ∨ (ks.length : Int) ≠ takes op then (0, 2)
  else if ks.any fun k => decide (3 < k) then (0, 2)
  else if (3 ≤ op ∧ op ≤ 7) ∨ op = 18 then (if allK 2 ks then (2, 0) else (0, 220))
  else if op = 8 then (if allK 3 ks then (3, 0) else (0, 220))
  else if op = 15 ∨ op = 16 ∨ op = 17 then (if allK 1 ks then (1, 0) else (0, 220))
  else if op = 19 ∨ op = 20 then (1, 0)
  else if allK (max (ks.getD 0 0) (ks.getD 1 0)) ks then (1, 0) else (0, 220)

/-- An operation on values that may be, of kinds that go together. -/
def doOn (op : Int) (l : List V) : V × Int :=
  let x := l.getD 0 vnull
  let y := l.getD 1 vnull
  let null := l.any fun v => v.k == 0
  if op = 19 then (vbool null, 0)
  else if op = 20 then (vbool (!null), 0)
  else if op = 15 ∧ (isF x || isF y) = true then (vbool false, 0)
  else if op = 16 ∧ (isT x || isT y) = true then (vbool true, 0)
  else if null then (vnull, 0)
  else if op = 15 then (vbool true, 0)
  else if op = 16 then (vbool false, 0)
  else if op = 17 then (vbool (!isT x), 0)
  else if op = 18 then numV op 0 x.n
  else if op = 8 then (if 64 < x.t.length + y.t.length then (vnull, 3) else (⟨3, 0, x.t ++ y.t⟩, 0))
  else if 3 ≤ op ∧ op ≤ 7 then numV op x.n y.n
  else (vbool (holdsI op (cmpL [x] [y])), 0)

def doV (op : Int) (l : List V) : V × Int :=
  if takes op = 0 ∨ (l.length : Int) ≠ takes op then (vnull, 2)
  else if l.any fun v => !okV v then (vnull, 2)
  else if (givesI op (l.map (·.k))).2 ≠ 0 then (vnull, (givesI op (l.map (·.k))).2)
  else doOn op l


theorem inI_iff {x : Int} : inI x = true ↔ -9223372036854775808 ≤ x ∧ x ≤ 9223372036854775807 := by unfold inI; simp
theorem inI_not {x : Int} : inI x = false ↔ ¬ (-9223372036854775808 ≤ x ∧ x ≤ 9223372036854775807) := by unfold inI; simp

theorem numV_ok {op a b x : Int} (h : numI op a b = (x, 0)) : numV op a b = (vint x, 0) := by simp [numV, h]
theorem numV_no {op a b e : Int} (he : e ≠ 0) (h : numI op a b = (0, e)) : numV op a b = (vnull, e) := by simp [numV, h, he]

theorem tdiv_half {x d : Int} (h : 2 ≤ d.natAbs) (h1 : x.natAbs ≤ 9223372036854775808) : (x.tdiv d).natAbs ≤ 4611686018427387904 := by
  rw [Int.natAbs_tdiv]
  calc x.natAbs / d.natAbs ≤ x.natAbs / 2 := Nat.div_le_div_left h (by decide)
    _ ≤ 4611686018427387904 := by omega

theorem mul_zero_ (b : Int) : numV 5 0 b = (vint 0, 0) := numV_ok (by simp [numI, inI])
theorem div_none {op a : Int} (hop : op = 6 ∨ op = 7) : numV op a 0 = (vnull, 222) :=
  numV_no (by decide) (by unfold numI; rw [if_neg (by omega), if_neg (by omega), if_neg (by omega), if_pos rfl])
theorem div_neg (a : Int) : numV 6 a (-1) = numV 4 0 a := by
  have e1 : numI 6 a (-1) = if inI (a.tdiv (-1)) then (a.tdiv (-1), 0) else (0, 221) := by
    unfold numI
    rw [if_neg (by omega), if_neg (by omega), if_neg (by omega), if_neg (by omega), if_neg (by omega)]
  have e2 : numI 4 0 a = if inI (0 - a) then (0 - a, 0) else (0, 221) := by
    unfold numI
    rw [if_neg (by omega), if_pos (by omega)]
  have e : numI 6 a (-1) = numI 4 0 a := by rw [e1, e2, Int.tdiv_neg, Int.tdiv_one, Int.zero_sub]
  simp only [numV, e]

theorem mod_yes {a b : Int} (h0 : b ≠ 0) : numV 7 a b = (vint (a.tmod b), 0) :=
  numV_ok (by unfold numI; rw [if_neg (by omega), if_neg (by omega), if_neg (by omega), if_neg h0, if_pos rfl])

section
variable {a b : Int} (ha : -9223372036854775808 ≤ a) (ha' : a ≤ 9223372036854775807) (hb : -9223372036854775808 ≤ b) (hb' : b ≤ 9223372036854775807)
include ha ha' hb hb'

theorem sum_yes (h : (0 < b ∧ a < wrap64 (a + b)) ∨ (¬ 0 < b ∧ wrap64 (a + b) ≤ a)) : numV 3 a b = (vint (wrap64 (a + b)), 0) := by
  have hi : -9223372036854775808 ≤ a + b ∧ a + b ≤ 9223372036854775807 := by unfold wrap64 at h; omega
  have hw : wrap64 (a + b) = a + b := by unfold wrap64; omega
  exact numV_ok (by rw [hw]; unfold numI; rw [if_pos rfl, if_pos (inI_iff.2 hi)])
theorem sum_no (h : (0 < b ∧ wrap64 (a + b) ≤ a) ∨ (¬ 0 < b ∧ a < wrap64 (a + b))) : numV 3 a b = (vnull, 221) := by
  have hi : ¬ (-9223372036854775808 ≤ a + b ∧ a + b ≤ 9223372036854775807) := by unfold wrap64 at h; omega
  exact numV_no (by decide) (by unfold numI; rw [if_pos rfl, if_neg (by rw [inI_not.2 hi]; decide)])
theorem dif_yes {op : Int} (hop : op = 4 ∨ op = 18) (h : (0 < b ∧ wrap64 (a - b) < a) ∨ (¬ 0 < b ∧ a ≤ wrap64 (a - b))) : numV op a b = (vint (wrap64 (a - b)), 0) := by
  have hi : -9223372036854775808 ≤ a - b ∧ a - b ≤ 9223372036854775807 := by unfold wrap64 at h; omega
  have hw : wrap64 (a - b) = a - b := by unfold wrap64; omega
  exact numV_ok (by rw [hw]; unfold numI; rw [if_neg (by omega), if_pos hop, if_pos (inI_iff.2 hi)])
theorem dif_no {op : Int} (hop : op = 4 ∨ op = 18) (h : (0 < b ∧ a ≤ wrap64 (a - b)) ∨ (¬ 0 < b ∧ wrap64 (a - b) < a)) : numV op a b = (vnull, 221) := by
  have hi : ¬ (-9223372036854775808 ≤ a - b ∧ a - b ≤ 9223372036854775807) := by unfold wrap64 at h; omega
  exact numV_no (by decide) (by unfold numI; rw [if_neg (by omega), if_pos hop, if_neg (by rw [inI_not.2 hi]; decide)])

theorem tdiv_in (h0 : b ≠ 0) (h1 : b ≠ -1) : -9223372036854775808 ≤ a.tdiv b ∧ a.tdiv b ≤ 9223372036854775807 := by
  by_cases hb1 : b = 1
  · subst hb1; simp; omega
  · have := tdiv_half (x := a) (d := b) (by omega) (by omega)
    omega

theorem mul_yes (h0 : a ≠ 0) (h : wrap64 ((wrap64 (a * b)).tdiv a) = b) (h1 : ¬ (a = -1 ∧ b = -9223372036854775808)) : numV 5 a b = (vint (wrap64 (a * b)), 0) := by
  have hx : -9223372036854775808 ≤ wrap64 (a * b) ∧ wrap64 (a * b) ≤ 9223372036854775807 := by unfold wrap64; omega
  obtain ⟨k, hk⟩ : ∃ k, wrap64 (a * b) = a * b - 18446744073709551616 * k := ⟨(a * b + 9223372036854775808) / 18446744073709551616, by unfold wrap64; omega⟩
  have hq : (wrap64 (a * b)).tdiv a = b := by
    generalize wrap64 (a * b) = x at *
    by_cases e1 : a = 1
    · subst e1; simp at h ⊢; unfold wrap64 at h; omega
    · by_cases e2 : a = -1
      · subst e2; rw [Int.tdiv_neg, Int.tdiv_one] at h ⊢; unfold wrap64 at h; omega
      · have := tdiv_half (x := x) (d := a) (by omega) (by omega)
        unfold wrap64 at h; omega
  have hr := Int.mul_tdiv_add_tmod (wrap64 (a * b)) a
  rw [hq] at hr
  have hm : ((wrap64 (a * b)).tmod a).natAbs < a.natAbs := by
    rw [Int.natAbs_tmod]; exact Nat.mod_lt _ (by omega)
  have hw : wrap64 (a * b) = a * b := by
    generalize (wrap64 (a * b)).tmod a = r at *
    generalize a * b = p at *
    omega
  exact numV_ok (by rw [hw]; unfold numI; rw [if_neg (by omega), if_neg (by omega), if_pos rfl, if_pos (inI_iff.2 (by rw [← hw]; exact hx))])
theorem mul_no (h0 : a ≠ 0) (h : ¬ wrap64 ((wrap64 (a * b)).tdiv a) = b ∨ (a = -1 ∧ b = -9223372036854775808)) : numV 5 a b = (vnull, 221) := by
  have hi : ¬ (-9223372036854775808 ≤ a * b ∧ a * b ≤ 9223372036854775807) := by
    intro hi
    rcases h with h | ⟨rfl, rfl⟩
    · have hw : wrap64 (a * b) = a * b := by generalize a * b = p at *; unfold wrap64; omega
      rw [hw, Int.mul_tdiv_cancel_left b h0] at h
      unfold wrap64 at h; omega
    · omega
  exact numV_no (by decide) (by unfold numI; rw [if_neg (by omega), if_neg (by omega), if_pos rfl, if_neg (by rw [inI_not.2 hi]; decide)])
theorem div_yes (h0 : b ≠ 0) (h1 : b ≠ -1) : numV 6 a b = (vint (a.tdiv b), 0) :=
  numV_ok (by unfold numI; rw [if_neg (by omega), if_neg (by omega), if_neg (by omega), if_neg h0, if_neg (by omega), if_pos (inI_iff.2 (tdiv_in ha ha' hb hb' h0 h1))])
end


theorem join_small {x y : V} (okx : okV x = true) (oky : okV y = true) (nx : (x.k == 0) = false) (ny : (y.k == 0) = false) (hg : (givesI 8 [x.k, y.k]).2 = 0) : x.t.length ≤ 64 ∧ y.t.length ≤ 64 := by
  have nx' : x.k ≠ 0 := by simpa using nx
  have ny' : y.k ≠ 0 := by simpa using ny
  have h3 : x.k = 3 ∧ y.k = 3 := by
    unfold givesI at hg
    by_cases hb : (([x.k, y.k] : List Int).any fun k => decide (3 < k)) = true
    · rw [if_neg (by simp [takes]), if_pos hb] at hg; simp at hg
    · rw [if_neg (by simp [takes]), if_neg hb, if_neg (by decide), if_pos rfl] at hg
      by_cases ha : allK 3 [x.k, y.k] = true
      · simp [allK, nx', ny'] at ha; exact ha
      · rw [if_neg ha] at hg; simp at hg
  unfold okV at okx oky
  rw [h3.1] at okx
  rw [h3.2] at oky
  simp at okx oky
  exact ⟨okx.2, oky.2⟩
theorem any2 (x y : V) : ([x, y].any fun v => v.k == 0) = ((x.k == 0) || (y.k == 0)) := by simp
theorem any1 (x : V) : ([x].any fun v => v.k == 0) = (x.k == 0) := by simp

section
variable {x y : V}
theorem doOn_15_f (h : (isF x || isF y) = true) : doOn 15 [x, y] = (vbool false, 0) := by
  unfold doOn; simp only [any2, List.getD_cons_zero, List.getD_cons_succ, h]; rfl
theorem doOn_15_n (h : (isF x || isF y) = false) (hn : ((x.k == 0) || (y.k == 0)) = true) : doOn 15 [x, y] = (vnull, 0) := by
  unfold doOn; simp only [any2, List.getD_cons_zero, List.getD_cons_succ, h, hn]; rfl
theorem doOn_15_t (h : (isF x || isF y) = false) (hn : ((x.k == 0) || (y.k == 0)) = false) : doOn 15 [x, y] = (vbool true, 0) := by
  unfold doOn; simp only [any2, List.getD_cons_zero, List.getD_cons_succ, h, hn]; rfl
theorem doOn_16_t (h : (isT x || isT y) = true) : doOn 16 [x, y] = (vbool true, 0) := by
  unfold doOn; simp only [any2, List.getD_cons_zero, List.getD_cons_succ, h]; rfl
theorem doOn_16_n (h : (isT x || isT y) = false) (hn : ((x.k == 0) || (y.k == 0)) = true) : doOn 16 [x, y] = (vnull, 0) := by
  unfold doOn; simp only [any2, List.getD_cons_zero, List.getD_cons_succ, h, hn]; rfl
theorem doOn_16_f (h : (isT x || isT y) = false) (hn : ((x.k == 0) || (y.k == 0)) = false) : doOn 16 [x, y] = (vbool false, 0) := by
  unfold doOn; simp only [any2, List.getD_cons_zero, List.getD_cons_succ, h, hn]; rfl
theorem doOn_null {op : Int} (h0 : 3 ≤ op) (h1 : op ≤ 14) (hn : ((x.k == 0) || (y.k == 0)) = true) : doOn op [x, y] = (vnull, 0) := by
  unfold doOn; simp only [any2, hn]
  rw [if_neg (by omega), if_neg (by omega), if_neg (by omega), if_neg (by omega), if_pos trivial]
theorem doOn_num {op : Int} (h0 : 3 ≤ op) (h1 : op ≤ 7) (hn : ((x.k == 0) || (y.k == 0)) = false) : doOn op [x, y] = numV op x.n y.n := by
  unfold doOn; simp only [any2, hn, List.getD_cons_zero, List.getD_cons_succ]
  rw [if_neg (by omega), if_neg (by omega), if_neg (by omega), if_neg (by omega), if_neg (by decide), if_neg (by omega), if_neg (by omega), if_neg (by omega), if_neg (by omega), if_neg (by omega), if_pos ⟨h0, h1⟩]
theorem doOn_cmp {op : Int} (h0 : 9 ≤ op) (h1 : op ≤ 14) (hn : ((x.k == 0) || (y.k == 0)) = false) : doOn op [x, y] = (vbool (holdsI op (cmpL [x] [y])), 0) := by
  unfold doOn; simp only [any2, hn, List.getD_cons_zero, List.getD_cons_succ]
  rw [if_neg (by omega), if_neg (by omega), if_neg (by omega), if_neg (by omega), if_neg (by decide), if_neg (by omega), if_neg (by omega), if_neg (by omega), if_neg (by omega), if_neg (by omega), if_neg (by omega)]
theorem doOn_8_no (hn : ((x.k == 0) || (y.k == 0)) = false) (h : 64 < x.t.length + y.t.length) : doOn 8 [x, y] = (vnull, 3) := by
  unfold doOn; simp only [any2, hn, List.getD_cons_zero, List.getD_cons_succ, h, if_true]; rfl
theorem doOn_8_yes (hn : ((x.k == 0) || (y.k == 0)) = false) (h : ¬ 64 < x.t.length + y.t.length) : doOn 8 [x, y] = (⟨3, 0, x.t ++ y.t⟩, 0) := by
  unfold doOn; simp only [any2, hn, List.getD_cons_zero, List.getD_cons_succ, h, if_false]; rfl
theorem doOn_19 : doOn 19 [x] = (vbool (x.k == 0), 0) := by unfold doOn; simp only [any1]; rfl
theorem doOn_20 : doOn 20 [x] = (vbool (!(x.k == 0)), 0) := by unfold doOn; simp only [any1]; rfl
theorem doOn_17_n (hn : (x.k == 0) = true) : doOn 17 [x] = (vnull, 0) := by unfold doOn; simp only [any1, hn]; rfl
theorem doOn_18_n (hn : (x.k == 0) = true) : doOn 18 [x] = (vnull, 0) := by unfold doOn; simp only [any1, hn]; rfl
theorem doOn_17 (hn : (x.k == 0) = false) : doOn 17 [x] = (vbool (!isT x), 0) := by unfold doOn; simp only [any1, hn]; rfl
theorem doOn_18 (hn : (x.k == 0) = false) : doOn 18 [x] = numV 18 0 x.n := by unfold doOn; simp only [any1, hn]; rfl
end
end Go.Proofs.YtaficpgadjemcaaGreatDoor
namespace Go.Proofs.YtaficpgadjemcaaGreatDoor
open Ab Go.RowKit
set_option maxRecDepth 100000
set_option linter.unusedSimpArgs false

@[reducible] def V.sv (v : V) : SV := .agg [.int .u8 v.k, .int .i64 v.n, .str v.t]
theorem V.lit (v : V) : LitV v.sv := .agg (by simp only [List.mem_cons, List.not_mem_nil, or_false]; rintro _ (rfl | rfl | rfl) <;> constructor)
@[reducible] def V.two (p : V × Int) : SV := .tup [p.1.sv, .int .i64 p.2]
theorem V.two_lit (p : V × Int) : LitV (V.two p) := lit2 (V.lit _) (.int _ _)

theorem truth_any (b : Bool) : PCall Tryz.prog 19 [.bool b] (vbool b).sv := by
  refine pcall_of (lits1 (.bool b)) (call19 rfl ?_)
  cases b
  · conv => whnf
    exact leaf rfl (V.lit _)
  · conv => whnf
    exact leaf rfl (V.lit _)

theorem check_any (v : V) : PCall Tryz.prog 17 [v.sv] (.int .i64 (chk v)) := by
  obtain ⟨k, n, t⟩ := v
  refine pcall_of (lits1 (V.lit _)) (call17 rfl ?_)
  iterate 12 (all_goals (try conv => whnf); all_goals (try with_reducible refine br (fun _ => ?_) (fun _ => ?_)))
  all_goals (refine leaf ?_ (.int _ _); simp_all [chk, okV])
  all_goals omega

theorem holds_any (op c : Int) : PCall Tryz.prog 23 [.int .u8 op, .int .i64 c] (.bool (holdsI op c)) := by
  refine pcall_of (lits2 (.int _ _) (.int _ _)) (call23 rfl ?_)
  iterate 12 (all_goals (try conv => whnf); all_goals (try with_reducible refine br (fun _ => ?_) (fun _ => ?_)))
  all_goals (refine leaf ?_ (.bool _); simp_all [holdsI])

theorem takes_any (op : Int) : PCall Tryz.prog 11 [.int .u8 op] (.int .i64 (takes op)) := by
  refine pcall_of (lits1 (.int _ _)) (call11 rfl ?_)
  iterate 24 (all_goals (try conv => whnf); all_goals (try with_reducible refine br (fun _ => ?_) (fun _ => ?_)))
  all_goals (refine leaf ?_ (.int _ _); simp only [beq_iff_eq, beq_eq_false_iff_ne, ne_eq] at *; congr 1; unfold takes; split <;> first | omega | (split <;> omega))

theorem true_any (v : V) : PCall Tryz.prog 21 [v.sv] (.bool (isT v)) := by
  refine pcall_of (lits1 (V.lit _)) (call21 rfl ?_)
  iterate 4 (all_goals (try conv => whnf); all_goals (try first | with_reducible refine brY (by assumption) ?_ | with_reducible refine brN (by assumption) ?_ | (with_reducible refine brT ?_ ?_; · (simp only [Bool.and_eq_true, Bool.not_eq_true', decide_eq_true_eq, decide_eq_false_iff_not, beq_iff_eq, beq_eq_false_iff_ne, ne_eq] at *; omega)) | with_reducible refine br (fun _ => ?_) (fun _ => ?_) | with_reducible refine ⟨rfl, ?_⟩ | with_reducible refine ARound.succ ?_ | with_reducible refine PCall.call (truth_any _) ?_))
  exact leaf rfl (.bool _)

theorem false0_any (v : V) : PCall Tryz.prog 20 [v.sv] (.bool (isF v)) := by
  refine pcall_of (lits1 (V.lit _)) (call20 rfl ?_)
  iterate 3 (all_goals (try conv => whnf); all_goals (try first | with_reducible refine brY (by assumption) ?_ | with_reducible refine brN (by assumption) ?_ | (with_reducible refine brT ?_ ?_; · (simp only [Bool.and_eq_true, Bool.not_eq_true', decide_eq_true_eq, decide_eq_false_iff_not, beq_iff_eq, beq_eq_false_iff_ne, ne_eq] at *; omega)) | with_reducible refine br (fun _ => ?_) (fun _ => ?_) | with_reducible refine ⟨rfl, ?_⟩ | with_reducible refine ARound.succ ?_))
  all_goals (refine leaf ?_ (.bool _); simp_all [isF])

theorem wrap_left (n : Int) : IntKind.i64.wrap n = wrap64 n := by rw [IntKind.wrap_i64]; unfold wrap64; rfl
section
variable {a b : Int} (ha : -9223372036854775808 ≤ a) (ha' : a ≤ 9223372036854775807) (hb : -9223372036854775808 ≤ b) (hb' : b ≤ 9223372036854775807)
include ha ha' hb hb'

theorem number4 {op : Int} (hop : op = 4 ∨ op = 18) : PCall Tryz.prog 22 [.int .u8 op, .int .i64 a, .int .i64 b] (V.two (numV op a b)) := by
  refine pcall_of (lits3 (.int _ _) (.int _ _) (.int _ _)) (call22 rfl ?_)
  have yes := dif_yes ha ha' hb hb' hop
  have no := dif_no ha ha' hb hb' hop
  rcases hop with rfl | rfl
  all_goals iterate 3 (all_goals (try conv => whnf); all_goals (try first | with_reducible refine brY (by assumption) ?_ | with_reducible refine brN (by assumption) ?_ | (with_reducible refine brT ?_ ?_; · (simp only [Bool.and_eq_true, Bool.not_eq_true', decide_eq_true_eq, decide_eq_false_iff_not, beq_iff_eq, beq_eq_false_iff_ne, ne_eq] at *; omega)) | with_reducible refine br (fun _ => ?_) (fun _ => ?_) | with_reducible refine ⟨rfl, ?_⟩ | with_reducible refine ARound.succ ?_))
  all_goals rename_i h
  all_goals simp only [wrap_left] at *
  all_goals simp only [Bool.not_eq_true', Bool.not_eq_false', beq_iff_eq, beq_eq_false_iff_ne, ne_eq, decide_eq_decide] at h
  · exact leaf (congrArg V.two (no (by omega)).symm) (V.two_lit _)
  · exact leaf (congrArg V.two (yes (by omega)).symm) (V.two_lit _)
  · exact leaf (congrArg V.two (no (by omega)).symm) (V.two_lit _)
  · exact leaf (congrArg V.two (yes (by omega)).symm) (V.two_lit _)

theorem number3 : PCall Tryz.prog 22 [.int .u8 3, .int .i64 a, .int .i64 b] (V.two (numV 3 a b)) := by
  refine pcall_of (lits3 (.int _ _) (.int _ _) (.int _ _)) (call22 rfl ?_)
  have yes := sum_yes ha ha' hb hb'
  have no := sum_no ha ha' hb hb'
  iterate 3 (all_goals (try conv => whnf); all_goals (try first | with_reducible refine brY (by assumption) ?_ | with_reducible refine brN (by assumption) ?_ | (with_reducible refine brT ?_ ?_; · (simp only [Bool.and_eq_true, Bool.not_eq_true', decide_eq_true_eq, decide_eq_false_iff_not, beq_iff_eq, beq_eq_false_iff_ne, ne_eq] at *; omega)) | with_reducible refine br (fun _ => ?_) (fun _ => ?_) | with_reducible refine ⟨rfl, ?_⟩ | with_reducible refine ARound.succ ?_))
  all_goals rename_i h
  all_goals simp only [wrap_left] at *
  all_goals simp only [Bool.not_eq_true', Bool.not_eq_false', beq_iff_eq, beq_eq_false_iff_ne, ne_eq, decide_eq_decide] at h
  · exact leaf (congrArg V.two (no (by omega)).symm) (V.two_lit _)
  · exact leaf (congrArg V.two (yes (by omega)).symm) (V.two_lit _)

theorem number5 : PCall Tryz.prog 22 [.int .u8 5, .int .i64 a, .int .i64 b] (V.two (numV 5 a b)) := by
  refine pcall_of (lits3 (.int _ _) (.int _ _) (.int _ _)) (call22 rfl ?_)
  have zero := mul_zero_ b
  have yes := mul_yes ha ha' hb hb'
  have no := mul_no ha ha' hb hb'
  iterate 8 (all_goals (try conv => whnf); all_goals (try first | with_reducible refine brY (by assumption) ?_ | with_reducible refine brN (by assumption) ?_ | (with_reducible refine brT ?_ ?_; · (simp only [Bool.and_eq_true, Bool.not_eq_true', decide_eq_true_eq, decide_eq_false_iff_not, beq_iff_eq, beq_eq_false_iff_ne, ne_eq] at *; omega)) | with_reducible refine br (fun _ => ?_) (fun _ => ?_) | with_reducible refine ⟨rfl, ?_⟩ | with_reducible refine ARound.succ ?_))
  all_goals try simp only [wrap_left] at *
  all_goals simp only [Bool.not_eq_true', Bool.not_eq_false', beq_iff_eq, beq_eq_false_iff_ne, ne_eq, decide_eq_true_eq, decide_eq_false_iff_not, cond_true, cond_false, Bool.not_true, Bool.not_false] at *
  · rename_i h; subst h; exact leaf (by rw [zero, Int.zero_mul, show wrap64 0 = 0 by unfold wrap64; omega]; rfl) (V.two_lit _)
  · exact leaf (congrArg V.two (no (by omega) (by omega)).symm) (V.two_lit _)
  · exact leaf (congrArg V.two (yes (by omega) (by omega) (by omega)).symm) (V.two_lit _)
  · exact leaf (congrArg V.two (yes (by omega) (by omega) (by omega)).symm) (V.two_lit _)
  · exact leaf (congrArg V.two (no (by omega) (by omega)).symm) (V.two_lit _)

theorem number6 : PCall Tryz.prog 22 [.int .u8 6, .int .i64 a, .int .i64 b] (V.two (numV 6 a b)) := by
  refine pcall_of (lits3 (.int _ _) (.int _ _) (.int _ _)) (call22 rfl ?_)
  iterate 5 (all_goals (try conv => whnf); all_goals (try first | with_reducible refine brY (by assumption) ?_ | with_reducible refine brN (by assumption) ?_ | (with_reducible refine brT ?_ ?_; · (simp only [Bool.and_eq_true, Bool.not_eq_true', decide_eq_true_eq, decide_eq_false_iff_not, beq_iff_eq, beq_eq_false_iff_ne, ne_eq] at *; omega)) | with_reducible refine br (fun _ => ?_) (fun _ => ?_) | with_reducible refine ⟨rfl, ?_⟩ | with_reducible refine ARound.succ ?_ | with_reducible refine PCall.call (number4 (by omega) (by omega) ha ha' (.inl rfl)) ?_))
  all_goals simp only [Bool.not_eq_true', Bool.not_eq_false', beq_iff_eq, beq_eq_false_iff_ne, ne_eq, decide_eq_true_eq, decide_eq_false_iff_not] at *
  · rename_i h; subst h; exact leaf (by rw [div_none (.inl rfl)]; rfl) (V.two_lit _)
  · rename_i h; subst h; exact leaf (by rw [div_neg]) (V.two_lit _)
  · refine leaf ?_ (V.two_lit _)
    rw [div_yes ha ha' hb hb' (by omega) (by omega), wrap_left]
    have := tdiv_in ha ha' hb hb' (by omega) (by omega)
    rw [show wrap64 (a.tdiv b) = a.tdiv b by unfold wrap64; omega]
    rfl

omit ha ha' in
theorem number7 : PCall Tryz.prog 22 [.int .u8 7, .int .i64 a, .int .i64 b] (V.two (numV 7 a b)) := by
  refine pcall_of (lits3 (.int _ _) (.int _ _) (.int _ _)) (call22 rfl ?_)
  iterate 5 (all_goals (try conv => whnf); all_goals (try first | with_reducible refine brY (by assumption) ?_ | with_reducible refine brN (by assumption) ?_ | (with_reducible refine brT ?_ ?_; · (simp only [Bool.and_eq_true, Bool.not_eq_true', decide_eq_true_eq, decide_eq_false_iff_not, beq_iff_eq, beq_eq_false_iff_ne, ne_eq] at *; omega)) | with_reducible refine br (fun _ => ?_) (fun _ => ?_) | with_reducible refine ⟨rfl, ?_⟩ | with_reducible refine ARound.succ ?_))
  all_goals simp only [Bool.not_eq_true', Bool.not_eq_false', beq_iff_eq, beq_eq_false_iff_ne, ne_eq, decide_eq_true_eq, decide_eq_false_iff_not] at *
  · rename_i h; subst h; exact leaf (by rw [div_none (.inr rfl)]; rfl) (V.two_lit _)
  · rename_i h; subst h; exact leaf (by rw [mod_yes (by omega), Int.tmod_neg, Int.tmod_one]; rfl) (V.two_lit _)
  · exact leaf (by rw [mod_yes (by omega)]; rfl) (V.two_lit _)
end
end Go.Proofs.YtaficpgadjemcaaGreatDoor
namespace Go.Proofs.YtaficpgadjemcaaGreatDoor
open Ab Go.RowKit
set_option maxRecDepth 100000
set_option linter.unusedSimpArgs false

theorem nanK (a : Int) : PCall Tryz.prog 71 [.int .u8 a] (.bool false) := by
  refine pcall_of (lits1 (.int _ _)) (call71 rfl ?_)
  iterate 1 (all_goals (try conv => whnf); all_goals (try first | with_reducible refine brY (by assumption) ?_ | with_reducible refine brN (by assumption) ?_ | (with_reducible refine brT ?_ ?_; · (simp only [Bool.and_eq_true, Bool.not_eq_true', decide_eq_true_eq, decide_eq_false_iff_not, beq_iff_eq, beq_eq_false_iff_ne, ne_eq] at *; omega)) | with_reducible refine br (fun _ => ?_) (fun _ => ?_) | with_reducible refine ⟨rfl, ?_⟩ | with_reducible refine ARound.succ ?_))
  exact leaf (by simp) (.bool _)
theorem nan64 (a : Int) : PCall Tryz.prog 72 [.int .i64 a] (.bool false) := by
  refine pcall_of (lits1 (.int _ _)) (call72 rfl ?_)
  iterate 1 (all_goals (try conv => whnf); all_goals (try first | with_reducible refine brY (by assumption) ?_ | with_reducible refine brN (by assumption) ?_ | (with_reducible refine brT ?_ ?_; · (simp only [Bool.and_eq_true, Bool.not_eq_true', decide_eq_true_eq, decide_eq_false_iff_not, beq_iff_eq, beq_eq_false_iff_ne, ne_eq] at *; omega)) | with_reducible refine br (fun _ => ?_) (fun _ => ?_) | with_reducible refine ⟨rfl, ?_⟩ | with_reducible refine ARound.succ ?_))
  exact leaf (by simp) (.bool _)
theorem nanS (a : List UInt8) : PCall Tryz.prog 73 [.str a] (.bool false) := by
  refine pcall_of (lits1 (.str _)) (call73 rfl ?_)
  iterate 1 (all_goals (try conv => whnf); all_goals (try first | with_reducible refine brY (by assumption) ?_ | with_reducible refine brN (by assumption) ?_ | (with_reducible refine brT ?_ ?_; · (simp only [Bool.and_eq_true, Bool.not_eq_true', decide_eq_true_eq, decide_eq_false_iff_not, beq_iff_eq, beq_eq_false_iff_ne, ne_eq] at *; omega)) | with_reducible refine br (fun _ => ?_) (fun _ => ?_) | with_reducible refine ⟨rfl, ?_⟩ | with_reducible refine ARound.succ ?_))
  exact leaf (by simp) (.bool _)
theorem nanI (a : Int) : PCall Tryz.prog 74 [.int .i64 a] (.bool false) := by
  refine pcall_of (lits1 (.int _ _)) (call74 rfl ?_)
  iterate 1 (all_goals (try conv => whnf); all_goals (try first | with_reducible refine brY (by assumption) ?_ | with_reducible refine brN (by assumption) ?_ | (with_reducible refine brT ?_ ?_; · (simp only [Bool.and_eq_true, Bool.not_eq_true', decide_eq_true_eq, decide_eq_false_iff_not, beq_iff_eq, beq_eq_false_iff_ne, ne_eq] at *; omega)) | with_reducible refine br (fun _ => ?_) (fun _ => ?_) | with_reducible refine ⟨rfl, ?_⟩ | with_reducible refine ARound.succ ?_))
  exact leaf (by simp) (.bool _)

theorem cmpK_any (a b : Int) : PCall Tryz.prog 43 [.int .u8 a, .int .u8 b] (.int .i64 (cmpI a b)) := by
  refine pcall_of (lits2 (.int _ _) (.int _ _)) (call43 rfl ?_)
  iterate 8 (all_goals (try conv => whnf); all_goals (try first | with_reducible refine brY (by assumption) ?_ | with_reducible refine brN (by assumption) ?_ | (with_reducible refine brT ?_ ?_; · (simp only [Bool.and_eq_true, Bool.not_eq_true', decide_eq_true_eq, decide_eq_false_iff_not, beq_iff_eq, beq_eq_false_iff_ne, ne_eq] at *; omega)) | with_reducible refine br (fun _ => ?_) (fun _ => ?_) | with_reducible refine ⟨rfl, ?_⟩ | with_reducible refine ARound.succ ?_ | with_reducible refine PCall.call (nanK _) ?_))
  all_goals (refine leaf ?_ (.int _ _); simp_all [cmpI])
  all_goals omega
theorem cmp64_any (a b : Int) : PCall Tryz.prog 44 [.int .i64 a, .int .i64 b] (.int .i64 (cmpI a b)) := by
  refine pcall_of (lits2 (.int _ _) (.int _ _)) (call44 rfl ?_)
  iterate 8 (all_goals (try conv => whnf); all_goals (try first | with_reducible refine brY (by assumption) ?_ | with_reducible refine brN (by assumption) ?_ | (with_reducible refine brT ?_ ?_; · (simp only [Bool.and_eq_true, Bool.not_eq_true', decide_eq_true_eq, decide_eq_false_iff_not, beq_iff_eq, beq_eq_false_iff_ne, ne_eq] at *; omega)) | with_reducible refine br (fun _ => ?_) (fun _ => ?_) | with_reducible refine ⟨rfl, ?_⟩ | with_reducible refine ARound.succ ?_ | with_reducible refine PCall.call (nan64 _) ?_))
  all_goals (refine leaf ?_ (.int _ _); simp_all [cmpI])
  all_goals omega
theorem cmpInt_any (a b : Int) : PCall Tryz.prog 46 [.int .i64 a, .int .i64 b] (.int .i64 (cmpI a b)) := by
  refine pcall_of (lits2 (.int _ _) (.int _ _)) (call46 rfl ?_)
  iterate 8 (all_goals (try conv => whnf); all_goals (try first | with_reducible refine brY (by assumption) ?_ | with_reducible refine brN (by assumption) ?_ | (with_reducible refine brT ?_ ?_; · (simp only [Bool.and_eq_true, Bool.not_eq_true', decide_eq_true_eq, decide_eq_false_iff_not, beq_iff_eq, beq_eq_false_iff_ne, ne_eq] at *; omega)) | with_reducible refine br (fun _ => ?_) (fun _ => ?_) | with_reducible refine ⟨rfl, ?_⟩ | with_reducible refine ARound.succ ?_ | with_reducible refine PCall.call (nanI _) ?_))
  all_goals (refine leaf ?_ (.int _ _); simp_all [cmpI])
  all_goals omega
theorem cmpS_any (a b : List UInt8) : PCall Tryz.prog 45 [.str a, .str b] (.int .i64 (cmpS a b)) := by
  refine pcall_of (lits2 (.str _) (.str _)) (call45 rfl ?_)
  iterate 8 (all_goals (try conv => whnf); all_goals (try first | with_reducible refine brY (by assumption) ?_ | with_reducible refine brN (by assumption) ?_ | (with_reducible refine brT ?_ ?_; · (simp only [Bool.and_eq_true, Bool.not_eq_true', decide_eq_true_eq, decide_eq_false_iff_not, beq_iff_eq, beq_eq_false_iff_ne, ne_eq] at *; omega)) | with_reducible refine br (fun _ => ?_) (fun _ => ?_) | with_reducible refine ⟨rfl, ?_⟩ | with_reducible refine ARound.succ ?_ | with_reducible refine PCall.call (nanS _) ?_))
  all_goals (refine leaf ?_ (.int _ _); simp_all [cmpS, strLess])

theorem hard3 {A : Heap} {i g : Nat} {cap : Option Nat} {sk : Sk} {a b c : Int} (ho : A.obj i = some (.vec g 1 [.int .i64 a, .int .i64 b, .int .i64 c] sk)) :
    Hard A (.sl i g 1 0 3 cap) (.lst 1 3 fun i => .int .i64 (List.getD [a, b, c] i 0)) :=
  hard_all ho ⟨rfl, .int _ _, rfl, .int _ _, rfl, .int _ _, trivial⟩
theorem or_any (a b c : Int) : PCall Tryz.prog 42 [.lst 1 3 fun i => .int .i64 (List.getD [a, b, c] i 0)] (.int .i64 (or3 a b c)) := by
  refine pcall_of (lits1 (.lst _ _ _)) (call42 rfl ?_)
  iterate 14 (all_goals (try conv => whnf); all_goals (try first | with_reducible refine brY (by assumption) ?_ | with_reducible refine brN (by assumption) ?_ | (with_reducible refine brT ?_ ?_; · (simp only [Bool.and_eq_true, Bool.not_eq_true', decide_eq_true_eq, decide_eq_false_iff_not, beq_iff_eq, beq_eq_false_iff_ne, ne_eq] at *; omega)) | with_reducible refine br (fun _ => ?_) (fun _ => ?_) | with_reducible refine ⟨rfl, ?_⟩ | with_reducible refine ARound.succ ?_ | with_reducible refine loop_rounds 5 ?_))
  all_goals (refine leaf ?_ (.int _ _); simp_all [or3, IntKind.wrap_i64])

@[reducible] def lstV (l : List V) : SV := .lst 3 l.length fun i => (l.getD i vnull).sv

theorem cmpL_end {xs ys : List V} {k : Nat} (ha : k ≤ xs.length) (hb : k ≤ ys.length) (hk : k = xs.length ∨ k = ys.length) (he : cmpL xs ys = cmpL (xs.drop k) (ys.drop k)) : cmpL xs ys = cmpI xs.length ys.length := by
  rw [he]
  have key : cmpL (xs.drop k) (ys.drop k) = cmpI (xs.drop k).length (ys.drop k).length := by
    rcases hk with h | h
    · rw [List.drop_eq_nil_of_le (by omega)]; cases ys.drop k <;> rfl
    · rw [show ys.drop k = [] from List.drop_eq_nil_of_le (by omega)]; cases xs.drop k <;> rfl
  rw [key, List.length_drop, List.length_drop]
  simp only [cmpI]
  split <;> split <;> (try split) <;> omega
theorem cmpL_step {xs ys : List V} {k : Nat} (ha : k < xs.length) (hb : k < ys.length) : cmpL (xs.drop k) (ys.drop k) = if cmpV (xs.getD k vnull) (ys.getD k vnull) ≠ 0 then cmpV (xs.getD k vnull) (ys.getD k vnull) else cmpL (xs.drop (k + 1)) (ys.drop (k + 1)) := by
  rw [List.drop_eq_getElem_cons ha, List.drop_eq_getElem_cons hb, List.getD_eq_getElem?_getD, List.getD_eq_getElem?_getD, List.getElem?_eq_getElem ha, List.getElem?_eq_getElem hb]
  rfl

structure CmpS (xs ys : List V) where
  k : Nat
  ha : k ≤ xs.length
  hb : k ≤ ys.length
  he : cmpL xs ys = cmpL (xs.drop k) (ys.drop k)

theorem compare_any (xs ys : List V) (hx : xs.length ≤ 4611686018427387904) : PCall Tryz.prog 24 [lstV xs, lstV ys] (.int .i64 (cmpL xs ys)) := by
  refine pcall_of (lits2 (.lst _ _ _) (.lst _ _ _)) (call24 rfl ?_)
  iterate 1 (all_goals (try conv => whnf); all_goals (try first | with_reducible refine brY (by assumption) ?_ | with_reducible refine brN (by assumption) ?_ | (with_reducible refine brT ?_ ?_; · (simp only [Bool.and_eq_true, Bool.not_eq_true', decide_eq_true_eq, decide_eq_false_iff_not, beq_iff_eq, beq_eq_false_iff_ne, ne_eq] at *; omega)) | with_reducible refine br (fun _ => ?_) (fun _ => ?_) | with_reducible refine ⟨rfl, ?_⟩ | with_reducible refine ARound.succ ?_))
  refine loop_ind (σ := CmpS xs ys) (fun s => [(0, lstV xs), (1, lstV ys), (4, SV.int IntKind.i64 0), (11, SV.int IntKind.i64 (if (ys.length : Int) < xs.length then ys.length else xs.length)), (12, SV.int IntKind.i64 s.k)]) (fun _ => ⟨0, []⟩) (fun s => xs.length - s.k) ?_ ⟨0, by omega, by omega, rfl⟩
  rintro ⟨k, ha, hb, he⟩
  dsimp only
  iterate 40 (all_goals (try conv => whnf); all_goals (try first | with_reducible refine brY (by assumption) ?_ | with_reducible refine brN (by assumption) ?_ | (with_reducible refine brT ?_ ?_; · (simp only [Bool.and_eq_true, Bool.not_eq_true', decide_eq_true_eq, decide_eq_false_iff_not, beq_iff_eq, beq_eq_false_iff_ne, ne_eq] at *; omega)) | with_reducible refine br (fun _ => ?_) (fun _ => ?_) | with_reducible refine ⟨rfl, ?_⟩ | with_reducible refine ARound.succ ?_ | with_reducible refine PCall.call (cmpK_any _ _) ?_ | with_reducible refine PCall.call (cmp64_any _ _) ?_ | with_reducible refine PCall.call (cmpS_any _ _) ?_ | with_reducible refine PCall.call (cmpInt_any _ _) ?_ | with_reducible refine PCall.call (or_any _ _ _) ?_ | (with_reducible refine ACall.frz (fun i => Nat.beq i 0) (.cons (hard3 rfl) .nil) ?_)))
  all_goals rename_i h
  all_goals simp only [Int.toNat_natCast, bne_iff_ne, ne_eq, decide_eq_true_eq, decide_eq_false_iff_not, bne_eq_false_iff_eq] at *
  · refine leaf ?_ (.int _ _)
    rw [he, cmpL_step (by omega) (by omega), if_pos (by exact h)]
    rfl
  · refine ⟨⟨k + 1, by omega, by omega, ?_⟩, by dsimp only; omega, ?_, by trivial⟩
    · rw [he, cmpL_step (by omega) (by omega), if_neg (by intro hh; exact hh h)]
    · rw [IntKind.wrap_i64]
      have e : ((k : Int) + 1 + 9223372036854775808) % 18446744073709551616 - 9223372036854775808 = ((k + 1 : Nat) : Int) := by omega
      rw [e]
  · refine leaf ?_ (.int _ _)
    rw [cmpL_end ha hb (by omega) he]
end Go.Proofs.YtaficpgadjemcaaGreatDoor
namespace Go.Proofs.YtaficpgadjemcaaGreatDoor
open Ab Go.RowKit
set_option maxRecDepth 100000
set_option linter.unusedSimpArgs false
set_option maxHeartbeats 4000000

@[reducible] def lstK (l : List Int) : SV := .lst 1 l.length fun i => .int .u8 (l.getD i 0)
@[reducible] def K2 (p : Int × Int) : SV := .tup [.int .u8 p.1, .int .i64 p.2]
theorem K2_lit (p : Int × Int) : LitV (K2 p) := lit2 (.int _ _) (.int _ _)

theorem gives_bad (op : Int) (ks : List Int) (h : takes op = 0 ∨ (ks.length : Int) ≠ takes op) : PCall Tryz.prog 18 [.int .u8 op, lstK ks] (K2 (givesI op ks)) := by
  refine pcall_of (lits2 (.int _ _) (.lst _ _ _)) (call18 rfl ?_)
  have e : givesI op ks = (0, 2) := by unfold givesI; rw [if_pos h]
  rw [e]
  iterate 8 (all_goals (try conv => whnf); all_goals (try first | with_reducible refine brY (by assumption) ?_ | with_reducible refine brN (by assumption) ?_ | (with_reducible refine brT ?_ ?_; · (simp only [Bool.and_eq_true, Bool.not_eq_true', decide_eq_true_eq, decide_eq_false_iff_not, beq_iff_eq, beq_eq_false_iff_ne, ne_eq] at *; omega)) | with_reducible refine br (fun _ => ?_) (fun _ => ?_) | with_reducible refine ⟨rfl, ?_⟩ | with_reducible refine ARound.succ ?_ | with_reducible refine PCall.call (takes_any _) ?_))
  · exact leaf rfl (K2_lit _)
  · exact leaf rfl (K2_lit _)
  · exfalso
    simp only [beq_iff_eq, beq_eq_false_iff_ne, cond_false, bne_eq_false_iff_eq, ne_eq] at *
    omega

theorem takes1 {op : Int} (h : takes op = 1) : op = 17 ∨ op = 18 ∨ op = 19 ∨ op = 20 := by
  unfold takes at h
  split at h
  · omega
  · split at h <;> omega
theorem takes2 {op : Int} (h : takes op = 2) : op = 3 ∨ op = 4 ∨ op = 5 ∨ op = 6 ∨ op = 7 ∨ op = 8 ∨ op = 9 ∨ op = 10 ∨ op = 11 ∨ op = 12 ∨ op = 13 ∨ op = 14 ∨ op = 15 ∨ op = 16 := by
  unfold takes at h
  split at h
  · omega
  · split at h <;> omega
@[reducible] def oneK (a : Int) : SV := .lst 1 1 fun i => .int .u8 (List.getD [a] i 0)
@[reducible] def twoK (a b : Int) : SV := .lst 1 2 fun i => .int .u8 (List.getD [a, b] i 0)

theorem gives1 (op a : Int) (h : takes op = 1) : PCall Tryz.prog 18 [.int .u8 op, oneK a] (K2 (givesI op [a])) := by
  refine pcall_of (lits2 (.int _ _) (.lst _ _ _)) (call18 rfl ?_)
  rcases takes1 h with rfl | rfl | rfl | rfl
  all_goals iterate 30 (all_goals (try conv => whnf); all_goals (try first | with_reducible refine brY (by assumption) ?_ | with_reducible refine brN (by assumption) ?_ | (with_reducible refine brT ?_ ?_; · (simp only [Bool.and_eq_true, Bool.not_eq_true', decide_eq_true_eq, decide_eq_false_iff_not, beq_iff_eq, beq_eq_false_iff_ne, ne_eq] at *; omega)) | with_reducible refine br (fun _ => ?_) (fun _ => ?_) | with_reducible refine ⟨rfl, ?_⟩ | with_reducible refine ARound.succ ?_ | with_reducible refine PCall.call (takes_any _) ?_ | (with_reducible refine call41 rfl ?_) | with_reducible refine loop_rounds 5 ?_))
  all_goals (refine leaf ?_ (K2_lit _); simp_all [givesI, takes, allK, IntKind.wrap_i64])
  all_goals (rw [if_neg (by omega)]; exact ⟨rfl, rfl⟩)

theorem gives2 (op a b : Int) (h : takes op = 2) : PCall Tryz.prog 18 [.int .u8 op, twoK a b] (K2 (givesI op [a, b])) := by
  refine pcall_of (lits2 (.int _ _) (.lst _ _ _)) (call18 rfl ?_)
  rcases takes2 h with rfl | rfl | rfl | rfl | rfl | rfl | rfl | rfl | rfl | rfl | rfl | rfl | rfl | rfl
  all_goals iterate 44 (all_goals (try conv => whnf); all_goals (try first | with_reducible refine brY (by assumption) ?_ | with_reducible refine brN (by assumption) ?_ | (with_reducible refine brT ?_ ?_; · (simp only [Bool.and_eq_true, Bool.not_eq_true', decide_eq_true_eq, decide_eq_false_iff_not, beq_iff_eq, beq_eq_false_iff_ne, ne_eq] at *; omega)) | with_reducible refine br (fun _ => ?_) (fun _ => ?_) | with_reducible refine ⟨rfl, ?_⟩ | with_reducible refine ARound.succ ?_ | with_reducible refine PCall.call (takes_any _) ?_ | (with_reducible refine call41 rfl ?_) | with_reducible refine loop_rounds 5 ?_))
  all_goals (refine leaf ?_ (K2_lit _); simp_all [givesI, takes, allK, IntKind.wrap_i64])
  all_goals (constructor <;> (repeat' split) <;> first | rfl | omega)
end Go.Proofs.YtaficpgadjemcaaGreatDoor
namespace Go.Proofs.YtaficpgadjemcaaGreatDoor
open Ab Go.RowKit
set_option maxRecDepth 100000
set_option linter.unusedSimpArgs false
set_option maxHeartbeats 4000000

@[reducible] def oneV (x : V) : SV := .lst 3 1 fun i => (List.getD [x] i vnull).sv
@[reducible] def twoV (x y : V) : SV := .lst 3 2 fun i => (List.getD [x, y] i vnull).sv
theorem hardK1 {A : Heap} {i g : Nat} {cap : Option Nat} {sk : Sk} {a : Int} (ho : A.obj i = some (.vec g 1 [.int .u8 a] sk)) : Hard A (.sl i g 1 0 1 cap) (oneK a) :=
  hard_all ho ⟨rfl, .int _ _, trivial⟩
theorem hardK2 {A : Heap} {i g : Nat} {cap : Option Nat} {sk : Sk} {a b : Int} (ho : A.obj i = some (.vec g 1 [.int .u8 a, .int .u8 b] sk)) : Hard A (.sl i g 1 0 2 cap) (twoK a b) :=
  hard_all ho ⟨rfl, .int _ _, rfl, .int _ _, trivial⟩
theorem hardV2 {A : Heap} {i g : Nat} {cap : Option Nat} {sk : Sk} {x y : V} (ho : A.obj i = some (.vec g 3 [x.sv, y.sv] sk)) : Hard A (.sl i g 3 0 2 cap) (twoV x y) :=
  hard_all ho ⟨rfl, V.lit _, rfl, V.lit _, trivial⟩
theorem hardV1 {A : Heap} {i g : Nat} {cap : Option Nat} {sk : Sk} {x : V} (ho : A.obj i = some (.vec g 3 [x.sv] sk)) : Hard A (.sl i g 3 0 1 cap) (oneV x) :=
  hard_all ho ⟨rfl, V.lit _, trivial⟩
theorem hardFst {A : Heap} {x y : V} : Hard A (.lst 3 1 fun i => (List.getD [x, y] (0 + i) vnull).sv) (lstV [x]) := .same fun j hj => by
  have : j = 0 := by omega
  subst this; rfl
theorem hardSnd {A : Heap} {x y : V} : Hard A (.lst 3 1 fun i => (List.getD [x, y] (1 + i) vnull).sv) (lstV [y]) := .same fun j hj => by
  have : j = 0 := by omega
  subst this; rfl

theorem gd0 (x y : V) : List.getD [x, y] (Int.toNat 0) vnull = x := rfl
theorem gd1 (x y : V) : List.getD [x, y] (IntKind.i64.wrap (0 + 1)).toNat vnull = y := by rw [IntKind.wrap_i64]; rfl
theorem ge0 (x : V) : List.getD [x] (Int.toNat 0) vnull = x := rfl
theorem gd2 (x y : V) : List.getD [x, y] (Int.toNat 1) vnull = y := rfl
theorem chk_len {x : V} (h : (chk x != 0) = false) : x.t.length ≤ 64 := by
  unfold chk at h
  split at h
  · rename_i hk
    unfold okV at hk
    (repeat' split at hk) <;> simp_all
  · simp at h

section
variable {x y : V} (hx : -9223372036854775808 ≤ x.n) (hx' : x.n ≤ 9223372036854775807) (hy : -9223372036854775808 ≤ y.n) (hy' : y.n ≤ 9223372036854775807)
include hx hx' hy hy'
theorem do2 {op : Int} (h : takes op = 2) : PCall Tryz.prog 12 [.int .u8 op, twoV x y] (V.two (doV op [x, y])) := by
  refine pcall_of (lits2 (.int _ _) (.lst _ _ _)) (call12 rfl ?_)
  rcases takes2 h with rfl | rfl | rfl | rfl | rfl | rfl | rfl | rfl | rfl | rfl | rfl | rfl | rfl | rfl
  all_goals iterate 30 (all_goals (try conv => whnf); all_goals (try first | with_reducible refine brY (by assumption) ?_ | with_reducible refine brN (by assumption) ?_ | (with_reducible refine brT ?_ ?_; · (simp only [Bool.and_eq_true, Bool.not_eq_true', decide_eq_true_eq, decide_eq_false_iff_not, beq_iff_eq, beq_eq_false_iff_ne, ne_eq] at *; omega)) | with_reducible refine br (fun _ => ?_) (fun _ => ?_) | with_reducible refine ⟨rfl, ?_⟩ | with_reducible refine ARound.succ ?_ | with_reducible refine PCall.call (takes_any _) ?_ | with_reducible refine PCall.call (check_any _) ?_ | with_reducible refine PCall.call (check_any x) ?_ | with_reducible refine PCall.call (check_any y) ?_ | with_reducible refine PCall.call (gives2 _ _ _ rfl) ?_ | with_reducible refine PCall.call (truth_any _) ?_ | with_reducible refine PCall.call (true_any x) ?_ | with_reducible refine PCall.call (true_any y) ?_ | with_reducible refine PCall.call (false0_any x) ?_ | with_reducible refine PCall.call (false0_any y) ?_ | (refine PCall.call (true_any x) ?_) | (refine PCall.call (true_any y) ?_) | (refine PCall.call (false0_any x) ?_) | (refine PCall.call (false0_any y) ?_) | (refine PCall.call (number3 hx hx' hy hy') ?_) | (refine PCall.call (number4 hx hx' hy hy' (.inl rfl)) ?_) | (refine PCall.call (number5 hx hx' hy hy') ?_) | (refine PCall.call (number6 hx hx' hy hy') ?_) | (refine PCall.call (number7 hy hy') ?_) | (with_reducible refine ACall.frz (fun i => Nat.beq i 2) (.cons (.lit (.int _ _)) (.cons (hardK2 rfl) .nil)) ?_) | with_reducible refine PCall.call (compare_any [x] [y] (by simp)) ?_ | (refine ACall.frz (fun i => false) (.cons hardFst (.cons hardSnd .nil)) ?_) | with_reducible refine PCall.call (holds_any _ _) ?_ | with_reducible refine loop_rounds 5 ?_))
  all_goals simp only [gd0, gd1, gd2] at *
  all_goals try (have h1 := chk_len (x := x) (by assumption); have h2 := chk_len (x := y) (by assumption))
  all_goals first | refine leaf ?_ (V.two_lit _) | (exfalso; have h3 : ¬ (x.t.length + y.t.length ≤ 9223372036854775807) := of_decide_eq_false (by assumption); omega)
  all_goals simp_all [doV, takes, chk, doOn, V.two, V.sv, vnull, vbool, vint, cond_false, cond_true]
  · rw [if_pos (by omega)]; exact ⟨⟨rfl, rfl, rfl⟩, rfl⟩
  · rw [if_neg (by omega)]; exact ⟨⟨rfl, rfl, rfl⟩, rfl⟩
end

section
variable {x : V} (hx : -9223372036854775808 ≤ x.n) (hx' : x.n ≤ 9223372036854775807)
include hx hx'
theorem do1 {op : Int} (h : takes op = 1) : PCall Tryz.prog 12 [.int .u8 op, oneV x] (V.two (doV op [x])) := by
  refine pcall_of (lits2 (.int _ _) (.lst _ _ _)) (call12 rfl ?_)
  rcases takes1 h with rfl | rfl | rfl | rfl
  all_goals iterate 30 (all_goals (try conv => whnf); all_goals (try first | with_reducible refine brY (by assumption) ?_ | with_reducible refine brN (by assumption) ?_ | (with_reducible refine brT ?_ ?_; · (simp only [Bool.and_eq_true, Bool.not_eq_true', decide_eq_true_eq, decide_eq_false_iff_not, beq_iff_eq, beq_eq_false_iff_ne, ne_eq] at *; omega)) | with_reducible refine br (fun _ => ?_) (fun _ => ?_) | with_reducible refine ⟨rfl, ?_⟩ | with_reducible refine ARound.succ ?_ | with_reducible refine PCall.call (takes_any _) ?_ | with_reducible refine PCall.call (check_any _) ?_ | with_reducible refine PCall.call (check_any x) ?_ | with_reducible refine PCall.call (gives1 _ _ rfl) ?_ | with_reducible refine PCall.call (truth_any _) ?_ | with_reducible refine PCall.call (true_any x) ?_ | (refine PCall.call (true_any x) ?_) | (refine PCall.call (number4 (by omega) (by omega) hx hx' (.inr rfl)) ?_) | (with_reducible refine ACall.frz (fun i => Nat.beq i 2) (.cons (.lit (.int _ _)) (.cons (hardK1 rfl) .nil)) ?_) | with_reducible refine loop_rounds 5 ?_))
  all_goals simp only [ge0] at *
  all_goals refine leaf ?_ (V.two_lit _)
  all_goals simp_all [doV, takes, chk, doOn, V.two, V.sv, vnull, vbool, vint, cond_false, cond_true]
  all_goals trace_state
end

theorem do_bad (op : Int) (l : List V) (h : takes op = 0 ∨ (l.length : Int) ≠ takes op) : PCall Tryz.prog 12 [.int .u8 op, lstV l] (V.two (doV op l)) := by
  refine pcall_of (lits2 (.int _ _) (.lst _ _ _)) (call12 rfl ?_)
  have e : doV op l = (vnull, 2) := by unfold doV; rw [if_pos h]
  rw [e]
  iterate 10 (all_goals (try conv => whnf); all_goals (try first | with_reducible refine brY (by assumption) ?_ | with_reducible refine brN (by assumption) ?_ | (with_reducible refine brT ?_ ?_; · (simp only [Bool.and_eq_true, Bool.not_eq_true', decide_eq_true_eq, decide_eq_false_iff_not, beq_iff_eq, beq_eq_false_iff_ne, ne_eq] at *; omega)) | with_reducible refine br (fun _ => ?_) (fun _ => ?_) | with_reducible refine ⟨rfl, ?_⟩ | with_reducible refine ARound.succ ?_ | with_reducible refine PCall.call (takes_any _) ?_))
  · exact leaf rfl (V.two_lit _)
  · exact leaf rfl (V.two_lit _)
  all_goals exfalso
  all_goals simp only [beq_iff_eq, beq_eq_false_iff_ne, cond_false, bne_eq_false_iff_eq, ne_eq] at *
  all_goals omega
end Go.Proofs.YtaficpgadjemcaaGreatDoor
