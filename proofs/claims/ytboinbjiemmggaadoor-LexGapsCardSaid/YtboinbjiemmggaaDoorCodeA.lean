/- The symbolic code of functions, by a program of ours; the kernel holds it against the program's code. -/
import Derived.Test.YtboinbjiemmggaaDoorProg
import Derived.Test.YtboinbjiemmggaaDoorAbK
import Derived.KernelRfl
namespace Go.Proofs.YtboinbjiemmggaaDoor
open Ab
set_option maxRecDepth 100000
theorem mixed : Tryd.prog.follows .mixedOrders = true := by kernel_rfl


/-- gosem.cut.init -/
def c2 : ACode :=
 .region [
  ⟨some 0, .bad, none, []⟩] [0]
theorem ok2 : erase c2 = cCode Tryd.prog 1 ((Tryd.f2).body.getD .skip) := by kernel_rfl
theorem ord2 : ordsOk c2 = true := by kernel_rfl
theorem call2 {args : List SV} {h : Heap} {R : AEnd → Heap → Prop} (hn : Nat.ble args.length 1 = true) (hp : awp Tryd.prog c2 (finQ [] R) (argEnv 0 args) h) : ACall Tryd.prog 2 args h R :=
  acall_of_awp mixed Tryd.func2 rfl ord2 ok2 (by kernel_rfl) hn hp
def t2 : Tab := ⟨1, c2, []⟩
theorem tab2 : TabOk Tryd.prog 2 t2 := tabOk Tryd.func2 rfl ord2 ok2 (by kernel_rfl) rfl

def c3r19 : List AOper := [
 ⟨some 94, .mov (.tmp 5), none, []⟩, 
 ⟨some 95, .bin .gtr (.tmp 94) (.const (.int .i64 0)), none, [0]⟩, 
 ⟨some 96, .mov (.tmp 95), none, [1]⟩, 
 ⟨some 97, .loadA 2 (.tmp 9), (some (96, true)), [2]⟩, 
 ⟨some 98, .build [(.int .i64 0), (.int .i64 0)] [], (some (96, true)), [2]⟩, 
 ⟨some 99, .eqA true [.int, .int] (.tmp 97) (.tmp 98), (some (96, true)), [3, 4, 2]⟩, 
 ⟨some 100, .mov (.tmp 99), (some (96, true)), [5, 2, 2]⟩, 
 ⟨some 101, .mov (.tmp 8), (some (100, false)), [6]⟩, 
 ⟨some 102, .call 7 [(.tmp 101)], (some (100, false)), [7, 6, 6]⟩, 
 ⟨some 103, .mov (.tmp 3), (some (100, false)), [6]⟩, 
 ⟨some 104, .mov (.tmp 5), (some (100, false)), [6]⟩, 
 ⟨some 105, .bin .sub (.tmp 104) (.const (.int .i64 1)), (some (100, false)), [10, 6]⟩, 
 ⟨some 106, .mov (.tmp 5), (some (100, false)), [6]⟩, 
 ⟨some 107, .slice 4 (.tmp 103) (some (.tmp 105)) (some (.tmp 106)), (some (100, false)), [9, 11, 12, 6]⟩, 
 ⟨some 108, .call 7 [(.tmp 107)], (some (100, false)), [13, 8, 6]⟩, 
 ⟨some 109, .call 6 [(.tmp 102), (.tmp 108)], (some (100, false)), [8, 14, 14, 6]⟩, 
 ⟨some 110, .un .not (.tmp 109), (some (100, false)), [15, 6]⟩, 
 ⟨some 111, .pick (.tmp 100) (.const (.bool true)) (.tmp 110), (some (96, true)), [6, 16, 2]⟩, 
 ⟨some 112, .pick (.tmp 96) (.tmp 111) (.const (.bool false)), none, [2, 17]⟩]
/-- stagepost/stagepostlaw13.LexGaps -/
def c3 : ACode :=
 .seq (.region [
  ⟨some 2, .mov (.const (.bool false)), none, []⟩] [])
 (.seq (.seq (.region [
  ⟨some 11, .call 4 [], none, []⟩, 
  ⟨some 12, .un .not (.tmp 11), none, []⟩] [11])
 (.cond (.tmp 12)
  (.seq (.region [
   ⟨some 2, .mov (.const (.bool false)), none, []⟩] [])
  (.ret))
  (.skip)))
 (.seq (.seq (.region [
  ⟨some 13, .mov (.tmp 0), none, []⟩, 
  ⟨some 14, .len true (.tmp 13), none, []⟩, 
  ⟨some 15, .bin .gtr (.tmp 14) (.const (.int .i64 4000)), none, []⟩] [13, 14])
 (.cond (.tmp 15)
  (.seq (.region [
   ⟨some 2, .mov (.const (.bool true)), none, []⟩] [])
  (.ret))
  (.skip)))
 (.seq (.region [
  ⟨some 17, .mov (.tmp 0), none, []⟩, 
  ⟨some 18, .call 5 [(.tmp 17)], none, []⟩, 
  ⟨some 16, .mov (.tmp 18), none, []⟩, 
  ⟨some 19, .extract (.tmp 16) 0, none, []⟩, 
  ⟨some 20, .extract (.tmp 16) 1, none, []⟩, 
  ⟨some 4, .box 26 2 (.const (.agg [(.int .i64 0), (.int .i64 0)])), none, []⟩, 
  ⟨some 3, .mov (.tmp 19), none, []⟩, 
  ⟨none, .store 2 (.tmp 4) (.tmp 20), none, []⟩] [17, 18, 16, 19, 20])
 (.seq (.seq (.region [
  ⟨some 21, .loadA 2 (.tmp 4), none, []⟩, 
  ⟨some 22, .build [(.int .i64 0), (.int .i64 0)] [], none, []⟩, 
  ⟨some 23, .eqA true [.int, .int] (.tmp 21) (.tmp 22), none, []⟩] [21, 22])
 (.cond (.tmp 23)
  (.seq (.region [
   ⟨some 24, .mov (.tmp 3), none, []⟩, 
   ⟨some 25, .len false (.tmp 24), none, []⟩, 
   ⟨some 26, .bin .eql (.tmp 25) (.const (.int .i64 0)), none, []⟩, 
   ⟨some 27, .mov (.tmp 26), none, []⟩, 
   ⟨some 28, .fieldAddr 1 (.tmp 4), (some (27, true)), []⟩, 
   ⟨some 29, .loadS (.tmp 28), (some (27, true)), []⟩, 
   ⟨some 30, .bin .geq (.tmp 29) (.const (.int .i64 0)), (some (27, true)), []⟩, 
   ⟨some 31, .pick (.tmp 27) (.tmp 30) (.const (.bool false)), none, []⟩, 
   ⟨some 32, .mov (.tmp 31), none, []⟩, 
   ⟨some 33, .fieldAddr 1 (.tmp 4), (some (32, true)), []⟩, 
   ⟨some 34, .loadS (.tmp 33), (some (32, true)), []⟩, 
   ⟨some 35, .mov (.tmp 0), (some (32, true)), []⟩, 
   ⟨some 36, .len true (.tmp 35), (some (32, true)), []⟩, 
   ⟨some 37, .bin .lss (.tmp 34) (.tmp 36), (some (32, true)), []⟩, 
   ⟨some 38, .pick (.tmp 32) (.tmp 37) (.const (.bool false)), none, []⟩, 
   ⟨some 2, .mov (.tmp 38), none, []⟩] [24, 25, 26, 27, 28, 29, 30, 31, 32, 33, 34, 35, 36, 37, 38])
  (.ret))
  (.skip)))
 (.seq (.seq (.region [
  ⟨some 5, .mov (.const (.int .i64 0)), none, []⟩] [])
 (.block 0 (.loop (.seq (.seq (.region [
    ⟨some 39, .mov (.tmp 5), none, []⟩, 
    ⟨some 40, .mov (.tmp 3), none, []⟩, 
    ⟨some 41, .len false (.tmp 40), none, []⟩, 
    ⟨some 42, .bin .leq (.tmp 39) (.tmp 41), none, []⟩] [39, 40, 41])
   (.cond (.tmp 42)
    (.skip)
    (.exit 0)))
   (.seq (.block 1 (.seq (.region [
     ⟨some 45, .mov (.tmp 0), none, []⟩, 
     ⟨some 46, .len true (.tmp 45), none, []⟩, 
     ⟨some 6, .mov (.const (.int .i64 0)), none, []⟩, 
     ⟨some 7, .mov (.tmp 46), none, []⟩] [45, 46])
    (.seq (.seq (.region [
     ⟨some 47, .mov (.tmp 5), none, []⟩, 
     ⟨some 48, .bin .gtr (.tmp 47) (.const (.int .i64 0)), none, []⟩] [47])
    (.cond (.tmp 48)
     (.region [
      ⟨some 49, .mov (.tmp 3), none, []⟩, 
      ⟨some 50, .mov (.tmp 5), none, []⟩, 
      ⟨some 51, .bin .sub (.tmp 50) (.const (.int .i64 1)), none, []⟩, 
      ⟨some 52, .indexAddr 4 (.tmp 49) (.tmp 51), none, []⟩, 
      ⟨some 53, .fieldAddr 3 (.tmp 52), none, []⟩, 
      ⟨some 54, .loadS (.tmp 53), none, []⟩, 
      ⟨some 6, .mov (.tmp 54), none, []⟩] [49, 50, 51, 52, 53, 54])
     (.skip)))
    (.seq (.seq (.region [
     ⟨some 55, .mov (.tmp 5), none, []⟩, 
     ⟨some 56, .mov (.tmp 3), none, []⟩, 
     ⟨some 57, .len false (.tmp 56), none, []⟩, 
     ⟨some 58, .bin .lss (.tmp 55) (.tmp 57), none, []⟩] [55, 56, 57])
    (.cond (.tmp 58)
     (.region [
      ⟨some 59, .mov (.tmp 3), none, []⟩, 
      ⟨some 60, .mov (.tmp 5), none, []⟩, 
      ⟨some 61, .indexAddr 4 (.tmp 59) (.tmp 60), none, []⟩, 
      ⟨some 62, .fieldAddr 3 (.tmp 61), none, []⟩, 
      ⟨some 63, .loadS (.tmp 62), none, []⟩, 
      ⟨some 7, .mov (.tmp 63), none, []⟩] [59, 60, 61, 62, 63])
     (.skip)))
    (.seq (.seq (.region [
     ⟨some 64, .mov (.tmp 6), none, []⟩, 
     ⟨some 65, .bin .lss (.tmp 64) (.const (.int .i64 0)), none, []⟩, 
     ⟨some 66, .mov (.tmp 65), none, []⟩, 
     ⟨some 67, .mov (.tmp 7), (some (66, false)), []⟩, 
     ⟨some 68, .mov (.tmp 0), (some (66, false)), []⟩, 
     ⟨some 69, .len true (.tmp 68), (some (66, false)), []⟩, 
     ⟨some 70, .bin .gtr (.tmp 67) (.tmp 69), (some (66, false)), []⟩, 
     ⟨some 71, .pick (.tmp 66) (.const (.bool true)) (.tmp 70), none, []⟩, 
     ⟨some 72, .mov (.tmp 71), none, []⟩, 
     ⟨some 73, .mov (.tmp 6), (some (72, false)), []⟩, 
     ⟨some 74, .mov (.tmp 7), (some (72, false)), []⟩, 
     ⟨some 75, .bin .gtr (.tmp 73) (.tmp 74), (some (72, false)), []⟩, 
     ⟨some 76, .pick (.tmp 72) (.const (.bool true)) (.tmp 75), none, []⟩, 
     ⟨some 77, .mov (.tmp 76), none, []⟩, 
     ⟨some 78, .mov (.tmp 5), (some (77, false)), []⟩, 
     ⟨some 79, .bin .gtr (.tmp 78) (.const (.int .i64 0)), (some (77, false)), []⟩, 
     ⟨some 80, .mov (.tmp 79), (some (77, false)), []⟩, 
     ⟨some 81, .mov (.tmp 6), (some (80, true)), []⟩, 
     ⟨some 82, .mov (.tmp 7), (some (80, true)), []⟩, 
     ⟨some 83, .bin .eql (.tmp 81) (.tmp 82), (some (80, true)), []⟩, 
     ⟨some 84, .pick (.tmp 80) (.tmp 83) (.const (.bool false)), (some (77, false)), []⟩, 
     ⟨some 85, .pick (.tmp 77) (.const (.bool true)) (.tmp 84), none, []⟩] [64, 65, 66, 67, 68, 69, 70, 71, 72, 73, 74, 75, 76, 77, 78, 79, 80, 81, 82, 83, 84])
    (.cond (.tmp 85)
     (.seq (.region [
      ⟨some 2, .mov (.const (.bool false)), none, []⟩] [])
     (.ret))
     (.skip)))
    (.seq (.region [
     ⟨some 87, .mov (.tmp 0), none, []⟩, 
     ⟨some 88, .mov (.tmp 6), none, []⟩, 
     ⟨some 89, .mov (.tmp 7), none, []⟩, 
     ⟨some 90, .sliceStr (.tmp 87) (some (.tmp 88)) (some (.tmp 89)), none, []⟩, 
     ⟨some 91, .call 5 [(.tmp 90)], none, []⟩, 
     ⟨some 86, .mov (.tmp 91), none, []⟩, 
     ⟨some 92, .extract (.tmp 86) 0, none, []⟩, 
     ⟨some 93, .extract (.tmp 86) 1, none, []⟩, 
     ⟨some 9, .box 26 2 (.const (.agg [(.int .i64 0), (.int .i64 0)])), none, []⟩, 
     ⟨some 8, .mov (.tmp 92), none, []⟩, 
     ⟨none, .store 2 (.tmp 9) (.tmp 93), none, []⟩] [87, 88, 89, 90, 91, 86, 92, 93])
    (.seq (.seq (.dregion c3r19 [(0, false, []), (1, false, []), (2, false, []), (3, false, []), (4, false, []), (5, false, []), (6, false, []), (7, false, []), (9, false, []), (10, false, []), (11, false, []), (12, false, []), (13, false, []), (8, true, [13]), (14, true, []), (15, true, []), (16, false, []), (17, false, []), (18, false, [])] [94, 95, 96, 97, 98, 99, 100, 101, 102, 103, 104, 105, 106, 107, 108, 109, 110, 111])
    (.cond (.tmp 112)
     (.seq (.region [
      ⟨some 2, .mov (.const (.bool false)), none, []⟩] [])
     (.ret))
     (.skip)))
    (.seq (.region [
     ⟨some 113, .mov (.tmp 6), none, []⟩, 
     ⟨some 10, .mov (.tmp 113), none, []⟩] [113])
    (.block 2 (.loop (.seq (.seq (.region [
       ⟨some 114, .mov (.tmp 10), none, []⟩, 
       ⟨some 115, .mov (.tmp 7), none, []⟩, 
       ⟨some 116, .bin .lss (.tmp 114) (.tmp 115), none, []⟩, 
       ⟨some 117, .mov (.tmp 116), none, []⟩, 
       ⟨some 118, .mov (.tmp 5), (some (117, true)), []⟩, 
       ⟨some 119, .bin .eql (.tmp 118) (.const (.int .i64 0)), (some (117, true)), []⟩, 
       ⟨some 120, .pick (.tmp 117) (.tmp 119) (.const (.bool false)), none, []⟩] [114, 115, 116, 117, 118, 119])
      (.cond (.tmp 120)
       (.skip)
       (.exit 2)))
      (.seq (.block 3 (.seq (.region [
        ⟨some 123, .mov (.tmp 0), none, []⟩, 
        ⟨some 124, .mov (.tmp 10), none, []⟩, 
        ⟨some 125, .index (.tmp 123) (.tmp 124), none, []⟩, 
        ⟨some 126, .call 8 [(.tmp 125)], none, []⟩, 
        ⟨some 127, .un .not (.tmp 126), none, []⟩] [123, 124, 125, 126])
       (.cond (.tmp 127)
        (.seq (.region [
         ⟨some 2, .mov (.const (.bool false)), none, []⟩] [])
        (.ret))
        (.skip))))
      (.region [
       ⟨some 121, .mov (.tmp 10), none, []⟩, 
       ⟨some 122, .bin .add (.tmp 121) (.const (.int .i64 1)), none, []⟩, 
       ⟨some 10, .mov (.tmp 122), none, []⟩] [121, 122])))))))))))))
   (.region [
    ⟨some 43, .mov (.tmp 5), none, []⟩, 
    ⟨some 44, .bin .add (.tmp 43) (.const (.int .i64 1)), none, []⟩, 
    ⟨some 5, .mov (.tmp 44), none, []⟩] [43, 44]))))))
 (.seq (.region [
  ⟨some 2, .mov (.const (.bool true)), none, []⟩] [])
 (.ret)))))))
theorem ok3 : erase c3 = cCode Tryd.prog 128 ((Tryd.f3).body.getD .skip) := by kernel_rfl
theorem ord3 : ordsOk c3 = true := by kernel_rfl
theorem call3 {args : List SV} {h : Heap} {R : AEnd → Heap → Prop} (hn : Nat.ble args.length 128 = true) (hp : awp Tryd.prog c3 (finQ [.tmp 2] R) (argEnv 0 args) h) : ACall Tryd.prog 3 args h R :=
  acall_of_awp mixed Tryd.func3 rfl ord3 ok3 (by kernel_rfl) hn hp
def t3 : Tab := ⟨128, c3, [.tmp 2]⟩
theorem tab3 : TabOk Tryd.prog 3 t3 := tabOk Tryd.func3 rfl ord3 ok3 (by kernel_rfl) rfl

/-- stagepost/stagepostlaw13.lives -/
def c4 : ACode :=
 .seq (.region [
  ⟨some 0, .mov (.const (.bool false)), none, []⟩] [])
 (.seq (.region [
  ⟨some 4, .call 5 [(.const (.str [83, 69, 76, 69, 67, 84, 32, 97, 49, 44, 39, 105, 116, 39, 39, 115, 39]))], none, []⟩, 
  ⟨some 3, .mov (.tmp 4), none, []⟩, 
  ⟨some 5, .extract (.tmp 3) 0, none, []⟩, 
  ⟨some 6, .extract (.tmp 3) 1, none, []⟩, 
  ⟨some 2, .box 26 2 (.const (.agg [(.int .i64 0), (.int .i64 0)])), none, []⟩, 
  ⟨some 1, .mov (.tmp 5), none, []⟩, 
  ⟨none, .store 2 (.tmp 2) (.tmp 6), none, []⟩] [4, 3, 5, 6])
 (.seq (.region [
  ⟨some 7, .loadA 2 (.tmp 2), none, []⟩, 
  ⟨some 8, .build [(.int .i64 0), (.int .i64 0)] [], none, []⟩, 
  ⟨some 9, .eqA false [.int, .int] (.tmp 7) (.tmp 8), none, []⟩, 
  ⟨some 10, .mov (.tmp 9), none, []⟩, 
  ⟨some 11, .mov (.tmp 1), (some (10, true)), []⟩, 
  ⟨some 12, .build [(.int .u8 0), (.str []), (.int .u64 0), (.int .i64 0)] [(0, 1, (.const (.int .u8 1))), (1, 1, (.const (.str [115, 101, 108, 101, 99, 116])))], (some (10, true)), []⟩, 
  ⟨some 13, .build [(.int .u8 0), (.str []), (.int .u64 0), (.int .i64 0)] [(0, 1, (.const (.int .u8 1))), (1, 1, (.const (.str [97, 49]))), (3, 1, (.const (.int .i64 7)))], (some (10, true)), []⟩, 
  ⟨some 14, .build [(.int .u8 0), (.str []), (.int .u64 0), (.int .i64 0)] [(0, 1, (.const (.int .u8 4))), (1, 1, (.const (.str [44]))), (3, 1, (.const (.int .i64 9)))], (some (10, true)), []⟩, 
  ⟨some 15, .build [(.int .u8 0), (.str []), (.int .u64 0), (.int .i64 0)] [(0, 1, (.const (.int .u8 3))), (1, 1, (.const (.str [105, 116, 39, 115]))), (3, 1, (.const (.int .i64 10)))], (some (10, true)), []⟩, 
  ⟨some 16, .buildSlice 32 4 (.agg [(.int .u8 0), (.str []), (.int .u64 0), (.int .i64 0)]) 4 [(0, (.tmp 12)), (1, (.tmp 13)), (2, (.tmp 14)), (3, (.tmp 15))], (some (10, true)), []⟩, 
  ⟨some 17, .call 6 [(.tmp 11), (.tmp 16)], (some (10, true)), []⟩, 
  ⟨some 18, .pick (.tmp 10) (.tmp 17) (.const (.bool false)), none, []⟩, 
  ⟨some 0, .mov (.tmp 18), none, []⟩] [7, 8, 9, 10, 11, 12, 13, 14, 15, 16, 17, 18])
 (.ret)))
theorem ok4 : erase c4 = cCode Tryd.prog 19 ((Tryd.f4).body.getD .skip) := by kernel_rfl
theorem ord4 : ordsOk c4 = true := by kernel_rfl
theorem call4 {args : List SV} {h : Heap} {R : AEnd → Heap → Prop} (hn : Nat.ble args.length 19 = true) (hp : awp Tryd.prog c4 (finQ [.tmp 0] R) (argEnv 0 args) h) : ACall Tryd.prog 4 args h R :=
  acall_of_awp mixed Tryd.func4 rfl ord4 ok4 (by kernel_rfl) hn hp
def t4 : Tab := ⟨19, c4, [.tmp 0]⟩
theorem tab4 : TabOk Tryd.prog 4 t4 := tabOk Tryd.func4 rfl ord4 ok4 (by kernel_rfl) rfl

/-- stagepost/lexer.Lex -/
def c5 : ACode :=
 .seq (.region [
  ⟨some 2, .mov (.const .nils), none, []⟩, 
  ⟨some 3, .box 26 2 (.const (.agg [(.int .i64 0), (.int .i64 0)])), none, []⟩] [])
 (.seq (.seq (.region [
  ⟨some 9, .mov (.tmp 0), none, []⟩, 
  ⟨some 10, .len true (.tmp 9), none, []⟩, 
  ⟨some 11, .bin .gtr (.tmp 10) (.const (.int .i64 65536)), none, []⟩] [9, 10])
 (.cond (.tmp 11)
  (.seq (.region [
   ⟨some 12, .build [(.int .i64 0), (.int .i64 0)] [(0, 1, (.const (.int .i64 3))), (1, 1, (.const (.int .i64 (-1))))], none, []⟩, 
   ⟨some 2, .mov (.const .nils), none, []⟩, 
   ⟨none, .store 2 (.tmp 3) (.tmp 12), none, []⟩] [12])
  (.ret))
  (.skip)))
 (.seq (.region [
  ⟨some 4, .mov (.const .nils), none, []⟩] [])
 (.seq (.seq (.region [
  ⟨some 5, .mov (.const (.int .i64 0)), none, []⟩] [])
 (.block 0 (.loop (.seq (.seq (.region [
    ⟨some 13, .mov (.tmp 5), none, []⟩, 
    ⟨some 14, .mov (.tmp 0), none, []⟩, 
    ⟨some 15, .len true (.tmp 14), none, []⟩, 
    ⟨some 16, .bin .lss (.tmp 13) (.tmp 15), none, []⟩] [13, 14, 15])
   (.cond (.tmp 16)
    (.skip)
    (.exit 0)))
   (.block 1 (.seq (.seq (.region [
     ⟨some 17, .mov (.tmp 0), none, []⟩, 
     ⟨some 18, .mov (.tmp 5), none, []⟩, 
     ⟨some 19, .index (.tmp 17) (.tmp 18), none, []⟩, 
     ⟨some 20, .call 9 [(.const (.str [9, 10, 13, 32])), (.tmp 19)], none, []⟩, 
     ⟨some 21, .bin .geq (.tmp 20) (.const (.int .i64 0)), none, []⟩] [17, 18, 19, 20])
    (.cond (.tmp 21)
     (.seq (.region [
      ⟨some 22, .mov (.tmp 5), none, []⟩, 
      ⟨some 23, .bin .add (.tmp 22) (.const (.int .i64 1)), none, []⟩, 
      ⟨some 5, .mov (.tmp 23), none, []⟩] [22, 23])
     (.exit 1))
     (.skip)))
    (.seq (.region [
     ⟨some 25, .mov (.tmp 0), none, []⟩, 
     ⟨some 26, .mov (.tmp 5), none, []⟩, 
     ⟨some 27, .sliceStr (.tmp 25) (some (.tmp 26)) none, none, []⟩, 
     ⟨some 28, .call 10 [(.tmp 27)], none, []⟩, 
     ⟨some 24, .mov (.tmp 28), none, []⟩, 
     ⟨some 29, .extract (.tmp 24) 0, none, []⟩, 
     ⟨some 30, .extract (.tmp 24) 1, none, []⟩, 
     ⟨some 31, .extract (.tmp 24) 2, none, []⟩, 
     ⟨some 6, .box 32 4 (.const (.agg [(.int .u8 0), (.str []), (.int .u64 0), (.int .i64 0)])), none, []⟩, 
     ⟨none, .store 4 (.tmp 6) (.tmp 29), none, []⟩, 
     ⟨some 7, .mov (.tmp 30), none, []⟩, 
     ⟨some 8, .mov (.tmp 31), none, []⟩] [25, 26, 27, 28, 24, 29, 30, 31])
    (.seq (.seq (.region [
     ⟨some 32, .mov (.tmp 8), none, []⟩, 
     ⟨some 33, .bin .neq (.tmp 32) (.const (.int .i64 0)), none, []⟩] [32])
    (.cond (.tmp 33)
     (.seq (.region [
      ⟨some 34, .mov (.tmp 8), none, []⟩, 
      ⟨some 35, .mov (.tmp 5), none, []⟩, 
      ⟨some 36, .build [(.int .i64 0), (.int .i64 0)] [(0, 1, (.tmp 34)), (1, 1, (.tmp 35))], none, []⟩, 
      ⟨some 2, .mov (.const .nils), none, []⟩, 
      ⟨none, .store 2 (.tmp 3) (.tmp 36), none, []⟩] [34, 35, 36])
     (.ret))
     (.skip)))
    (.seq (.region [
     ⟨some 37, .mov (.tmp 5), none, []⟩, 
     ⟨some 38, .fieldAddr 3 (.tmp 6), none, []⟩, 
     ⟨none, .store 1 (.tmp 38) (.tmp 37), none, []⟩] [37, 38])
    (.region [
     ⟨some 39, .mov (.tmp 4), none, []⟩, 
     ⟨some 40, .loadA 4 (.tmp 6), none, []⟩, 
     ⟨some 41, .buildSlice 32 4 (.agg [(.int .u8 0), (.str []), (.int .u64 0), (.int .i64 0)]) 1 [(0, (.tmp 40))], none, []⟩, 
     ⟨some 42, .append 32 4 40 (.tmp 39) (.tmp 41), none, []⟩, 
     ⟨some 43, .mov (.tmp 5), none, []⟩, 
     ⟨some 44, .mov (.tmp 7), none, []⟩, 
     ⟨some 45, .bin .add (.tmp 43) (.tmp 44), none, []⟩, 
     ⟨some 4, .mov (.tmp 42), none, []⟩, 
     ⟨some 5, .mov (.tmp 45), none, []⟩] [39, 40, 41, 42, 43, 44, 45]))))))))))
 (.seq (.region [
  ⟨some 46, .mov (.tmp 4), none, []⟩, 
  ⟨some 47, .build [(.int .i64 0), (.int .i64 0)] [], none, []⟩, 
  ⟨some 2, .mov (.tmp 46), none, []⟩, 
  ⟨none, .store 2 (.tmp 3) (.tmp 47), none, []⟩] [46, 47])
 (.ret)))))
theorem ok5 : erase c5 = cCode Tryd.prog 48 ((Tryd.f5).body.getD .skip) := by kernel_rfl
theorem ord5 : ordsOk c5 = true := by kernel_rfl
theorem call5 {args : List SV} {h : Heap} {R : AEnd → Heap → Prop} (hn : Nat.ble args.length 48 = true) (hp : awp Tryd.prog c5 (finQ [.tmp 2, .cellA 3 2] R) (argEnv 0 args) h) : ACall Tryd.prog 5 args h R :=
  acall_of_awp mixed Tryd.func5 rfl ord5 ok5 (by kernel_rfl) hn hp
def t5 : Tab := ⟨48, c5, [.tmp 2, .cellA 3 2]⟩
theorem tab5 : TabOk Tryd.prog 5 t5 := tabOk Tryd.func5 rfl ord5 ok5 (by kernel_rfl) rfl

def c6r6 : List AOper := [
 ⟨some 17, .mov (.tmp 0), none, []⟩, 
 ⟨some 18, .mov (.tmp 5), none, []⟩, 
 ⟨some 19, .indexAddr 4 (.tmp 17) (.tmp 18), none, [0, 1]⟩, 
 ⟨some 20, .loadA 4 (.tmp 19), none, [2]⟩, 
 ⟨some 21, .mov (.tmp 1), none, []⟩, 
 ⟨some 22, .mov (.tmp 5), none, []⟩, 
 ⟨some 23, .indexAddr 4 (.tmp 21) (.tmp 22), none, [4, 5]⟩, 
 ⟨some 24, .loadA 4 (.tmp 23), none, [6]⟩, 
 ⟨some 25, .eqA true [.int, .str, .int, .int] (.tmp 20) (.tmp 24), none, [3, 7]⟩]
/-- stagepost/stagepostlaw13.same -/
def c6 : ACode :=
 .seq (.region [
  ⟨some 4, .mov (.const (.bool false)), none, []⟩] [])
 (.seq (.seq (.region [
  ⟨some 6, .mov (.tmp 0), none, []⟩, 
  ⟨some 7, .len false (.tmp 6), none, []⟩, 
  ⟨some 8, .mov (.tmp 1), none, []⟩, 
  ⟨some 9, .len false (.tmp 8), none, []⟩, 
  ⟨some 10, .bin .neq (.tmp 7) (.tmp 9), none, []⟩] [6, 7, 8, 9])
 (.cond (.tmp 10)
  (.seq (.region [
   ⟨some 4, .mov (.const (.bool false)), none, []⟩] [])
  (.ret))
  (.skip)))
 (.seq (.seq (.region [
  ⟨some 5, .mov (.const (.int .i64 0)), none, []⟩] [])
 (.block 0 (.loop (.seq (.seq (.region [
    ⟨some 11, .mov (.tmp 5), none, []⟩, 
    ⟨some 12, .mov (.tmp 0), none, []⟩, 
    ⟨some 13, .len false (.tmp 12), none, []⟩, 
    ⟨some 14, .bin .lss (.tmp 11) (.tmp 13), none, []⟩] [11, 12, 13])
   (.cond (.tmp 14)
    (.skip)
    (.exit 0)))
   (.seq (.block 1 (.seq (.dregion c6r6 [(0, false, []), (1, false, []), (2, false, []), (3, false, []), (4, false, []), (5, false, []), (6, false, []), (7, false, []), (8, false, [])] [17, 18, 19, 20, 21, 22, 23, 24])
    (.cond (.tmp 25)
     (.seq (.region [
      ⟨some 4, .mov (.const (.bool false)), none, []⟩] [])
     (.ret))
     (.skip))))
   (.region [
    ⟨some 15, .mov (.tmp 5), none, []⟩, 
    ⟨some 16, .bin .add (.tmp 15) (.const (.int .i64 1)), none, []⟩, 
    ⟨some 5, .mov (.tmp 16), none, []⟩] [15, 16]))))))
 (.seq (.region [
  ⟨some 4, .mov (.const (.bool true)), none, []⟩] [])
 (.ret))))
theorem ok6 : erase c6 = cCode Tryd.prog 26 ((Tryd.f6).body.getD .skip) := by kernel_rfl
theorem ord6 : ordsOk c6 = true := by kernel_rfl
theorem call6 {args : List SV} {h : Heap} {R : AEnd → Heap → Prop} (hn : Nat.ble args.length 26 = true) (hp : awp Tryd.prog c6 (finQ [.tmp 4] R) (argEnv 0 args) h) : ACall Tryd.prog 6 args h R :=
  acall_of_awp mixed Tryd.func6 rfl ord6 ok6 (by kernel_rfl) hn hp
def t6 : Tab := ⟨26, c6, [.tmp 4]⟩
theorem tab6 : TabOk Tryd.prog 6 t6 := tabOk Tryd.func6 rfl ord6 ok6 (by kernel_rfl) rfl

/-- stagepost/stagepostlaw13.placed -/
def c7 : ACode :=
 .seq (.region [
  ⟨some 2, .mov (.const .nils), none, []⟩] [])
 (.seq (.region [
  ⟨some 5, .buildSlice 32 4 (.agg [(.int .u8 0), (.str []), (.int .u64 0), (.int .i64 0)]) 0 [], none, []⟩, 
  ⟨some 6, .mov (.tmp 0), none, []⟩, 
  ⟨some 7, .append 32 4 40 (.tmp 5) (.tmp 6), none, []⟩, 
  ⟨some 3, .mov (.tmp 7), none, []⟩] [5, 6, 7])
 (.seq (.seq (.region [
  ⟨some 4, .mov (.const (.int .i64 0)), none, []⟩] [])
 (.block 0 (.loop (.seq (.seq (.region [
    ⟨some 8, .mov (.tmp 4), none, []⟩, 
    ⟨some 9, .mov (.tmp 3), none, []⟩, 
    ⟨some 10, .len false (.tmp 9), none, []⟩, 
    ⟨some 11, .bin .lss (.tmp 8) (.tmp 10), none, []⟩] [8, 9, 10])
   (.cond (.tmp 11)
    (.skip)
    (.exit 0)))
   (.seq (.block 1 (.region [
     ⟨some 14, .mov (.tmp 3), none, []⟩, 
     ⟨some 15, .mov (.tmp 4), none, []⟩, 
     ⟨some 16, .indexAddr 4 (.tmp 14) (.tmp 15), none, []⟩, 
     ⟨some 17, .fieldAddr 3 (.tmp 16), none, []⟩, 
     ⟨none, .store 1 (.tmp 17) (.const (.int .i64 0)), none, []⟩] [14, 15, 16, 17]))
   (.region [
    ⟨some 12, .mov (.tmp 4), none, []⟩, 
    ⟨some 13, .bin .add (.tmp 12) (.const (.int .i64 1)), none, []⟩, 
    ⟨some 4, .mov (.tmp 13), none, []⟩] [12, 13]))))))
 (.seq (.region [
  ⟨some 18, .mov (.tmp 3), none, []⟩, 
  ⟨some 2, .mov (.tmp 18), none, []⟩] [18])
 (.ret))))
theorem ok7 : erase c7 = cCode Tryd.prog 19 ((Tryd.f7).body.getD .skip) := by kernel_rfl
theorem ord7 : ordsOk c7 = true := by kernel_rfl
theorem call7 {args : List SV} {h : Heap} {R : AEnd → Heap → Prop} (hn : Nat.ble args.length 19 = true) (hp : awp Tryd.prog c7 (finQ [.tmp 2] R) (argEnv 0 args) h) : ACall Tryd.prog 7 args h R :=
  acall_of_awp mixed Tryd.func7 rfl ord7 ok7 (by kernel_rfl) hn hp
def t7 : Tab := ⟨19, c7, [.tmp 2]⟩
theorem tab7 : TabOk Tryd.prog 7 t7 := tabOk Tryd.func7 rfl ord7 ok7 (by kernel_rfl) rfl

/-- stagepost/stagepostlaw13.blank -/
def c8 : ACode :=
 .seq (.region [
  ⟨some 2, .mov (.const (.bool false)), none, []⟩] [])
 (.seq (.region [
  ⟨some 3, .mov (.tmp 0), none, []⟩, 
  ⟨some 4, .bin .eql (.tmp 3) (.const (.int .u8 9)), none, []⟩, 
  ⟨some 5, .mov (.tmp 4), none, []⟩, 
  ⟨some 6, .mov (.tmp 0), (some (5, false)), []⟩, 
  ⟨some 7, .bin .eql (.tmp 6) (.const (.int .u8 10)), (some (5, false)), []⟩, 
  ⟨some 8, .pick (.tmp 5) (.const (.bool true)) (.tmp 7), none, []⟩, 
  ⟨some 9, .mov (.tmp 8), none, []⟩, 
  ⟨some 10, .mov (.tmp 0), (some (9, false)), []⟩, 
  ⟨some 11, .bin .eql (.tmp 10) (.const (.int .u8 13)), (some (9, false)), []⟩, 
  ⟨some 12, .pick (.tmp 9) (.const (.bool true)) (.tmp 11), none, []⟩, 
  ⟨some 13, .mov (.tmp 12), none, []⟩, 
  ⟨some 14, .mov (.tmp 0), (some (13, false)), []⟩, 
  ⟨some 15, .bin .eql (.tmp 14) (.const (.int .u8 32)), (some (13, false)), []⟩, 
  ⟨some 16, .pick (.tmp 13) (.const (.bool true)) (.tmp 15), none, []⟩, 
  ⟨some 2, .mov (.tmp 16), none, []⟩] [3, 4, 5, 6, 7, 8, 9, 10, 11, 12, 13, 14, 15, 16])
 (.ret))
theorem ok8 : erase c8 = cCode Tryd.prog 17 ((Tryd.f8).body.getD .skip) := by kernel_rfl
theorem ord8 : ordsOk c8 = true := by kernel_rfl
theorem call8 {args : List SV} {h : Heap} {R : AEnd → Heap → Prop} (hn : Nat.ble args.length 17 = true) (hp : awp Tryd.prog c8 (finQ [.tmp 2] R) (argEnv 0 args) h) : ACall Tryd.prog 8 args h R :=
  acall_of_awp mixed Tryd.func8 rfl ord8 ok8 (by kernel_rfl) hn hp
def t8 : Tab := ⟨17, c8, [.tmp 2]⟩
theorem tab8 : TabOk Tryd.prog 8 t8 := tabOk Tryd.func8 rfl ord8 ok8 (by kernel_rfl) rfl

/-- strings.IndexByte -/
def c9 : ACode :=
 .seq (.region [
  ⟨some 4, .mov (.const (.int .i64 0)), none, []⟩] [])
 (.seq (.region [
  ⟨some 5, .mov (.tmp 0), none, []⟩, 
  ⟨some 6, .mov (.tmp 1), none, []⟩, 
  ⟨some 7, .call 11 [(.tmp 5), (.tmp 6)], none, []⟩, 
  ⟨some 4, .mov (.tmp 7), none, []⟩] [5, 6, 7])
 (.ret))
theorem ok9 : erase c9 = cCode Tryd.prog 8 ((Tryd.f9).body.getD .skip) := by kernel_rfl
theorem ord9 : ordsOk c9 = true := by kernel_rfl
theorem call9 {args : List SV} {h : Heap} {R : AEnd → Heap → Prop} (hn : Nat.ble args.length 8 = true) (hp : awp Tryd.prog c9 (finQ [.tmp 4] R) (argEnv 0 args) h) : ACall Tryd.prog 9 args h R :=
  acall_of_awp mixed Tryd.func9 rfl ord9 ok9 (by kernel_rfl) hn hp
def t9 : Tab := ⟨8, c9, [.tmp 4]⟩
theorem tab9 : TabOk Tryd.prog 9 t9 := tabOk Tryd.func9 rfl ord9 ok9 (by kernel_rfl) rfl

/-- stagepost/lexer.one -/
def c10 : ACode :=
 .seq (.region [
  ⟨some 2, .box 32 4 (.const (.agg [(.int .u8 0), (.str []), (.int .u64 0), (.int .i64 0)])), none, []⟩, 
  ⟨some 3, .mov (.const (.int .i64 0)), none, []⟩, 
  ⟨some 4, .mov (.const (.int .i64 0)), none, []⟩] [])
 (.seq (.seq (.region [
  ⟨some 8, .mov (.tmp 0), none, []⟩, 
  ⟨some 9, .index (.tmp 8) (.const (.int .i64 0)), none, []⟩, 
  ⟨some 5, .mov (.tmp 9), none, []⟩] [8, 9])
 (.block 0 (.seq (.region [
   ⟨some 11, .mov (.tmp 5), none, []⟩, 
   ⟨some 12, .call 12 [(.tmp 11)], none, []⟩, 
   ⟨some 10, .mov (.tmp 12), none, []⟩] [11, 12])
  (.cond (.tmp 10)
   (.seq (.region [
    ⟨some 13, .mov (.tmp 0), none, []⟩, 
    ⟨some 14, .call 13 [(.tmp 13)], none, []⟩, 
    ⟨some 15, .extract (.tmp 14) 0, none, []⟩, 
    ⟨some 16, .extract (.tmp 14) 1, none, []⟩, 
    ⟨some 17, .extract (.tmp 14) 2, none, []⟩, 
    ⟨none, .store 4 (.tmp 2) (.tmp 15), none, []⟩, 
    ⟨some 3, .mov (.tmp 16), none, []⟩, 
    ⟨some 4, .mov (.tmp 17), none, []⟩] [13, 14, 15, 16, 17])
   (.ret))
   (.seq (.region [
    ⟨some 19, .mov (.tmp 5), none, []⟩, 
    ⟨some 20, .call 14 [(.tmp 19)], none, []⟩, 
    ⟨some 18, .mov (.tmp 20), none, []⟩] [19, 20])
   (.cond (.tmp 18)
    (.seq (.region [
     ⟨some 21, .mov (.tmp 0), none, []⟩, 
     ⟨some 22, .call 15 [(.tmp 21)], none, []⟩, 
     ⟨some 23, .extract (.tmp 22) 0, none, []⟩, 
     ⟨some 24, .extract (.tmp 22) 1, none, []⟩, 
     ⟨some 25, .extract (.tmp 22) 2, none, []⟩, 
     ⟨none, .store 4 (.tmp 2) (.tmp 23), none, []⟩, 
     ⟨some 3, .mov (.tmp 24), none, []⟩, 
     ⟨some 4, .mov (.tmp 25), none, []⟩] [21, 22, 23, 24, 25])
    (.ret))
    (.seq (.region [
     ⟨some 27, .mov (.tmp 5), none, []⟩, 
     ⟨some 28, .bin .eql (.tmp 27) (.const (.int .u8 39)), none, []⟩, 
     ⟨some 26, .mov (.tmp 28), none, []⟩] [27, 28])
    (.cond (.tmp 26)
     (.seq (.region [
      ⟨some 29, .mov (.tmp 0), none, []⟩, 
      ⟨some 30, .call 16 [(.tmp 29)], none, []⟩, 
      ⟨some 31, .extract (.tmp 30) 0, none, []⟩, 
      ⟨some 32, .extract (.tmp 30) 1, none, []⟩, 
      ⟨some 33, .extract (.tmp 30) 2, none, []⟩, 
      ⟨none, .store 4 (.tmp 2) (.tmp 31), none, []⟩, 
      ⟨some 3, .mov (.tmp 32), none, []⟩, 
      ⟨some 4, .mov (.tmp 33), none, []⟩] [29, 30, 31, 32, 33])
     (.ret))
     (.skip)))))))))
 (.seq (.seq (.region [
  ⟨some 34, .call 17 [], none, []⟩, 
  ⟨some 35, .len false (.tmp 34), none, []⟩, 
  ⟨some 36, .mov (.const (.int .i64 0)), none, []⟩] [])
 (.block 1 (.loop (.seq (.region [
    ⟨some 37, .bin .lss (.tmp 36) (.tmp 35), none, []⟩] [])
   (.seq (.cond (.tmp 37)
    (.skip)
    (.exit 1))
   (.seq (.block 2 (.seq (.region [
     ⟨some 38, .indexAddr 1 (.tmp 34) (.tmp 36), none, []⟩, 
     ⟨some 39, .loadS (.tmp 38), none, []⟩, 
     ⟨some 7, .mov (.tmp 39), none, []⟩] [38, 39])
    (.seq (.region [
     ⟨some 40, .mov (.tmp 0), none, []⟩, 
     ⟨some 41, .mov (.tmp 7), none, []⟩, 
     ⟨some 42, .call 18 [(.tmp 40), (.tmp 41)], none, []⟩] [40, 41])
    (.cond (.tmp 42)
     (.seq (.region [
      ⟨some 43, .mov (.tmp 7), none, []⟩, 
      ⟨some 44, .build [(.int .u8 0), (.str []), (.int .u64 0), (.int .i64 0)] [(0, 1, (.const (.int .u8 4))), (1, 1, (.tmp 43))], none, []⟩, 
      ⟨some 45, .mov (.tmp 7), none, []⟩, 
      ⟨some 46, .len true (.tmp 45), none, []⟩, 
      ⟨none, .store 4 (.tmp 2) (.tmp 44), none, []⟩, 
      ⟨some 3, .mov (.tmp 46), none, []⟩, 
      ⟨some 4, .mov (.const (.int .i64 0)), none, []⟩] [43, 44, 45, 46])
     (.ret))
     (.skip)))))
   (.region [
    ⟨some 47, .bin .add (.tmp 36) (.const (.int .i64 1)), none, []⟩, 
    ⟨some 36, .mov (.tmp 47), none, []⟩] [47])))))))
 (.seq (.region [
  ⟨some 48, .build [(.int .u8 0), (.str []), (.int .u64 0), (.int .i64 0)] [], none, []⟩, 
  ⟨none, .store 4 (.tmp 2) (.tmp 48), none, []⟩, 
  ⟨some 3, .mov (.const (.int .i64 0)), none, []⟩, 
  ⟨some 4, .mov (.const (.int .i64 230)), none, []⟩] [48])
 (.ret))))
theorem ok10 : erase c10 = cCode Tryd.prog 49 ((Tryd.f10).body.getD .skip) := by kernel_rfl
theorem ord10 : ordsOk c10 = true := by kernel_rfl
theorem call10 {args : List SV} {h : Heap} {R : AEnd → Heap → Prop} (hn : Nat.ble args.length 49 = true) (hp : awp Tryd.prog c10 (finQ [.cellA 2 4, .tmp 3, .tmp 4] R) (argEnv 0 args) h) : ACall Tryd.prog 10 args h R :=
  acall_of_awp mixed Tryd.func10 rfl ord10 ok10 (by kernel_rfl) hn hp
def t10 : Tab := ⟨49, c10, [.cellA 2 4, .tmp 3, .tmp 4]⟩
theorem tab10 : TabOk Tryd.prog 10 t10 := tabOk Tryd.func10 rfl ord10 ok10 (by kernel_rfl) rfl

/-- internal/stringslite.IndexByte -/
def c11 : ACode :=
 .seq (.region [
  ⟨some 4, .mov (.const (.int .i64 0)), none, []⟩] [])
 (.seq (.region [
  ⟨some 5, .mov (.tmp 0), none, []⟩, 
  ⟨some 6, .mov (.tmp 1), none, []⟩, 
  ⟨some 7, .ext1 1 (.tmp 5) (.tmp 6), none, []⟩, 
  ⟨some 4, .mov (.tmp 7), none, []⟩] [5, 6, 7])
 (.ret))
theorem ok11 : erase c11 = cCode Tryd.prog 8 ((Tryd.f11).body.getD .skip) := by kernel_rfl
theorem ord11 : ordsOk c11 = true := by kernel_rfl
theorem call11 {args : List SV} {h : Heap} {R : AEnd → Heap → Prop} (hn : Nat.ble args.length 8 = true) (hp : awp Tryd.prog c11 (finQ [.tmp 4] R) (argEnv 0 args) h) : ACall Tryd.prog 11 args h R :=
  acall_of_awp mixed Tryd.func11 rfl ord11 ok11 (by kernel_rfl) hn hp
def t11 : Tab := ⟨8, c11, [.tmp 4]⟩
theorem tab11 : TabOk Tryd.prog 11 t11 := tabOk Tryd.func11 rfl ord11 ok11 (by kernel_rfl) rfl

/-- stagepost/lexer.letter -/
def c12 : ACode :=
 .seq (.region [
  ⟨some 2, .mov (.const (.bool false)), none, []⟩] [])
 (.seq (.region [
  ⟨some 3, .mov (.tmp 0), none, []⟩, 
  ⟨some 4, .bin .or (.tmp 3) (.const (.int .u8 32)), none, []⟩, 
  ⟨some 5, .bin .geq (.tmp 4) (.const (.int .u8 97)), none, []⟩, 
  ⟨some 6, .mov (.tmp 5), none, []⟩, 
  ⟨some 7, .mov (.tmp 0), (some (6, true)), []⟩, 
  ⟨some 8, .bin .or (.tmp 7) (.const (.int .u8 32)), (some (6, true)), []⟩, 
  ⟨some 9, .bin .leq (.tmp 8) (.const (.int .u8 122)), (some (6, true)), []⟩, 
  ⟨some 10, .pick (.tmp 6) (.tmp 9) (.const (.bool false)), none, []⟩, 
  ⟨some 11, .mov (.tmp 10), none, []⟩, 
  ⟨some 12, .mov (.tmp 0), (some (11, false)), []⟩, 
  ⟨some 13, .bin .eql (.tmp 12) (.const (.int .u8 95)), (some (11, false)), []⟩, 
  ⟨some 14, .pick (.tmp 11) (.const (.bool true)) (.tmp 13), none, []⟩, 
  ⟨some 2, .mov (.tmp 14), none, []⟩] [3, 4, 5, 6, 7, 8, 9, 10, 11, 12, 13, 14])
 (.ret))
theorem ok12 : erase c12 = cCode Tryd.prog 15 ((Tryd.f12).body.getD .skip) := by kernel_rfl
theorem ord12 : ordsOk c12 = true := by kernel_rfl
theorem call12 {args : List SV} {h : Heap} {R : AEnd → Heap → Prop} (hn : Nat.ble args.length 15 = true) (hp : awp Tryd.prog c12 (finQ [.tmp 2] R) (argEnv 0 args) h) : ACall Tryd.prog 12 args h R :=
  acall_of_awp mixed Tryd.func12 rfl ord12 ok12 (by kernel_rfl) hn hp
def t12 : Tab := ⟨15, c12, [.tmp 2]⟩
theorem tab12 : TabOk Tryd.prog 12 t12 := tabOk Tryd.func12 rfl ord12 ok12 (by kernel_rfl) rfl

/-- stagepost/lexer.word -/
def c13 : ACode :=
 .seq (.region [
  ⟨some 2, .box 32 4 (.const (.agg [(.int .u8 0), (.str []), (.int .u64 0), (.int .i64 0)])), none, []⟩, 
  ⟨some 3, .mov (.const (.int .i64 0)), none, []⟩, 
  ⟨some 4, .mov (.const (.int .i64 0)), none, []⟩] [])
 (.seq (.region [
  ⟨some 5, .mov (.const (.int .i64 0)), none, []⟩] [])
 (.seq (.block 0 (.loop (.seq (.seq (.region [
    ⟨some 6, .mov (.tmp 5), none, []⟩, 
    ⟨some 7, .mov (.tmp 0), none, []⟩, 
    ⟨some 8, .len true (.tmp 7), none, []⟩, 
    ⟨some 9, .bin .lss (.tmp 6) (.tmp 8), none, []⟩, 
    ⟨some 10, .mov (.tmp 9), none, []⟩, 
    ⟨some 11, .mov (.tmp 0), (some (10, true)), []⟩, 
    ⟨some 12, .mov (.tmp 5), (some (10, true)), []⟩, 
    ⟨some 13, .index (.tmp 11) (.tmp 12), (some (10, true)), []⟩, 
    ⟨some 14, .call 12 [(.tmp 13)], (some (10, true)), []⟩, 
    ⟨some 15, .mov (.tmp 14), (some (10, true)), []⟩, 
    ⟨some 16, .mov (.tmp 0), (some (15, false)), []⟩, 
    ⟨some 17, .mov (.tmp 5), (some (15, false)), []⟩, 
    ⟨some 18, .index (.tmp 16) (.tmp 17), (some (15, false)), []⟩, 
    ⟨some 19, .call 14 [(.tmp 18)], (some (15, false)), []⟩, 
    ⟨some 20, .pick (.tmp 15) (.const (.bool true)) (.tmp 19), (some (10, true)), []⟩, 
    ⟨some 21, .pick (.tmp 10) (.tmp 20) (.const (.bool false)), none, []⟩] [6, 7, 8, 9, 10, 11, 12, 13, 14, 15, 16, 17, 18, 19, 20])
   (.cond (.tmp 21)
    (.skip)
    (.exit 0)))
   (.block 1 (.region [
     ⟨some 22, .mov (.tmp 5), none, []⟩, 
     ⟨some 23, .bin .add (.tmp 22) (.const (.int .i64 1)), none, []⟩, 
     ⟨some 5, .mov (.tmp 23), none, []⟩] [22, 23])))))
 (.seq (.seq (.region [
  ⟨some 24, .mov (.tmp 5), none, []⟩, 
  ⟨some 25, .bin .gtr (.tmp 24) (.const (.int .i64 32)), none, []⟩] [24])
 (.cond (.tmp 25)
  (.seq (.region [
   ⟨some 26, .build [(.int .u8 0), (.str []), (.int .u64 0), (.int .i64 0)] [], none, []⟩, 
   ⟨none, .store 4 (.tmp 2) (.tmp 26), none, []⟩, 
   ⟨some 3, .mov (.const (.int .i64 0)), none, []⟩, 
   ⟨some 4, .mov (.const (.int .i64 3)), none, []⟩] [26])
  (.ret))
  (.skip)))
 (.seq (.region [
  ⟨some 27, .mov (.tmp 0), none, []⟩, 
  ⟨some 28, .mov (.tmp 5), none, []⟩, 
  ⟨some 29, .sliceStr (.tmp 27) none (some (.tmp 28)), none, []⟩, 
  ⟨some 30, .call 20 [(.tmp 29)], none, []⟩, 
  ⟨some 31, .build [(.int .u8 0), (.str []), (.int .u64 0), (.int .i64 0)] [(0, 1, (.const (.int .u8 1))), (1, 1, (.tmp 30))], none, []⟩, 
  ⟨some 32, .mov (.tmp 5), none, []⟩, 
  ⟨none, .store 4 (.tmp 2) (.tmp 31), none, []⟩, 
  ⟨some 3, .mov (.tmp 32), none, []⟩, 
  ⟨some 4, .mov (.const (.int .i64 0)), none, []⟩] [27, 28, 29, 30, 31, 32])
 (.ret)))))
theorem ok13 : erase c13 = cCode Tryd.prog 33 ((Tryd.f13).body.getD .skip) := by kernel_rfl
theorem ord13 : ordsOk c13 = true := by kernel_rfl
theorem call13 {args : List SV} {h : Heap} {R : AEnd → Heap → Prop} (hn : Nat.ble args.length 33 = true) (hp : awp Tryd.prog c13 (finQ [.cellA 2 4, .tmp 3, .tmp 4] R) (argEnv 0 args) h) : ACall Tryd.prog 13 args h R :=
  acall_of_awp mixed Tryd.func13 rfl ord13 ok13 (by kernel_rfl) hn hp
def t13 : Tab := ⟨33, c13, [.cellA 2 4, .tmp 3, .tmp 4]⟩
theorem tab13 : TabOk Tryd.prog 13 t13 := tabOk Tryd.func13 rfl ord13 ok13 (by kernel_rfl) rfl

/-- stagepost/lexer.digit -/
def c14 : ACode :=
 .seq (.region [
  ⟨some 2, .mov (.const (.bool false)), none, []⟩] [])
 (.seq (.region [
  ⟨some 3, .mov (.tmp 0), none, []⟩, 
  ⟨some 4, .bin .geq (.tmp 3) (.const (.int .u8 48)), none, []⟩, 
  ⟨some 5, .mov (.tmp 4), none, []⟩, 
  ⟨some 6, .mov (.tmp 0), (some (5, true)), []⟩, 
  ⟨some 7, .bin .leq (.tmp 6) (.const (.int .u8 57)), (some (5, true)), []⟩, 
  ⟨some 8, .pick (.tmp 5) (.tmp 7) (.const (.bool false)), none, []⟩, 
  ⟨some 2, .mov (.tmp 8), none, []⟩] [3, 4, 5, 6, 7, 8])
 (.ret))
theorem ok14 : erase c14 = cCode Tryd.prog 9 ((Tryd.f14).body.getD .skip) := by kernel_rfl
theorem ord14 : ordsOk c14 = true := by kernel_rfl
theorem call14 {args : List SV} {h : Heap} {R : AEnd → Heap → Prop} (hn : Nat.ble args.length 9 = true) (hp : awp Tryd.prog c14 (finQ [.tmp 2] R) (argEnv 0 args) h) : ACall Tryd.prog 14 args h R :=
  acall_of_awp mixed Tryd.func14 rfl ord14 ok14 (by kernel_rfl) hn hp
def t14 : Tab := ⟨9, c14, [.tmp 2]⟩
theorem tab14 : TabOk Tryd.prog 14 t14 := tabOk Tryd.func14 rfl ord14 ok14 (by kernel_rfl) rfl

/-- stagepost/lexer.number -/
def c15 : ACode :=
 .seq (.region [
  ⟨some 2, .box 32 4 (.const (.agg [(.int .u8 0), (.str []), (.int .u64 0), (.int .i64 0)])), none, []⟩, 
  ⟨some 3, .mov (.const (.int .i64 0)), none, []⟩, 
  ⟨some 4, .mov (.const (.int .i64 0)), none, []⟩] [])
 (.seq (.region [
  ⟨some 5, .mov (.const (.int .i64 0)), none, []⟩] [])
 (.seq (.block 0 (.loop (.seq (.seq (.region [
    ⟨some 8, .mov (.tmp 5), none, []⟩, 
    ⟨some 9, .mov (.tmp 0), none, []⟩, 
    ⟨some 10, .len true (.tmp 9), none, []⟩, 
    ⟨some 11, .bin .lss (.tmp 8) (.tmp 10), none, []⟩, 
    ⟨some 12, .mov (.tmp 11), none, []⟩, 
    ⟨some 13, .mov (.tmp 0), (some (12, true)), []⟩, 
    ⟨some 14, .mov (.tmp 5), (some (12, true)), []⟩, 
    ⟨some 15, .index (.tmp 13) (.tmp 14), (some (12, true)), []⟩, 
    ⟨some 16, .call 14 [(.tmp 15)], (some (12, true)), []⟩, 
    ⟨some 17, .pick (.tmp 12) (.tmp 16) (.const (.bool false)), none, []⟩] [8, 9, 10, 11, 12, 13, 14, 15, 16])
   (.cond (.tmp 17)
    (.skip)
    (.exit 0)))
   (.block 1 (.region [
     ⟨some 18, .mov (.tmp 5), none, []⟩, 
     ⟨some 19, .bin .add (.tmp 18) (.const (.int .i64 1)), none, []⟩, 
     ⟨some 5, .mov (.tmp 19), none, []⟩] [18, 19])))))
 (.seq (.region [
  ⟨some 21, .mov (.tmp 0), none, []⟩, 
  ⟨some 22, .mov (.tmp 5), none, []⟩, 
  ⟨some 23, .sliceStr (.tmp 21) none (some (.tmp 22)), none, []⟩, 
  ⟨some 24, .call 21 [(.tmp 23), (.const (.int .i64 10)), (.const (.int .i64 64))], none, []⟩, 
  ⟨some 20, .mov (.tmp 24), none, []⟩, 
  ⟨some 25, .extract (.tmp 20) 0, none, []⟩, 
  ⟨some 26, .extract (.tmp 20) 1, none, []⟩, 
  ⟨some 6, .mov (.tmp 25), none, []⟩, 
  ⟨some 7, .mov (.tmp 26), none, []⟩] [21, 22, 23, 24, 20, 25, 26])
 (.seq (.seq (.region [
  ⟨some 27, .mov (.tmp 7), none, []⟩, 
  ⟨some 28, .eqI true (.tmp 27) (.const .nili), none, []⟩, 
  ⟨some 29, .mov (.tmp 28), none, []⟩, 
  ⟨some 30, .mov (.tmp 6), (some (29, false)), []⟩, 
  ⟨some 31, .bin .gtr (.tmp 30) (.const (.int .u64 9223372036854775808)), (some (29, false)), []⟩, 
  ⟨some 32, .pick (.tmp 29) (.const (.bool true)) (.tmp 31), none, []⟩] [27, 28, 29, 30, 31])
 (.cond (.tmp 32)
  (.seq (.region [
   ⟨some 33, .build [(.int .u8 0), (.str []), (.int .u64 0), (.int .i64 0)] [], none, []⟩, 
   ⟨none, .store 4 (.tmp 2) (.tmp 33), none, []⟩, 
   ⟨some 3, .mov (.const (.int .i64 0)), none, []⟩, 
   ⟨some 4, .mov (.const (.int .i64 233)), none, []⟩] [33])
  (.ret))
  (.skip)))
 (.seq (.region [
  ⟨some 34, .mov (.tmp 6), none, []⟩, 
  ⟨some 35, .build [(.int .u8 0), (.str []), (.int .u64 0), (.int .i64 0)] [(0, 1, (.const (.int .u8 2))), (2, 1, (.tmp 34))], none, []⟩, 
  ⟨some 36, .mov (.tmp 5), none, []⟩, 
  ⟨none, .store 4 (.tmp 2) (.tmp 35), none, []⟩, 
  ⟨some 3, .mov (.tmp 36), none, []⟩, 
  ⟨some 4, .mov (.const (.int .i64 0)), none, []⟩] [34, 35, 36])
 (.ret))))))
theorem ok15 : erase c15 = cCode Tryd.prog 37 ((Tryd.f15).body.getD .skip) := by kernel_rfl
theorem ord15 : ordsOk c15 = true := by kernel_rfl
theorem call15 {args : List SV} {h : Heap} {R : AEnd → Heap → Prop} (hn : Nat.ble args.length 37 = true) (hp : awp Tryd.prog c15 (finQ [.cellA 2 4, .tmp 3, .tmp 4] R) (argEnv 0 args) h) : ACall Tryd.prog 15 args h R :=
  acall_of_awp mixed Tryd.func15 rfl ord15 ok15 (by kernel_rfl) hn hp
def t15 : Tab := ⟨37, c15, [.cellA 2 4, .tmp 3, .tmp 4]⟩
theorem tab15 : TabOk Tryd.prog 15 t15 := tabOk Tryd.func15 rfl ord15 ok15 (by kernel_rfl) rfl

/-- stagepost/lexer.text -/
def c16 : ACode :=
 .seq (.region [
  ⟨some 2, .box 32 4 (.const (.agg [(.int .u8 0), (.str []), (.int .u64 0), (.int .i64 0)])), none, []⟩, 
  ⟨some 3, .mov (.const (.int .i64 0)), none, []⟩, 
  ⟨some 4, .mov (.const (.int .i64 0)), none, []⟩] [])
 (.seq (.region [
  ⟨some 5, .box 51 2 (.const (.agg [.nilp, .nils])), none, []⟩] [])
 (.seq (.region [
  ⟨some 6, .mov (.const (.bool false)), none, []⟩, 
  ⟨some 7, .mov (.const (.bool false)), none, []⟩] [])
 (.seq (.seq (.region [
  ⟨some 12, .mov (.tmp 0), none, []⟩, 
  ⟨some 13, .rangeS (.tmp 12), none, []⟩] [12])
 (.block 0 (.loop (.seq (.region [
    ⟨some 14, .nextS (.tmp 13), none, []⟩, 
    ⟨some 15, .extract (.tmp 14) 0, none, []⟩] [])
   (.seq (.cond (.tmp 15)
    (.skip)
    (.exit 0))
   (.block 1 (.seq (.region [
     ⟨some 16, .extract (.tmp 14) 1, none, []⟩, 
     ⟨some 17, .extract (.tmp 14) 2, none, []⟩, 
     ⟨some 8, .mov (.tmp 16), none, []⟩, 
     ⟨some 9, .mov (.tmp 17), none, []⟩] [16, 17])
    (.block 2 (.seq (.region [
      ⟨some 23, .mov (.tmp 8), none, []⟩, 
      ⟨some 24, .bin .eql (.tmp 23) (.const (.int .i64 0)), none, []⟩, 
      ⟨some 22, .mov (.tmp 24), none, []⟩] [23, 24])
     (.cond (.tmp 22)
      (.skip)
      (.seq (.region [
       ⟨some 26, .mov (.tmp 7), none, []⟩, 
       ⟨some 25, .mov (.tmp 26), none, []⟩] [26])
      (.cond (.tmp 25)
       (.region [
        ⟨some 7, .mov (.const (.bool false)), none, []⟩] [])
       (.seq (.region [
        ⟨some 28, .mov (.tmp 9), none, []⟩, 
        ⟨some 29, .bin .neq (.tmp 28) (.const (.int .i32 39)), none, []⟩, 
        ⟨some 27, .mov (.tmp 29), none, []⟩] [28, 29])
       (.cond (.tmp 27)
        (.seq (.region [
         ⟨some 31, .mov (.tmp 0), none, []⟩, 
         ⟨some 32, .mov (.tmp 8), none, []⟩, 
         ⟨some 33, .sliceStr (.tmp 31) (some (.tmp 32)) none, none, []⟩, 
         ⟨some 34, .call 22 [(.tmp 33)], none, []⟩, 
         ⟨some 30, .mov (.tmp 34), none, []⟩, 
         ⟨some 35, .extract (.tmp 30) 0, none, []⟩, 
         ⟨some 36, .extract (.tmp 30) 1, none, []⟩, 
         ⟨some 10, .mov (.tmp 35), none, []⟩, 
         ⟨some 11, .mov (.tmp 36), none, []⟩] [31, 32, 33, 34, 30, 35, 36, 10])
        (.seq (.region [
         ⟨some 37, .mov (.tmp 6), none, []⟩, 
         ⟨some 38, .mov (.tmp 37), none, []⟩, 
         ⟨some 39, .mov (.tmp 9), (some (38, false)), []⟩, 
         ⟨some 40, .bin .eql (.tmp 39) (.const (.int .i32 65533)), (some (38, false)), []⟩, 
         ⟨some 41, .mov (.tmp 40), (some (38, false)), []⟩, 
         ⟨some 42, .mov (.tmp 11), (some (41, true)), []⟩, 
         ⟨some 43, .bin .eql (.tmp 42) (.const (.int .i64 1)), (some (41, true)), []⟩, 
         ⟨some 44, .pick (.tmp 41) (.tmp 43) (.const (.bool false)), (some (38, false)), []⟩, 
         ⟨some 45, .pick (.tmp 38) (.const (.bool true)) (.tmp 44), none, []⟩, 
         ⟨some 6, .mov (.tmp 45), none, []⟩] [37, 38, 39, 40, 41, 42, 43, 44, 45])
        (.region [
         ⟨some 46, .mov (.tmp 0), none, []⟩, 
         ⟨some 47, .mov (.tmp 8), none, []⟩, 
         ⟨some 48, .mov (.tmp 8), none, []⟩, 
         ⟨some 49, .mov (.tmp 11), none, []⟩, 
         ⟨some 50, .bin .add (.tmp 48) (.tmp 49), none, []⟩, 
         ⟨some 51, .sliceStr (.tmp 46) (some (.tmp 47)) (some (.tmp 50)), none, []⟩, 
         ⟨some 52, .call 23 [(.tmp 5), (.tmp 51)], none, []⟩] [46, 47, 48, 49, 50, 51, 52])))
        (.seq (.region [
         ⟨some 54, .mov (.tmp 0), none, []⟩, 
         ⟨some 55, .mov (.tmp 8), none, []⟩, 
         ⟨some 56, .sliceStr (.tmp 54) (some (.tmp 55)) none, none, []⟩, 
         ⟨some 57, .call 18 [(.tmp 56), (.const (.str [39, 39]))], none, []⟩, 
         ⟨some 53, .mov (.tmp 57), none, []⟩] [54, 55, 56, 57])
        (.cond (.tmp 53)
         (.seq (.region [
          ⟨some 58, .call 24 [(.tmp 5), (.const (.int .u8 39))], none, []⟩] [58])
         (.region [
          ⟨some 7, .mov (.const (.bool true)), none, []⟩] []))
         (.seq (.region [
          ⟨some 60, .mov (.tmp 6), none, []⟩, 
          ⟨some 59, .mov (.tmp 60), none, []⟩] [60])
         (.cond (.tmp 59)
          (.seq (.region [
           ⟨some 61, .build [(.int .u8 0), (.str []), (.int .u64 0), (.int .i64 0)] [], none, []⟩, 
           ⟨none, .store 4 (.tmp 2) (.tmp 61), none, []⟩, 
           ⟨some 3, .mov (.const (.int .i64 0)), none, []⟩, 
           ⟨some 4, .mov (.const (.int .i64 232)), none, []⟩] [61])
          (.ret))
          (.seq (.region [
           ⟨some 63, .call 25 [(.tmp 5)], none, []⟩, 
           ⟨some 64, .bin .gtr (.tmp 63) (.const (.int .i64 64)), none, []⟩, 
           ⟨some 62, .mov (.tmp 64), none, []⟩] [63, 64])
          (.cond (.tmp 62)
           (.seq (.region [
            ⟨some 65, .build [(.int .u8 0), (.str []), (.int .u64 0), (.int .i64 0)] [], none, []⟩, 
            ⟨none, .store 4 (.tmp 2) (.tmp 65), none, []⟩, 
            ⟨some 3, .mov (.const (.int .i64 0)), none, []⟩, 
            ⟨some 4, .mov (.const (.int .i64 3)), none, []⟩] [65])
           (.ret))
           (.seq (.region [
            ⟨some 18, .call 26 [(.tmp 5)], none, []⟩, 
            ⟨some 19, .build [(.int .u8 0), (.str []), (.int .u64 0), (.int .i64 0)] [(0, 1, (.const (.int .u8 3))), (1, 1, (.tmp 18))], none, []⟩, 
            ⟨some 20, .mov (.tmp 8), none, []⟩, 
            ⟨some 21, .bin .add (.tmp 20) (.const (.int .i64 1)), none, []⟩, 
            ⟨none, .store 4 (.tmp 2) (.tmp 19), none, []⟩, 
            ⟨some 3, .mov (.tmp 21), none, []⟩, 
            ⟨some 4, .mov (.const (.int .i64 0)), none, []⟩] [18, 19, 20, 21])
           (.ret))))))))))))))))))))))
 (.seq (.region [
  ⟨some 66, .build [(.int .u8 0), (.str []), (.int .u64 0), (.int .i64 0)] [], none, []⟩, 
  ⟨none, .store 4 (.tmp 2) (.tmp 66), none, []⟩, 
  ⟨some 3, .mov (.const (.int .i64 0)), none, []⟩, 
  ⟨some 4, .mov (.const (.int .i64 231)), none, []⟩] [66])
 (.ret)))))
theorem ok16 : erase c16 = cCode Tryd.prog 67 ((Tryd.f16).body.getD .skip) := by kernel_rfl
theorem ord16 : ordsOk c16 = true := by kernel_rfl
theorem call16 {args : List SV} {h : Heap} {R : AEnd → Heap → Prop} (hn : Nat.ble args.length 67 = true) (hp : awp Tryd.prog c16 (finQ [.cellA 2 4, .tmp 3, .tmp 4] R) (argEnv 0 args) h) : ACall Tryd.prog 16 args h R :=
  acall_of_awp mixed Tryd.func16 rfl ord16 ok16 (by kernel_rfl) hn hp
def t16 : Tab := ⟨67, c16, [.cellA 2 4, .tmp 3, .tmp 4]⟩
theorem tab16 : TabOk Tryd.prog 16 t16 := tabOk Tryd.func16 rfl ord16 ok16 (by kernel_rfl) rfl

/-- stagepost/lexer.signs -/
def c17 : ACode :=
 .seq (.region [
  ⟨some 0, .mov (.const .nils), none, []⟩] [])
 (.seq (.region [
  ⟨some 1, .call 27 [(.const (.str [60, 62, 32, 60, 61, 32, 62, 61, 32, 124, 124, 32, 40, 32, 41, 32, 44, 32, 59, 32, 46, 32, 42, 32, 43, 32, 45, 32, 47, 32, 37, 32, 61, 32, 60, 32, 62]))], none, []⟩, 
  ⟨some 0, .mov (.tmp 1), none, []⟩] [1])
 (.ret))
theorem ok17 : erase c17 = cCode Tryd.prog 2 ((Tryd.f17).body.getD .skip) := by kernel_rfl
theorem ord17 : ordsOk c17 = true := by kernel_rfl
theorem call17 {args : List SV} {h : Heap} {R : AEnd → Heap → Prop} (hn : Nat.ble args.length 2 = true) (hp : awp Tryd.prog c17 (finQ [.tmp 0] R) (argEnv 0 args) h) : ACall Tryd.prog 17 args h R :=
  acall_of_awp mixed Tryd.func17 rfl ord17 ok17 (by kernel_rfl) hn hp
def t17 : Tab := ⟨2, c17, [.tmp 0]⟩
theorem tab17 : TabOk Tryd.prog 17 t17 := tabOk Tryd.func17 rfl ord17 ok17 (by kernel_rfl) rfl

/-- strings.HasPrefix -/
def c18 : ACode :=
 .seq (.region [
  ⟨some 4, .mov (.const (.bool false)), none, []⟩] [])
 (.seq (.region [
  ⟨some 5, .mov (.tmp 0), none, []⟩, 
  ⟨some 6, .mov (.tmp 1), none, []⟩, 
  ⟨some 7, .call 28 [(.tmp 5), (.tmp 6)], none, []⟩, 
  ⟨some 4, .mov (.tmp 7), none, []⟩] [5, 6, 7])
 (.ret))
theorem ok18 : erase c18 = cCode Tryd.prog 8 ((Tryd.f18).body.getD .skip) := by kernel_rfl
theorem ord18 : ordsOk c18 = true := by kernel_rfl
theorem call18 {args : List SV} {h : Heap} {R : AEnd → Heap → Prop} (hn : Nat.ble args.length 8 = true) (hp : awp Tryd.prog c18 (finQ [.tmp 4] R) (argEnv 0 args) h) : ACall Tryd.prog 18 args h R :=
  acall_of_awp mixed Tryd.func18 rfl ord18 ok18 (by kernel_rfl) hn hp
def t18 : Tab := ⟨8, c18, [.tmp 4]⟩
theorem tab18 : TabOk Tryd.prog 18 t18 := tabOk Tryd.func18 rfl ord18 ok18 (by kernel_rfl) rfl


/-- strings.ToLower -/
def c20 : ACode :=
 .seq (.region [
  ⟨some 2, .mov (.const (.str [])), none, []⟩] [])
 (.seq (.region [
  ⟨some 3, .mov (.const (.bool true)), none, []⟩, 
  ⟨some 4, .mov (.const (.bool false)), none, []⟩] [])
 (.seq (.seq (.region [
  ⟨some 5, .mov (.const (.int .i64 0)), none, []⟩] [])
 (.block 0 (.loop (.seq (.seq (.region [
    ⟨some 11, .mov (.tmp 5), none, []⟩, 
    ⟨some 12, .mov (.tmp 0), none, []⟩, 
    ⟨some 13, .len true (.tmp 12), none, []⟩, 
    ⟨some 14, .bin .lss (.tmp 11) (.tmp 13), none, []⟩] [11, 12, 13])
   (.cond (.tmp 14)
    (.skip)
    (.exit 0)))
   (.seq (.block 1 (.seq (.region [
     ⟨some 17, .mov (.tmp 0), none, []⟩, 
     ⟨some 18, .mov (.tmp 5), none, []⟩, 
     ⟨some 19, .index (.tmp 17) (.tmp 18), none, []⟩, 
     ⟨some 6, .mov (.tmp 19), none, []⟩] [17, 18, 19])
    (.seq (.seq (.region [
     ⟨some 20, .mov (.tmp 6), none, []⟩, 
     ⟨some 21, .bin .geq (.tmp 20) (.const (.int .u8 128)), none, []⟩] [20])
    (.cond (.tmp 21)
     (.seq (.region [
      ⟨some 3, .mov (.const (.bool false)), none, []⟩] [])
     (.exit 0))
     (.skip)))
    (.region [
     ⟨some 22, .mov (.tmp 4), none, []⟩, 
     ⟨some 23, .mov (.tmp 22), none, []⟩, 
     ⟨some 24, .mov (.tmp 6), (some (23, false)), []⟩, 
     ⟨some 25, .bin .leq (.const (.int .u8 65)) (.tmp 24), (some (23, false)), []⟩, 
     ⟨some 26, .mov (.tmp 25), (some (23, false)), []⟩, 
     ⟨some 27, .mov (.tmp 6), (some (26, true)), []⟩, 
     ⟨some 28, .bin .leq (.tmp 27) (.const (.int .u8 90)), (some (26, true)), []⟩, 
     ⟨some 29, .pick (.tmp 26) (.tmp 28) (.const (.bool false)), (some (23, false)), []⟩, 
     ⟨some 30, .pick (.tmp 23) (.const (.bool true)) (.tmp 29), none, []⟩, 
     ⟨some 4, .mov (.tmp 30), none, []⟩] [22, 23, 24, 25, 26, 27, 28, 29, 30]))))
   (.region [
    ⟨some 15, .mov (.tmp 5), none, []⟩, 
    ⟨some 16, .bin .add (.tmp 15) (.const (.int .i64 1)), none, []⟩, 
    ⟨some 5, .mov (.tmp 16), none, []⟩] [15, 16]))))))
 (.seq (.seq (.region [
  ⟨some 31, .mov (.tmp 3), none, []⟩] [])
 (.cond (.tmp 31)
  (.seq (.seq (.region [
   ⟨some 32, .mov (.tmp 4), none, []⟩, 
   ⟨some 33, .un .not (.tmp 32), none, []⟩] [32])
  (.cond (.tmp 33)
   (.seq (.region [
    ⟨some 34, .mov (.tmp 0), none, []⟩, 
    ⟨some 2, .mov (.tmp 34), none, []⟩] [34])
   (.ret))
   (.skip)))
  (.seq (.region [
   ⟨some 7, .box 51 2 (.const (.agg [.nilp, .nils])), none, []⟩] [])
  (.seq (.region [
   ⟨some 8, .mov (.const (.int .i64 0)), none, []⟩] [])
  (.seq (.region [
   ⟨some 35, .mov (.tmp 0), none, []⟩, 
   ⟨some 36, .len true (.tmp 35), none, []⟩, 
   ⟨some 37, .call 29 [(.tmp 7), (.tmp 36)], none, []⟩] [35, 36, 37])
  (.seq (.seq (.region [
   ⟨some 9, .mov (.const (.int .i64 0)), none, []⟩] [])
  (.block 2 (.loop (.seq (.seq (.region [
     ⟨some 38, .mov (.tmp 9), none, []⟩, 
     ⟨some 39, .mov (.tmp 0), none, []⟩, 
     ⟨some 40, .len true (.tmp 39), none, []⟩, 
     ⟨some 41, .bin .lss (.tmp 38) (.tmp 40), none, []⟩] [38, 39, 40])
    (.cond (.tmp 41)
     (.skip)
     (.exit 2)))
    (.seq (.block 3 (.seq (.region [
      ⟨some 44, .mov (.tmp 0), none, []⟩, 
      ⟨some 45, .mov (.tmp 9), none, []⟩, 
      ⟨some 46, .index (.tmp 44) (.tmp 45), none, []⟩, 
      ⟨some 10, .mov (.tmp 46), none, []⟩] [44, 45, 46])
     (.seq (.region [
      ⟨some 47, .mov (.tmp 10), none, []⟩, 
      ⟨some 48, .bin .leq (.const (.int .u8 65)) (.tmp 47), none, []⟩, 
      ⟨some 49, .mov (.tmp 48), none, []⟩, 
      ⟨some 50, .mov (.tmp 10), (some (49, true)), []⟩, 
      ⟨some 51, .bin .leq (.tmp 50) (.const (.int .u8 90)), (some (49, true)), []⟩, 
      ⟨some 52, .pick (.tmp 49) (.tmp 51) (.const (.bool false)), none, []⟩] [47, 48, 49, 50, 51])
     (.cond (.tmp 52)
      (.seq (.region [
       ⟨some 53, .mov (.tmp 10), none, []⟩, 
       ⟨some 54, .bin .add (.tmp 53) (.const (.int .u8 32)), none, []⟩, 
       ⟨some 10, .mov (.tmp 54), none, []⟩] [53, 54])
      (.seq (.seq (.region [
       ⟨some 55, .mov (.tmp 8), none, []⟩, 
       ⟨some 56, .mov (.tmp 9), none, []⟩, 
       ⟨some 57, .bin .lss (.tmp 55) (.tmp 56), none, []⟩] [55, 56])
      (.cond (.tmp 57)
       (.region [
        ⟨some 58, .mov (.tmp 0), none, []⟩, 
        ⟨some 59, .mov (.tmp 8), none, []⟩, 
        ⟨some 60, .mov (.tmp 9), none, []⟩, 
        ⟨some 61, .sliceStr (.tmp 58) (some (.tmp 59)) (some (.tmp 60)), none, []⟩, 
        ⟨some 62, .call 23 [(.tmp 7), (.tmp 61)], none, []⟩] [58, 59, 60, 61, 62])
       (.skip)))
      (.seq (.region [
       ⟨some 63, .mov (.tmp 10), none, []⟩, 
       ⟨some 64, .call 24 [(.tmp 7), (.tmp 63)], none, []⟩] [63, 64])
      (.region [
       ⟨some 65, .mov (.tmp 9), none, []⟩, 
       ⟨some 66, .bin .add (.tmp 65) (.const (.int .i64 1)), none, []⟩, 
       ⟨some 8, .mov (.tmp 66), none, []⟩] [65, 66]))))
      (.skip)))))
    (.region [
     ⟨some 42, .mov (.tmp 9), none, []⟩, 
     ⟨some 43, .bin .add (.tmp 42) (.const (.int .i64 1)), none, []⟩, 
     ⟨some 9, .mov (.tmp 43), none, []⟩] [42, 43]))))))
  (.seq (.seq (.region [
   ⟨some 67, .mov (.tmp 8), none, []⟩, 
   ⟨some 68, .mov (.tmp 0), none, []⟩, 
   ⟨some 69, .len true (.tmp 68), none, []⟩, 
   ⟨some 70, .bin .lss (.tmp 67) (.tmp 69), none, []⟩] [67, 68, 69])
  (.cond (.tmp 70)
   (.region [
    ⟨some 71, .mov (.tmp 0), none, []⟩, 
    ⟨some 72, .mov (.tmp 8), none, []⟩, 
    ⟨some 73, .sliceStr (.tmp 71) (some (.tmp 72)) none, none, []⟩, 
    ⟨some 74, .call 23 [(.tmp 7), (.tmp 73)], none, []⟩] [71, 72, 73, 74])
   (.skip)))
  (.seq (.region [
   ⟨some 75, .call 26 [(.tmp 7)], none, []⟩, 
   ⟨some 2, .mov (.tmp 75), none, []⟩] [75])
  (.ret))))))))
  (.skip)))
 (.seq (.region [
  ⟨some 76, .mov (.tmp 0), none, []⟩, 
  ⟨some 77, .call 30 [(.const (.func (.func 31) [] [])), (.tmp 76)], none, []⟩, 
  ⟨some 2, .mov (.tmp 77), none, []⟩] [76, 77])
 (.ret)))))
theorem ok20 : erase c20 = cCode Tryd.prog 78 ((Tryd.f20).body.getD .skip) := by kernel_rfl
theorem ord20 : ordsOk c20 = true := by kernel_rfl
theorem call20 {args : List SV} {h : Heap} {R : AEnd → Heap → Prop} (hn : Nat.ble args.length 78 = true) (hp : awp Tryd.prog c20 (finQ [.tmp 2] R) (argEnv 0 args) h) : ACall Tryd.prog 20 args h R :=
  acall_of_awp mixed Tryd.func20 rfl ord20 ok20 (by kernel_rfl) hn hp
def t20 : Tab := ⟨78, c20, [.tmp 2]⟩
theorem tab20 : TabOk Tryd.prog 20 t20 := tabOk Tryd.func20 rfl ord20 ok20 (by kernel_rfl) rfl

/-- strconv.ParseUint -/
def c21 : ACode :=
 .seq (.region [
  ⟨some 6, .mov (.const (.int .u64 0)), none, []⟩, 
  ⟨some 7, .mov (.const .nili), none, []⟩] [])
 (.seq (.region [
  ⟨some 11, .mov (.tmp 0), none, []⟩, 
  ⟨some 12, .mov (.tmp 1), none, []⟩, 
  ⟨some 13, .mov (.tmp 2), none, []⟩, 
  ⟨some 14, .call 32 [(.tmp 11), (.tmp 12), (.tmp 13)], none, []⟩, 
  ⟨some 10, .mov (.tmp 14), none, []⟩, 
  ⟨some 15, .extract (.tmp 10) 0, none, []⟩, 
  ⟨some 16, .extract (.tmp 10) 1, none, []⟩, 
  ⟨some 8, .mov (.tmp 15), none, []⟩, 
  ⟨some 9, .mov (.tmp 16), none, []⟩] [11, 12, 13, 14, 10, 15, 16])
 (.seq (.seq (.region [
  ⟨some 17, .mov (.tmp 9), none, []⟩, 
  ⟨some 18, .eqI true (.tmp 17) (.const .nili), none, []⟩] [17])
 (.cond (.tmp 18)
  (.seq (.region [
   ⟨some 19, .mov (.tmp 8), none, []⟩, 
   ⟨some 20, .mov (.tmp 0), none, []⟩, 
   ⟨some 21, .mov (.tmp 1), none, []⟩, 
   ⟨some 22, .mov (.tmp 2), none, []⟩, 
   ⟨some 23, .mov (.tmp 9), none, []⟩, 
   ⟨some 24, .call 33 [(.const (.str [80, 97, 114, 115, 101, 85, 105, 110, 116])), (.tmp 20), (.tmp 21), (.tmp 22), (.tmp 23)], none, []⟩, 
   ⟨some 6, .mov (.tmp 19), none, []⟩, 
   ⟨some 7, .mov (.tmp 24), none, []⟩] [19, 20, 21, 22, 23, 24])
  (.ret))
  (.skip)))
 (.seq (.region [
  ⟨some 25, .mov (.tmp 8), none, []⟩, 
  ⟨some 6, .mov (.tmp 25), none, []⟩, 
  ⟨some 7, .mov (.const .nili), none, []⟩] [25])
 (.ret))))
theorem ok21 : erase c21 = cCode Tryd.prog 26 ((Tryd.f21).body.getD .skip) := by kernel_rfl
theorem ord21 : ordsOk c21 = true := by kernel_rfl
theorem call21 {args : List SV} {h : Heap} {R : AEnd → Heap → Prop} (hn : Nat.ble args.length 26 = true) (hp : awp Tryd.prog c21 (finQ [.tmp 6, .tmp 7] R) (argEnv 0 args) h) : ACall Tryd.prog 21 args h R :=
  acall_of_awp mixed Tryd.func21 rfl ord21 ok21 (by kernel_rfl) hn hp
def t21 : Tab := ⟨26, c21, [.tmp 6, .tmp 7]⟩
theorem tab21 : TabOk Tryd.prog 21 t21 := tabOk Tryd.func21 rfl ord21 ok21 (by kernel_rfl) rfl

/-- unicode/utf8.DecodeRuneInString -/
def c22 : ACode :=
 .seq (.region [
  ⟨some 2, .mov (.const (.int .i32 0)), none, []⟩, 
  ⟨some 3, .mov (.const (.int .i64 0)), none, []⟩] [])
 (.seq (.seq (.region [
  ⟨some 4, .mov (.tmp 0), none, []⟩, 
  ⟨some 5, .bin .neq (.tmp 4) (.const (.str [])), none, []⟩, 
  ⟨some 6, .mov (.tmp 5), none, []⟩, 
  ⟨some 7, .mov (.tmp 0), (some (6, true)), []⟩, 
  ⟨some 8, .index (.tmp 7) (.const (.int .i64 0)), (some (6, true)), []⟩, 
  ⟨some 9, .bin .lss (.tmp 8) (.const (.int .u8 128)), (some (6, true)), []⟩, 
  ⟨some 10, .pick (.tmp 6) (.tmp 9) (.const (.bool false)), none, []⟩] [4, 5, 6, 7, 8, 9])
 (.cond (.tmp 10)
  (.seq (.region [
   ⟨some 11, .mov (.tmp 0), none, []⟩, 
   ⟨some 12, .index (.tmp 11) (.const (.int .i64 0)), none, []⟩, 
   ⟨some 13, .conv .i32 (.tmp 12), none, []⟩, 
   ⟨some 2, .mov (.tmp 13), none, []⟩, 
   ⟨some 3, .mov (.const (.int .i64 1)), none, []⟩] [11, 12, 13])
  (.ret))
  (.region [
   ⟨some 15, .mov (.tmp 0), none, []⟩, 
   ⟨some 16, .call 34 [(.tmp 15)], none, []⟩, 
   ⟨some 14, .mov (.tmp 16), none, []⟩, 
   ⟨some 17, .extract (.tmp 14) 0, none, []⟩, 
   ⟨some 18, .extract (.tmp 14) 1, none, []⟩, 
   ⟨some 2, .mov (.tmp 17), none, []⟩, 
   ⟨some 3, .mov (.tmp 18), none, []⟩] [15, 16, 14, 17, 18])))
 (.ret))
theorem ok22 : erase c22 = cCode Tryd.prog 19 ((Tryd.f22).body.getD .skip) := by kernel_rfl
theorem ord22 : ordsOk c22 = true := by kernel_rfl
theorem call22 {args : List SV} {h : Heap} {R : AEnd → Heap → Prop} (hn : Nat.ble args.length 19 = true) (hp : awp Tryd.prog c22 (finQ [.tmp 2, .tmp 3] R) (argEnv 0 args) h) : ACall Tryd.prog 22 args h R :=
  acall_of_awp mixed Tryd.func22 rfl ord22 ok22 (by kernel_rfl) hn hp
def t22 : Tab := ⟨19, c22, [.tmp 2, .tmp 3]⟩
theorem tab22 : TabOk Tryd.prog 22 t22 := tabOk Tryd.func22 rfl ord22 ok22 (by kernel_rfl) rfl

/-- (*strings.Builder).WriteString -/
def c23 : ACode :=
 .seq (.region [
  ⟨some 4, .mov (.const (.int .i64 0)), none, []⟩, 
  ⟨some 5, .mov (.const .nili), none, []⟩] [])
 (.seq (.region [
  ⟨some 6, .mov (.tmp 0), none, []⟩, 
  ⟨some 7, .call 35 [(.tmp 6)], none, []⟩] [6, 7])
 (.seq (.region [
  ⟨some 8, .mov (.tmp 0), none, []⟩, 
  ⟨some 9, .mov (.tmp 0), none, []⟩, 
  ⟨some 10, .nilChk (.tmp 9), none, []⟩, 
  ⟨some 11, .fieldAddr 1 (.tmp 10), none, []⟩, 
  ⟨some 12, .loadS (.tmp 11), none, []⟩, 
  ⟨some 13, .mov (.tmp 1), none, []⟩, 
  ⟨some 14, .append 5 1 1 (.tmp 12) (.tmp 13), none, []⟩, 
  ⟨some 15, .nilChk (.tmp 8), none, []⟩, 
  ⟨some 16, .fieldAddr 1 (.tmp 15), none, []⟩, 
  ⟨none, .store 1 (.tmp 16) (.tmp 14), none, []⟩] [8, 9, 10, 11, 12, 13, 14, 15, 16])
 (.seq (.region [
  ⟨some 17, .mov (.tmp 1), none, []⟩, 
  ⟨some 18, .len true (.tmp 17), none, []⟩, 
  ⟨some 4, .mov (.tmp 18), none, []⟩, 
  ⟨some 5, .mov (.const .nili), none, []⟩] [17, 18])
 (.ret))))
theorem ok23 : erase c23 = cCode Tryd.prog 19 ((Tryd.f23).body.getD .skip) := by kernel_rfl
theorem ord23 : ordsOk c23 = true := by kernel_rfl
theorem call23 {args : List SV} {h : Heap} {R : AEnd → Heap → Prop} (hn : Nat.ble args.length 19 = true) (hp : awp Tryd.prog c23 (finQ [.tmp 4, .tmp 5] R) (argEnv 0 args) h) : ACall Tryd.prog 23 args h R :=
  acall_of_awp mixed Tryd.func23 rfl ord23 ok23 (by kernel_rfl) hn hp
def t23 : Tab := ⟨19, c23, [.tmp 4, .tmp 5]⟩
theorem tab23 : TabOk Tryd.prog 23 t23 := tabOk Tryd.func23 rfl ord23 ok23 (by kernel_rfl) rfl

/-- (*strings.Builder).WriteByte -/
def c24 : ACode :=
 .seq (.region [
  ⟨some 4, .mov (.const .nili), none, []⟩] [])
 (.seq (.region [
  ⟨some 5, .mov (.tmp 0), none, []⟩, 
  ⟨some 6, .call 35 [(.tmp 5)], none, []⟩] [5, 6])
 (.seq (.region [
  ⟨some 7, .mov (.tmp 0), none, []⟩, 
  ⟨some 8, .mov (.tmp 0), none, []⟩, 
  ⟨some 9, .nilChk (.tmp 8), none, []⟩, 
  ⟨some 10, .fieldAddr 1 (.tmp 9), none, []⟩, 
  ⟨some 11, .loadS (.tmp 10), none, []⟩, 
  ⟨some 12, .mov (.tmp 1), none, []⟩, 
  ⟨some 13, .buildSlice 5 1 (.int .u8 0) 1 [(0, (.tmp 12))], none, []⟩, 
  ⟨some 14, .append 5 1 1 (.tmp 11) (.tmp 13), none, []⟩, 
  ⟨some 15, .nilChk (.tmp 7), none, []⟩, 
  ⟨some 16, .fieldAddr 1 (.tmp 15), none, []⟩, 
  ⟨none, .store 1 (.tmp 16) (.tmp 14), none, []⟩] [7, 8, 9, 10, 11, 12, 13, 14, 15, 16])
 (.seq (.region [
  ⟨some 4, .mov (.const .nili), none, []⟩] [])
 (.ret))))
theorem ok24 : erase c24 = cCode Tryd.prog 17 ((Tryd.f24).body.getD .skip) := by kernel_rfl
theorem ord24 : ordsOk c24 = true := by kernel_rfl
theorem call24 {args : List SV} {h : Heap} {R : AEnd → Heap → Prop} (hn : Nat.ble args.length 17 = true) (hp : awp Tryd.prog c24 (finQ [.tmp 4] R) (argEnv 0 args) h) : ACall Tryd.prog 24 args h R :=
  acall_of_awp mixed Tryd.func24 rfl ord24 ok24 (by kernel_rfl) hn hp
def t24 : Tab := ⟨17, c24, [.tmp 4]⟩
theorem tab24 : TabOk Tryd.prog 24 t24 := tabOk Tryd.func24 rfl ord24 ok24 (by kernel_rfl) rfl

/-- (*strings.Builder).Len -/
def c25 : ACode :=
 .seq (.region [
  ⟨some 2, .mov (.const (.int .i64 0)), none, []⟩] [])
 (.seq (.region [
  ⟨some 3, .mov (.tmp 0), none, []⟩, 
  ⟨some 4, .nilChk (.tmp 3), none, []⟩, 
  ⟨some 5, .fieldAddr 1 (.tmp 4), none, []⟩, 
  ⟨some 6, .loadS (.tmp 5), none, []⟩, 
  ⟨some 7, .len false (.tmp 6), none, []⟩, 
  ⟨some 2, .mov (.tmp 7), none, []⟩] [3, 4, 5, 6, 7])
 (.ret))
theorem ok25 : erase c25 = cCode Tryd.prog 8 ((Tryd.f25).body.getD .skip) := by kernel_rfl
theorem ord25 : ordsOk c25 = true := by kernel_rfl
theorem call25 {args : List SV} {h : Heap} {R : AEnd → Heap → Prop} (hn : Nat.ble args.length 8 = true) (hp : awp Tryd.prog c25 (finQ [.tmp 2] R) (argEnv 0 args) h) : ACall Tryd.prog 25 args h R :=
  acall_of_awp mixed Tryd.func25 rfl ord25 ok25 (by kernel_rfl) hn hp
def t25 : Tab := ⟨8, c25, [.tmp 2]⟩
theorem tab25 : TabOk Tryd.prog 25 t25 := tabOk Tryd.func25 rfl ord25 ok25 (by kernel_rfl) rfl

def c26r1 : List AOper := [
 ⟨some 3, .mov (.tmp 0), none, []⟩, 
 ⟨some 4, .nilChk (.tmp 3), none, [0]⟩, 
 ⟨some 5, .fieldAddr 1 (.tmp 4), none, [1]⟩, 
 ⟨some 6, .loadS (.tmp 5), none, [2]⟩, 
 ⟨some 7, .sliceData (.tmp 6), none, [3]⟩, 
 ⟨some 8, .mov (.tmp 0), none, []⟩, 
 ⟨some 9, .nilChk (.tmp 8), none, [5]⟩, 
 ⟨some 10, .fieldAddr 1 (.tmp 9), none, [6]⟩, 
 ⟨some 11, .loadS (.tmp 10), none, [7]⟩, 
 ⟨some 12, .len false (.tmp 11), none, [8]⟩, 
 ⟨some 13, .unsStr 5 (.tmp 7) (.tmp 12), none, [4, 9]⟩, 
 ⟨some 2, .mov (.tmp 13), none, [10, 0, 1, 2, 3, 4, 5, 6, 7, 8, 9, 10]⟩]
/-- (*strings.Builder).String -/
def c26 : ACode :=
 .seq (.region [
  ⟨some 2, .mov (.const (.str [])), none, []⟩] [])
 (.seq (.dregion c26r1 [(0, false, []), (1, false, []), (2, false, []), (3, false, []), (4, false, []), (5, false, []), (6, false, []), (7, false, []), (8, false, []), (9, false, []), (10, true, []), (11, false, [])] [3, 4, 5, 6, 7, 8, 9, 10, 11, 12, 13])
 (.ret))
theorem ok26 : erase c26 = cCode Tryd.prog 14 ((Tryd.f26).body.getD .skip) := by kernel_rfl
theorem ord26 : ordsOk c26 = true := by kernel_rfl
theorem call26 {args : List SV} {h : Heap} {R : AEnd → Heap → Prop} (hn : Nat.ble args.length 14 = true) (hp : awp Tryd.prog c26 (finQ [.tmp 2] R) (argEnv 0 args) h) : ACall Tryd.prog 26 args h R :=
  acall_of_awp mixed Tryd.func26 rfl ord26 ok26 (by kernel_rfl) hn hp
def t26 : Tab := ⟨14, c26, [.tmp 2]⟩
theorem tab26 : TabOk Tryd.prog 26 t26 := tabOk Tryd.func26 rfl ord26 ok26 (by kernel_rfl) rfl

/-- strings.Fields -/
def c27 : ACode :=
 .seq (.region [
  ⟨some 2, .mov (.const .nils), none, []⟩] [])
 (.seq (.region [
  ⟨some 3, .mov (.const (.int .i64 0)), none, []⟩] [])
 (.seq (.region [
  ⟨some 4, .mov (.const (.int .i64 1)), none, []⟩] [])
 (.seq (.region [
  ⟨some 5, .mov (.const (.int .u8 0)), none, []⟩] [])
 (.seq (.seq (.region [
  ⟨some 6, .mov (.const (.int .i64 0)), none, []⟩] [])
 (.block 0 (.loop (.seq (.seq (.region [
    ⟨some 13, .mov (.tmp 6), none, []⟩, 
    ⟨some 14, .mov (.tmp 0), none, []⟩, 
    ⟨some 15, .len true (.tmp 14), none, []⟩, 
    ⟨some 16, .bin .lss (.tmp 13) (.tmp 15), none, []⟩] [13, 14, 15])
   (.cond (.tmp 16)
    (.skip)
    (.exit 0)))
   (.seq (.block 1 (.seq (.region [
     ⟨some 19, .mov (.tmp 0), none, []⟩, 
     ⟨some 20, .mov (.tmp 6), none, []⟩, 
     ⟨some 21, .index (.tmp 19) (.tmp 20), none, []⟩, 
     ⟨some 7, .mov (.tmp 21), none, []⟩] [19, 20, 21])
    (.seq (.region [
     ⟨some 22, .mov (.tmp 5), none, []⟩, 
     ⟨some 23, .mov (.tmp 7), none, []⟩, 
     ⟨some 24, .bin .or (.tmp 22) (.tmp 23), none, []⟩, 
     ⟨some 5, .mov (.tmp 24), none, []⟩] [22, 23, 24])
    (.seq (.region [
     ⟨some 25, .mov (.tmp 7), none, []⟩, 
     ⟨some 26, .indexArr 256 1 (.const (.glob 1)) (.tmp 25), none, []⟩, 
     ⟨some 27, .loadS (.tmp 26), none, []⟩, 
     ⟨some 28, .conv .i64 (.tmp 27), none, []⟩, 
     ⟨some 8, .mov (.tmp 28), none, []⟩] [25, 26, 27, 28])
    (.seq (.region [
     ⟨some 29, .mov (.tmp 3), none, []⟩, 
     ⟨some 30, .mov (.tmp 4), none, []⟩, 
     ⟨some 31, .mov (.tmp 8), none, []⟩, 
     ⟨some 32, .un .xor (.tmp 31), none, []⟩, 
     ⟨some 33, .bin .and (.tmp 30) (.tmp 32), none, []⟩, 
     ⟨some 34, .bin .add (.tmp 29) (.tmp 33), none, []⟩, 
     ⟨some 3, .mov (.tmp 34), none, []⟩] [29, 30, 31, 32, 33, 34])
    (.region [
     ⟨some 35, .mov (.tmp 8), none, []⟩, 
     ⟨some 4, .mov (.tmp 35), none, []⟩] [35]))))))
   (.region [
    ⟨some 17, .mov (.tmp 6), none, []⟩, 
    ⟨some 18, .bin .add (.tmp 17) (.const (.int .i64 1)), none, []⟩, 
    ⟨some 6, .mov (.tmp 18), none, []⟩] [17, 18]))))))
 (.seq (.seq (.region [
  ⟨some 36, .mov (.tmp 5), none, []⟩, 
  ⟨some 37, .bin .geq (.tmp 36) (.const (.int .u8 128)), none, []⟩] [36])
 (.cond (.tmp 37)
  (.seq (.region [
   ⟨some 38, .mov (.tmp 0), none, []⟩, 
   ⟨some 39, .call 36 [(.tmp 38), (.const (.func (.func 37) [] []))], none, []⟩, 
   ⟨some 2, .mov (.tmp 39), none, []⟩] [38, 39])
  (.ret))
  (.skip)))
 (.seq (.region [
  ⟨some 40, .mov (.tmp 3), none, []⟩, 
  ⟨some 41, .makeSlice 9 1 16 (.str []) (.tmp 40) (.tmp 40), none, []⟩, 
  ⟨some 9, .mov (.tmp 41), none, []⟩] [40, 41])
 (.seq (.region [
  ⟨some 10, .mov (.const (.int .i64 0)), none, []⟩] [])
 (.seq (.region [
  ⟨some 11, .mov (.const (.int .i64 0)), none, []⟩] [])
 (.seq (.region [
  ⟨some 12, .mov (.const (.int .i64 0)), none, []⟩] [])
 (.seq (.block 2 (.loop (.seq (.seq (.region [
    ⟨some 42, .mov (.tmp 12), none, []⟩, 
    ⟨some 43, .mov (.tmp 0), none, []⟩, 
    ⟨some 44, .len true (.tmp 43), none, []⟩, 
    ⟨some 45, .bin .lss (.tmp 42) (.tmp 44), none, []⟩, 
    ⟨some 46, .mov (.tmp 45), none, []⟩, 
    ⟨some 47, .mov (.tmp 0), (some (46, true)), []⟩, 
    ⟨some 48, .mov (.tmp 12), (some (46, true)), []⟩, 
    ⟨some 49, .index (.tmp 47) (.tmp 48), (some (46, true)), []⟩, 
    ⟨some 50, .indexArr 256 1 (.const (.glob 1)) (.tmp 49), (some (46, true)), []⟩, 
    ⟨some 51, .loadS (.tmp 50), (some (46, true)), []⟩, 
    ⟨some 52, .bin .neq (.tmp 51) (.const (.int .u8 0)), (some (46, true)), []⟩, 
    ⟨some 53, .pick (.tmp 46) (.tmp 52) (.const (.bool false)), none, []⟩] [42, 43, 44, 45, 46, 47, 48, 49, 50, 51, 52])
   (.cond (.tmp 53)
    (.skip)
    (.exit 2)))
   (.block 3 (.region [
     ⟨some 54, .mov (.tmp 12), none, []⟩, 
     ⟨some 55, .bin .add (.tmp 54) (.const (.int .i64 1)), none, []⟩, 
     ⟨some 12, .mov (.tmp 55), none, []⟩] [54, 55])))))
 (.seq (.region [
  ⟨some 56, .mov (.tmp 12), none, []⟩, 
  ⟨some 11, .mov (.tmp 56), none, []⟩] [56])
 (.seq (.block 4 (.loop (.seq (.seq (.region [
    ⟨some 57, .mov (.tmp 12), none, []⟩, 
    ⟨some 58, .mov (.tmp 0), none, []⟩, 
    ⟨some 59, .len true (.tmp 58), none, []⟩, 
    ⟨some 60, .bin .lss (.tmp 57) (.tmp 59), none, []⟩] [57, 58, 59])
   (.cond (.tmp 60)
    (.skip)
    (.exit 4)))
   (.block 5 (.seq (.seq (.region [
     ⟨some 61, .mov (.tmp 0), none, []⟩, 
     ⟨some 62, .mov (.tmp 12), none, []⟩, 
     ⟨some 63, .index (.tmp 61) (.tmp 62), none, []⟩, 
     ⟨some 64, .indexArr 256 1 (.const (.glob 1)) (.tmp 63), none, []⟩, 
     ⟨some 65, .loadS (.tmp 64), none, []⟩, 
     ⟨some 66, .bin .eql (.tmp 65) (.const (.int .u8 0)), none, []⟩] [61, 62, 63, 64, 65])
    (.cond (.tmp 66)
     (.seq (.region [
      ⟨some 67, .mov (.tmp 12), none, []⟩, 
      ⟨some 68, .bin .add (.tmp 67) (.const (.int .i64 1)), none, []⟩, 
      ⟨some 12, .mov (.tmp 68), none, []⟩] [67, 68])
     (.exit 5))
     (.skip)))
    (.seq (.region [
     ⟨some 69, .mov (.tmp 9), none, []⟩, 
     ⟨some 70, .mov (.tmp 10), none, []⟩, 
     ⟨some 71, .mov (.tmp 0), none, []⟩, 
     ⟨some 72, .mov (.tmp 11), none, []⟩, 
     ⟨some 73, .mov (.tmp 12), none, []⟩, 
     ⟨some 74, .sliceStr (.tmp 71) (some (.tmp 72)) (some (.tmp 73)), none, []⟩, 
     ⟨some 75, .indexAddr 1 (.tmp 69) (.tmp 70), none, []⟩, 
     ⟨none, .store 1 (.tmp 75) (.tmp 74), none, []⟩] [69, 70, 71, 72, 73, 74, 75])
    (.seq (.region [
     ⟨some 76, .mov (.tmp 10), none, []⟩, 
     ⟨some 77, .bin .add (.tmp 76) (.const (.int .i64 1)), none, []⟩, 
     ⟨some 10, .mov (.tmp 77), none, []⟩] [76, 77])
    (.seq (.region [
     ⟨some 78, .mov (.tmp 12), none, []⟩, 
     ⟨some 79, .bin .add (.tmp 78) (.const (.int .i64 1)), none, []⟩, 
     ⟨some 12, .mov (.tmp 79), none, []⟩] [78, 79])
    (.seq (.block 6 (.loop (.seq (.seq (.region [
       ⟨some 80, .mov (.tmp 12), none, []⟩, 
       ⟨some 81, .mov (.tmp 0), none, []⟩, 
       ⟨some 82, .len true (.tmp 81), none, []⟩, 
       ⟨some 83, .bin .lss (.tmp 80) (.tmp 82), none, []⟩, 
       ⟨some 84, .mov (.tmp 83), none, []⟩, 
       ⟨some 85, .mov (.tmp 0), (some (84, true)), []⟩, 
       ⟨some 86, .mov (.tmp 12), (some (84, true)), []⟩, 
       ⟨some 87, .index (.tmp 85) (.tmp 86), (some (84, true)), []⟩, 
       ⟨some 88, .indexArr 256 1 (.const (.glob 1)) (.tmp 87), (some (84, true)), []⟩, 
       ⟨some 89, .loadS (.tmp 88), (some (84, true)), []⟩, 
       ⟨some 90, .bin .neq (.tmp 89) (.const (.int .u8 0)), (some (84, true)), []⟩, 
       ⟨some 91, .pick (.tmp 84) (.tmp 90) (.const (.bool false)), none, []⟩] [80, 81, 82, 83, 84, 85, 86, 87, 88, 89, 90])
      (.cond (.tmp 91)
       (.skip)
       (.exit 6)))
      (.block 7 (.region [
        ⟨some 92, .mov (.tmp 12), none, []⟩, 
        ⟨some 93, .bin .add (.tmp 92) (.const (.int .i64 1)), none, []⟩, 
        ⟨some 12, .mov (.tmp 93), none, []⟩] [92, 93])))))
    (.region [
     ⟨some 94, .mov (.tmp 12), none, []⟩, 
     ⟨some 11, .mov (.tmp 94), none, []⟩] [94]))))))))))
 (.seq (.seq (.region [
  ⟨some 95, .mov (.tmp 11), none, []⟩, 
  ⟨some 96, .mov (.tmp 0), none, []⟩, 
  ⟨some 97, .len true (.tmp 96), none, []⟩, 
  ⟨some 98, .bin .lss (.tmp 95) (.tmp 97), none, []⟩] [95, 96, 97])
 (.cond (.tmp 98)
  (.region [
   ⟨some 99, .mov (.tmp 9), none, []⟩, 
   ⟨some 100, .mov (.tmp 10), none, []⟩, 
   ⟨some 101, .mov (.tmp 0), none, []⟩, 
   ⟨some 102, .mov (.tmp 11), none, []⟩, 
   ⟨some 103, .sliceStr (.tmp 101) (some (.tmp 102)) none, none, []⟩, 
   ⟨some 104, .indexAddr 1 (.tmp 99) (.tmp 100), none, []⟩, 
   ⟨none, .store 1 (.tmp 104) (.tmp 103), none, []⟩] [99, 100, 101, 102, 103, 104])
  (.skip)))
 (.seq (.region [
  ⟨some 105, .mov (.tmp 9), none, []⟩, 
  ⟨some 2, .mov (.tmp 105), none, []⟩] [105])
 (.ret)))))))))))))))
theorem ok27 : erase c27 = cCode Tryd.prog 106 ((Tryd.f27).body.getD .skip) := by kernel_rfl
theorem ord27 : ordsOk c27 = true := by kernel_rfl
theorem call27 {args : List SV} {h : Heap} {R : AEnd → Heap → Prop} (hn : Nat.ble args.length 106 = true) (hp : awp Tryd.prog c27 (finQ [.tmp 2] R) (argEnv 0 args) h) : ACall Tryd.prog 27 args h R :=
  acall_of_awp mixed Tryd.func27 rfl ord27 ok27 (by kernel_rfl) hn hp
def t27 : Tab := ⟨106, c27, [.tmp 2]⟩
theorem tab27 : TabOk Tryd.prog 27 t27 := tabOk Tryd.func27 rfl ord27 ok27 (by kernel_rfl) rfl

/-- internal/stringslite.HasPrefix -/
def c28 : ACode :=
 .seq (.region [
  ⟨some 4, .mov (.const (.bool false)), none, []⟩] [])
 (.seq (.region [
  ⟨some 5, .mov (.tmp 0), none, []⟩, 
  ⟨some 6, .len true (.tmp 5), none, []⟩, 
  ⟨some 7, .mov (.tmp 1), none, []⟩, 
  ⟨some 8, .len true (.tmp 7), none, []⟩, 
  ⟨some 9, .bin .geq (.tmp 6) (.tmp 8), none, []⟩, 
  ⟨some 10, .mov (.tmp 9), none, []⟩, 
  ⟨some 11, .mov (.tmp 0), (some (10, true)), []⟩, 
  ⟨some 12, .mov (.tmp 1), (some (10, true)), []⟩, 
  ⟨some 13, .len true (.tmp 12), (some (10, true)), []⟩, 
  ⟨some 14, .sliceStr (.tmp 11) none (some (.tmp 13)), (some (10, true)), []⟩, 
  ⟨some 15, .mov (.tmp 1), (some (10, true)), []⟩, 
  ⟨some 16, .bin .eql (.tmp 14) (.tmp 15), (some (10, true)), []⟩, 
  ⟨some 17, .pick (.tmp 10) (.tmp 16) (.const (.bool false)), none, []⟩, 
  ⟨some 4, .mov (.tmp 17), none, []⟩] [5, 6, 7, 8, 9, 10, 11, 12, 13, 14, 15, 16, 17])
 (.ret))
theorem ok28 : erase c28 = cCode Tryd.prog 18 ((Tryd.f28).body.getD .skip) := by kernel_rfl
theorem ord28 : ordsOk c28 = true := by kernel_rfl
theorem call28 {args : List SV} {h : Heap} {R : AEnd → Heap → Prop} (hn : Nat.ble args.length 18 = true) (hp : awp Tryd.prog c28 (finQ [.tmp 4] R) (argEnv 0 args) h) : ACall Tryd.prog 28 args h R :=
  acall_of_awp mixed Tryd.func28 rfl ord28 ok28 (by kernel_rfl) hn hp
def t28 : Tab := ⟨18, c28, [.tmp 4]⟩
theorem tab28 : TabOk Tryd.prog 28 t28 := tabOk Tryd.func28 rfl ord28 ok28 (by kernel_rfl) rfl

def c29r3 : List AOper := [
 ⟨some 9, .mov (.tmp 0), none, []⟩, 
 ⟨some 10, .nilChk (.tmp 9), none, [0]⟩, 
 ⟨some 11, .fieldAddr 1 (.tmp 10), none, [1]⟩, 
 ⟨some 12, .loadS (.tmp 11), none, [2]⟩, 
 ⟨some 13, .capOf (.tmp 12), none, [3]⟩, 
 ⟨some 14, .mov (.tmp 0), none, []⟩, 
 ⟨some 15, .nilChk (.tmp 14), none, [5]⟩, 
 ⟨some 16, .fieldAddr 1 (.tmp 15), none, [6]⟩, 
 ⟨some 17, .loadS (.tmp 16), none, [7]⟩, 
 ⟨some 18, .len false (.tmp 17), none, [8]⟩, 
 ⟨some 19, .bin .sub (.tmp 13) (.tmp 18), none, [4, 9]⟩, 
 ⟨some 20, .mov (.tmp 1), none, []⟩, 
 ⟨some 21, .bin .lss (.tmp 19) (.tmp 20), none, [10, 11]⟩]
/-- (*strings.Builder).Grow -/
def c29 : ACode :=
 .seq (.region [
  ⟨some 4, .mov (.tmp 0), none, []⟩, 
  ⟨some 5, .call 35 [(.tmp 4)], none, []⟩] [4, 5])
 (.seq (.seq (.region [
  ⟨some 6, .mov (.tmp 1), none, []⟩, 
  ⟨some 7, .bin .lss (.tmp 6) (.const (.int .i64 0)), none, []⟩] [6])
 (.cond (.tmp 7)
  (.region [
   ⟨some 8, .mkIface 9 (.const (.str [115, 116, 114, 105, 110, 103, 115, 46, 66, 117, 105, 108, 100, 101, 114, 46, 71, 114, 111, 119, 58, 32, 110, 101, 103, 97, 116, 105, 118, 101, 32, 99, 111, 117, 110, 116])), none, []⟩, 
   ⟨none, .panic (.tmp 8), none, []⟩] [8])
  (.skip)))
 (.seq (.dregion c29r3 [(0, false, []), (1, false, []), (2, false, []), (3, false, []), (4, false, []), (5, false, []), (6, false, []), (7, false, []), (8, false, []), (9, false, []), (10, false, []), (11, false, []), (12, false, [])] [9, 10, 11, 12, 13, 14, 15, 16, 17, 18, 19, 20])
 (.cond (.tmp 21)
  (.region [
   ⟨some 22, .mov (.tmp 0), none, []⟩, 
   ⟨some 23, .mov (.tmp 1), none, []⟩, 
   ⟨some 24, .call 38 [(.tmp 22), (.tmp 23)], none, []⟩] [22, 23, 24])
  (.skip))))
theorem ok29 : erase c29 = cCode Tryd.prog 25 ((Tryd.f29).body.getD .skip) := by kernel_rfl
theorem ord29 : ordsOk c29 = true := by kernel_rfl
theorem call29 {args : List SV} {h : Heap} {R : AEnd → Heap → Prop} (hn : Nat.ble args.length 25 = true) (hp : awp Tryd.prog c29 (finQ [] R) (argEnv 0 args) h) : ACall Tryd.prog 29 args h R :=
  acall_of_awp mixed Tryd.func29 rfl ord29 ok29 (by kernel_rfl) hn hp
def t29 : Tab := ⟨25, c29, []⟩
theorem tab29 : TabOk Tryd.prog 29 t29 := tabOk Tryd.func29 rfl ord29 ok29 (by kernel_rfl) rfl

/-- strings.Map -/
def c30 : ACode :=
 .seq (.region [
  ⟨some 4, .mov (.const (.str [])), none, []⟩] [])
 (.seq (.region [
  ⟨some 5, .box 51 2 (.const (.agg [.nilp, .nils])), none, []⟩] [])
 (.seq (.seq (.region [
  ⟨some 13, .mov (.tmp 1), none, []⟩, 
  ⟨some 14, .rangeS (.tmp 13), none, []⟩] [13])
 (.block 0 (.loop (.seq (.region [
    ⟨some 15, .nextS (.tmp 14), none, []⟩, 
    ⟨some 16, .extract (.tmp 15) 0, none, []⟩] [])
   (.seq (.cond (.tmp 16)
    (.skip)
    (.exit 0))
   (.block 1 (.seq (.region [
     ⟨some 17, .extract (.tmp 15) 1, none, []⟩, 
     ⟨some 18, .extract (.tmp 15) 2, none, []⟩, 
     ⟨some 6, .mov (.tmp 17), none, []⟩, 
     ⟨some 7, .mov (.tmp 18), none, []⟩] [17, 18])
    (.seq (.region [
     ⟨some 19, .mov (.tmp 0), none, []⟩, 
     ⟨some 20, .mov (.tmp 7), none, []⟩, 
     ⟨some 21, .callv (.tmp 19) [(.tmp 20)], none, []⟩, 
     ⟨some 8, .mov (.tmp 21), none, []⟩] [19, 20, 21])
    (.seq (.seq (.region [
     ⟨some 22, .mov (.tmp 8), none, []⟩, 
     ⟨some 23, .mov (.tmp 7), none, []⟩, 
     ⟨some 24, .bin .eql (.tmp 22) (.tmp 23), none, []⟩, 
     ⟨some 25, .mov (.tmp 24), none, []⟩, 
     ⟨some 26, .mov (.tmp 7), (some (25, true)), []⟩, 
     ⟨some 27, .bin .neq (.tmp 26) (.const (.int .i32 65533)), (some (25, true)), []⟩, 
     ⟨some 28, .pick (.tmp 25) (.tmp 27) (.const (.bool false)), none, []⟩] [22, 23, 24, 25, 26, 27])
    (.cond (.tmp 28)
     (.exit 1)
     (.skip)))
    (.seq (.region [
     ⟨some 9, .mov (.const (.int .i64 0)), none, []⟩] [])
    (.seq (.seq (.region [
     ⟨some 29, .mov (.tmp 7), none, []⟩, 
     ⟨some 30, .bin .eql (.tmp 29) (.const (.int .i32 65533)), none, []⟩] [29])
    (.cond (.tmp 30)
     (.seq (.region [
      ⟨some 32, .mov (.tmp 1), none, []⟩, 
      ⟨some 33, .mov (.tmp 6), none, []⟩, 
      ⟨some 34, .sliceStr (.tmp 32) (some (.tmp 33)) none, none, []⟩, 
      ⟨some 35, .call 22 [(.tmp 34)], none, []⟩, 
      ⟨some 31, .mov (.tmp 35), none, []⟩, 
      ⟨some 36, .extract (.tmp 31) 0, none, []⟩, 
      ⟨some 37, .extract (.tmp 31) 1, none, []⟩, 
      ⟨some 7, .mov (.tmp 36), none, []⟩, 
      ⟨some 9, .mov (.tmp 37), none, []⟩] [32, 33, 34, 35, 31, 36, 37])
     (.seq (.region [
      ⟨some 38, .mov (.tmp 9), none, []⟩, 
      ⟨some 39, .bin .neq (.tmp 38) (.const (.int .i64 1)), none, []⟩, 
      ⟨some 40, .mov (.tmp 39), none, []⟩, 
      ⟨some 41, .mov (.tmp 8), (some (40, true)), []⟩, 
      ⟨some 42, .mov (.tmp 7), (some (40, true)), []⟩, 
      ⟨some 43, .bin .eql (.tmp 41) (.tmp 42), (some (40, true)), []⟩, 
      ⟨some 44, .pick (.tmp 40) (.tmp 43) (.const (.bool false)), none, []⟩] [38, 39, 40, 41, 42, 43])
     (.cond (.tmp 44)
      (.exit 1)
      (.skip))))
     (.region [
      ⟨some 45, .mov (.tmp 7), none, []⟩, 
      ⟨some 46, .call 39 [(.tmp 45)], none, []⟩, 
      ⟨some 9, .mov (.tmp 46), none, []⟩] [45, 46])))
    (.seq (.region [
     ⟨some 47, .mov (.tmp 1), none, []⟩, 
     ⟨some 48, .len true (.tmp 47), none, []⟩, 
     ⟨some 49, .bin .add (.tmp 48) (.const (.int .i64 4)), none, []⟩, 
     ⟨some 50, .call 29 [(.tmp 5), (.tmp 49)], none, []⟩] [47, 48, 49, 50])
    (.seq (.region [
     ⟨some 51, .mov (.tmp 1), none, []⟩, 
     ⟨some 52, .mov (.tmp 6), none, []⟩, 
     ⟨some 53, .sliceStr (.tmp 51) none (some (.tmp 52)), none, []⟩, 
     ⟨some 54, .call 23 [(.tmp 5), (.tmp 53)], none, []⟩] [51, 52, 53, 54])
    (.seq (.seq (.region [
     ⟨some 55, .mov (.tmp 8), none, []⟩, 
     ⟨some 56, .bin .geq (.tmp 55) (.const (.int .i32 0)), none, []⟩] [55])
    (.cond (.tmp 56)
     (.region [
      ⟨some 57, .mov (.tmp 8), none, []⟩, 
      ⟨some 58, .call 40 [(.tmp 5), (.tmp 57)], none, []⟩] [57, 58])
     (.skip)))
    (.seq (.region [
     ⟨some 59, .mov (.tmp 1), none, []⟩, 
     ⟨some 60, .mov (.tmp 6), none, []⟩, 
     ⟨some 61, .mov (.tmp 9), none, []⟩, 
     ⟨some 62, .bin .add (.tmp 60) (.tmp 61), none, []⟩, 
     ⟨some 63, .sliceStr (.tmp 59) (some (.tmp 62)) none, none, []⟩, 
     ⟨some 1, .mov (.tmp 63), none, []⟩] [59, 60, 61, 62, 63])
    (.exit 0))))))))))))))))
 (.seq (.seq (.region [
  ⟨some 64, .call 41 [(.tmp 5)], none, []⟩, 
  ⟨some 65, .bin .eql (.tmp 64) (.const (.int .i64 0)), none, []⟩] [64])
 (.cond (.tmp 65)
  (.seq (.region [
   ⟨some 66, .mov (.tmp 1), none, []⟩, 
   ⟨some 4, .mov (.tmp 66), none, []⟩] [66])
  (.ret))
  (.skip)))
 (.seq (.seq (.region [
  ⟨some 67, .mov (.tmp 1), none, []⟩, 
  ⟨some 68, .rangeS (.tmp 67), none, []⟩] [67])
 (.block 2 (.loop (.seq (.region [
    ⟨some 69, .nextS (.tmp 68), none, []⟩, 
    ⟨some 70, .extract (.tmp 69) 0, none, []⟩] [])
   (.seq (.cond (.tmp 70)
    (.skip)
    (.exit 2))
   (.block 3 (.seq (.region [
     ⟨some 71, .extract (.tmp 69) 2, none, []⟩, 
     ⟨some 11, .mov (.tmp 71), none, []⟩] [71])
    (.seq (.region [
     ⟨some 72, .mov (.tmp 0), none, []⟩, 
     ⟨some 73, .mov (.tmp 11), none, []⟩, 
     ⟨some 74, .callv (.tmp 72) [(.tmp 73)], none, []⟩, 
     ⟨some 12, .mov (.tmp 74), none, []⟩] [72, 73, 74])
    (.seq (.region [
     ⟨some 75, .mov (.tmp 12), none, []⟩, 
     ⟨some 76, .bin .geq (.tmp 75) (.const (.int .i32 0)), none, []⟩] [75])
    (.cond (.tmp 76)
     (.seq (.region [
      ⟨some 77, .mov (.tmp 12), none, []⟩, 
      ⟨some 78, .bin .lss (.tmp 77) (.const (.int .i32 128)), none, []⟩] [77])
     (.cond (.tmp 78)
      (.region [
       ⟨some 79, .mov (.tmp 12), none, []⟩, 
       ⟨some 80, .conv .u8 (.tmp 79), none, []⟩, 
       ⟨some 81, .call 24 [(.tmp 5), (.tmp 80)], none, []⟩] [79, 80, 81])
      (.region [
       ⟨some 82, .mov (.tmp 12), none, []⟩, 
       ⟨some 83, .call 40 [(.tmp 5), (.tmp 82)], none, []⟩] [82, 83])))
     (.skip)))))))))))
 (.seq (.region [
  ⟨some 84, .call 26 [(.tmp 5)], none, []⟩, 
  ⟨some 4, .mov (.tmp 84), none, []⟩] [84])
 (.ret))))))
theorem ok30 : erase c30 = cCode Tryd.prog 85 ((Tryd.f30).body.getD .skip) := by kernel_rfl
theorem ord30 : ordsOk c30 = true := by kernel_rfl
theorem call30 {args : List SV} {h : Heap} {R : AEnd → Heap → Prop} (hn : Nat.ble args.length 85 = true) (hp : awp Tryd.prog c30 (finQ [.tmp 4] R) (argEnv 0 args) h) : ACall Tryd.prog 30 args h R :=
  acall_of_awp mixed Tryd.func30 rfl ord30 ok30 (by kernel_rfl) hn hp
def t30 : Tab := ⟨85, c30, [.tmp 4]⟩
theorem tab30 : TabOk Tryd.prog 30 t30 := tabOk Tryd.func30 rfl ord30 ok30 (by kernel_rfl) rfl

/-- unicode.ToLower -/
def c31 : ACode :=
 .seq (.region [
  ⟨some 2, .mov (.const (.int .i32 0)), none, []⟩] [])
 (.seq (.seq (.region [
  ⟨some 3, .mov (.tmp 0), none, []⟩, 
  ⟨some 4, .bin .leq (.tmp 3) (.const (.int .i32 127)), none, []⟩] [3])
 (.cond (.tmp 4)
  (.seq (.seq (.region [
   ⟨some 5, .mov (.tmp 0), none, []⟩, 
   ⟨some 6, .bin .leq (.const (.int .i32 65)) (.tmp 5), none, []⟩, 
   ⟨some 7, .mov (.tmp 6), none, []⟩, 
   ⟨some 8, .mov (.tmp 0), (some (7, true)), []⟩, 
   ⟨some 9, .bin .leq (.tmp 8) (.const (.int .i32 90)), (some (7, true)), []⟩, 
   ⟨some 10, .pick (.tmp 7) (.tmp 9) (.const (.bool false)), none, []⟩] [5, 6, 7, 8, 9])
  (.cond (.tmp 10)
   (.region [
    ⟨some 11, .mov (.tmp 0), none, []⟩, 
    ⟨some 12, .bin .add (.tmp 11) (.const (.int .i32 32)), none, []⟩, 
    ⟨some 0, .mov (.tmp 12), none, []⟩] [11, 12])
   (.skip)))
  (.seq (.region [
   ⟨some 13, .mov (.tmp 0), none, []⟩, 
   ⟨some 2, .mov (.tmp 13), none, []⟩] [13])
  (.ret)))
  (.skip)))
 (.seq (.region [
  ⟨some 14, .mov (.tmp 0), none, []⟩, 
  ⟨some 15, .call 42 [(.const (.int .i64 1)), (.tmp 14)], none, []⟩, 
  ⟨some 2, .mov (.tmp 15), none, []⟩] [14, 15])
 (.ret)))
theorem ok31 : erase c31 = cCode Tryd.prog 16 ((Tryd.f31).body.getD .skip) := by kernel_rfl
theorem ord31 : ordsOk c31 = true := by kernel_rfl
theorem call31 {args : List SV} {h : Heap} {R : AEnd → Heap → Prop} (hn : Nat.ble args.length 16 = true) (hp : awp Tryd.prog c31 (finQ [.tmp 2] R) (argEnv 0 args) h) : ACall Tryd.prog 31 args h R :=
  acall_of_awp mixed Tryd.func31 rfl ord31 ok31 (by kernel_rfl) hn hp
def t31 : Tab := ⟨16, c31, [.tmp 2]⟩
theorem tab31 : TabOk Tryd.prog 31 t31 := tabOk Tryd.func31 rfl ord31 ok31 (by kernel_rfl) rfl

/-- internal/strconv.ParseUint -/
def c32 : ACode :=
 .seq (.region [
  ⟨some 6, .mov (.const (.int .u64 0)), none, []⟩, 
  ⟨some 7, .mov (.const .nili), none, []⟩] [])
 (.seq (.seq (.region [
  ⟨some 18, .mov (.tmp 0), none, []⟩, 
  ⟨some 19, .bin .eql (.tmp 18) (.const (.str [])), none, []⟩] [18])
 (.cond (.tmp 19)
  (.seq (.region [
   ⟨some 20, .mkIface 71 (.const (.int .i64 2)), none, []⟩, 
   ⟨some 6, .mov (.const (.int .u64 0)), none, []⟩, 
   ⟨some 7, .mov (.tmp 20), none, []⟩] [20])
  (.ret))
  (.skip)))
 (.seq (.region [
  ⟨some 21, .mov (.tmp 1), none, []⟩, 
  ⟨some 22, .bin .eql (.tmp 21) (.const (.int .i64 0)), none, []⟩, 
  ⟨some 8, .mov (.tmp 22), none, []⟩] [21, 22])
 (.seq (.region [
  ⟨some 23, .mov (.tmp 0), none, []⟩, 
  ⟨some 9, .mov (.tmp 23), none, []⟩] [23])
 (.seq (.block 0 (.seq (.region [
   ⟨some 26, .mov (.tmp 1), none, []⟩, 
   ⟨some 27, .bin .leq (.const (.int .i64 2)) (.tmp 26), none, []⟩, 
   ⟨some 28, .mov (.tmp 27), none, []⟩, 
   ⟨some 29, .mov (.tmp 1), (some (28, true)), []⟩, 
   ⟨some 30, .bin .leq (.tmp 29) (.const (.int .i64 36)), (some (28, true)), []⟩, 
   ⟨some 31, .pick (.tmp 28) (.tmp 30) (.const (.bool false)), none, []⟩, 
   ⟨some 25, .mov (.tmp 31), none, []⟩] [26, 27, 28, 29, 30, 31])
  (.cond (.tmp 25)
   (.skip)
   (.seq (.region [
    ⟨some 33, .mov (.tmp 1), none, []⟩, 
    ⟨some 34, .bin .eql (.tmp 33) (.const (.int .i64 0)), none, []⟩, 
    ⟨some 32, .mov (.tmp 34), none, []⟩] [33, 34])
   (.cond (.tmp 32)
    (.seq (.region [
     ⟨some 1, .mov (.const (.int .i64 10)), none, []⟩] [])
    (.seq (.region [
     ⟨some 35, .mov (.tmp 0), none, []⟩, 
     ⟨some 36, .index (.tmp 35) (.const (.int .i64 0)), none, []⟩, 
     ⟨some 37, .bin .eql (.tmp 36) (.const (.int .u8 48)), none, []⟩] [35, 36])
    (.cond (.tmp 37)
     (.block 1 (.seq (.region [
       ⟨some 41, .mov (.tmp 0), none, []⟩, 
       ⟨some 42, .len true (.tmp 41), none, []⟩, 
       ⟨some 43, .bin .geq (.tmp 42) (.const (.int .i64 3)), none, []⟩, 
       ⟨some 44, .mov (.tmp 43), none, []⟩, 
       ⟨some 45, .mov (.tmp 0), (some (44, true)), []⟩, 
       ⟨some 46, .index (.tmp 45) (.const (.int .i64 1)), (some (44, true)), []⟩, 
       ⟨some 47, .call 43 [(.tmp 46)], (some (44, true)), []⟩, 
       ⟨some 48, .bin .eql (.tmp 47) (.const (.int .u8 98)), (some (44, true)), []⟩, 
       ⟨some 49, .pick (.tmp 44) (.tmp 48) (.const (.bool false)), none, []⟩, 
       ⟨some 40, .mov (.tmp 49), none, []⟩] [41, 42, 43, 44, 45, 46, 47, 48, 49])
      (.cond (.tmp 40)
       (.seq (.region [
        ⟨some 1, .mov (.const (.int .i64 2)), none, []⟩] [])
       (.region [
        ⟨some 50, .mov (.tmp 0), none, []⟩, 
        ⟨some 51, .sliceStr (.tmp 50) (some (.const (.int .i64 2))) none, none, []⟩, 
        ⟨some 0, .mov (.tmp 51), none, []⟩] [50, 51]))
       (.seq (.region [
        ⟨some 53, .mov (.tmp 0), none, []⟩, 
        ⟨some 54, .len true (.tmp 53), none, []⟩, 
        ⟨some 55, .bin .geq (.tmp 54) (.const (.int .i64 3)), none, []⟩, 
        ⟨some 56, .mov (.tmp 55), none, []⟩, 
        ⟨some 57, .mov (.tmp 0), (some (56, true)), []⟩, 
        ⟨some 58, .index (.tmp 57) (.const (.int .i64 1)), (some (56, true)), []⟩, 
        ⟨some 59, .call 43 [(.tmp 58)], (some (56, true)), []⟩, 
        ⟨some 60, .bin .eql (.tmp 59) (.const (.int .u8 111)), (some (56, true)), []⟩, 
        ⟨some 61, .pick (.tmp 56) (.tmp 60) (.const (.bool false)), none, []⟩, 
        ⟨some 52, .mov (.tmp 61), none, []⟩] [53, 54, 55, 56, 57, 58, 59, 60, 61])
       (.cond (.tmp 52)
        (.seq (.region [
         ⟨some 1, .mov (.const (.int .i64 8)), none, []⟩] [])
        (.region [
         ⟨some 62, .mov (.tmp 0), none, []⟩, 
         ⟨some 63, .sliceStr (.tmp 62) (some (.const (.int .i64 2))) none, none, []⟩, 
         ⟨some 0, .mov (.tmp 63), none, []⟩] [62, 63]))
        (.seq (.region [
         ⟨some 65, .mov (.tmp 0), none, []⟩, 
         ⟨some 66, .len true (.tmp 65), none, []⟩, 
         ⟨some 67, .bin .geq (.tmp 66) (.const (.int .i64 3)), none, []⟩, 
         ⟨some 68, .mov (.tmp 67), none, []⟩, 
         ⟨some 69, .mov (.tmp 0), (some (68, true)), []⟩, 
         ⟨some 70, .index (.tmp 69) (.const (.int .i64 1)), (some (68, true)), []⟩, 
         ⟨some 71, .call 43 [(.tmp 70)], (some (68, true)), []⟩, 
         ⟨some 72, .bin .eql (.tmp 71) (.const (.int .u8 120)), (some (68, true)), []⟩, 
         ⟨some 73, .pick (.tmp 68) (.tmp 72) (.const (.bool false)), none, []⟩, 
         ⟨some 64, .mov (.tmp 73), none, []⟩] [65, 66, 67, 68, 69, 70, 71, 72, 73])
        (.cond (.tmp 64)
         (.seq (.region [
          ⟨some 1, .mov (.const (.int .i64 16)), none, []⟩] [])
         (.region [
          ⟨some 74, .mov (.tmp 0), none, []⟩, 
          ⟨some 75, .sliceStr (.tmp 74) (some (.const (.int .i64 2))) none, none, []⟩, 
          ⟨some 0, .mov (.tmp 75), none, []⟩] [74, 75]))
         (.seq (.region [
          ⟨some 1, .mov (.const (.int .i64 8)), none, []⟩] [])
         (.region [
          ⟨some 38, .mov (.tmp 0), none, []⟩, 
          ⟨some 39, .sliceStr (.tmp 38) (some (.const (.int .i64 1))) none, none, []⟩, 
          ⟨some 0, .mov (.tmp 39), none, []⟩] [38, 39])))))))))
     (.skip))))
    (.seq (.region [
     ⟨some 24, .mkIface 71 (.const (.int .i64 3)), none, []⟩, 
     ⟨some 6, .mov (.const (.int .u64 0)), none, []⟩, 
     ⟨some 7, .mov (.tmp 24), none, []⟩] [24])
    (.ret)))))))
 (.seq (.seq (.region [
  ⟨some 76, .mov (.tmp 2), none, []⟩, 
  ⟨some 77, .bin .eql (.tmp 76) (.const (.int .i64 0)), none, []⟩] [76])
 (.cond (.tmp 77)
  (.region [
   ⟨some 2, .mov (.const (.int .i64 64)), none, []⟩] [])
  (.seq (.region [
   ⟨some 78, .mov (.tmp 2), none, []⟩, 
   ⟨some 79, .bin .lss (.tmp 78) (.const (.int .i64 0)), none, []⟩, 
   ⟨some 80, .mov (.tmp 79), none, []⟩, 
   ⟨some 81, .mov (.tmp 2), (some (80, false)), []⟩, 
   ⟨some 82, .bin .gtr (.tmp 81) (.const (.int .i64 64)), (some (80, false)), []⟩, 
   ⟨some 83, .pick (.tmp 80) (.const (.bool true)) (.tmp 82), none, []⟩] [78, 79, 80, 81, 82])
  (.cond (.tmp 83)
   (.seq (.region [
    ⟨some 84, .mkIface 71 (.const (.int .i64 4)), none, []⟩, 
    ⟨some 6, .mov (.const (.int .u64 0)), none, []⟩, 
    ⟨some 7, .mov (.tmp 84), none, []⟩] [84])
   (.ret))
   (.skip)))))
 (.seq (.region [
  ⟨some 10, .mov (.const (.int .u64 0)), none, []⟩] [])
 (.seq (.seq (.region [
  ⟨some 85, .mov (.tmp 1), none, []⟩] [])
 (.block 2 (.seq (.region [
   ⟨some 91, .bin .eql (.tmp 85) (.const (.int .i64 10)), none, []⟩, 
   ⟨some 90, .mov (.tmp 91), none, []⟩] [91])
  (.cond (.tmp 90)
   (.region [
    ⟨some 10, .mov (.const (.int .u64 1844674407370955162)), none, []⟩] [])
   (.seq (.region [
    ⟨some 93, .bin .eql (.tmp 85) (.const (.int .i64 16)), none, []⟩, 
    ⟨some 92, .mov (.tmp 93), none, []⟩] [93])
   (.cond (.tmp 92)
    (.region [
     ⟨some 10, .mov (.const (.int .u64 1152921504606846976)), none, []⟩] [])
    (.region [
     ⟨some 86, .mov (.tmp 1), none, []⟩, 
     ⟨some 87, .conv .u64 (.tmp 86), none, []⟩, 
     ⟨some 88, .bin .quo (.const (.int .u64 18446744073709551615)) (.tmp 87), none, []⟩, 
     ⟨some 89, .bin .add (.tmp 88) (.const (.int .u64 1)), none, []⟩, 
     ⟨some 10, .mov (.tmp 89), none, []⟩] [86, 87, 88, 89])))))))
 (.seq (.region [
  ⟨some 94, .mov (.tmp 2), none, []⟩, 
  ⟨some 95, .conv .u64 (.tmp 94), none, []⟩, 
  ⟨some 96, .bin .shl (.const (.int .u64 1)) (.tmp 95), none, []⟩, 
  ⟨some 97, .bin .sub (.tmp 96) (.const (.int .u64 1)), none, []⟩, 
  ⟨some 11, .mov (.tmp 97), none, []⟩] [94, 95, 96, 97])
 (.seq (.region [
  ⟨some 12, .mov (.const (.bool false)), none, []⟩] [])
 (.seq (.region [
  ⟨some 13, .mov (.const (.int .u64 0)), none, []⟩] [])
 (.seq (.seq (.region [
  ⟨some 98, .mov (.tmp 0), none, []⟩, 
  ⟨some 99, .toBytes 5 (.tmp 98), none, []⟩, 
  ⟨some 100, .len false (.tmp 99), none, []⟩, 
  ⟨some 101, .mov (.const (.int .i64 0)), none, []⟩] [98])
 (.block 3 (.loop (.seq (.region [
    ⟨some 102, .bin .lss (.tmp 101) (.tmp 100), none, []⟩] [])
   (.seq (.cond (.tmp 102)
    (.skip)
    (.exit 3))
   (.seq (.block 4 (.seq (.region [
     ⟨some 103, .indexAddr 1 (.tmp 99) (.tmp 101), none, []⟩, 
     ⟨some 104, .loadS (.tmp 103), none, []⟩, 
     ⟨some 15, .mov (.tmp 104), none, []⟩] [103, 104])
    (.seq (.region [
     ⟨some 16, .mov (.const (.int .u8 0)), none, []⟩] [])
    (.seq (.block 5 (.seq (.region [
      ⟨some 107, .mov (.tmp 15), none, []⟩, 
      ⟨some 108, .bin .eql (.tmp 107) (.const (.int .u8 95)), none, []⟩, 
      ⟨some 109, .mov (.tmp 108), none, []⟩, 
      ⟨some 110, .mov (.tmp 8), (some (109, true)), []⟩, 
      ⟨some 111, .pick (.tmp 109) (.tmp 110) (.const (.bool false)), none, []⟩, 
      ⟨some 106, .mov (.tmp 111), none, []⟩] [107, 108, 109, 110, 111])
     (.cond (.tmp 106)
      (.seq (.region [
       ⟨some 12, .mov (.const (.bool true)), none, []⟩] [])
      (.exit 4))
      (.seq (.region [
       ⟨some 113, .mov (.tmp 15), none, []⟩, 
       ⟨some 114, .bin .leq (.const (.int .u8 48)) (.tmp 113), none, []⟩, 
       ⟨some 115, .mov (.tmp 114), none, []⟩, 
       ⟨some 116, .mov (.tmp 15), (some (115, true)), []⟩, 
       ⟨some 117, .bin .leq (.tmp 116) (.const (.int .u8 57)), (some (115, true)), []⟩, 
       ⟨some 118, .pick (.tmp 115) (.tmp 117) (.const (.bool false)), none, []⟩, 
       ⟨some 112, .mov (.tmp 118), none, []⟩] [113, 114, 115, 116, 117, 118])
      (.cond (.tmp 112)
       (.region [
        ⟨some 119, .mov (.tmp 15), none, []⟩, 
        ⟨some 120, .bin .sub (.tmp 119) (.const (.int .u8 48)), none, []⟩, 
        ⟨some 16, .mov (.tmp 120), none, []⟩] [119, 120])
       (.seq (.region [
        ⟨some 122, .mov (.tmp 15), none, []⟩, 
        ⟨some 123, .call 43 [(.tmp 122)], none, []⟩, 
        ⟨some 124, .bin .leq (.const (.int .u8 97)) (.tmp 123), none, []⟩, 
        ⟨some 125, .mov (.tmp 124), none, []⟩, 
        ⟨some 126, .mov (.tmp 15), (some (125, true)), []⟩, 
        ⟨some 127, .call 43 [(.tmp 126)], (some (125, true)), []⟩, 
        ⟨some 128, .bin .leq (.tmp 127) (.const (.int .u8 122)), (some (125, true)), []⟩, 
        ⟨some 129, .pick (.tmp 125) (.tmp 128) (.const (.bool false)), none, []⟩, 
        ⟨some 121, .mov (.tmp 129), none, []⟩] [122, 123, 124, 125, 126, 127, 128, 129])
       (.cond (.tmp 121)
        (.region [
         ⟨some 130, .mov (.tmp 15), none, []⟩, 
         ⟨some 131, .call 43 [(.tmp 130)], none, []⟩, 
         ⟨some 132, .bin .sub (.tmp 131) (.const (.int .u8 97)), none, []⟩, 
         ⟨some 133, .bin .add (.tmp 132) (.const (.int .u8 10)), none, []⟩, 
         ⟨some 16, .mov (.tmp 133), none, []⟩] [130, 131, 132, 133])
        (.seq (.region [
         ⟨some 105, .mkIface 71 (.const (.int .i64 2)), none, []⟩, 
         ⟨some 6, .mov (.const (.int .u64 0)), none, []⟩, 
         ⟨some 7, .mov (.tmp 105), none, []⟩] [105])
        (.ret)))))))))
    (.seq (.seq (.region [
     ⟨some 134, .mov (.tmp 16), none, []⟩, 
     ⟨some 135, .mov (.tmp 1), none, []⟩, 
     ⟨some 136, .conv .u8 (.tmp 135), none, []⟩, 
     ⟨some 137, .bin .geq (.tmp 134) (.tmp 136), none, []⟩] [134, 135, 136])
    (.cond (.tmp 137)
     (.seq (.region [
      ⟨some 138, .mkIface 71 (.const (.int .i64 2)), none, []⟩, 
      ⟨some 6, .mov (.const (.int .u64 0)), none, []⟩, 
      ⟨some 7, .mov (.tmp 138), none, []⟩] [138])
     (.ret))
     (.skip)))
    (.seq (.seq (.region [
     ⟨some 139, .mov (.tmp 13), none, []⟩, 
     ⟨some 140, .mov (.tmp 10), none, []⟩, 
     ⟨some 141, .bin .geq (.tmp 139) (.tmp 140), none, []⟩] [139, 140])
    (.cond (.tmp 141)
     (.seq (.region [
      ⟨some 142, .mov (.tmp 11), none, []⟩, 
      ⟨some 143, .mkIface 71 (.const (.int .i64 1)), none, []⟩, 
      ⟨some 6, .mov (.tmp 142), none, []⟩, 
      ⟨some 7, .mov (.tmp 143), none, []⟩] [142, 143])
     (.ret))
     (.skip)))
    (.seq (.region [
     ⟨some 144, .mov (.tmp 13), none, []⟩, 
     ⟨some 145, .mov (.tmp 1), none, []⟩, 
     ⟨some 146, .conv .u64 (.tmp 145), none, []⟩, 
     ⟨some 147, .bin .mul (.tmp 144) (.tmp 146), none, []⟩, 
     ⟨some 13, .mov (.tmp 147), none, []⟩] [144, 145, 146, 147])
    (.seq (.region [
     ⟨some 148, .mov (.tmp 13), none, []⟩, 
     ⟨some 149, .mov (.tmp 16), none, []⟩, 
     ⟨some 150, .conv .u64 (.tmp 149), none, []⟩, 
     ⟨some 151, .bin .add (.tmp 148) (.tmp 150), none, []⟩, 
     ⟨some 17, .mov (.tmp 151), none, []⟩] [148, 149, 150, 151])
    (.seq (.seq (.region [
     ⟨some 152, .mov (.tmp 17), none, []⟩, 
     ⟨some 153, .mov (.tmp 13), none, []⟩, 
     ⟨some 154, .bin .lss (.tmp 152) (.tmp 153), none, []⟩, 
     ⟨some 155, .mov (.tmp 154), none, []⟩, 
     ⟨some 156, .mov (.tmp 17), (some (155, false)), []⟩, 
     ⟨some 157, .mov (.tmp 11), (some (155, false)), []⟩, 
     ⟨some 158, .bin .gtr (.tmp 156) (.tmp 157), (some (155, false)), []⟩, 
     ⟨some 159, .pick (.tmp 155) (.const (.bool true)) (.tmp 158), none, []⟩] [152, 153, 154, 155, 156, 157, 158])
    (.cond (.tmp 159)
     (.seq (.region [
      ⟨some 160, .mov (.tmp 11), none, []⟩, 
      ⟨some 161, .mkIface 71 (.const (.int .i64 1)), none, []⟩, 
      ⟨some 6, .mov (.tmp 160), none, []⟩, 
      ⟨some 7, .mov (.tmp 161), none, []⟩] [160, 161])
     (.ret))
     (.skip)))
    (.region [
     ⟨some 162, .mov (.tmp 17), none, []⟩, 
     ⟨some 13, .mov (.tmp 162), none, []⟩] [162]))))))))))
   (.region [
    ⟨some 163, .bin .add (.tmp 101) (.const (.int .i64 1)), none, []⟩, 
    ⟨some 101, .mov (.tmp 163), none, []⟩] [163])))))))
 (.seq (.seq (.region [
  ⟨some 164, .mov (.tmp 12), none, []⟩, 
  ⟨some 165, .mov (.tmp 164), none, []⟩, 
  ⟨some 166, .mov (.tmp 9), (some (165, true)), []⟩, 
  ⟨some 167, .call 44 [(.tmp 166)], (some (165, true)), []⟩, 
  ⟨some 168, .un .not (.tmp 167), (some (165, true)), []⟩, 
  ⟨some 169, .pick (.tmp 165) (.tmp 168) (.const (.bool false)), none, []⟩] [164, 165, 166, 167, 168])
 (.cond (.tmp 169)
  (.seq (.region [
   ⟨some 170, .mkIface 71 (.const (.int .i64 2)), none, []⟩, 
   ⟨some 6, .mov (.const (.int .u64 0)), none, []⟩, 
   ⟨some 7, .mov (.tmp 170), none, []⟩] [170])
  (.ret))
  (.skip)))
 (.seq (.region [
  ⟨some 171, .mov (.tmp 13), none, []⟩, 
  ⟨some 6, .mov (.tmp 171), none, []⟩, 
  ⟨some 7, .mov (.const .nili), none, []⟩] [171])
 (.ret))))))))))))))
theorem ok32 : erase c32 = cCode Tryd.prog 172 ((Tryd.f32).body.getD .skip) := by kernel_rfl
theorem ord32 : ordsOk c32 = true := by kernel_rfl
theorem call32 {args : List SV} {h : Heap} {R : AEnd → Heap → Prop} (hn : Nat.ble args.length 172 = true) (hp : awp Tryd.prog c32 (finQ [.tmp 6, .tmp 7] R) (argEnv 0 args) h) : ACall Tryd.prog 32 args h R :=
  acall_of_awp mixed Tryd.func32 rfl ord32 ok32 (by kernel_rfl) hn hp
def t32 : Tab := ⟨172, c32, [.tmp 6, .tmp 7]⟩
theorem tab32 : TabOk Tryd.prog 32 t32 := tabOk Tryd.func32 rfl ord32 ok32 (by kernel_rfl) rfl

/-- strconv.toError -/
def c33 : ACode :=
 .seq (.region [
  ⟨some 10, .mov (.const .nili), none, []⟩] [])
 (.seq (.seq (.region [
  ⟨some 11, .mov (.tmp 4), none, []⟩] [])
 (.block 0 (.seq (.region [
   ⟨some 13, .mkIface 71 (.const (.int .i64 2)), none, []⟩, 
   ⟨some 14, .bad, none, []⟩, 
   ⟨some 12, .mov (.tmp 14), none, []⟩] [13, 14])
  (.cond (.tmp 12)
   (.seq (.region [
    ⟨some 15, .mov (.tmp 0), none, []⟩, 
    ⟨some 16, .mov (.tmp 1), none, []⟩, 
    ⟨some 17, .call 45 [(.tmp 15), (.tmp 16)], none, []⟩, 
    ⟨some 18, .mkIface 74 (.tmp 17), none, []⟩, 
    ⟨some 10, .mov (.tmp 18), none, []⟩] [15, 16, 17, 18])
   (.ret))
   (.seq (.region [
    ⟨some 20, .mkIface 71 (.const (.int .i64 1)), none, []⟩, 
    ⟨some 21, .bad, none, []⟩, 
    ⟨some 19, .mov (.tmp 21), none, []⟩] [20, 21])
   (.cond (.tmp 19)
    (.seq (.region [
     ⟨some 22, .mov (.tmp 0), none, []⟩, 
     ⟨some 23, .mov (.tmp 1), none, []⟩, 
     ⟨some 24, .call 46 [(.tmp 22), (.tmp 23)], none, []⟩, 
     ⟨some 25, .mkIface 74 (.tmp 24), none, []⟩, 
     ⟨some 10, .mov (.tmp 25), none, []⟩] [22, 23, 24, 25])
    (.ret))
    (.seq (.region [
     ⟨some 27, .mkIface 71 (.const (.int .i64 3)), none, []⟩, 
     ⟨some 28, .bad, none, []⟩, 
     ⟨some 26, .mov (.tmp 28), none, []⟩] [27, 28])
    (.cond (.tmp 26)
     (.seq (.region [
      ⟨some 29, .mov (.tmp 0), none, []⟩, 
      ⟨some 30, .mov (.tmp 1), none, []⟩, 
      ⟨some 31, .mov (.tmp 2), none, []⟩, 
      ⟨some 32, .call 47 [(.tmp 29), (.tmp 30), (.tmp 31)], none, []⟩, 
      ⟨some 33, .mkIface 74 (.tmp 32), none, []⟩, 
      ⟨some 10, .mov (.tmp 33), none, []⟩] [29, 30, 31, 32, 33])
     (.ret))
     (.seq (.region [
      ⟨some 35, .mkIface 71 (.const (.int .i64 4)), none, []⟩, 
      ⟨some 36, .bad, none, []⟩, 
      ⟨some 34, .mov (.tmp 36), none, []⟩] [35, 36])
     (.cond (.tmp 34)
      (.seq (.region [
       ⟨some 37, .mov (.tmp 0), none, []⟩, 
       ⟨some 38, .mov (.tmp 1), none, []⟩, 
       ⟨some 39, .mov (.tmp 3), none, []⟩, 
       ⟨some 40, .call 48 [(.tmp 37), (.tmp 38), (.tmp 39)], none, []⟩, 
       ⟨some 41, .mkIface 74 (.tmp 40), none, []⟩, 
       ⟨some 10, .mov (.tmp 41), none, []⟩] [37, 38, 39, 40, 41])
      (.ret))
      (.skip)))))))))))
 (.seq (.region [
  ⟨some 42, .mov (.tmp 4), none, []⟩, 
  ⟨some 10, .mov (.tmp 42), none, []⟩] [42])
 (.ret)))
theorem ok33 : erase c33 = cCode Tryd.prog 43 ((Tryd.f33).body.getD .skip) := by kernel_rfl
theorem ord33 : ordsOk c33 = true := by kernel_rfl
theorem call33 {args : List SV} {h : Heap} {R : AEnd → Heap → Prop} (hn : Nat.ble args.length 43 = true) (hp : awp Tryd.prog c33 (finQ [.tmp 10] R) (argEnv 0 args) h) : ACall Tryd.prog 33 args h R :=
  acall_of_awp mixed Tryd.func33 rfl ord33 ok33 (by kernel_rfl) hn hp
def t33 : Tab := ⟨43, c33, [.tmp 10]⟩
theorem tab33 : TabOk Tryd.prog 33 t33 := tabOk Tryd.func33 rfl ord33 ok33 (by kernel_rfl) rfl

/-- unicode/utf8.decodeRuneInStringSlow -/
def c34 : ACode :=
 .seq (.region [
  ⟨some 2, .mov (.const (.int .i32 0)), none, []⟩, 
  ⟨some 3, .mov (.const (.int .i64 0)), none, []⟩] [])
 (.seq (.region [
  ⟨some 13, .mov (.tmp 0), none, []⟩, 
  ⟨some 14, .len true (.tmp 13), none, []⟩, 
  ⟨some 4, .mov (.tmp 14), none, []⟩] [13, 14])
 (.seq (.seq (.region [
  ⟨some 15, .mov (.tmp 4), none, []⟩, 
  ⟨some 16, .bin .lss (.tmp 15) (.const (.int .i64 1)), none, []⟩] [15])
 (.cond (.tmp 16)
  (.seq (.region [
   ⟨some 2, .mov (.const (.int .i32 65533)), none, []⟩, 
   ⟨some 3, .mov (.const (.int .i64 0)), none, []⟩] [])
  (.ret))
  (.skip)))
 (.seq (.region [
  ⟨some 17, .mov (.tmp 0), none, []⟩, 
  ⟨some 18, .index (.tmp 17) (.const (.int .i64 0)), none, []⟩, 
  ⟨some 5, .mov (.tmp 18), none, []⟩] [17, 18])
 (.seq (.region [
  ⟨some 19, .mov (.tmp 5), none, []⟩, 
  ⟨some 20, .indexArr 256 1 (.const (.glob 2)) (.tmp 19), none, []⟩, 
  ⟨some 21, .loadS (.tmp 20), none, []⟩, 
  ⟨some 6, .mov (.tmp 21), none, []⟩] [19, 20, 21])
 (.seq (.seq (.region [
  ⟨some 22, .mov (.tmp 6), none, []⟩, 
  ⟨some 23, .bin .geq (.tmp 22) (.const (.int .u8 240)), none, []⟩] [22])
 (.cond (.tmp 23)
  (.seq (.region [
   ⟨some 24, .mov (.tmp 6), none, []⟩, 
   ⟨some 25, .conv .i32 (.tmp 24), none, []⟩, 
   ⟨some 26, .bin .shl (.tmp 25) (.const (.int .u64 31)), none, []⟩, 
   ⟨some 27, .bin .shr (.tmp 26) (.const (.int .u64 31)), none, []⟩, 
   ⟨some 7, .mov (.tmp 27), none, []⟩] [24, 25, 26, 27])
  (.seq (.region [
   ⟨some 28, .mov (.tmp 0), none, []⟩, 
   ⟨some 29, .index (.tmp 28) (.const (.int .i64 0)), none, []⟩, 
   ⟨some 30, .conv .i32 (.tmp 29), none, []⟩, 
   ⟨some 31, .mov (.tmp 7), none, []⟩, 
   ⟨some 32, .bin .andNot (.tmp 30) (.tmp 31), none, []⟩, 
   ⟨some 33, .mov (.tmp 7), none, []⟩, 
   ⟨some 34, .bin .and (.const (.int .i32 65533)) (.tmp 33), none, []⟩, 
   ⟨some 35, .bin .or (.tmp 32) (.tmp 34), none, []⟩, 
   ⟨some 2, .mov (.tmp 35), none, []⟩, 
   ⟨some 3, .mov (.const (.int .i64 1)), none, []⟩] [28, 29, 30, 31, 32, 33, 34, 35])
  (.ret)))
  (.skip)))
 (.seq (.region [
  ⟨some 36, .mov (.tmp 6), none, []⟩, 
  ⟨some 37, .bin .and (.tmp 36) (.const (.int .u8 7)), none, []⟩, 
  ⟨some 38, .conv .i64 (.tmp 37), none, []⟩, 
  ⟨some 8, .mov (.tmp 38), none, []⟩] [36, 37, 38])
 (.seq (.region [
  ⟨some 39, .mov (.tmp 6), none, []⟩, 
  ⟨some 40, .bin .shr (.tmp 39) (.const (.int .u64 4)), none, []⟩, 
  ⟨some 41, .indexArr 16 2 (.const (.glob 3)) (.tmp 40), none, []⟩, 
  ⟨some 42, .loadA 2 (.tmp 41), none, []⟩, 
  ⟨some 9, .box 78 2 (.const (.agg [(.int .u8 0), (.int .u8 0)])), none, []⟩, 
  ⟨none, .store 2 (.tmp 9) (.tmp 42), none, []⟩] [39, 40, 41, 42])
 (.seq (.seq (.region [
  ⟨some 43, .mov (.tmp 4), none, []⟩, 
  ⟨some 44, .mov (.tmp 8), none, []⟩, 
  ⟨some 45, .bin .lss (.tmp 43) (.tmp 44), none, []⟩] [43, 44])
 (.cond (.tmp 45)
  (.seq (.region [
   ⟨some 2, .mov (.const (.int .i32 65533)), none, []⟩, 
   ⟨some 3, .mov (.const (.int .i64 1)), none, []⟩] [])
  (.ret))
  (.skip)))
 (.seq (.region [
  ⟨some 46, .mov (.tmp 0), none, []⟩, 
  ⟨some 47, .index (.tmp 46) (.const (.int .i64 1)), none, []⟩, 
  ⟨some 10, .mov (.tmp 47), none, []⟩] [46, 47])
 (.seq (.seq (.region [
  ⟨some 48, .mov (.tmp 10), none, []⟩, 
  ⟨some 49, .fieldAddr 0 (.tmp 9), none, []⟩, 
  ⟨some 50, .loadS (.tmp 49), none, []⟩, 
  ⟨some 51, .bin .lss (.tmp 48) (.tmp 50), none, []⟩, 
  ⟨some 52, .mov (.tmp 51), none, []⟩, 
  ⟨some 53, .fieldAddr 1 (.tmp 9), (some (52, false)), []⟩, 
  ⟨some 54, .loadS (.tmp 53), (some (52, false)), []⟩, 
  ⟨some 55, .mov (.tmp 10), (some (52, false)), []⟩, 
  ⟨some 56, .bin .lss (.tmp 54) (.tmp 55), (some (52, false)), []⟩, 
  ⟨some 57, .pick (.tmp 52) (.const (.bool true)) (.tmp 56), none, []⟩] [48, 49, 50, 51, 52, 53, 54, 55, 56])
 (.cond (.tmp 57)
  (.seq (.region [
   ⟨some 2, .mov (.const (.int .i32 65533)), none, []⟩, 
   ⟨some 3, .mov (.const (.int .i64 1)), none, []⟩] [])
  (.ret))
  (.skip)))
 (.seq (.seq (.region [
  ⟨some 58, .mov (.tmp 8), none, []⟩, 
  ⟨some 59, .bin .leq (.tmp 58) (.const (.int .i64 2)), none, []⟩] [58])
 (.cond (.tmp 59)
  (.seq (.region [
   ⟨some 60, .mov (.tmp 5), none, []⟩, 
   ⟨some 61, .bin .and (.tmp 60) (.const (.int .u8 31)), none, []⟩, 
   ⟨some 62, .conv .i32 (.tmp 61), none, []⟩, 
   ⟨some 63, .bin .shl (.tmp 62) (.const (.int .u64 6)), none, []⟩, 
   ⟨some 64, .mov (.tmp 10), none, []⟩, 
   ⟨some 65, .bin .and (.tmp 64) (.const (.int .u8 63)), none, []⟩, 
   ⟨some 66, .conv .i32 (.tmp 65), none, []⟩, 
   ⟨some 67, .bin .or (.tmp 63) (.tmp 66), none, []⟩, 
   ⟨some 2, .mov (.tmp 67), none, []⟩, 
   ⟨some 3, .mov (.const (.int .i64 2)), none, []⟩] [60, 61, 62, 63, 64, 65, 66, 67])
  (.ret))
  (.skip)))
 (.seq (.region [
  ⟨some 68, .mov (.tmp 0), none, []⟩, 
  ⟨some 69, .index (.tmp 68) (.const (.int .i64 2)), none, []⟩, 
  ⟨some 11, .mov (.tmp 69), none, []⟩] [68, 69])
 (.seq (.seq (.region [
  ⟨some 70, .mov (.tmp 11), none, []⟩, 
  ⟨some 71, .bin .lss (.tmp 70) (.const (.int .u8 128)), none, []⟩, 
  ⟨some 72, .mov (.tmp 71), none, []⟩, 
  ⟨some 73, .mov (.tmp 11), (some (72, false)), []⟩, 
  ⟨some 74, .bin .lss (.const (.int .u8 191)) (.tmp 73), (some (72, false)), []⟩, 
  ⟨some 75, .pick (.tmp 72) (.const (.bool true)) (.tmp 74), none, []⟩] [70, 71, 72, 73, 74])
 (.cond (.tmp 75)
  (.seq (.region [
   ⟨some 2, .mov (.const (.int .i32 65533)), none, []⟩, 
   ⟨some 3, .mov (.const (.int .i64 1)), none, []⟩] [])
  (.ret))
  (.skip)))
 (.seq (.seq (.region [
  ⟨some 76, .mov (.tmp 8), none, []⟩, 
  ⟨some 77, .bin .leq (.tmp 76) (.const (.int .i64 3)), none, []⟩] [76])
 (.cond (.tmp 77)
  (.seq (.region [
   ⟨some 78, .mov (.tmp 5), none, []⟩, 
   ⟨some 79, .bin .and (.tmp 78) (.const (.int .u8 15)), none, []⟩, 
   ⟨some 80, .conv .i32 (.tmp 79), none, []⟩, 
   ⟨some 81, .bin .shl (.tmp 80) (.const (.int .u64 12)), none, []⟩, 
   ⟨some 82, .mov (.tmp 10), none, []⟩, 
   ⟨some 83, .bin .and (.tmp 82) (.const (.int .u8 63)), none, []⟩, 
   ⟨some 84, .conv .i32 (.tmp 83), none, []⟩, 
   ⟨some 85, .bin .shl (.tmp 84) (.const (.int .u64 6)), none, []⟩, 
   ⟨some 86, .bin .or (.tmp 81) (.tmp 85), none, []⟩, 
   ⟨some 87, .mov (.tmp 11), none, []⟩, 
   ⟨some 88, .bin .and (.tmp 87) (.const (.int .u8 63)), none, []⟩, 
   ⟨some 89, .conv .i32 (.tmp 88), none, []⟩, 
   ⟨some 90, .bin .or (.tmp 86) (.tmp 89), none, []⟩, 
   ⟨some 2, .mov (.tmp 90), none, []⟩, 
   ⟨some 3, .mov (.const (.int .i64 3)), none, []⟩] [78, 79, 80, 81, 82, 83, 84, 85, 86, 87, 88, 89, 90])
  (.ret))
  (.skip)))
 (.seq (.region [
  ⟨some 91, .mov (.tmp 0), none, []⟩, 
  ⟨some 92, .index (.tmp 91) (.const (.int .i64 3)), none, []⟩, 
  ⟨some 12, .mov (.tmp 92), none, []⟩] [91, 92])
 (.seq (.seq (.region [
  ⟨some 93, .mov (.tmp 12), none, []⟩, 
  ⟨some 94, .bin .lss (.tmp 93) (.const (.int .u8 128)), none, []⟩, 
  ⟨some 95, .mov (.tmp 94), none, []⟩, 
  ⟨some 96, .mov (.tmp 12), (some (95, false)), []⟩, 
  ⟨some 97, .bin .lss (.const (.int .u8 191)) (.tmp 96), (some (95, false)), []⟩, 
  ⟨some 98, .pick (.tmp 95) (.const (.bool true)) (.tmp 97), none, []⟩] [93, 94, 95, 96, 97])
 (.cond (.tmp 98)
  (.seq (.region [
   ⟨some 2, .mov (.const (.int .i32 65533)), none, []⟩, 
   ⟨some 3, .mov (.const (.int .i64 1)), none, []⟩] [])
  (.ret))
  (.skip)))
 (.seq (.region [
  ⟨some 99, .mov (.tmp 5), none, []⟩, 
  ⟨some 100, .bin .and (.tmp 99) (.const (.int .u8 7)), none, []⟩, 
  ⟨some 101, .conv .i32 (.tmp 100), none, []⟩, 
  ⟨some 102, .bin .shl (.tmp 101) (.const (.int .u64 18)), none, []⟩, 
  ⟨some 103, .mov (.tmp 10), none, []⟩, 
  ⟨some 104, .bin .and (.tmp 103) (.const (.int .u8 63)), none, []⟩, 
  ⟨some 105, .conv .i32 (.tmp 104), none, []⟩, 
  ⟨some 106, .bin .shl (.tmp 105) (.const (.int .u64 12)), none, []⟩, 
  ⟨some 107, .bin .or (.tmp 102) (.tmp 106), none, []⟩, 
  ⟨some 108, .mov (.tmp 11), none, []⟩, 
  ⟨some 109, .bin .and (.tmp 108) (.const (.int .u8 63)), none, []⟩, 
  ⟨some 110, .conv .i32 (.tmp 109), none, []⟩, 
  ⟨some 111, .bin .shl (.tmp 110) (.const (.int .u64 6)), none, []⟩, 
  ⟨some 112, .bin .or (.tmp 107) (.tmp 111), none, []⟩, 
  ⟨some 113, .mov (.tmp 12), none, []⟩, 
  ⟨some 114, .bin .and (.tmp 113) (.const (.int .u8 63)), none, []⟩, 
  ⟨some 115, .conv .i32 (.tmp 114), none, []⟩, 
  ⟨some 116, .bin .or (.tmp 112) (.tmp 115), none, []⟩, 
  ⟨some 2, .mov (.tmp 116), none, []⟩, 
  ⟨some 3, .mov (.const (.int .i64 4)), none, []⟩] [99, 100, 101, 102, 103, 104, 105, 106, 107, 108, 109, 110, 111, 112, 113, 114, 115, 116])
 (.ret))))))))))))))))))
theorem ok34 : erase c34 = cCode Tryd.prog 117 ((Tryd.f34).body.getD .skip) := by kernel_rfl
theorem ord34 : ordsOk c34 = true := by kernel_rfl
theorem call34 {args : List SV} {h : Heap} {R : AEnd → Heap → Prop} (hn : Nat.ble args.length 117 = true) (hp : awp Tryd.prog c34 (finQ [.tmp 2, .tmp 3] R) (argEnv 0 args) h) : ACall Tryd.prog 34 args h R :=
  acall_of_awp mixed Tryd.func34 rfl ord34 ok34 (by kernel_rfl) hn hp
def t34 : Tab := ⟨117, c34, [.tmp 2, .tmp 3]⟩
theorem tab34 : TabOk Tryd.prog 34 t34 := tabOk Tryd.func34 rfl ord34 ok34 (by kernel_rfl) rfl

/-- (*strings.Builder).copyCheck -/
def c35 : ACode :=
 .seq (.region [
  ⟨some 2, .mov (.tmp 0), none, []⟩, 
  ⟨some 3, .nilChk (.tmp 2), none, []⟩, 
  ⟨some 4, .fieldAddr 0 (.tmp 3), none, []⟩, 
  ⟨some 5, .loadS (.tmp 4), none, []⟩, 
  ⟨some 6, .eqP false (.tmp 5) (.const .nilp), none, []⟩] [2, 3, 4, 5])
 (.cond (.tmp 6)
  (.region [
   ⟨some 7, .mov (.tmp 0), none, []⟩, 
   ⟨some 8, .mov (.tmp 0), none, []⟩, 
   ⟨some 9, .toUns (.tmp 8), none, []⟩, 
   ⟨some 10, .noEsc (.tmp 9), none, []⟩, 
   ⟨some 11, .fromUns 51 2 (.tmp 10), none, []⟩, 
   ⟨some 12, .nilChk (.tmp 7), none, []⟩, 
   ⟨some 13, .fieldAddr 0 (.tmp 12), none, []⟩, 
   ⟨none, .store 1 (.tmp 13) (.tmp 11), none, []⟩] [7, 8, 9, 10, 11, 12, 13])
  (.seq (.region [
   ⟨some 14, .mov (.tmp 0), none, []⟩, 
   ⟨some 15, .nilChk (.tmp 14), none, []⟩, 
   ⟨some 16, .fieldAddr 0 (.tmp 15), none, []⟩, 
   ⟨some 17, .loadS (.tmp 16), none, []⟩, 
   ⟨some 18, .mov (.tmp 0), none, []⟩, 
   ⟨some 19, .eqP true (.tmp 17) (.tmp 18), none, []⟩] [14, 15, 16, 17, 18])
  (.cond (.tmp 19)
   (.bad)
   (.skip))))
theorem ok35 : erase c35 = cCode Tryd.prog 20 ((Tryd.f35).body.getD .skip) := by kernel_rfl
theorem ord35 : ordsOk c35 = true := by kernel_rfl
theorem call35 {args : List SV} {h : Heap} {R : AEnd → Heap → Prop} (hn : Nat.ble args.length 20 = true) (hp : awp Tryd.prog c35 (finQ [] R) (argEnv 0 args) h) : ACall Tryd.prog 35 args h R :=
  acall_of_awp mixed Tryd.func35 rfl ord35 ok35 (by kernel_rfl) hn hp
def t35 : Tab := ⟨20, c35, []⟩
theorem tab35 : TabOk Tryd.prog 35 t35 := tabOk Tryd.func35 rfl ord35 ok35 (by kernel_rfl) rfl

/-- strings.FieldsFunc -/
def c36 : ACode :=
 .seq (.region [
  ⟨some 4, .mov (.const .nils), none, []⟩] [])
 (.seq (.region [
  ⟨some 12, .makeSlice 84 2 16 (.agg [(.int .i64 0), (.int .i64 0)]) (.const (.int .i64 0)) (.const (.int .i64 32)), none, []⟩, 
  ⟨some 5, .mov (.tmp 12), none, []⟩] [12])
 (.seq (.region [
  ⟨some 6, .mov (.const (.int .i64 (-1))), none, []⟩] [])
 (.seq (.seq (.region [
  ⟨some 13, .mov (.tmp 0), none, []⟩, 
  ⟨some 14, .rangeS (.tmp 13), none, []⟩] [13])
 (.block 0 (.loop (.seq (.region [
    ⟨some 15, .nextS (.tmp 14), none, []⟩, 
    ⟨some 16, .extract (.tmp 15) 0, none, []⟩] [])
   (.seq (.cond (.tmp 16)
    (.skip)
    (.exit 0))
   (.block 1 (.seq (.region [
     ⟨some 17, .extract (.tmp 15) 1, none, []⟩, 
     ⟨some 18, .extract (.tmp 15) 2, none, []⟩, 
     ⟨some 7, .mov (.tmp 17), none, []⟩, 
     ⟨some 8, .mov (.tmp 18), none, []⟩] [17, 18])
    (.seq (.region [
     ⟨some 19, .mov (.tmp 1), none, []⟩, 
     ⟨some 20, .mov (.tmp 8), none, []⟩, 
     ⟨some 21, .callv (.tmp 19) [(.tmp 20)], none, []⟩] [19, 20])
    (.cond (.tmp 21)
     (.seq (.region [
      ⟨some 22, .mov (.tmp 6), none, []⟩, 
      ⟨some 23, .bin .geq (.tmp 22) (.const (.int .i64 0)), none, []⟩] [22])
     (.cond (.tmp 23)
      (.seq (.region [
       ⟨some 24, .mov (.tmp 5), none, []⟩, 
       ⟨some 25, .mov (.tmp 6), none, []⟩, 
       ⟨some 26, .mov (.tmp 7), none, []⟩, 
       ⟨some 27, .build [(.int .i64 0), (.int .i64 0)] [(0, 1, (.tmp 25)), (1, 1, (.tmp 26))], none, []⟩, 
       ⟨some 28, .buildSlice 84 2 (.agg [(.int .i64 0), (.int .i64 0)]) 1 [(0, (.tmp 27))], none, []⟩, 
       ⟨some 29, .append 84 2 16 (.tmp 24) (.tmp 28), none, []⟩, 
       ⟨some 5, .mov (.tmp 29), none, []⟩] [24, 25, 26, 27, 28, 29])
      (.region [
       ⟨some 30, .mov (.tmp 6), none, []⟩, 
       ⟨some 31, .un .xor (.tmp 30), none, []⟩, 
       ⟨some 6, .mov (.tmp 31), none, []⟩] [30, 31]))
      (.skip)))
     (.seq (.region [
      ⟨some 32, .mov (.tmp 6), none, []⟩, 
      ⟨some 33, .bin .lss (.tmp 32) (.const (.int .i64 0)), none, []⟩] [32])
     (.cond (.tmp 33)
      (.region [
       ⟨some 34, .mov (.tmp 7), none, []⟩, 
       ⟨some 6, .mov (.tmp 34), none, []⟩] [34])
      (.skip))))))))))))
 (.seq (.seq (.region [
  ⟨some 35, .mov (.tmp 6), none, []⟩, 
  ⟨some 36, .bin .geq (.tmp 35) (.const (.int .i64 0)), none, []⟩] [35])
 (.cond (.tmp 36)
  (.region [
   ⟨some 37, .mov (.tmp 5), none, []⟩, 
   ⟨some 38, .mov (.tmp 6), none, []⟩, 
   ⟨some 39, .mov (.tmp 0), none, []⟩, 
   ⟨some 40, .len true (.tmp 39), none, []⟩, 
   ⟨some 41, .build [(.int .i64 0), (.int .i64 0)] [(0, 1, (.tmp 38)), (1, 1, (.tmp 40))], none, []⟩, 
   ⟨some 42, .buildSlice 84 2 (.agg [(.int .i64 0), (.int .i64 0)]) 1 [(0, (.tmp 41))], none, []⟩, 
   ⟨some 43, .append 84 2 16 (.tmp 37) (.tmp 42), none, []⟩, 
   ⟨some 5, .mov (.tmp 43), none, []⟩] [37, 38, 39, 40, 41, 42, 43])
  (.skip)))
 (.seq (.region [
  ⟨some 44, .mov (.tmp 5), none, []⟩, 
  ⟨some 45, .len false (.tmp 44), none, []⟩, 
  ⟨some 46, .makeSlice 9 1 16 (.str []) (.tmp 45) (.tmp 45), none, []⟩, 
  ⟨some 9, .mov (.tmp 46), none, []⟩] [44, 45, 46])
 (.seq (.seq (.region [
  ⟨some 47, .mov (.tmp 5), none, []⟩, 
  ⟨some 48, .len false (.tmp 47), none, []⟩, 
  ⟨some 49, .mov (.const (.int .i64 0)), none, []⟩] [])
 (.block 2 (.loop (.seq (.region [
    ⟨some 50, .bin .lss (.tmp 49) (.tmp 48), none, []⟩] [])
   (.seq (.cond (.tmp 50)
    (.skip)
    (.exit 2))
   (.seq (.block 3 (.seq (.region [
     ⟨some 51, .mov (.tmp 49), none, []⟩, 
     ⟨some 52, .indexAddr 2 (.tmp 47) (.tmp 49), none, []⟩, 
     ⟨some 53, .loadA 2 (.tmp 52), none, []⟩, 
     ⟨some 11, .box 84 2 (.const (.agg [(.int .i64 0), (.int .i64 0)])), none, []⟩, 
     ⟨some 10, .mov (.tmp 51), none, []⟩, 
     ⟨none, .store 2 (.tmp 11) (.tmp 53), none, []⟩] [51, 52, 53])
    (.region [
     ⟨some 54, .mov (.tmp 9), none, []⟩, 
     ⟨some 55, .mov (.tmp 10), none, []⟩, 
     ⟨some 56, .mov (.tmp 0), none, []⟩, 
     ⟨some 57, .fieldAddr 0 (.tmp 11), none, []⟩, 
     ⟨some 58, .loadS (.tmp 57), none, []⟩, 
     ⟨some 59, .fieldAddr 1 (.tmp 11), none, []⟩, 
     ⟨some 60, .loadS (.tmp 59), none, []⟩, 
     ⟨some 61, .sliceStr (.tmp 56) (some (.tmp 58)) (some (.tmp 60)), none, []⟩, 
     ⟨some 62, .indexAddr 1 (.tmp 54) (.tmp 55), none, []⟩, 
     ⟨none, .store 1 (.tmp 62) (.tmp 61), none, []⟩] [54, 55, 56, 57, 58, 59, 60, 61, 62])))
   (.region [
    ⟨some 63, .bin .add (.tmp 49) (.const (.int .i64 1)), none, []⟩, 
    ⟨some 49, .mov (.tmp 63), none, []⟩] [63])))))))
 (.seq (.region [
  ⟨some 64, .mov (.tmp 9), none, []⟩, 
  ⟨some 4, .mov (.tmp 64), none, []⟩] [64])
 (.ret))))))))
theorem ok36 : erase c36 = cCode Tryd.prog 65 ((Tryd.f36).body.getD .skip) := by kernel_rfl
theorem ord36 : ordsOk c36 = true := by kernel_rfl
theorem call36 {args : List SV} {h : Heap} {R : AEnd → Heap → Prop} (hn : Nat.ble args.length 65 = true) (hp : awp Tryd.prog c36 (finQ [.tmp 4] R) (argEnv 0 args) h) : ACall Tryd.prog 36 args h R :=
  acall_of_awp mixed Tryd.func36 rfl ord36 ok36 (by kernel_rfl) hn hp
def t36 : Tab := ⟨65, c36, [.tmp 4]⟩
theorem tab36 : TabOk Tryd.prog 36 t36 := tabOk Tryd.func36 rfl ord36 ok36 (by kernel_rfl) rfl

/-- unicode.IsSpace -/
def c37 : ACode :=
 .seq (.region [
  ⟨some 2, .mov (.const (.bool false)), none, []⟩] [])
 (.seq (.seq (.region [
  ⟨some 3, .mov (.tmp 0), none, []⟩, 
  ⟨some 4, .conv .u32 (.tmp 3), none, []⟩, 
  ⟨some 5, .bin .leq (.tmp 4) (.const (.int .u32 255)), none, []⟩] [3, 4])
 (.cond (.tmp 5)
  (.seq (.seq (.region [
   ⟨some 6, .mov (.tmp 0), none, []⟩] [])
  (.block 0 (.seq (.seq (.region [
    ⟨some 8, .bin .eql (.tmp 6) (.const (.int .i32 9)), none, []⟩, 
    ⟨some 7, .mov (.tmp 8), none, []⟩] [8])
   (.cond (.tmp 7)
    (.skip)
    (.seq (.region [
     ⟨some 9, .bin .eql (.tmp 6) (.const (.int .i32 10)), none, []⟩, 
     ⟨some 7, .mov (.tmp 9), none, []⟩] [9])
    (.cond (.tmp 7)
     (.skip)
     (.seq (.region [
      ⟨some 10, .bin .eql (.tmp 6) (.const (.int .i32 11)), none, []⟩, 
      ⟨some 7, .mov (.tmp 10), none, []⟩] [10])
     (.cond (.tmp 7)
      (.skip)
      (.seq (.region [
       ⟨some 11, .bin .eql (.tmp 6) (.const (.int .i32 12)), none, []⟩, 
       ⟨some 7, .mov (.tmp 11), none, []⟩] [11])
      (.cond (.tmp 7)
       (.skip)
       (.seq (.region [
        ⟨some 12, .bin .eql (.tmp 6) (.const (.int .i32 13)), none, []⟩, 
        ⟨some 7, .mov (.tmp 12), none, []⟩] [12])
       (.cond (.tmp 7)
        (.skip)
        (.seq (.region [
         ⟨some 13, .bin .eql (.tmp 6) (.const (.int .i32 32)), none, []⟩, 
         ⟨some 7, .mov (.tmp 13), none, []⟩] [13])
        (.cond (.tmp 7)
         (.skip)
         (.seq (.region [
          ⟨some 14, .bin .eql (.tmp 6) (.const (.int .i32 133)), none, []⟩, 
          ⟨some 7, .mov (.tmp 14), none, []⟩] [14])
         (.cond (.tmp 7)
          (.skip)
          (.region [
           ⟨some 15, .bin .eql (.tmp 6) (.const (.int .i32 160)), none, []⟩, 
           ⟨some 7, .mov (.tmp 15), none, []⟩] [15])))))))))))))))
   (.cond (.tmp 7)
    (.seq (.region [
     ⟨some 2, .mov (.const (.bool true)), none, []⟩] [])
    (.ret))
    (.skip)))))
  (.seq (.region [
   ⟨some 2, .mov (.const (.bool false)), none, []⟩] [])
  (.ret)))
  (.skip)))
 (.seq (.region [
  ⟨some 16, .loadS (.const (.glob 4)), none, []⟩, 
  ⟨some 17, .mov (.tmp 0), none, []⟩, 
  ⟨some 18, .call 50 [(.tmp 16), (.tmp 17)], none, []⟩, 
  ⟨some 2, .mov (.tmp 18), none, []⟩] [16, 17, 18])
 (.ret)))
theorem ok37 : erase c37 = cCode Tryd.prog 19 ((Tryd.f37).body.getD .skip) := by kernel_rfl
theorem ord37 : ordsOk c37 = true := by kernel_rfl
theorem call37 {args : List SV} {h : Heap} {R : AEnd → Heap → Prop} (hn : Nat.ble args.length 19 = true) (hp : awp Tryd.prog c37 (finQ [.tmp 2] R) (argEnv 0 args) h) : ACall Tryd.prog 37 args h R :=
  acall_of_awp mixed Tryd.func37 rfl ord37 ok37 (by kernel_rfl) hn hp
def t37 : Tab := ⟨19, c37, [.tmp 2]⟩
theorem tab37 : TabOk Tryd.prog 37 t37 := tabOk Tryd.func37 rfl ord37 ok37 (by kernel_rfl) rfl

def c38r0 : List AOper := [
 ⟨some 5, .mov (.tmp 0), none, []⟩, 
 ⟨some 6, .nilChk (.tmp 5), none, [0]⟩, 
 ⟨some 7, .fieldAddr 1 (.tmp 6), none, [1]⟩, 
 ⟨some 8, .loadS (.tmp 7), none, [2]⟩, 
 ⟨some 9, .capOf (.tmp 8), none, [3]⟩, 
 ⟨some 10, .bin .mul (.const (.int .i64 2)) (.tmp 9), none, [4]⟩, 
 ⟨some 11, .mov (.tmp 1), none, []⟩, 
 ⟨some 12, .bin .add (.tmp 10) (.tmp 11), none, [5, 6]⟩, 
 ⟨some 13, .mkNoZero 5 (.tmp 12), none, [7]⟩, 
 ⟨some 14, .mov (.tmp 0), none, []⟩, 
 ⟨some 15, .nilChk (.tmp 14), none, [9]⟩, 
 ⟨some 16, .fieldAddr 1 (.tmp 15), none, [10]⟩, 
 ⟨some 17, .loadS (.tmp 16), none, [11]⟩, 
 ⟨some 18, .len false (.tmp 17), none, [12]⟩, 
 ⟨some 19, .slice 1 (.tmp 13) none (some (.tmp 18)), none, [8, 13]⟩, 
 ⟨some 4, .mov (.tmp 19), none, [14, 8, 0, 1, 2, 3, 4, 5, 6, 7, 8, 9, 10, 11, 12, 13, 14]⟩]
/-- (*strings.Builder).grow -/
def c38 : ACode :=
 .seq (.dregion c38r0 [(0, false, []), (1, false, []), (2, false, []), (3, false, []), (4, false, []), (5, false, []), (6, false, []), (7, false, []), (9, false, []), (10, false, []), (11, false, []), (12, false, []), (13, false, []), (8, true, [10, 11, 12, 13]), (14, false, []), (15, false, [])] [5, 6, 7, 8, 9, 10, 11, 12, 13, 14, 15, 16, 17, 18, 19])
 (.seq (.region [
  ⟨some 20, .mov (.tmp 4), none, []⟩, 
  ⟨some 21, .mov (.tmp 0), none, []⟩, 
  ⟨some 22, .nilChk (.tmp 21), none, []⟩, 
  ⟨some 23, .fieldAddr 1 (.tmp 22), none, []⟩, 
  ⟨some 24, .loadS (.tmp 23), none, []⟩, 
  ⟨some 25, .copyZ (.tmp 20) (.tmp 24), none, []⟩] [20, 21, 22, 23, 24, 25])
 (.region [
  ⟨some 26, .mov (.tmp 0), none, []⟩, 
  ⟨some 27, .mov (.tmp 4), none, []⟩, 
  ⟨some 28, .nilChk (.tmp 26), none, []⟩, 
  ⟨some 29, .fieldAddr 1 (.tmp 28), none, []⟩, 
  ⟨none, .store 1 (.tmp 29) (.tmp 27), none, []⟩] [26, 27, 28, 29]))
theorem ok38 : erase c38 = cCode Tryd.prog 30 ((Tryd.f38).body.getD .skip) := by kernel_rfl
theorem ord38 : ordsOk c38 = true := by kernel_rfl
theorem call38 {args : List SV} {h : Heap} {R : AEnd → Heap → Prop} (hn : Nat.ble args.length 30 = true) (hp : awp Tryd.prog c38 (finQ [] R) (argEnv 0 args) h) : ACall Tryd.prog 38 args h R :=
  acall_of_awp mixed Tryd.func38 rfl ord38 ok38 (by kernel_rfl) hn hp
def t38 : Tab := ⟨30, c38, []⟩
theorem tab38 : TabOk Tryd.prog 38 t38 := tabOk Tryd.func38 rfl ord38 ok38 (by kernel_rfl) rfl

/-- unicode/utf8.RuneLen -/
def c39 : ACode :=
 .seq (.region [
  ⟨some 2, .mov (.const (.int .i64 0)), none, []⟩] [])
 (.seq (.block 0 (.seq (.region [
   ⟨some 4, .mov (.tmp 0), none, []⟩, 
   ⟨some 5, .bin .lss (.tmp 4) (.const (.int .i32 0)), none, []⟩, 
   ⟨some 3, .mov (.tmp 5), none, []⟩] [4, 5])
  (.cond (.tmp 3)
   (.seq (.region [
    ⟨some 2, .mov (.const (.int .i64 (-1))), none, []⟩] [])
   (.ret))
   (.seq (.region [
    ⟨some 7, .mov (.tmp 0), none, []⟩, 
    ⟨some 8, .bin .leq (.tmp 7) (.const (.int .i32 127)), none, []⟩, 
    ⟨some 6, .mov (.tmp 8), none, []⟩] [7, 8])
   (.cond (.tmp 6)
    (.seq (.region [
     ⟨some 2, .mov (.const (.int .i64 1)), none, []⟩] [])
    (.ret))
    (.seq (.region [
     ⟨some 10, .mov (.tmp 0), none, []⟩, 
     ⟨some 11, .bin .leq (.tmp 10) (.const (.int .i32 2047)), none, []⟩, 
     ⟨some 9, .mov (.tmp 11), none, []⟩] [10, 11])
    (.cond (.tmp 9)
     (.seq (.region [
      ⟨some 2, .mov (.const (.int .i64 2)), none, []⟩] [])
     (.ret))
     (.seq (.region [
      ⟨some 13, .mov (.tmp 0), none, []⟩, 
      ⟨some 14, .bin .leq (.const (.int .i32 55296)) (.tmp 13), none, []⟩, 
      ⟨some 15, .mov (.tmp 14), none, []⟩, 
      ⟨some 16, .mov (.tmp 0), (some (15, true)), []⟩, 
      ⟨some 17, .bin .leq (.tmp 16) (.const (.int .i32 57343)), (some (15, true)), []⟩, 
      ⟨some 18, .pick (.tmp 15) (.tmp 17) (.const (.bool false)), none, []⟩, 
      ⟨some 12, .mov (.tmp 18), none, []⟩] [13, 14, 15, 16, 17, 18])
     (.cond (.tmp 12)
      (.seq (.region [
       ⟨some 2, .mov (.const (.int .i64 (-1))), none, []⟩] [])
      (.ret))
      (.seq (.region [
       ⟨some 20, .mov (.tmp 0), none, []⟩, 
       ⟨some 21, .bin .leq (.tmp 20) (.const (.int .i32 65535)), none, []⟩, 
       ⟨some 19, .mov (.tmp 21), none, []⟩] [20, 21])
      (.cond (.tmp 19)
       (.seq (.region [
        ⟨some 2, .mov (.const (.int .i64 3)), none, []⟩] [])
       (.ret))
       (.seq (.region [
        ⟨some 23, .mov (.tmp 0), none, []⟩, 
        ⟨some 24, .bin .leq (.tmp 23) (.const (.int .i32 1114111)), none, []⟩, 
        ⟨some 22, .mov (.tmp 24), none, []⟩] [23, 24])
       (.cond (.tmp 22)
        (.seq (.region [
         ⟨some 2, .mov (.const (.int .i64 4)), none, []⟩] [])
        (.ret))
        (.skip))))))))))))))
 (.seq (.region [
  ⟨some 2, .mov (.const (.int .i64 (-1))), none, []⟩] [])
 (.ret)))
theorem ok39 : erase c39 = cCode Tryd.prog 25 ((Tryd.f39).body.getD .skip) := by kernel_rfl
theorem ord39 : ordsOk c39 = true := by kernel_rfl
theorem call39 {args : List SV} {h : Heap} {R : AEnd → Heap → Prop} (hn : Nat.ble args.length 25 = true) (hp : awp Tryd.prog c39 (finQ [.tmp 2] R) (argEnv 0 args) h) : ACall Tryd.prog 39 args h R :=
  acall_of_awp mixed Tryd.func39 rfl ord39 ok39 (by kernel_rfl) hn hp
def t39 : Tab := ⟨25, c39, [.tmp 2]⟩
theorem tab39 : TabOk Tryd.prog 39 t39 := tabOk Tryd.func39 rfl ord39 ok39 (by kernel_rfl) rfl

/-- (*strings.Builder).WriteRune -/
def c40 : ACode :=
 .seq (.region [
  ⟨some 4, .mov (.const (.int .i64 0)), none, []⟩, 
  ⟨some 5, .mov (.const .nili), none, []⟩] [])
 (.seq (.region [
  ⟨some 7, .mov (.tmp 0), none, []⟩, 
  ⟨some 8, .call 35 [(.tmp 7)], none, []⟩] [7, 8])
 (.seq (.region [
  ⟨some 9, .mov (.tmp 0), none, []⟩, 
  ⟨some 10, .nilChk (.tmp 9), none, []⟩, 
  ⟨some 11, .fieldAddr 1 (.tmp 10), none, []⟩, 
  ⟨some 12, .loadS (.tmp 11), none, []⟩, 
  ⟨some 13, .len false (.tmp 12), none, []⟩, 
  ⟨some 6, .mov (.tmp 13), none, []⟩] [9, 10, 11, 12, 13])
 (.seq (.region [
  ⟨some 14, .mov (.tmp 0), none, []⟩, 
  ⟨some 15, .mov (.tmp 0), none, []⟩, 
  ⟨some 16, .nilChk (.tmp 15), none, []⟩, 
  ⟨some 17, .fieldAddr 1 (.tmp 16), none, []⟩, 
  ⟨some 18, .loadS (.tmp 17), none, []⟩, 
  ⟨some 19, .mov (.tmp 1), none, []⟩, 
  ⟨some 20, .call 52 [(.tmp 18), (.tmp 19)], none, []⟩, 
  ⟨some 21, .nilChk (.tmp 14), none, []⟩, 
  ⟨some 22, .fieldAddr 1 (.tmp 21), none, []⟩, 
  ⟨none, .store 1 (.tmp 22) (.tmp 20), none, []⟩] [14, 15, 16, 17, 18, 19, 20, 21, 22])
 (.seq (.region [
  ⟨some 23, .mov (.tmp 0), none, []⟩, 
  ⟨some 24, .nilChk (.tmp 23), none, []⟩, 
  ⟨some 25, .fieldAddr 1 (.tmp 24), none, []⟩, 
  ⟨some 26, .loadS (.tmp 25), none, []⟩, 
  ⟨some 27, .len false (.tmp 26), none, []⟩, 
  ⟨some 28, .mov (.tmp 6), none, []⟩, 
  ⟨some 29, .bin .sub (.tmp 27) (.tmp 28), none, []⟩, 
  ⟨some 4, .mov (.tmp 29), none, []⟩, 
  ⟨some 5, .mov (.const .nili), none, []⟩] [23, 24, 25, 26, 27, 28, 29])
 (.ret)))))
theorem ok40 : erase c40 = cCode Tryd.prog 30 ((Tryd.f40).body.getD .skip) := by kernel_rfl
theorem ord40 : ordsOk c40 = true := by kernel_rfl
theorem call40 {args : List SV} {h : Heap} {R : AEnd → Heap → Prop} (hn : Nat.ble args.length 30 = true) (hp : awp Tryd.prog c40 (finQ [.tmp 4, .tmp 5] R) (argEnv 0 args) h) : ACall Tryd.prog 40 args h R :=
  acall_of_awp mixed Tryd.func40 rfl ord40 ok40 (by kernel_rfl) hn hp
def t40 : Tab := ⟨30, c40, [.tmp 4, .tmp 5]⟩
theorem tab40 : TabOk Tryd.prog 40 t40 := tabOk Tryd.func40 rfl ord40 ok40 (by kernel_rfl) rfl

/-- (*strings.Builder).Cap -/
def c41 : ACode :=
 .seq (.region [
  ⟨some 2, .mov (.const (.int .i64 0)), none, []⟩] [])
 (.seq (.region [
  ⟨some 3, .mov (.tmp 0), none, []⟩, 
  ⟨some 4, .nilChk (.tmp 3), none, []⟩, 
  ⟨some 5, .fieldAddr 1 (.tmp 4), none, []⟩, 
  ⟨some 6, .loadS (.tmp 5), none, []⟩, 
  ⟨some 7, .capOf (.tmp 6), none, []⟩, 
  ⟨some 2, .mov (.tmp 7), none, []⟩] [3, 4, 5, 6, 7])
 (.ret))
theorem ok41 : erase c41 = cCode Tryd.prog 8 ((Tryd.f41).body.getD .skip) := by kernel_rfl
theorem ord41 : ordsOk c41 = true := by kernel_rfl
theorem call41 {args : List SV} {h : Heap} {R : AEnd → Heap → Prop} (hn : Nat.ble args.length 8 = true) (hp : awp Tryd.prog c41 (finQ [.tmp 2] R) (argEnv 0 args) h) : ACall Tryd.prog 41 args h R :=
  acall_of_awp mixed Tryd.func41 rfl ord41 ok41 (by kernel_rfl) hn hp
def t41 : Tab := ⟨8, c41, [.tmp 2]⟩
theorem tab41 : TabOk Tryd.prog 41 t41 := tabOk Tryd.func41 rfl ord41 ok41 (by kernel_rfl) rfl

/-- unicode.To -/
def c42 : ACode :=
 .seq (.region [
  ⟨some 4, .mov (.const (.int .i32 0)), none, []⟩] [])
 (.seq (.region [
  ⟨some 6, .mov (.tmp 0), none, []⟩, 
  ⟨some 7, .mov (.tmp 1), none, []⟩, 
  ⟨some 8, .loadS (.const (.glob 5)), none, []⟩, 
  ⟨some 9, .call 53 [(.tmp 6), (.tmp 7), (.tmp 8)], none, []⟩, 
  ⟨some 5, .mov (.tmp 9), none, []⟩, 
  ⟨some 10, .extract (.tmp 5) 0, none, []⟩, 
  ⟨some 11, .extract (.tmp 5) 1, none, []⟩, 
  ⟨some 1, .mov (.tmp 10), none, []⟩] [6, 7, 8, 9, 5, 10, 11])
 (.seq (.region [
  ⟨some 12, .mov (.tmp 1), none, []⟩, 
  ⟨some 4, .mov (.tmp 12), none, []⟩] [12])
 (.ret)))
theorem ok42 : erase c42 = cCode Tryd.prog 13 ((Tryd.f42).body.getD .skip) := by kernel_rfl
theorem ord42 : ordsOk c42 = true := by kernel_rfl
theorem call42 {args : List SV} {h : Heap} {R : AEnd → Heap → Prop} (hn : Nat.ble args.length 13 = true) (hp : awp Tryd.prog c42 (finQ [.tmp 4] R) (argEnv 0 args) h) : ACall Tryd.prog 42 args h R :=
  acall_of_awp mixed Tryd.func42 rfl ord42 ok42 (by kernel_rfl) hn hp
def t42 : Tab := ⟨13, c42, [.tmp 4]⟩
theorem tab42 : TabOk Tryd.prog 42 t42 := tabOk Tryd.func42 rfl ord42 ok42 (by kernel_rfl) rfl

/-- internal/strconv.lower -/
def c43 : ACode :=
 .seq (.region [
  ⟨some 2, .mov (.const (.int .u8 0)), none, []⟩] [])
 (.seq (.region [
  ⟨some 3, .mov (.tmp 0), none, []⟩, 
  ⟨some 4, .bin .or (.tmp 3) (.const (.int .u8 32)), none, []⟩, 
  ⟨some 2, .mov (.tmp 4), none, []⟩] [3, 4])
 (.ret))
theorem ok43 : erase c43 = cCode Tryd.prog 5 ((Tryd.f43).body.getD .skip) := by kernel_rfl
theorem ord43 : ordsOk c43 = true := by kernel_rfl
theorem call43 {args : List SV} {h : Heap} {R : AEnd → Heap → Prop} (hn : Nat.ble args.length 5 = true) (hp : awp Tryd.prog c43 (finQ [.tmp 2] R) (argEnv 0 args) h) : ACall Tryd.prog 43 args h R :=
  acall_of_awp mixed Tryd.func43 rfl ord43 ok43 (by kernel_rfl) hn hp
def t43 : Tab := ⟨5, c43, [.tmp 2]⟩
theorem tab43 : TabOk Tryd.prog 43 t43 := tabOk Tryd.func43 rfl ord43 ok43 (by kernel_rfl) rfl

/-- internal/strconv.underscoreOK -/
def c44 : ACode :=
 .seq (.region [
  ⟨some 2, .mov (.const (.bool false)), none, []⟩] [])
 (.seq (.region [
  ⟨some 3, .mov (.const (.int .i32 94)), none, []⟩] [])
 (.seq (.region [
  ⟨some 4, .mov (.const (.int .i64 0)), none, []⟩] [])
 (.seq (.seq (.region [
  ⟨some 6, .mov (.tmp 0), none, []⟩, 
  ⟨some 7, .len true (.tmp 6), none, []⟩, 
  ⟨some 8, .bin .geq (.tmp 7) (.const (.int .i64 1)), none, []⟩, 
  ⟨some 9, .mov (.tmp 8), none, []⟩, 
  ⟨some 10, .mov (.tmp 0), (some (9, true)), []⟩, 
  ⟨some 11, .index (.tmp 10) (.const (.int .i64 0)), (some (9, true)), []⟩, 
  ⟨some 12, .bin .eql (.tmp 11) (.const (.int .u8 45)), (some (9, true)), []⟩, 
  ⟨some 13, .mov (.tmp 12), (some (9, true)), []⟩, 
  ⟨some 14, .mov (.tmp 0), (some (13, false)), []⟩, 
  ⟨some 15, .index (.tmp 14) (.const (.int .i64 0)), (some (13, false)), []⟩, 
  ⟨some 16, .bin .eql (.tmp 15) (.const (.int .u8 43)), (some (13, false)), []⟩, 
  ⟨some 17, .pick (.tmp 13) (.const (.bool true)) (.tmp 16), (some (9, true)), []⟩, 
  ⟨some 18, .pick (.tmp 9) (.tmp 17) (.const (.bool false)), none, []⟩] [6, 7, 8, 9, 10, 11, 12, 13, 14, 15, 16, 17])
 (.cond (.tmp 18)
  (.region [
   ⟨some 19, .mov (.tmp 0), none, []⟩, 
   ⟨some 20, .sliceStr (.tmp 19) (some (.const (.int .i64 1))) none, none, []⟩, 
   ⟨some 0, .mov (.tmp 20), none, []⟩] [19, 20])
  (.skip)))
 (.seq (.region [
  ⟨some 5, .mov (.const (.bool false)), none, []⟩] [])
 (.seq (.seq (.region [
  ⟨some 21, .mov (.tmp 0), none, []⟩, 
  ⟨some 22, .len true (.tmp 21), none, []⟩, 
  ⟨some 23, .bin .geq (.tmp 22) (.const (.int .i64 2)), none, []⟩, 
  ⟨some 24, .mov (.tmp 23), none, []⟩, 
  ⟨some 25, .mov (.tmp 0), (some (24, true)), []⟩, 
  ⟨some 26, .index (.tmp 25) (.const (.int .i64 0)), (some (24, true)), []⟩, 
  ⟨some 27, .bin .eql (.tmp 26) (.const (.int .u8 48)), (some (24, true)), []⟩, 
  ⟨some 28, .pick (.tmp 24) (.tmp 27) (.const (.bool false)), none, []⟩, 
  ⟨some 29, .mov (.tmp 28), none, []⟩, 
  ⟨some 30, .mov (.tmp 0), (some (29, true)), []⟩, 
  ⟨some 31, .index (.tmp 30) (.const (.int .i64 1)), (some (29, true)), []⟩, 
  ⟨some 32, .call 43 [(.tmp 31)], (some (29, true)), []⟩, 
  ⟨some 33, .bin .eql (.tmp 32) (.const (.int .u8 98)), (some (29, true)), []⟩, 
  ⟨some 34, .mov (.tmp 33), (some (29, true)), []⟩, 
  ⟨some 35, .mov (.tmp 0), (some (34, false)), []⟩, 
  ⟨some 36, .index (.tmp 35) (.const (.int .i64 1)), (some (34, false)), []⟩, 
  ⟨some 37, .call 43 [(.tmp 36)], (some (34, false)), []⟩, 
  ⟨some 38, .bin .eql (.tmp 37) (.const (.int .u8 111)), (some (34, false)), []⟩, 
  ⟨some 39, .pick (.tmp 34) (.const (.bool true)) (.tmp 38), (some (29, true)), []⟩, 
  ⟨some 40, .mov (.tmp 39), (some (29, true)), []⟩, 
  ⟨some 41, .mov (.tmp 0), (some (40, false)), []⟩, 
  ⟨some 42, .index (.tmp 41) (.const (.int .i64 1)), (some (40, false)), []⟩, 
  ⟨some 43, .call 43 [(.tmp 42)], (some (40, false)), []⟩, 
  ⟨some 44, .bin .eql (.tmp 43) (.const (.int .u8 120)), (some (40, false)), []⟩, 
  ⟨some 45, .pick (.tmp 40) (.const (.bool true)) (.tmp 44), (some (29, true)), []⟩, 
  ⟨some 46, .pick (.tmp 29) (.tmp 45) (.const (.bool false)), none, []⟩] [21, 22, 23, 24, 25, 26, 27, 28, 29, 30, 31, 32, 33, 34, 35, 36, 37, 38, 39, 40, 41, 42, 43, 44, 45])
 (.cond (.tmp 46)
  (.seq (.region [
   ⟨some 4, .mov (.const (.int .i64 2)), none, []⟩] [])
  (.seq (.region [
   ⟨some 3, .mov (.const (.int .i32 48)), none, []⟩] [])
  (.region [
   ⟨some 47, .mov (.tmp 0), none, []⟩, 
   ⟨some 48, .index (.tmp 47) (.const (.int .i64 1)), none, []⟩, 
   ⟨some 49, .call 43 [(.tmp 48)], none, []⟩, 
   ⟨some 50, .bin .eql (.tmp 49) (.const (.int .u8 120)), none, []⟩, 
   ⟨some 5, .mov (.tmp 50), none, []⟩] [47, 48, 49, 50])))
  (.skip)))
 (.seq (.block 0 (.loop (.seq (.seq (.region [
    ⟨some 51, .mov (.tmp 4), none, []⟩, 
    ⟨some 52, .mov (.tmp 0), none, []⟩, 
    ⟨some 53, .len true (.tmp 52), none, []⟩, 
    ⟨some 54, .bin .lss (.tmp 51) (.tmp 53), none, []⟩] [51, 52, 53])
   (.cond (.tmp 54)
    (.skip)
    (.exit 0)))
   (.seq (.block 1 (.seq (.seq (.region [
     ⟨some 57, .mov (.tmp 0), none, []⟩, 
     ⟨some 58, .mov (.tmp 4), none, []⟩, 
     ⟨some 59, .index (.tmp 57) (.tmp 58), none, []⟩, 
     ⟨some 60, .bin .leq (.const (.int .u8 48)) (.tmp 59), none, []⟩, 
     ⟨some 61, .mov (.tmp 60), none, []⟩, 
     ⟨some 62, .mov (.tmp 0), (some (61, true)), []⟩, 
     ⟨some 63, .mov (.tmp 4), (some (61, true)), []⟩, 
     ⟨some 64, .index (.tmp 62) (.tmp 63), (some (61, true)), []⟩, 
     ⟨some 65, .bin .leq (.tmp 64) (.const (.int .u8 57)), (some (61, true)), []⟩, 
     ⟨some 66, .pick (.tmp 61) (.tmp 65) (.const (.bool false)), none, []⟩, 
     ⟨some 67, .mov (.tmp 66), none, []⟩, 
     ⟨some 68, .mov (.tmp 5), (some (67, false)), []⟩, 
     ⟨some 69, .mov (.tmp 68), (some (67, false)), []⟩, 
     ⟨some 70, .mov (.tmp 0), (some (69, true)), []⟩, 
     ⟨some 71, .mov (.tmp 4), (some (69, true)), []⟩, 
     ⟨some 72, .index (.tmp 70) (.tmp 71), (some (69, true)), []⟩, 
     ⟨some 73, .call 43 [(.tmp 72)], (some (69, true)), []⟩, 
     ⟨some 74, .bin .leq (.const (.int .u8 97)) (.tmp 73), (some (69, true)), []⟩, 
     ⟨some 75, .pick (.tmp 69) (.tmp 74) (.const (.bool false)), (some (67, false)), []⟩, 
     ⟨some 76, .mov (.tmp 75), (some (67, false)), []⟩, 
     ⟨some 77, .mov (.tmp 0), (some (76, true)), []⟩, 
     ⟨some 78, .mov (.tmp 4), (some (76, true)), []⟩, 
     ⟨some 79, .index (.tmp 77) (.tmp 78), (some (76, true)), []⟩, 
     ⟨some 80, .call 43 [(.tmp 79)], (some (76, true)), []⟩, 
     ⟨some 81, .bin .leq (.tmp 80) (.const (.int .u8 102)), (some (76, true)), []⟩, 
     ⟨some 82, .pick (.tmp 76) (.tmp 81) (.const (.bool false)), (some (67, false)), []⟩, 
     ⟨some 83, .pick (.tmp 67) (.const (.bool true)) (.tmp 82), none, []⟩] [57, 58, 59, 60, 61, 62, 63, 64, 65, 66, 67, 68, 69, 70, 71, 72, 73, 74, 75, 76, 77, 78, 79, 80, 81, 82])
    (.cond (.tmp 83)
     (.seq (.region [
      ⟨some 3, .mov (.const (.int .i32 48)), none, []⟩] [])
     (.exit 1))
     (.skip)))
    (.seq (.seq (.region [
     ⟨some 84, .mov (.tmp 0), none, []⟩, 
     ⟨some 85, .mov (.tmp 4), none, []⟩, 
     ⟨some 86, .index (.tmp 84) (.tmp 85), none, []⟩, 
     ⟨some 87, .bin .eql (.tmp 86) (.const (.int .u8 95)), none, []⟩] [84, 85, 86])
    (.cond (.tmp 87)
     (.seq (.seq (.region [
      ⟨some 88, .mov (.tmp 3), none, []⟩, 
      ⟨some 89, .bin .neq (.tmp 88) (.const (.int .i32 48)), none, []⟩] [88])
     (.cond (.tmp 89)
      (.seq (.region [
       ⟨some 2, .mov (.const (.bool false)), none, []⟩] [])
      (.ret))
      (.skip)))
     (.seq (.region [
      ⟨some 3, .mov (.const (.int .i32 95)), none, []⟩] [])
     (.exit 1)))
     (.skip)))
    (.seq (.seq (.region [
     ⟨some 90, .mov (.tmp 3), none, []⟩, 
     ⟨some 91, .bin .eql (.tmp 90) (.const (.int .i32 95)), none, []⟩] [90])
    (.cond (.tmp 91)
     (.seq (.region [
      ⟨some 2, .mov (.const (.bool false)), none, []⟩] [])
     (.ret))
     (.skip)))
    (.region [
     ⟨some 3, .mov (.const (.int .i32 33)), none, []⟩] [])))))
   (.region [
    ⟨some 55, .mov (.tmp 4), none, []⟩, 
    ⟨some 56, .bin .add (.tmp 55) (.const (.int .i64 1)), none, []⟩, 
    ⟨some 4, .mov (.tmp 56), none, []⟩] [55, 56])))))
 (.seq (.region [
  ⟨some 92, .mov (.tmp 3), none, []⟩, 
  ⟨some 93, .bin .neq (.tmp 92) (.const (.int .i32 95)), none, []⟩, 
  ⟨some 2, .mov (.tmp 93), none, []⟩] [92, 93])
 (.ret))))))))
theorem ok44 : erase c44 = cCode Tryd.prog 94 ((Tryd.f44).body.getD .skip) := by kernel_rfl
theorem ord44 : ordsOk c44 = true := by kernel_rfl
theorem call44 {args : List SV} {h : Heap} {R : AEnd → Heap → Prop} (hn : Nat.ble args.length 94 = true) (hp : awp Tryd.prog c44 (finQ [.tmp 2] R) (argEnv 0 args) h) : ACall Tryd.prog 44 args h R :=
  acall_of_awp mixed Tryd.func44 rfl ord44 ok44 (by kernel_rfl) hn hp
def t44 : Tab := ⟨94, c44, [.tmp 2]⟩
theorem tab44 : TabOk Tryd.prog 44 t44 := tabOk Tryd.func44 rfl ord44 ok44 (by kernel_rfl) rfl

def c45r1 : List AOper := [
 ⟨some 5, .mov (.tmp 0), none, []⟩, 
 ⟨some 6, .mov (.tmp 1), none, []⟩, 
 ⟨some 7, .call 54 [(.tmp 6)], none, [1]⟩, 
 ⟨some 8, .loadS (.const (.glob 6)), none, []⟩, 
 ⟨some 9, .build [(.str []), (.str []), .nili] [(0, 1, (.tmp 5)), (1, 1, (.tmp 7)), (2, 1, (.tmp 8))], none, [0, 2, 3]⟩, 
 ⟨some 10, .box 94 3 (.tmp 9), none, [4]⟩, 
 ⟨some 4, .mov (.tmp 10), none, [5, 2, 0, 1, 2, 3, 4, 5]⟩]
/-- strconv.syntaxError -/
def c45 : ACode :=
 .seq (.region [
  ⟨some 4, .mov (.const .nilp), none, []⟩] [])
 (.seq (.dregion c45r1 [(0, false, []), (1, false, []), (3, false, []), (2, true, [3]), (4, false, []), (5, true, []), (6, false, [])] [5, 6, 7, 8, 9, 10])
 (.ret))
theorem ok45 : erase c45 = cCode Tryd.prog 11 ((Tryd.f45).body.getD .skip) := by kernel_rfl
theorem ord45 : ordsOk c45 = true := by kernel_rfl
theorem call45 {args : List SV} {h : Heap} {R : AEnd → Heap → Prop} (hn : Nat.ble args.length 11 = true) (hp : awp Tryd.prog c45 (finQ [.tmp 4] R) (argEnv 0 args) h) : ACall Tryd.prog 45 args h R :=
  acall_of_awp mixed Tryd.func45 rfl ord45 ok45 (by kernel_rfl) hn hp
def t45 : Tab := ⟨11, c45, [.tmp 4]⟩
theorem tab45 : TabOk Tryd.prog 45 t45 := tabOk Tryd.func45 rfl ord45 ok45 (by kernel_rfl) rfl

def c46r1 : List AOper := [
 ⟨some 5, .mov (.tmp 0), none, []⟩, 
 ⟨some 6, .mov (.tmp 1), none, []⟩, 
 ⟨some 7, .call 54 [(.tmp 6)], none, [1]⟩, 
 ⟨some 8, .loadS (.const (.glob 7)), none, []⟩, 
 ⟨some 9, .build [(.str []), (.str []), .nili] [(0, 1, (.tmp 5)), (1, 1, (.tmp 7)), (2, 1, (.tmp 8))], none, [0, 2, 3]⟩, 
 ⟨some 10, .box 94 3 (.tmp 9), none, [4]⟩, 
 ⟨some 4, .mov (.tmp 10), none, [5, 2, 0, 1, 2, 3, 4, 5]⟩]
/-- strconv.rangeError -/
def c46 : ACode :=
 .seq (.region [
  ⟨some 4, .mov (.const .nilp), none, []⟩] [])
 (.seq (.dregion c46r1 [(0, false, []), (1, false, []), (3, false, []), (2, true, [3]), (4, false, []), (5, true, []), (6, false, [])] [5, 6, 7, 8, 9, 10])
 (.ret))
theorem ok46 : erase c46 = cCode Tryd.prog 11 ((Tryd.f46).body.getD .skip) := by kernel_rfl
theorem ord46 : ordsOk c46 = true := by kernel_rfl
theorem call46 {args : List SV} {h : Heap} {R : AEnd → Heap → Prop} (hn : Nat.ble args.length 11 = true) (hp : awp Tryd.prog c46 (finQ [.tmp 4] R) (argEnv 0 args) h) : ACall Tryd.prog 46 args h R :=
  acall_of_awp mixed Tryd.func46 rfl ord46 ok46 (by kernel_rfl) hn hp
def t46 : Tab := ⟨11, c46, [.tmp 4]⟩
theorem tab46 : TabOk Tryd.prog 46 t46 := tabOk Tryd.func46 rfl ord46 ok46 (by kernel_rfl) rfl

/-- strconv.baseError -/
def c47 : ACode :=
 .seq (.region [
  ⟨some 6, .mov (.const .nilp), none, []⟩] [])
 (.seq (.region [
  ⟨some 7, .mov (.tmp 0), none, []⟩, 
  ⟨some 8, .mov (.tmp 1), none, []⟩, 
  ⟨some 9, .call 54 [(.tmp 8)], none, []⟩, 
  ⟨some 10, .mov (.tmp 2), none, []⟩, 
  ⟨some 11, .call 56 [(.tmp 10)], none, []⟩, 
  ⟨some 12, .bin .add (.const (.str [105, 110, 118, 97, 108, 105, 100, 32, 98, 97, 115, 101, 32])) (.tmp 11), none, []⟩, 
  ⟨some 13, .call 55 [(.tmp 12)], none, []⟩, 
  ⟨some 14, .build [(.str []), (.str []), .nili] [(0, 1, (.tmp 7)), (1, 1, (.tmp 9)), (2, 1, (.tmp 13))], none, []⟩, 
  ⟨some 15, .box 94 3 (.tmp 14), none, []⟩, 
  ⟨some 6, .mov (.tmp 15), none, []⟩] [7, 8, 9, 10, 11, 12, 13, 14, 15])
 (.ret))
theorem ok47 : erase c47 = cCode Tryd.prog 16 ((Tryd.f47).body.getD .skip) := by kernel_rfl
theorem ord47 : ordsOk c47 = true := by kernel_rfl
theorem call47 {args : List SV} {h : Heap} {R : AEnd → Heap → Prop} (hn : Nat.ble args.length 16 = true) (hp : awp Tryd.prog c47 (finQ [.tmp 6] R) (argEnv 0 args) h) : ACall Tryd.prog 47 args h R :=
  acall_of_awp mixed Tryd.func47 rfl ord47 ok47 (by kernel_rfl) hn hp
def t47 : Tab := ⟨16, c47, [.tmp 6]⟩
theorem tab47 : TabOk Tryd.prog 47 t47 := tabOk Tryd.func47 rfl ord47 ok47 (by kernel_rfl) rfl

/-- strconv.bitSizeError -/
def c48 : ACode :=
 .seq (.region [
  ⟨some 6, .mov (.const .nilp), none, []⟩] [])
 (.seq (.region [
  ⟨some 7, .mov (.tmp 0), none, []⟩, 
  ⟨some 8, .mov (.tmp 1), none, []⟩, 
  ⟨some 9, .call 54 [(.tmp 8)], none, []⟩, 
  ⟨some 10, .mov (.tmp 2), none, []⟩, 
  ⟨some 11, .call 56 [(.tmp 10)], none, []⟩, 
  ⟨some 12, .bin .add (.const (.str [105, 110, 118, 97, 108, 105, 100, 32, 98, 105, 116, 32, 115, 105, 122, 101, 32])) (.tmp 11), none, []⟩, 
  ⟨some 13, .call 55 [(.tmp 12)], none, []⟩, 
  ⟨some 14, .build [(.str []), (.str []), .nili] [(0, 1, (.tmp 7)), (1, 1, (.tmp 9)), (2, 1, (.tmp 13))], none, []⟩, 
  ⟨some 15, .box 94 3 (.tmp 14), none, []⟩, 
  ⟨some 6, .mov (.tmp 15), none, []⟩] [7, 8, 9, 10, 11, 12, 13, 14, 15])
 (.ret))
theorem ok48 : erase c48 = cCode Tryd.prog 16 ((Tryd.f48).body.getD .skip) := by kernel_rfl
theorem ord48 : ordsOk c48 = true := by kernel_rfl
theorem call48 {args : List SV} {h : Heap} {R : AEnd → Heap → Prop} (hn : Nat.ble args.length 16 = true) (hp : awp Tryd.prog c48 (finQ [.tmp 6] R) (argEnv 0 args) h) : ACall Tryd.prog 48 args h R :=
  acall_of_awp mixed Tryd.func48 rfl ord48 ok48 (by kernel_rfl) hn hp
def t48 : Tab := ⟨16, c48, [.tmp 6]⟩
theorem tab48 : TabOk Tryd.prog 48 t48 := tabOk Tryd.func48 rfl ord48 ok48 (by kernel_rfl) rfl


/-- unicode.isExcludingLatin -/
def c50 : ACode :=
 .seq (.region [
  ⟨some 4, .mov (.const (.bool false)), none, []⟩] [])
 (.seq (.region [
  ⟨some 8, .mov (.tmp 0), none, []⟩, 
  ⟨some 9, .nilChk (.tmp 8), none, []⟩, 
  ⟨some 10, .fieldAddr 0 (.tmp 9), none, []⟩, 
  ⟨some 11, .loadS (.tmp 10), none, []⟩, 
  ⟨some 5, .mov (.tmp 11), none, []⟩] [8, 9, 10, 11])
 (.seq (.seq (.region [
  ⟨some 12, .mov (.tmp 0), none, []⟩, 
  ⟨some 13, .nilChk (.tmp 12), none, []⟩, 
  ⟨some 14, .fieldAddr 2 (.tmp 13), none, []⟩, 
  ⟨some 15, .loadS (.tmp 14), none, []⟩, 
  ⟨some 6, .mov (.tmp 15), none, []⟩] [12, 13, 14, 15])
 (.seq (.region [
  ⟨some 16, .mov (.tmp 5), none, []⟩, 
  ⟨some 17, .len false (.tmp 16), none, []⟩, 
  ⟨some 18, .mov (.tmp 6), none, []⟩, 
  ⟨some 19, .bin .gtr (.tmp 17) (.tmp 18), none, []⟩, 
  ⟨some 20, .mov (.tmp 19), none, []⟩, 
  ⟨some 21, .mov (.tmp 1), (some (20, true)), []⟩, 
  ⟨some 22, .conv .u32 (.tmp 21), (some (20, true)), []⟩, 
  ⟨some 23, .mov (.tmp 5), (some (20, true)), []⟩, 
  ⟨some 24, .mov (.tmp 5), (some (20, true)), []⟩, 
  ⟨some 25, .len false (.tmp 24), (some (20, true)), []⟩, 
  ⟨some 26, .bin .sub (.tmp 25) (.const (.int .i64 1)), (some (20, true)), []⟩, 
  ⟨some 27, .indexAddr 3 (.tmp 23) (.tmp 26), (some (20, true)), []⟩, 
  ⟨some 28, .fieldAddr 1 (.tmp 27), (some (20, true)), []⟩, 
  ⟨some 29, .loadS (.tmp 28), (some (20, true)), []⟩, 
  ⟨some 30, .conv .u32 (.tmp 29), (some (20, true)), []⟩, 
  ⟨some 31, .bin .leq (.tmp 22) (.tmp 30), (some (20, true)), []⟩, 
  ⟨some 32, .pick (.tmp 20) (.tmp 31) (.const (.bool false)), none, []⟩] [16, 17, 18, 19, 20, 21, 22, 23, 24, 25, 26, 27, 28, 29, 30, 31])
 (.cond (.tmp 32)
  (.seq (.region [
   ⟨some 33, .mov (.tmp 5), none, []⟩, 
   ⟨some 34, .mov (.tmp 6), none, []⟩, 
   ⟨some 35, .slice 3 (.tmp 33) (some (.tmp 34)) none, none, []⟩, 
   ⟨some 36, .mov (.tmp 1), none, []⟩, 
   ⟨some 37, .conv .u16 (.tmp 36), none, []⟩, 
   ⟨some 38, .call 57 [(.tmp 35), (.tmp 37)], none, []⟩, 
   ⟨some 4, .mov (.tmp 38), none, []⟩] [33, 34, 35, 36, 37, 38])
  (.ret))
  (.skip))))
 (.seq (.region [
  ⟨some 39, .mov (.tmp 0), none, []⟩, 
  ⟨some 40, .nilChk (.tmp 39), none, []⟩, 
  ⟨some 41, .fieldAddr 1 (.tmp 40), none, []⟩, 
  ⟨some 42, .loadS (.tmp 41), none, []⟩, 
  ⟨some 7, .mov (.tmp 42), none, []⟩] [39, 40, 41, 42])
 (.seq (.seq (.region [
  ⟨some 43, .mov (.tmp 7), none, []⟩, 
  ⟨some 44, .len false (.tmp 43), none, []⟩, 
  ⟨some 45, .bin .gtr (.tmp 44) (.const (.int .i64 0)), none, []⟩, 
  ⟨some 46, .mov (.tmp 45), none, []⟩, 
  ⟨some 47, .mov (.tmp 1), (some (46, true)), []⟩, 
  ⟨some 48, .mov (.tmp 7), (some (46, true)), []⟩, 
  ⟨some 49, .indexAddr 3 (.tmp 48) (.const (.int .i64 0)), (some (46, true)), []⟩, 
  ⟨some 50, .fieldAddr 0 (.tmp 49), (some (46, true)), []⟩, 
  ⟨some 51, .loadS (.tmp 50), (some (46, true)), []⟩, 
  ⟨some 52, .conv .i32 (.tmp 51), (some (46, true)), []⟩, 
  ⟨some 53, .bin .geq (.tmp 47) (.tmp 52), (some (46, true)), []⟩, 
  ⟨some 54, .pick (.tmp 46) (.tmp 53) (.const (.bool false)), none, []⟩] [43, 44, 45, 46, 47, 48, 49, 50, 51, 52, 53])
 (.cond (.tmp 54)
  (.seq (.region [
   ⟨some 55, .mov (.tmp 7), none, []⟩, 
   ⟨some 56, .mov (.tmp 1), none, []⟩, 
   ⟨some 57, .conv .u32 (.tmp 56), none, []⟩, 
   ⟨some 58, .call 58 [(.tmp 55), (.tmp 57)], none, []⟩, 
   ⟨some 4, .mov (.tmp 58), none, []⟩] [55, 56, 57, 58])
  (.ret))
  (.skip)))
 (.seq (.region [
  ⟨some 4, .mov (.const (.bool false)), none, []⟩] [])
 (.ret))))))
theorem ok50 : erase c50 = cCode Tryd.prog 59 ((Tryd.f50).body.getD .skip) := by kernel_rfl
theorem ord50 : ordsOk c50 = true := by kernel_rfl
theorem call50 {args : List SV} {h : Heap} {R : AEnd → Heap → Prop} (hn : Nat.ble args.length 59 = true) (hp : awp Tryd.prog c50 (finQ [.tmp 4] R) (argEnv 0 args) h) : ACall Tryd.prog 50 args h R :=
  acall_of_awp mixed Tryd.func50 rfl ord50 ok50 (by kernel_rfl) hn hp
def t50 : Tab := ⟨59, c50, [.tmp 4]⟩
theorem tab50 : TabOk Tryd.prog 50 t50 := tabOk Tryd.func50 rfl ord50 ok50 (by kernel_rfl) rfl


/-- unicode/utf8.AppendRune -/
def c52 : ACode :=
 .seq (.region [
  ⟨some 4, .mov (.const .nils), none, []⟩] [])
 (.seq (.seq (.region [
  ⟨some 5, .mov (.tmp 1), none, []⟩, 
  ⟨some 6, .conv .u32 (.tmp 5), none, []⟩, 
  ⟨some 7, .bin .leq (.tmp 6) (.const (.int .u32 127)), none, []⟩] [5, 6])
 (.cond (.tmp 7)
  (.seq (.region [
   ⟨some 8, .mov (.tmp 0), none, []⟩, 
   ⟨some 9, .mov (.tmp 1), none, []⟩, 
   ⟨some 10, .conv .u8 (.tmp 9), none, []⟩, 
   ⟨some 11, .buildSlice 5 1 (.int .u8 0) 1 [(0, (.tmp 10))], none, []⟩, 
   ⟨some 12, .append 5 1 1 (.tmp 8) (.tmp 11), none, []⟩, 
   ⟨some 4, .mov (.tmp 12), none, []⟩] [8, 9, 10, 11, 12])
  (.ret))
  (.skip)))
 (.seq (.region [
  ⟨some 13, .mov (.tmp 0), none, []⟩, 
  ⟨some 14, .mov (.tmp 1), none, []⟩, 
  ⟨some 15, .call 59 [(.tmp 13), (.tmp 14)], none, []⟩, 
  ⟨some 4, .mov (.tmp 15), none, []⟩] [13, 14, 15])
 (.ret)))
theorem ok52 : erase c52 = cCode Tryd.prog 16 ((Tryd.f52).body.getD .skip) := by kernel_rfl
theorem ord52 : ordsOk c52 = true := by kernel_rfl
theorem call52 {args : List SV} {h : Heap} {R : AEnd → Heap → Prop} (hn : Nat.ble args.length 16 = true) (hp : awp Tryd.prog c52 (finQ [.tmp 4] R) (argEnv 0 args) h) : ACall Tryd.prog 52 args h R :=
  acall_of_awp mixed Tryd.func52 rfl ord52 ok52 (by kernel_rfl) hn hp
def t52 : Tab := ⟨16, c52, [.tmp 4]⟩
theorem tab52 : TabOk Tryd.prog 52 t52 := tabOk Tryd.func52 rfl ord52 ok52 (by kernel_rfl) rfl

/-- unicode.to -/
def c53 : ACode :=
 .seq (.region [
  ⟨some 6, .mov (.const (.int .i32 0)), none, []⟩, 
  ⟨some 7, .mov (.const (.bool false)), none, []⟩] [])
 (.seq (.seq (.region [
  ⟨some 9, .mov (.tmp 0), none, []⟩, 
  ⟨some 10, .bin .lss (.tmp 9) (.const (.int .i64 0)), none, []⟩, 
  ⟨some 11, .mov (.tmp 10), none, []⟩, 
  ⟨some 12, .mov (.tmp 0), (some (11, false)), []⟩, 
  ⟨some 13, .bin .leq (.const (.int .i64 3)) (.tmp 12), (some (11, false)), []⟩, 
  ⟨some 14, .pick (.tmp 11) (.const (.bool true)) (.tmp 13), none, []⟩] [9, 10, 11, 12, 13])
 (.cond (.tmp 14)
  (.seq (.region [
   ⟨some 6, .mov (.const (.int .i32 65533)), none, []⟩, 
   ⟨some 7, .mov (.const (.bool false)), none, []⟩] [])
  (.ret))
  (.skip)))
 (.seq (.seq (.region [
  ⟨some 15, .mov (.tmp 1), none, []⟩, 
  ⟨some 16, .mov (.tmp 2), none, []⟩, 
  ⟨some 17, .call 60 [(.tmp 15), (.tmp 16)], none, []⟩, 
  ⟨some 8, .mov (.tmp 17), none, []⟩] [15, 16, 17])
 (.seq (.region [
  ⟨some 18, .mov (.tmp 8), none, []⟩, 
  ⟨some 19, .eqP true (.tmp 18) (.const .nilp), none, []⟩] [18])
 (.cond (.tmp 19)
  (.seq (.region [
   ⟨some 20, .mov (.tmp 0), none, []⟩, 
   ⟨some 21, .mov (.tmp 1), none, []⟩, 
   ⟨some 22, .mov (.tmp 8), none, []⟩, 
   ⟨some 23, .call 61 [(.tmp 20), (.tmp 21), (.tmp 22)], none, []⟩, 
   ⟨some 6, .mov (.tmp 23), none, []⟩, 
   ⟨some 7, .mov (.const (.bool true)), none, []⟩] [20, 21, 22, 23])
  (.ret))
  (.skip))))
 (.seq (.region [
  ⟨some 24, .mov (.tmp 1), none, []⟩, 
  ⟨some 6, .mov (.tmp 24), none, []⟩, 
  ⟨some 7, .mov (.const (.bool false)), none, []⟩] [24])
 (.ret))))
theorem ok53 : erase c53 = cCode Tryd.prog 25 ((Tryd.f53).body.getD .skip) := by kernel_rfl
theorem ord53 : ordsOk c53 = true := by kernel_rfl
theorem call53 {args : List SV} {h : Heap} {R : AEnd → Heap → Prop} (hn : Nat.ble args.length 25 = true) (hp : awp Tryd.prog c53 (finQ [.tmp 6, .tmp 7] R) (argEnv 0 args) h) : ACall Tryd.prog 53 args h R :=
  acall_of_awp mixed Tryd.func53 rfl ord53 ok53 (by kernel_rfl) hn hp
def t53 : Tab := ⟨25, c53, [.tmp 6, .tmp 7]⟩
theorem tab53 : TabOk Tryd.prog 53 t53 := tabOk Tryd.func53 rfl ord53 ok53 (by kernel_rfl) rfl

/-- internal/stringslite.Clone -/
def c54 : ACode :=
 .seq (.region [
  ⟨some 2, .mov (.const (.str [])), none, []⟩] [])
 (.seq (.seq (.region [
  ⟨some 4, .mov (.tmp 0), none, []⟩, 
  ⟨some 5, .len true (.tmp 4), none, []⟩, 
  ⟨some 6, .bin .eql (.tmp 5) (.const (.int .i64 0)), none, []⟩] [4, 5])
 (.cond (.tmp 6)
  (.seq (.region [
   ⟨some 2, .mov (.const (.str [])), none, []⟩] [])
  (.ret))
  (.skip)))
 (.seq (.region [
  ⟨some 7, .mov (.tmp 0), none, []⟩, 
  ⟨some 8, .len true (.tmp 7), none, []⟩, 
  ⟨some 9, .makeSlice 5 1 1 (.int .u8 0) (.tmp 8) (.tmp 8), none, []⟩, 
  ⟨some 3, .mov (.tmp 9), none, []⟩] [7, 8, 9])
 (.seq (.region [
  ⟨some 10, .mov (.tmp 3), none, []⟩, 
  ⟨some 11, .mov (.tmp 0), none, []⟩, 
  ⟨some 12, .copyZ (.tmp 10) (.tmp 11), none, []⟩] [10, 11, 12])
 (.seq (.region [
  ⟨some 13, .mov (.tmp 3), none, []⟩, 
  ⟨some 14, .indexAddr 1 (.tmp 13) (.const (.int .i64 0)), none, []⟩, 
  ⟨some 15, .mov (.tmp 3), none, []⟩, 
  ⟨some 16, .len false (.tmp 15), none, []⟩, 
  ⟨some 17, .unsStr 5 (.tmp 14) (.tmp 16), none, []⟩, 
  ⟨some 2, .mov (.tmp 17), none, []⟩] [13, 14, 15, 16, 17])
 (.ret)))))
theorem ok54 : erase c54 = cCode Tryd.prog 18 ((Tryd.f54).body.getD .skip) := by kernel_rfl
theorem ord54 : ordsOk c54 = true := by kernel_rfl
theorem call54 {args : List SV} {h : Heap} {R : AEnd → Heap → Prop} (hn : Nat.ble args.length 18 = true) (hp : awp Tryd.prog c54 (finQ [.tmp 2] R) (argEnv 0 args) h) : ACall Tryd.prog 54 args h R :=
  acall_of_awp mixed Tryd.func54 rfl ord54 ok54 (by kernel_rfl) hn hp
def t54 : Tab := ⟨18, c54, [.tmp 2]⟩
theorem tab54 : TabOk Tryd.prog 54 t54 := tabOk Tryd.func54 rfl ord54 ok54 (by kernel_rfl) rfl

/-- errors.New -/
def c55 : ACode :=
 .seq (.region [
  ⟨some 2, .mov (.const .nili), none, []⟩] [])
 (.seq (.region [
  ⟨some 3, .mov (.tmp 0), none, []⟩, 
  ⟨some 4, .build [(.str [])] [(0, 1, (.tmp 3))], none, []⟩, 
  ⟨some 5, .box 113 1 (.tmp 4), none, []⟩, 
  ⟨some 6, .mkIface 111 (.tmp 5), none, []⟩, 
  ⟨some 2, .mov (.tmp 6), none, []⟩] [3, 4, 5, 6])
 (.ret))
theorem ok55 : erase c55 = cCode Tryd.prog 7 ((Tryd.f55).body.getD .skip) := by kernel_rfl
theorem ord55 : ordsOk c55 = true := by kernel_rfl
theorem call55 {args : List SV} {h : Heap} {R : AEnd → Heap → Prop} (hn : Nat.ble args.length 7 = true) (hp : awp Tryd.prog c55 (finQ [.tmp 2] R) (argEnv 0 args) h) : ACall Tryd.prog 55 args h R :=
  acall_of_awp mixed Tryd.func55 rfl ord55 ok55 (by kernel_rfl) hn hp
def t55 : Tab := ⟨7, c55, [.tmp 2]⟩
theorem tab55 : TabOk Tryd.prog 55 t55 := tabOk Tryd.func55 rfl ord55 ok55 (by kernel_rfl) rfl

/-- strconv.Itoa -/
def c56 : ACode :=
 .seq (.region [
  ⟨some 2, .mov (.const (.str [])), none, []⟩] [])
 (.seq (.region [
  ⟨some 3, .mov (.tmp 0), none, []⟩, 
  ⟨some 4, .call 62 [(.tmp 3)], none, []⟩, 
  ⟨some 2, .mov (.tmp 4), none, []⟩] [3, 4])
 (.ret))
theorem ok56 : erase c56 = cCode Tryd.prog 5 ((Tryd.f56).body.getD .skip) := by kernel_rfl
theorem ord56 : ordsOk c56 = true := by kernel_rfl
theorem call56 {args : List SV} {h : Heap} {R : AEnd → Heap → Prop} (hn : Nat.ble args.length 5 = true) (hp : awp Tryd.prog c56 (finQ [.tmp 2] R) (argEnv 0 args) h) : ACall Tryd.prog 56 args h R :=
  acall_of_awp mixed Tryd.func56 rfl ord56 ok56 (by kernel_rfl) hn hp
def t56 : Tab := ⟨5, c56, [.tmp 2]⟩
theorem tab56 : TabOk Tryd.prog 56 t56 := tabOk Tryd.func56 rfl ord56 ok56 (by kernel_rfl) rfl

def c57r9 : List AOper := [
 ⟨some 38, .mov (.tmp 6), none, []⟩, 
 ⟨some 39, .nilChk (.tmp 38), none, [0]⟩, 
 ⟨some 40, .fieldAddr 2 (.tmp 39), none, [1]⟩, 
 ⟨some 41, .loadS (.tmp 40), none, [2]⟩, 
 ⟨some 42, .bin .eql (.tmp 41) (.const (.int .u16 1)), none, [3]⟩, 
 ⟨some 43, .mov (.tmp 42), none, [4]⟩, 
 ⟨some 44, .mov (.tmp 1), (some (43, false)), [5]⟩, 
 ⟨some 45, .mov (.tmp 6), (some (43, false)), [5]⟩, 
 ⟨some 46, .nilChk (.tmp 45), (some (43, false)), [7, 5]⟩, 
 ⟨some 47, .fieldAddr 0 (.tmp 46), (some (43, false)), [8, 5]⟩, 
 ⟨some 48, .loadS (.tmp 47), (some (43, false)), [9, 5]⟩, 
 ⟨some 49, .bin .sub (.tmp 44) (.tmp 48), (some (43, false)), [6, 10, 5]⟩, 
 ⟨some 50, .mov (.tmp 6), (some (43, false)), [5]⟩, 
 ⟨some 51, .nilChk (.tmp 50), (some (43, false)), [12, 5]⟩, 
 ⟨some 52, .fieldAddr 2 (.tmp 51), (some (43, false)), [13, 5]⟩, 
 ⟨some 53, .loadS (.tmp 52), (some (43, false)), [14, 5]⟩, 
 ⟨some 54, .bin .rem (.tmp 49) (.tmp 53), (some (43, false)), [11, 15, 5]⟩, 
 ⟨some 55, .bin .eql (.tmp 54) (.const (.int .u16 0)), (some (43, false)), [16, 5]⟩, 
 ⟨some 56, .pick (.tmp 43) (.const (.bool true)) (.tmp 55), none, [5, 17]⟩, 
 ⟨some 4, .mov (.tmp 56), none, [18, 5, 0, 1, 2, 3, 4, 5, 6, 7, 8, 9, 10, 11, 12, 13, 14, 15, 16, 17, 18]⟩]
def c57r18 : List AOper := [
 ⟨some 86, .mov (.tmp 10), none, []⟩, 
 ⟨some 87, .nilChk (.tmp 86), none, [0]⟩, 
 ⟨some 88, .fieldAddr 2 (.tmp 87), none, [1]⟩, 
 ⟨some 89, .loadS (.tmp 88), none, [2]⟩, 
 ⟨some 90, .bin .eql (.tmp 89) (.const (.int .u16 1)), none, [3]⟩, 
 ⟨some 91, .mov (.tmp 90), none, [4]⟩, 
 ⟨some 92, .mov (.tmp 1), (some (91, false)), [5]⟩, 
 ⟨some 93, .mov (.tmp 10), (some (91, false)), [5]⟩, 
 ⟨some 94, .nilChk (.tmp 93), (some (91, false)), [7, 5]⟩, 
 ⟨some 95, .fieldAddr 0 (.tmp 94), (some (91, false)), [8, 5]⟩, 
 ⟨some 96, .loadS (.tmp 95), (some (91, false)), [9, 5]⟩, 
 ⟨some 97, .bin .sub (.tmp 92) (.tmp 96), (some (91, false)), [6, 10, 5]⟩, 
 ⟨some 98, .mov (.tmp 10), (some (91, false)), [5]⟩, 
 ⟨some 99, .nilChk (.tmp 98), (some (91, false)), [12, 5]⟩, 
 ⟨some 100, .fieldAddr 2 (.tmp 99), (some (91, false)), [13, 5]⟩, 
 ⟨some 101, .loadS (.tmp 100), (some (91, false)), [14, 5]⟩, 
 ⟨some 102, .bin .rem (.tmp 97) (.tmp 101), (some (91, false)), [11, 15, 5]⟩, 
 ⟨some 103, .bin .eql (.tmp 102) (.const (.int .u16 0)), (some (91, false)), [16, 5]⟩, 
 ⟨some 104, .pick (.tmp 91) (.const (.bool true)) (.tmp 103), none, [5, 17]⟩, 
 ⟨some 4, .mov (.tmp 104), none, [18, 5, 0, 1, 2, 3, 4, 5, 6, 7, 8, 9, 10, 11, 12, 13, 14, 15, 16, 17, 18]⟩]
/-- unicode.is16 -/
def c57 : ACode :=
 .seq (.region [
  ⟨some 4, .mov (.const (.bool false)), none, []⟩] [])
 (.seq (.seq (.region [
  ⟨some 11, .mov (.tmp 0), none, []⟩, 
  ⟨some 12, .len false (.tmp 11), none, []⟩, 
  ⟨some 13, .bin .leq (.tmp 12) (.const (.int .i64 18)), none, []⟩, 
  ⟨some 14, .mov (.tmp 13), none, []⟩, 
  ⟨some 15, .mov (.tmp 1), (some (14, false)), []⟩, 
  ⟨some 16, .bin .leq (.tmp 15) (.const (.int .u16 255)), (some (14, false)), []⟩, 
  ⟨some 17, .pick (.tmp 14) (.const (.bool true)) (.tmp 16), none, []⟩] [11, 12, 13, 14, 15, 16])
 (.cond (.tmp 17)
  (.seq (.seq (.region [
   ⟨some 18, .mov (.tmp 0), none, []⟩, 
   ⟨some 19, .len false (.tmp 18), none, []⟩, 
   ⟨some 20, .mov (.const (.int .i64 0)), none, []⟩] [18])
  (.block 0 (.loop (.seq (.region [
     ⟨some 21, .bin .lss (.tmp 20) (.tmp 19), none, []⟩] [])
    (.seq (.cond (.tmp 21)
     (.skip)
     (.exit 0))
    (.seq (.block 1 (.seq (.region [
      ⟨some 22, .mov (.tmp 20), none, []⟩, 
      ⟨some 5, .mov (.tmp 22), none, []⟩] [22])
     (.seq (.region [
      ⟨some 23, .mov (.tmp 0), none, []⟩, 
      ⟨some 24, .mov (.tmp 5), none, []⟩, 
      ⟨some 25, .indexAddr 3 (.tmp 23) (.tmp 24), none, []⟩, 
      ⟨some 6, .mov (.tmp 25), none, []⟩] [23, 24, 25])
     (.seq (.seq (.region [
      ⟨some 26, .mov (.tmp 1), none, []⟩, 
      ⟨some 27, .mov (.tmp 6), none, []⟩, 
      ⟨some 28, .nilChk (.tmp 27), none, []⟩, 
      ⟨some 29, .fieldAddr 0 (.tmp 28), none, []⟩, 
      ⟨some 30, .loadS (.tmp 29), none, []⟩, 
      ⟨some 31, .bin .lss (.tmp 26) (.tmp 30), none, []⟩] [26, 27, 28, 29, 30])
     (.cond (.tmp 31)
      (.seq (.region [
       ⟨some 4, .mov (.const (.bool false)), none, []⟩] [])
      (.ret))
      (.skip)))
     (.seq (.region [
      ⟨some 32, .mov (.tmp 1), none, []⟩, 
      ⟨some 33, .mov (.tmp 6), none, []⟩, 
      ⟨some 34, .nilChk (.tmp 33), none, []⟩, 
      ⟨some 35, .fieldAddr 1 (.tmp 34), none, []⟩, 
      ⟨some 36, .loadS (.tmp 35), none, []⟩, 
      ⟨some 37, .bin .leq (.tmp 32) (.tmp 36), none, []⟩] [32, 33, 34, 35, 36])
     (.cond (.tmp 37)
      (.seq (.dregion c57r9 [(0, false, []), (1, false, []), (2, false, []), (3, false, []), (4, false, []), (5, false, []), (6, false, []), (7, false, []), (8, false, []), (9, false, []), (10, false, []), (11, false, []), (12, false, []), (13, false, []), (14, false, []), (15, false, []), (16, false, []), (17, false, []), (18, false, []), (19, false, [])] [38, 39, 40, 41, 42, 43, 44, 45, 46, 47, 48, 49, 50, 51, 52, 53, 54, 55, 56])
      (.ret))
      (.skip)))))))
    (.region [
     ⟨some 57, .bin .add (.tmp 20) (.const (.int .i64 1)), none, []⟩, 
     ⟨some 20, .mov (.tmp 57), none, []⟩] [57])))))))
  (.seq (.region [
   ⟨some 4, .mov (.const (.bool false)), none, []⟩] [])
  (.ret)))
  (.skip)))
 (.seq (.region [
  ⟨some 7, .mov (.const (.int .i64 0)), none, []⟩] [])
 (.seq (.region [
  ⟨some 58, .mov (.tmp 0), none, []⟩, 
  ⟨some 59, .len false (.tmp 58), none, []⟩, 
  ⟨some 8, .mov (.tmp 59), none, []⟩] [58, 59])
 (.seq (.block 2 (.loop (.seq (.seq (.region [
    ⟨some 60, .mov (.tmp 7), none, []⟩, 
    ⟨some 61, .mov (.tmp 8), none, []⟩, 
    ⟨some 62, .bin .lss (.tmp 60) (.tmp 61), none, []⟩] [60, 61])
   (.cond (.tmp 62)
    (.skip)
    (.exit 2)))
   (.block 3 (.seq (.region [
     ⟨some 63, .mov (.tmp 7), none, []⟩, 
     ⟨some 64, .mov (.tmp 8), none, []⟩, 
     ⟨some 65, .bin .add (.tmp 63) (.tmp 64), none, []⟩, 
     ⟨some 66, .conv .u64 (.tmp 65), none, []⟩, 
     ⟨some 67, .bin .shr (.tmp 66) (.const (.int .u64 1)), none, []⟩, 
     ⟨some 68, .conv .i64 (.tmp 67), none, []⟩, 
     ⟨some 9, .mov (.tmp 68), none, []⟩] [63, 64, 65, 66, 67, 68])
    (.seq (.region [
     ⟨some 69, .mov (.tmp 0), none, []⟩, 
     ⟨some 70, .mov (.tmp 9), none, []⟩, 
     ⟨some 71, .indexAddr 3 (.tmp 69) (.tmp 70), none, []⟩, 
     ⟨some 10, .mov (.tmp 71), none, []⟩] [69, 70, 71])
    (.seq (.seq (.region [
     ⟨some 72, .mov (.tmp 10), none, []⟩, 
     ⟨some 73, .nilChk (.tmp 72), none, []⟩, 
     ⟨some 74, .fieldAddr 0 (.tmp 73), none, []⟩, 
     ⟨some 75, .loadS (.tmp 74), none, []⟩, 
     ⟨some 76, .mov (.tmp 1), none, []⟩, 
     ⟨some 77, .bin .leq (.tmp 75) (.tmp 76), none, []⟩, 
     ⟨some 78, .mov (.tmp 77), none, []⟩, 
     ⟨some 79, .mov (.tmp 1), (some (78, true)), []⟩, 
     ⟨some 80, .mov (.tmp 10), (some (78, true)), []⟩, 
     ⟨some 81, .nilChk (.tmp 80), (some (78, true)), []⟩, 
     ⟨some 82, .fieldAddr 1 (.tmp 81), (some (78, true)), []⟩, 
     ⟨some 83, .loadS (.tmp 82), (some (78, true)), []⟩, 
     ⟨some 84, .bin .leq (.tmp 79) (.tmp 83), (some (78, true)), []⟩, 
     ⟨some 85, .pick (.tmp 78) (.tmp 84) (.const (.bool false)), none, []⟩] [72, 73, 74, 75, 76, 77, 78, 79, 80, 81, 82, 83, 84])
    (.cond (.tmp 85)
     (.seq (.dregion c57r18 [(0, false, []), (1, false, []), (2, false, []), (3, false, []), (4, false, []), (5, false, []), (6, false, []), (7, false, []), (8, false, []), (9, false, []), (10, false, []), (11, false, []), (12, false, []), (13, false, []), (14, false, []), (15, false, []), (16, false, []), (17, false, []), (18, false, []), (19, false, [])] [86, 87, 88, 89, 90, 91, 92, 93, 94, 95, 96, 97, 98, 99, 100, 101, 102, 103, 104])
     (.ret))
     (.skip)))
    (.seq (.region [
     ⟨some 105, .mov (.tmp 1), none, []⟩, 
     ⟨some 106, .mov (.tmp 10), none, []⟩, 
     ⟨some 107, .nilChk (.tmp 106), none, []⟩, 
     ⟨some 108, .fieldAddr 0 (.tmp 107), none, []⟩, 
     ⟨some 109, .loadS (.tmp 108), none, []⟩, 
     ⟨some 110, .bin .lss (.tmp 105) (.tmp 109), none, []⟩] [105, 106, 107, 108, 109])
    (.cond (.tmp 110)
     (.region [
      ⟨some 111, .mov (.tmp 9), none, []⟩, 
      ⟨some 8, .mov (.tmp 111), none, []⟩] [111])
     (.region [
      ⟨some 112, .mov (.tmp 9), none, []⟩, 
      ⟨some 113, .bin .add (.tmp 112) (.const (.int .i64 1)), none, []⟩, 
      ⟨some 7, .mov (.tmp 113), none, []⟩] [112, 113]))))))))))
 (.seq (.region [
  ⟨some 4, .mov (.const (.bool false)), none, []⟩] [])
 (.ret))))))
theorem ok57 : erase c57 = cCode Tryd.prog 114 ((Tryd.f57).body.getD .skip) := by kernel_rfl
theorem ord57 : ordsOk c57 = true := by kernel_rfl
theorem call57 {args : List SV} {h : Heap} {R : AEnd → Heap → Prop} (hn : Nat.ble args.length 114 = true) (hp : awp Tryd.prog c57 (finQ [.tmp 4] R) (argEnv 0 args) h) : ACall Tryd.prog 57 args h R :=
  acall_of_awp mixed Tryd.func57 rfl ord57 ok57 (by kernel_rfl) hn hp
def t57 : Tab := ⟨114, c57, [.tmp 4]⟩
theorem tab57 : TabOk Tryd.prog 57 t57 := tabOk Tryd.func57 rfl ord57 ok57 (by kernel_rfl) rfl

def c58r9 : List AOper := [
 ⟨some 34, .mov (.tmp 6), none, []⟩, 
 ⟨some 35, .nilChk (.tmp 34), none, [0]⟩, 
 ⟨some 36, .fieldAddr 2 (.tmp 35), none, [1]⟩, 
 ⟨some 37, .loadS (.tmp 36), none, [2]⟩, 
 ⟨some 38, .bin .eql (.tmp 37) (.const (.int .u32 1)), none, [3]⟩, 
 ⟨some 39, .mov (.tmp 38), none, [4]⟩, 
 ⟨some 40, .mov (.tmp 1), (some (39, false)), [5]⟩, 
 ⟨some 41, .mov (.tmp 6), (some (39, false)), [5]⟩, 
 ⟨some 42, .nilChk (.tmp 41), (some (39, false)), [7, 5]⟩, 
 ⟨some 43, .fieldAddr 0 (.tmp 42), (some (39, false)), [8, 5]⟩, 
 ⟨some 44, .loadS (.tmp 43), (some (39, false)), [9, 5]⟩, 
 ⟨some 45, .bin .sub (.tmp 40) (.tmp 44), (some (39, false)), [6, 10, 5]⟩, 
 ⟨some 46, .mov (.tmp 6), (some (39, false)), [5]⟩, 
 ⟨some 47, .nilChk (.tmp 46), (some (39, false)), [12, 5]⟩, 
 ⟨some 48, .fieldAddr 2 (.tmp 47), (some (39, false)), [13, 5]⟩, 
 ⟨some 49, .loadS (.tmp 48), (some (39, false)), [14, 5]⟩, 
 ⟨some 50, .bin .rem (.tmp 45) (.tmp 49), (some (39, false)), [11, 15, 5]⟩, 
 ⟨some 51, .bin .eql (.tmp 50) (.const (.int .u32 0)), (some (39, false)), [16, 5]⟩, 
 ⟨some 52, .pick (.tmp 39) (.const (.bool true)) (.tmp 51), none, [5, 17]⟩, 
 ⟨some 4, .mov (.tmp 52), none, [18, 5, 0, 1, 2, 3, 4, 5, 6, 7, 8, 9, 10, 11, 12, 13, 14, 15, 16, 17, 18]⟩]
/-- unicode.is32 -/
def c58 : ACode :=
 .seq (.region [
  ⟨some 4, .mov (.const (.bool false)), none, []⟩] [])
 (.seq (.seq (.region [
  ⟨some 11, .mov (.tmp 0), none, []⟩, 
  ⟨some 12, .len false (.tmp 11), none, []⟩, 
  ⟨some 13, .bin .leq (.tmp 12) (.const (.int .i64 18)), none, []⟩] [11, 12])
 (.cond (.tmp 13)
  (.seq (.seq (.region [
   ⟨some 14, .mov (.tmp 0), none, []⟩, 
   ⟨some 15, .len false (.tmp 14), none, []⟩, 
   ⟨some 16, .mov (.const (.int .i64 0)), none, []⟩] [14])
  (.block 0 (.loop (.seq (.region [
     ⟨some 17, .bin .lss (.tmp 16) (.tmp 15), none, []⟩] [])
    (.seq (.cond (.tmp 17)
     (.skip)
     (.exit 0))
    (.seq (.block 1 (.seq (.region [
      ⟨some 18, .mov (.tmp 16), none, []⟩, 
      ⟨some 5, .mov (.tmp 18), none, []⟩] [18])
     (.seq (.region [
      ⟨some 19, .mov (.tmp 0), none, []⟩, 
      ⟨some 20, .mov (.tmp 5), none, []⟩, 
      ⟨some 21, .indexAddr 3 (.tmp 19) (.tmp 20), none, []⟩, 
      ⟨some 6, .mov (.tmp 21), none, []⟩] [19, 20, 21])
     (.seq (.seq (.region [
      ⟨some 22, .mov (.tmp 1), none, []⟩, 
      ⟨some 23, .mov (.tmp 6), none, []⟩, 
      ⟨some 24, .nilChk (.tmp 23), none, []⟩, 
      ⟨some 25, .fieldAddr 0 (.tmp 24), none, []⟩, 
      ⟨some 26, .loadS (.tmp 25), none, []⟩, 
      ⟨some 27, .bin .lss (.tmp 22) (.tmp 26), none, []⟩] [22, 23, 24, 25, 26])
     (.cond (.tmp 27)
      (.seq (.region [
       ⟨some 4, .mov (.const (.bool false)), none, []⟩] [])
      (.ret))
      (.skip)))
     (.seq (.region [
      ⟨some 28, .mov (.tmp 1), none, []⟩, 
      ⟨some 29, .mov (.tmp 6), none, []⟩, 
      ⟨some 30, .nilChk (.tmp 29), none, []⟩, 
      ⟨some 31, .fieldAddr 1 (.tmp 30), none, []⟩, 
      ⟨some 32, .loadS (.tmp 31), none, []⟩, 
      ⟨some 33, .bin .leq (.tmp 28) (.tmp 32), none, []⟩] [28, 29, 30, 31, 32])
     (.cond (.tmp 33)
      (.seq (.dregion c58r9 [(0, false, []), (1, false, []), (2, false, []), (3, false, []), (4, false, []), (5, false, []), (6, false, []), (7, false, []), (8, false, []), (9, false, []), (10, false, []), (11, false, []), (12, false, []), (13, false, []), (14, false, []), (15, false, []), (16, false, []), (17, false, []), (18, false, []), (19, false, [])] [34, 35, 36, 37, 38, 39, 40, 41, 42, 43, 44, 45, 46, 47, 48, 49, 50, 51, 52])
      (.ret))
      (.skip)))))))
    (.region [
     ⟨some 53, .bin .add (.tmp 16) (.const (.int .i64 1)), none, []⟩, 
     ⟨some 16, .mov (.tmp 53), none, []⟩] [53])))))))
  (.seq (.region [
   ⟨some 4, .mov (.const (.bool false)), none, []⟩] [])
  (.ret)))
  (.skip)))
 (.seq (.region [
  ⟨some 7, .mov (.const (.int .i64 0)), none, []⟩] [])
 (.seq (.region [
  ⟨some 54, .mov (.tmp 0), none, []⟩, 
  ⟨some 55, .len false (.tmp 54), none, []⟩, 
  ⟨some 8, .mov (.tmp 55), none, []⟩] [54, 55])
 (.seq (.block 2 (.loop (.seq (.seq (.region [
    ⟨some 56, .mov (.tmp 7), none, []⟩, 
    ⟨some 57, .mov (.tmp 8), none, []⟩, 
    ⟨some 58, .bin .lss (.tmp 56) (.tmp 57), none, []⟩] [56, 57])
   (.cond (.tmp 58)
    (.skip)
    (.exit 2)))
   (.block 3 (.seq (.region [
     ⟨some 59, .mov (.tmp 7), none, []⟩, 
     ⟨some 60, .mov (.tmp 8), none, []⟩, 
     ⟨some 61, .bin .add (.tmp 59) (.tmp 60), none, []⟩, 
     ⟨some 62, .conv .u64 (.tmp 61), none, []⟩, 
     ⟨some 63, .bin .shr (.tmp 62) (.const (.int .u64 1)), none, []⟩, 
     ⟨some 64, .conv .i64 (.tmp 63), none, []⟩, 
     ⟨some 9, .mov (.tmp 64), none, []⟩] [59, 60, 61, 62, 63, 64])
    (.seq (.region [
     ⟨some 65, .mov (.tmp 0), none, []⟩, 
     ⟨some 66, .mov (.tmp 9), none, []⟩, 
     ⟨some 67, .indexAddr 3 (.tmp 65) (.tmp 66), none, []⟩, 
     ⟨some 68, .loadA 3 (.tmp 67), none, []⟩, 
     ⟨some 10, .box 106 3 (.const (.agg [(.int .u32 0), (.int .u32 0), (.int .u32 0)])), none, []⟩, 
     ⟨none, .store 3 (.tmp 10) (.tmp 68), none, []⟩] [65, 66, 67, 68])
    (.seq (.seq (.region [
     ⟨some 69, .fieldAddr 0 (.tmp 10), none, []⟩, 
     ⟨some 70, .loadS (.tmp 69), none, []⟩, 
     ⟨some 71, .mov (.tmp 1), none, []⟩, 
     ⟨some 72, .bin .leq (.tmp 70) (.tmp 71), none, []⟩, 
     ⟨some 73, .mov (.tmp 72), none, []⟩, 
     ⟨some 74, .mov (.tmp 1), (some (73, true)), []⟩, 
     ⟨some 75, .fieldAddr 1 (.tmp 10), (some (73, true)), []⟩, 
     ⟨some 76, .loadS (.tmp 75), (some (73, true)), []⟩, 
     ⟨some 77, .bin .leq (.tmp 74) (.tmp 76), (some (73, true)), []⟩, 
     ⟨some 78, .pick (.tmp 73) (.tmp 77) (.const (.bool false)), none, []⟩] [69, 70, 71, 72, 73, 74, 75, 76, 77])
    (.cond (.tmp 78)
     (.seq (.region [
      ⟨some 79, .fieldAddr 2 (.tmp 10), none, []⟩, 
      ⟨some 80, .loadS (.tmp 79), none, []⟩, 
      ⟨some 81, .bin .eql (.tmp 80) (.const (.int .u32 1)), none, []⟩, 
      ⟨some 82, .mov (.tmp 81), none, []⟩, 
      ⟨some 83, .mov (.tmp 1), (some (82, false)), []⟩, 
      ⟨some 84, .fieldAddr 0 (.tmp 10), (some (82, false)), []⟩, 
      ⟨some 85, .loadS (.tmp 84), (some (82, false)), []⟩, 
      ⟨some 86, .bin .sub (.tmp 83) (.tmp 85), (some (82, false)), []⟩, 
      ⟨some 87, .fieldAddr 2 (.tmp 10), (some (82, false)), []⟩, 
      ⟨some 88, .loadS (.tmp 87), (some (82, false)), []⟩, 
      ⟨some 89, .bin .rem (.tmp 86) (.tmp 88), (some (82, false)), []⟩, 
      ⟨some 90, .bin .eql (.tmp 89) (.const (.int .u32 0)), (some (82, false)), []⟩, 
      ⟨some 91, .pick (.tmp 82) (.const (.bool true)) (.tmp 90), none, []⟩, 
      ⟨some 4, .mov (.tmp 91), none, []⟩] [79, 80, 81, 82, 83, 84, 85, 86, 87, 88, 89, 90, 91])
     (.ret))
     (.skip)))
    (.seq (.region [
     ⟨some 92, .mov (.tmp 1), none, []⟩, 
     ⟨some 93, .fieldAddr 0 (.tmp 10), none, []⟩, 
     ⟨some 94, .loadS (.tmp 93), none, []⟩, 
     ⟨some 95, .bin .lss (.tmp 92) (.tmp 94), none, []⟩] [92, 93, 94])
    (.cond (.tmp 95)
     (.region [
      ⟨some 96, .mov (.tmp 9), none, []⟩, 
      ⟨some 8, .mov (.tmp 96), none, []⟩] [96])
     (.region [
      ⟨some 97, .mov (.tmp 9), none, []⟩, 
      ⟨some 98, .bin .add (.tmp 97) (.const (.int .i64 1)), none, []⟩, 
      ⟨some 7, .mov (.tmp 98), none, []⟩] [97, 98]))))))))))
 (.seq (.region [
  ⟨some 4, .mov (.const (.bool false)), none, []⟩] [])
 (.ret))))))
theorem ok58 : erase c58 = cCode Tryd.prog 99 ((Tryd.f58).body.getD .skip) := by kernel_rfl
theorem ord58 : ordsOk c58 = true := by kernel_rfl
theorem call58 {args : List SV} {h : Heap} {R : AEnd → Heap → Prop} (hn : Nat.ble args.length 99 = true) (hp : awp Tryd.prog c58 (finQ [.tmp 4] R) (argEnv 0 args) h) : ACall Tryd.prog 58 args h R :=
  acall_of_awp mixed Tryd.func58 rfl ord58 ok58 (by kernel_rfl) hn hp
def t58 : Tab := ⟨99, c58, [.tmp 4]⟩
theorem tab58 : TabOk Tryd.prog 58 t58 := tabOk Tryd.func58 rfl ord58 ok58 (by kernel_rfl) rfl

/-- unicode/utf8.appendRuneNonASCII -/
def c59 : ACode :=
 .seq (.region [
  ⟨some 4, .mov (.const .nils), none, []⟩] [])
 (.seq (.region [
  ⟨some 6, .mov (.tmp 1), none, []⟩, 
  ⟨some 7, .conv .u32 (.tmp 6), none, []⟩, 
  ⟨some 5, .mov (.tmp 7), none, []⟩] [6, 7])
 (.block 0 (.seq (.region [
   ⟨some 12, .mov (.tmp 5), none, []⟩, 
   ⟨some 13, .bin .leq (.tmp 12) (.const (.int .u32 2047)), none, []⟩, 
   ⟨some 11, .mov (.tmp 13), none, []⟩] [12, 13])
  (.cond (.tmp 11)
   (.seq (.region [
    ⟨some 14, .mov (.tmp 0), none, []⟩, 
    ⟨some 15, .mov (.tmp 1), none, []⟩, 
    ⟨some 16, .bin .shr (.tmp 15) (.const (.int .u64 6)), none, []⟩, 
    ⟨some 17, .conv .u8 (.tmp 16), none, []⟩, 
    ⟨some 18, .bin .or (.const (.int .u8 192)) (.tmp 17), none, []⟩, 
    ⟨some 19, .mov (.tmp 1), none, []⟩, 
    ⟨some 20, .conv .u8 (.tmp 19), none, []⟩, 
    ⟨some 21, .bin .and (.tmp 20) (.const (.int .u8 63)), none, []⟩, 
    ⟨some 22, .bin .or (.const (.int .u8 128)) (.tmp 21), none, []⟩, 
    ⟨some 23, .buildSlice 5 1 (.int .u8 0) 2 [(0, (.tmp 18)), (1, (.tmp 22))], none, []⟩, 
    ⟨some 24, .append 5 1 1 (.tmp 14) (.tmp 23), none, []⟩, 
    ⟨some 4, .mov (.tmp 24), none, []⟩] [14, 15, 16, 17, 18, 19, 20, 21, 22, 23, 24])
   (.ret))
   (.seq (.seq (.region [
    ⟨some 26, .mov (.tmp 5), none, []⟩, 
    ⟨some 27, .bin .lss (.tmp 26) (.const (.int .u32 55296)), none, []⟩, 
    ⟨some 25, .mov (.tmp 27), none, []⟩] [26, 27])
   (.cond (.tmp 25)
    (.skip)
    (.region [
     ⟨some 28, .mov (.tmp 5), none, []⟩, 
     ⟨some 29, .bin .lss (.const (.int .u32 57343)) (.tmp 28), none, []⟩, 
     ⟨some 30, .mov (.tmp 29), none, []⟩, 
     ⟨some 31, .mov (.tmp 5), (some (30, true)), []⟩, 
     ⟨some 32, .bin .leq (.tmp 31) (.const (.int .u32 65535)), (some (30, true)), []⟩, 
     ⟨some 33, .pick (.tmp 30) (.tmp 32) (.const (.bool false)), none, []⟩, 
     ⟨some 25, .mov (.tmp 33), none, []⟩] [28, 29, 30, 31, 32, 33])))
   (.cond (.tmp 25)
    (.seq (.region [
     ⟨some 34, .mov (.tmp 0), none, []⟩, 
     ⟨some 35, .mov (.tmp 1), none, []⟩, 
     ⟨some 36, .bin .shr (.tmp 35) (.const (.int .u64 12)), none, []⟩, 
     ⟨some 37, .conv .u8 (.tmp 36), none, []⟩, 
     ⟨some 38, .bin .or (.const (.int .u8 224)) (.tmp 37), none, []⟩, 
     ⟨some 39, .mov (.tmp 1), none, []⟩, 
     ⟨some 40, .bin .shr (.tmp 39) (.const (.int .u64 6)), none, []⟩, 
     ⟨some 41, .conv .u8 (.tmp 40), none, []⟩, 
     ⟨some 42, .bin .and (.tmp 41) (.const (.int .u8 63)), none, []⟩, 
     ⟨some 43, .bin .or (.const (.int .u8 128)) (.tmp 42), none, []⟩, 
     ⟨some 44, .mov (.tmp 1), none, []⟩, 
     ⟨some 45, .conv .u8 (.tmp 44), none, []⟩, 
     ⟨some 46, .bin .and (.tmp 45) (.const (.int .u8 63)), none, []⟩, 
     ⟨some 47, .bin .or (.const (.int .u8 128)) (.tmp 46), none, []⟩, 
     ⟨some 48, .buildSlice 5 1 (.int .u8 0) 3 [(0, (.tmp 38)), (1, (.tmp 43)), (2, (.tmp 47))], none, []⟩, 
     ⟨some 49, .append 5 1 1 (.tmp 34) (.tmp 48), none, []⟩, 
     ⟨some 4, .mov (.tmp 49), none, []⟩] [34, 35, 36, 37, 38, 39, 40, 41, 42, 43, 44, 45, 46, 47, 48, 49])
    (.ret))
    (.seq (.region [
     ⟨some 51, .mov (.tmp 5), none, []⟩, 
     ⟨some 52, .bin .gtr (.tmp 51) (.const (.int .u32 65535)), none, []⟩, 
     ⟨some 53, .mov (.tmp 52), none, []⟩, 
     ⟨some 54, .mov (.tmp 5), (some (53, true)), []⟩, 
     ⟨some 55, .bin .leq (.tmp 54) (.const (.int .u32 1114111)), (some (53, true)), []⟩, 
     ⟨some 56, .pick (.tmp 53) (.tmp 55) (.const (.bool false)), none, []⟩, 
     ⟨some 50, .mov (.tmp 56), none, []⟩] [51, 52, 53, 54, 55, 56])
    (.cond (.tmp 50)
     (.seq (.region [
      ⟨some 57, .mov (.tmp 0), none, []⟩, 
      ⟨some 58, .mov (.tmp 1), none, []⟩, 
      ⟨some 59, .bin .shr (.tmp 58) (.const (.int .u64 18)), none, []⟩, 
      ⟨some 60, .conv .u8 (.tmp 59), none, []⟩, 
      ⟨some 61, .bin .or (.const (.int .u8 240)) (.tmp 60), none, []⟩, 
      ⟨some 62, .mov (.tmp 1), none, []⟩, 
      ⟨some 63, .bin .shr (.tmp 62) (.const (.int .u64 12)), none, []⟩, 
      ⟨some 64, .conv .u8 (.tmp 63), none, []⟩, 
      ⟨some 65, .bin .and (.tmp 64) (.const (.int .u8 63)), none, []⟩, 
      ⟨some 66, .bin .or (.const (.int .u8 128)) (.tmp 65), none, []⟩, 
      ⟨some 67, .mov (.tmp 1), none, []⟩, 
      ⟨some 68, .bin .shr (.tmp 67) (.const (.int .u64 6)), none, []⟩, 
      ⟨some 69, .conv .u8 (.tmp 68), none, []⟩, 
      ⟨some 70, .bin .and (.tmp 69) (.const (.int .u8 63)), none, []⟩, 
      ⟨some 71, .bin .or (.const (.int .u8 128)) (.tmp 70), none, []⟩, 
      ⟨some 72, .mov (.tmp 1), none, []⟩, 
      ⟨some 73, .conv .u8 (.tmp 72), none, []⟩, 
      ⟨some 74, .bin .and (.tmp 73) (.const (.int .u8 63)), none, []⟩, 
      ⟨some 75, .bin .or (.const (.int .u8 128)) (.tmp 74), none, []⟩, 
      ⟨some 76, .buildSlice 5 1 (.int .u8 0) 4 [(0, (.tmp 61)), (1, (.tmp 66)), (2, (.tmp 71)), (3, (.tmp 75))], none, []⟩, 
      ⟨some 77, .append 5 1 1 (.tmp 57) (.tmp 76), none, []⟩, 
      ⟨some 4, .mov (.tmp 77), none, []⟩] [57, 58, 59, 60, 61, 62, 63, 64, 65, 66, 67, 68, 69, 70, 71, 72, 73, 74, 75, 76, 77])
     (.ret))
     (.seq (.region [
      ⟨some 8, .mov (.tmp 0), none, []⟩, 
      ⟨some 9, .buildSlice 5 1 (.int .u8 0) 3 [(0, (.const (.int .u8 239))), (1, (.const (.int .u8 191))), (2, (.const (.int .u8 189)))], none, []⟩, 
      ⟨some 10, .append 5 1 1 (.tmp 8) (.tmp 9), none, []⟩, 
      ⟨some 4, .mov (.tmp 10), none, []⟩] [8, 9, 10])
     (.ret))))))))))
theorem ok59 : erase c59 = cCode Tryd.prog 78 ((Tryd.f59).body.getD .skip) := by kernel_rfl
theorem ord59 : ordsOk c59 = true := by kernel_rfl
theorem call59 {args : List SV} {h : Heap} {R : AEnd → Heap → Prop} (hn : Nat.ble args.length 78 = true) (hp : awp Tryd.prog c59 (finQ [.tmp 4] R) (argEnv 0 args) h) : ACall Tryd.prog 59 args h R :=
  acall_of_awp mixed Tryd.func59 rfl ord59 ok59 (by kernel_rfl) hn hp
def t59 : Tab := ⟨78, c59, [.tmp 4]⟩
theorem tab59 : TabOk Tryd.prog 59 t59 := tabOk Tryd.func59 rfl ord59 ok59 (by kernel_rfl) rfl

/-- unicode.lookupCaseRange -/
def c60 : ACode :=
 .seq (.region [
  ⟨some 4, .mov (.const .nilp), none, []⟩] [])
 (.seq (.region [
  ⟨some 5, .mov (.const (.int .i64 0)), none, []⟩] [])
 (.seq (.region [
  ⟨some 9, .mov (.tmp 1), none, []⟩, 
  ⟨some 10, .len false (.tmp 9), none, []⟩, 
  ⟨some 6, .mov (.tmp 10), none, []⟩] [9, 10])
 (.seq (.block 0 (.loop (.seq (.seq (.region [
    ⟨some 11, .mov (.tmp 5), none, []⟩, 
    ⟨some 12, .mov (.tmp 6), none, []⟩, 
    ⟨some 13, .bin .lss (.tmp 11) (.tmp 12), none, []⟩] [11, 12])
   (.cond (.tmp 13)
    (.skip)
    (.exit 0)))
   (.block 1 (.seq (.region [
     ⟨some 14, .mov (.tmp 5), none, []⟩, 
     ⟨some 15, .mov (.tmp 6), none, []⟩, 
     ⟨some 16, .bin .add (.tmp 14) (.tmp 15), none, []⟩, 
     ⟨some 17, .conv .u64 (.tmp 16), none, []⟩, 
     ⟨some 18, .bin .shr (.tmp 17) (.const (.int .u64 1)), none, []⟩, 
     ⟨some 19, .conv .i64 (.tmp 18), none, []⟩, 
     ⟨some 7, .mov (.tmp 19), none, []⟩] [14, 15, 16, 17, 18, 19])
    (.seq (.region [
     ⟨some 20, .mov (.tmp 1), none, []⟩, 
     ⟨some 21, .mov (.tmp 7), none, []⟩, 
     ⟨some 22, .indexAddr 5 (.tmp 20) (.tmp 21), none, []⟩, 
     ⟨some 8, .mov (.tmp 22), none, []⟩] [20, 21, 22])
    (.seq (.seq (.region [
     ⟨some 23, .mov (.tmp 8), none, []⟩, 
     ⟨some 24, .nilChk (.tmp 23), none, []⟩, 
     ⟨some 25, .fieldAddr 0 (.tmp 24), none, []⟩, 
     ⟨some 26, .loadS (.tmp 25), none, []⟩, 
     ⟨some 27, .conv .i32 (.tmp 26), none, []⟩, 
     ⟨some 28, .mov (.tmp 0), none, []⟩, 
     ⟨some 29, .bin .leq (.tmp 27) (.tmp 28), none, []⟩, 
     ⟨some 30, .mov (.tmp 29), none, []⟩, 
     ⟨some 31, .mov (.tmp 0), (some (30, true)), []⟩, 
     ⟨some 32, .mov (.tmp 8), (some (30, true)), []⟩, 
     ⟨some 33, .nilChk (.tmp 32), (some (30, true)), []⟩, 
     ⟨some 34, .fieldAddr 1 (.tmp 33), (some (30, true)), []⟩, 
     ⟨some 35, .loadS (.tmp 34), (some (30, true)), []⟩, 
     ⟨some 36, .conv .i32 (.tmp 35), (some (30, true)), []⟩, 
     ⟨some 37, .bin .leq (.tmp 31) (.tmp 36), (some (30, true)), []⟩, 
     ⟨some 38, .pick (.tmp 30) (.tmp 37) (.const (.bool false)), none, []⟩] [23, 24, 25, 26, 27, 28, 29, 30, 31, 32, 33, 34, 35, 36, 37])
    (.cond (.tmp 38)
     (.seq (.region [
      ⟨some 39, .mov (.tmp 8), none, []⟩, 
      ⟨some 4, .mov (.tmp 39), none, []⟩] [39])
     (.ret))
     (.skip)))
    (.seq (.region [
     ⟨some 40, .mov (.tmp 0), none, []⟩, 
     ⟨some 41, .mov (.tmp 8), none, []⟩, 
     ⟨some 42, .nilChk (.tmp 41), none, []⟩, 
     ⟨some 43, .fieldAddr 0 (.tmp 42), none, []⟩, 
     ⟨some 44, .loadS (.tmp 43), none, []⟩, 
     ⟨some 45, .conv .i32 (.tmp 44), none, []⟩, 
     ⟨some 46, .bin .lss (.tmp 40) (.tmp 45), none, []⟩] [40, 41, 42, 43, 44, 45])
    (.cond (.tmp 46)
     (.region [
      ⟨some 47, .mov (.tmp 7), none, []⟩, 
      ⟨some 6, .mov (.tmp 47), none, []⟩] [47])
     (.region [
      ⟨some 48, .mov (.tmp 7), none, []⟩, 
      ⟨some 49, .bin .add (.tmp 48) (.const (.int .i64 1)), none, []⟩, 
      ⟨some 5, .mov (.tmp 49), none, []⟩] [48, 49]))))))))))
 (.seq (.region [
  ⟨some 4, .mov (.const .nilp), none, []⟩] [])
 (.ret)))))
theorem ok60 : erase c60 = cCode Tryd.prog 50 ((Tryd.f60).body.getD .skip) := by kernel_rfl
theorem ord60 : ordsOk c60 = true := by kernel_rfl
theorem call60 {args : List SV} {h : Heap} {R : AEnd → Heap → Prop} (hn : Nat.ble args.length 50 = true) (hp : awp Tryd.prog c60 (finQ [.tmp 4] R) (argEnv 0 args) h) : ACall Tryd.prog 60 args h R :=
  acall_of_awp mixed Tryd.func60 rfl ord60 ok60 (by kernel_rfl) hn hp
def t60 : Tab := ⟨50, c60, [.tmp 4]⟩
theorem tab60 : TabOk Tryd.prog 60 t60 := tabOk Tryd.func60 rfl ord60 ok60 (by kernel_rfl) rfl

def c61r3 : List AOper := [
 ⟨some 16, .mov (.tmp 2), none, []⟩, 
 ⟨some 17, .nilChk (.tmp 16), none, [0]⟩, 
 ⟨some 18, .fieldAddr 0 (.tmp 17), none, [1]⟩, 
 ⟨some 19, .loadS (.tmp 18), none, [2]⟩, 
 ⟨some 20, .conv .i32 (.tmp 19), none, [3]⟩, 
 ⟨some 21, .mov (.tmp 1), none, []⟩, 
 ⟨some 22, .mov (.tmp 2), none, []⟩, 
 ⟨some 23, .nilChk (.tmp 22), none, [6]⟩, 
 ⟨some 24, .fieldAddr 0 (.tmp 23), none, [7]⟩, 
 ⟨some 25, .loadS (.tmp 24), none, [8]⟩, 
 ⟨some 26, .conv .i32 (.tmp 25), none, [9]⟩, 
 ⟨some 27, .bin .sub (.tmp 21) (.tmp 26), none, [5, 10]⟩, 
 ⟨some 28, .bin .andNot (.tmp 27) (.const (.int .i32 1)), none, [11]⟩, 
 ⟨some 29, .mov (.tmp 0), none, []⟩, 
 ⟨some 30, .bin .and (.tmp 29) (.const (.int .i64 1)), none, [13]⟩, 
 ⟨some 31, .conv .i32 (.tmp 30), none, [14]⟩, 
 ⟨some 32, .bin .or (.tmp 28) (.tmp 31), none, [12, 15]⟩, 
 ⟨some 33, .bin .add (.tmp 20) (.tmp 32), none, [4, 16]⟩, 
 ⟨some 6, .mov (.tmp 33), none, [17, 0, 1, 2, 3, 4, 5, 6, 7, 8, 9, 10, 11, 12, 13, 14, 15, 16, 17]⟩]
/-- unicode.convertCase -/
def c61 : ACode :=
 .seq (.region [
  ⟨some 6, .mov (.const (.int .i32 0)), none, []⟩] [])
 (.seq (.region [
  ⟨some 8, .mov (.tmp 2), none, []⟩, 
  ⟨some 9, .mov (.tmp 0), none, []⟩, 
  ⟨some 10, .nilChk (.tmp 8), none, []⟩, 
  ⟨some 11, .fieldAddr 2 (.tmp 10), none, []⟩, 
  ⟨some 12, .indexArr 3 1 (.tmp 11) (.tmp 9), none, []⟩, 
  ⟨some 13, .loadS (.tmp 12), none, []⟩, 
  ⟨some 7, .mov (.tmp 13), none, []⟩] [8, 9, 10, 11, 12, 13])
 (.seq (.seq (.region [
  ⟨some 14, .mov (.tmp 7), none, []⟩, 
  ⟨some 15, .bin .gtr (.tmp 14) (.const (.int .i32 1114111)), none, []⟩] [14])
 (.cond (.tmp 15)
  (.seq (.dregion c61r3 [(0, false, []), (1, false, []), (2, false, []), (3, false, []), (4, false, []), (5, false, []), (6, false, []), (7, false, []), (8, false, []), (9, false, []), (10, false, []), (11, false, []), (12, false, []), (13, false, []), (14, false, []), (15, false, []), (16, false, []), (17, false, []), (18, false, [])] [16, 17, 18, 19, 20, 21, 22, 23, 24, 25, 26, 27, 28, 29, 30, 31, 32, 33])
  (.ret))
  (.skip)))
 (.seq (.region [
  ⟨some 34, .mov (.tmp 1), none, []⟩, 
  ⟨some 35, .mov (.tmp 7), none, []⟩, 
  ⟨some 36, .bin .add (.tmp 34) (.tmp 35), none, []⟩, 
  ⟨some 6, .mov (.tmp 36), none, []⟩] [34, 35, 36])
 (.ret))))
theorem ok61 : erase c61 = cCode Tryd.prog 37 ((Tryd.f61).body.getD .skip) := by kernel_rfl
theorem ord61 : ordsOk c61 = true := by kernel_rfl
theorem call61 {args : List SV} {h : Heap} {R : AEnd → Heap → Prop} (hn : Nat.ble args.length 37 = true) (hp : awp Tryd.prog c61 (finQ [.tmp 6] R) (argEnv 0 args) h) : ACall Tryd.prog 61 args h R :=
  acall_of_awp mixed Tryd.func61 rfl ord61 ok61 (by kernel_rfl) hn hp
def t61 : Tab := ⟨37, c61, [.tmp 6]⟩
theorem tab61 : TabOk Tryd.prog 61 t61 := tabOk Tryd.func61 rfl ord61 ok61 (by kernel_rfl) rfl

/-- internal/strconv.Itoa -/
def c62 : ACode :=
 .seq (.region [
  ⟨some 2, .mov (.const (.str [])), none, []⟩] [])
 (.seq (.region [
  ⟨some 3, .mov (.tmp 0), none, []⟩, 
  ⟨some 4, .call 63 [(.tmp 3), (.const (.int .i64 10))], none, []⟩, 
  ⟨some 2, .mov (.tmp 4), none, []⟩] [3, 4])
 (.ret))
theorem ok62 : erase c62 = cCode Tryd.prog 5 ((Tryd.f62).body.getD .skip) := by kernel_rfl
theorem ord62 : ordsOk c62 = true := by kernel_rfl
theorem call62 {args : List SV} {h : Heap} {R : AEnd → Heap → Prop} (hn : Nat.ble args.length 5 = true) (hp : awp Tryd.prog c62 (finQ [.tmp 2] R) (argEnv 0 args) h) : ACall Tryd.prog 62 args h R :=
  acall_of_awp mixed Tryd.func62 rfl ord62 ok62 (by kernel_rfl) hn hp
def t62 : Tab := ⟨5, c62, [.tmp 2]⟩
theorem tab62 : TabOk Tryd.prog 62 t62 := tabOk Tryd.func62 rfl ord62 ok62 (by kernel_rfl) rfl

/-- internal/strconv.FormatInt -/
def c63 : ACode :=
 .seq (.region [
  ⟨some 4, .mov (.const (.str [])), none, []⟩] [])
 (.seq (.seq (.region [
  ⟨some 10, .mov (.tmp 1), none, []⟩, 
  ⟨some 11, .bin .eql (.tmp 10) (.const (.int .i64 10)), none, []⟩] [10])
 (.cond (.tmp 11)
  (.seq (.seq (.region [
   ⟨some 12, .mov (.tmp 0), none, []⟩, 
   ⟨some 13, .bin .leq (.const (.int .i64 0)) (.tmp 12), none, []⟩, 
   ⟨some 14, .mov (.tmp 13), none, []⟩, 
   ⟨some 15, .mov (.tmp 0), (some (14, true)), []⟩, 
   ⟨some 16, .bin .lss (.tmp 15) (.const (.int .i64 100)), (some (14, true)), []⟩, 
   ⟨some 17, .pick (.tmp 14) (.tmp 16) (.const (.bool false)), none, []⟩] [12, 13, 14, 15, 16])
  (.cond (.tmp 17)
   (.seq (.region [
    ⟨some 18, .mov (.tmp 0), none, []⟩, 
    ⟨some 19, .call 64 [(.tmp 18)], none, []⟩, 
    ⟨some 4, .mov (.tmp 19), none, []⟩] [18, 19])
   (.ret))
   (.skip)))
  (.seq (.region [
   ⟨some 5, .boxR 121 24 (.const (.agg [(.int .u8 0), (.int .u8 0), (.int .u8 0), (.int .u8 0), (.int .u8 0), (.int .u8 0), (.int .u8 0), (.int .u8 0), (.int .u8 0), (.int .u8 0), (.int .u8 0), (.int .u8 0), (.int .u8 0), (.int .u8 0), (.int .u8 0), (.int .u8 0), (.int .u8 0), (.int .u8 0), (.int .u8 0), (.int .u8 0), (.int .u8 0), (.int .u8 0), (.int .u8 0), (.int .u8 0)])), none, []⟩] [])
  (.seq (.region [
   ⟨some 20, .mov (.tmp 0), none, []⟩, 
   ⟨some 21, .conv .u64 (.tmp 20), none, []⟩, 
   ⟨some 6, .mov (.tmp 21), none, []⟩] [20, 21])
  (.seq (.seq (.region [
   ⟨some 22, .mov (.tmp 0), none, []⟩, 
   ⟨some 23, .bin .lss (.tmp 22) (.const (.int .i64 0)), none, []⟩] [22])
  (.cond (.tmp 23)
   (.region [
    ⟨some 24, .mov (.tmp 6), none, []⟩, 
    ⟨some 25, .un .neg (.tmp 24), none, []⟩, 
    ⟨some 6, .mov (.tmp 25), none, []⟩] [24, 25])
   (.skip)))
  (.seq (.region [
   ⟨some 26, .mov (.tmp 6), none, []⟩, 
   ⟨some 27, .call 65 [(.tmp 26)], none, []⟩, 
   ⟨some 7, .mov (.tmp 27), none, []⟩] [26, 27])
  (.seq (.region [
   ⟨some 28, .mov (.tmp 7), none, []⟩, 
   ⟨some 29, .bin .add (.const (.int .i64 1)) (.tmp 28), none, []⟩, 
   ⟨some 30, .sliceArr 24 (.tmp 5) (some (.const (.int .i64 1))) (some (.tmp 29)), none, []⟩, 
   ⟨some 31, .mov (.tmp 6), none, []⟩, 
   ⟨some 32, .call 66 [(.tmp 30), (.tmp 31)], none, []⟩] [28, 29, 30, 31, 32])
  (.seq (.seq (.region [
   ⟨some 33, .mov (.tmp 0), none, []⟩, 
   ⟨some 34, .bin .lss (.tmp 33) (.const (.int .i64 0)), none, []⟩] [33])
  (.cond (.tmp 34)
   (.seq (.region [
    ⟨some 35, .indexArr 24 1 (.tmp 5) (.const (.int .i64 0)), none, []⟩, 
    ⟨none, .store 1 (.tmp 35) (.const (.int .u8 45)), none, []⟩] [35])
   (.seq (.region [
    ⟨some 36, .mov (.tmp 7), none, []⟩, 
    ⟨some 37, .bin .add (.const (.int .i64 1)) (.tmp 36), none, []⟩, 
    ⟨some 38, .sliceArr 24 (.tmp 5) none (some (.tmp 37)), none, []⟩, 
    ⟨some 39, .toStr (.tmp 38), none, []⟩, 
    ⟨some 4, .mov (.tmp 39), none, []⟩] [36, 37, 38, 39])
   (.ret)))
   (.skip)))
  (.seq (.region [
   ⟨some 40, .mov (.tmp 7), none, []⟩, 
   ⟨some 41, .bin .add (.const (.int .i64 1)) (.tmp 40), none, []⟩, 
   ⟨some 42, .sliceArr 24 (.tmp 5) (some (.const (.int .i64 1))) (some (.tmp 41)), none, []⟩, 
   ⟨some 43, .toStr (.tmp 42), none, []⟩, 
   ⟨some 4, .mov (.tmp 43), none, []⟩] [40, 41, 42, 43])
  (.ret)))))))))
  (.skip)))
 (.seq (.region [
  ⟨some 45, .mov (.tmp 0), none, []⟩, 
  ⟨some 46, .conv .u64 (.tmp 45), none, []⟩, 
  ⟨some 47, .mov (.tmp 1), none, []⟩, 
  ⟨some 48, .mov (.tmp 0), none, []⟩, 
  ⟨some 49, .bin .lss (.tmp 48) (.const (.int .i64 0)), none, []⟩, 
  ⟨some 50, .call 67 [(.const .nils), (.tmp 46), (.tmp 47), (.tmp 49), (.const (.bool false))], none, []⟩, 
  ⟨some 44, .mov (.tmp 50), none, []⟩, 
  ⟨some 51, .extract (.tmp 44) 0, none, []⟩, 
  ⟨some 52, .extract (.tmp 44) 1, none, []⟩, 
  ⟨some 8, .mov (.tmp 51), none, []⟩, 
  ⟨some 9, .mov (.tmp 52), none, []⟩] [45, 46, 47, 48, 49, 50, 44, 51, 52, 8])
 (.seq (.region [
  ⟨some 53, .mov (.tmp 9), none, []⟩, 
  ⟨some 4, .mov (.tmp 53), none, []⟩] [53])
 (.ret))))
theorem ok63 : erase c63 = cCode Tryd.prog 54 ((Tryd.f63).body.getD .skip) := by kernel_rfl
theorem ord63 : ordsOk c63 = true := by kernel_rfl
theorem call63 {args : List SV} {h : Heap} {R : AEnd → Heap → Prop} (hn : Nat.ble args.length 54 = true) (hp : awp Tryd.prog c63 (finQ [.tmp 4] R) (argEnv 0 args) h) : ACall Tryd.prog 63 args h R :=
  acall_of_awp mixed Tryd.func63 rfl ord63 ok63 (by kernel_rfl) hn hp
def t63 : Tab := ⟨54, c63, [.tmp 4]⟩
theorem tab63 : TabOk Tryd.prog 63 t63 := tabOk Tryd.func63 rfl ord63 ok63 (by kernel_rfl) rfl

/-- internal/strconv.small -/
def c64 : ACode :=
 .seq (.region [
  ⟨some 2, .mov (.const (.str [])), none, []⟩] [])
 (.seq (.seq (.region [
  ⟨some 3, .mov (.tmp 0), none, []⟩, 
  ⟨some 4, .bin .lss (.tmp 3) (.const (.int .i64 10)), none, []⟩] [3])
 (.cond (.tmp 4)
  (.seq (.region [
   ⟨some 5, .mov (.tmp 0), none, []⟩, 
   ⟨some 6, .mov (.tmp 0), none, []⟩, 
   ⟨some 7, .bin .add (.tmp 6) (.const (.int .i64 1)), none, []⟩, 
   ⟨some 8, .sliceStr (.const (.str [48, 49, 50, 51, 52, 53, 54, 55, 56, 57, 97, 98, 99, 100, 101, 102, 103, 104, 105, 106, 107, 108, 109, 110, 111, 112, 113, 114, 115, 116, 117, 118, 119, 120, 121, 122])) (some (.tmp 5)) (some (.tmp 7)), none, []⟩, 
   ⟨some 2, .mov (.tmp 8), none, []⟩] [5, 6, 7, 8])
  (.ret))
  (.skip)))
 (.seq (.region [
  ⟨some 9, .mov (.tmp 0), none, []⟩, 
  ⟨some 10, .bin .mul (.tmp 9) (.const (.int .i64 2)), none, []⟩, 
  ⟨some 11, .mov (.tmp 0), none, []⟩, 
  ⟨some 12, .bin .mul (.tmp 11) (.const (.int .i64 2)), none, []⟩, 
  ⟨some 13, .bin .add (.tmp 12) (.const (.int .i64 2)), none, []⟩, 
  ⟨some 14, .sliceStr (.const (.str [48, 48, 48, 49, 48, 50, 48, 51, 48, 52, 48, 53, 48, 54, 48, 55, 48, 56, 48, 57, 49, 48, 49, 49, 49, 50, 49, 51, 49, 52, 49, 53, 49, 54, 49, 55, 49, 56, 49, 57, 50, 48, 50, 49, 50, 50, 50, 51, 50, 52, 50, 53, 50, 54, 50, 55, 50, 56, 50, 57, 51, 48, 51, 49, 51, 50, 51, 51, 51, 52, 51, 53, 51, 54, 51, 55, 51, 56, 51, 57, 52, 48, 52, 49, 52, 50, 52, 51, 52, 52, 52, 53, 52, 54, 52, 55, 52, 56, 52, 57, 53, 48, 53, 49, 53, 50, 53, 51, 53, 52, 53, 53, 53, 54, 53, 55, 53, 56, 53, 57, 54, 48, 54, 49, 54, 50, 54, 51, 54, 52, 54, 53, 54, 54, 54, 55, 54, 56, 54, 57, 55, 48, 55, 49, 55, 50, 55, 51, 55, 52, 55, 53, 55, 54, 55, 55, 55, 56, 55, 57, 56, 48, 56, 49, 56, 50, 56, 51, 56, 52, 56, 53, 56, 54, 56, 55, 56, 56, 56, 57, 57, 48, 57, 49, 57, 50, 57, 51, 57, 52, 57, 53, 57, 54, 57, 55, 57, 56, 57, 57])) (some (.tmp 10)) (some (.tmp 13)), none, []⟩, 
  ⟨some 2, .mov (.tmp 14), none, []⟩] [9, 10, 11, 12, 13, 14])
 (.ret)))
theorem ok64 : erase c64 = cCode Tryd.prog 15 ((Tryd.f64).body.getD .skip) := by kernel_rfl
theorem ord64 : ordsOk c64 = true := by kernel_rfl
theorem call64 {args : List SV} {h : Heap} {R : AEnd → Heap → Prop} (hn : Nat.ble args.length 15 = true) (hp : awp Tryd.prog c64 (finQ [.tmp 2] R) (argEnv 0 args) h) : ACall Tryd.prog 64 args h R :=
  acall_of_awp mixed Tryd.func64 rfl ord64 ok64 (by kernel_rfl) hn hp
def t64 : Tab := ⟨15, c64, [.tmp 2]⟩
theorem tab64 : TabOk Tryd.prog 64 t64 := tabOk Tryd.func64 rfl ord64 ok64 (by kernel_rfl) rfl

/-- internal/strconv.numDigits -/
def c65 : ACode :=
 .seq (.region [
  ⟨some 2, .mov (.const (.int .i64 0)), none, []⟩] [])
 (.seq (.region [
  ⟨some 4, .mov (.tmp 0), none, []⟩, 
  ⟨some 5, .call 69 [(.tmp 4)], none, []⟩, 
  ⟨some 6, .call 68 [(.tmp 5)], none, []⟩, 
  ⟨some 3, .mov (.tmp 6), none, []⟩] [4, 5, 6])
 (.seq (.region [
  ⟨some 7, .mov (.tmp 3), none, []⟩, 
  ⟨some 8, .mov (.tmp 0), none, []⟩, 
  ⟨some 9, .mov (.tmp 3), none, []⟩, 
  ⟨some 10, .indexArr 20 1 (.const (.glob 8)) (.tmp 9), none, []⟩, 
  ⟨some 11, .loadS (.tmp 10), none, []⟩, 
  ⟨some 12, .bin .geq (.tmp 8) (.tmp 11), none, []⟩, 
  ⟨some 13, .call 70 [(.tmp 12)], none, []⟩, 
  ⟨some 14, .bin .add (.tmp 7) (.tmp 13), none, []⟩, 
  ⟨some 2, .mov (.tmp 14), none, []⟩] [7, 8, 9, 10, 11, 12, 13, 14])
 (.ret)))
theorem ok65 : erase c65 = cCode Tryd.prog 15 ((Tryd.f65).body.getD .skip) := by kernel_rfl
theorem ord65 : ordsOk c65 = true := by kernel_rfl
theorem call65 {args : List SV} {h : Heap} {R : AEnd → Heap → Prop} (hn : Nat.ble args.length 15 = true) (hp : awp Tryd.prog c65 (finQ [.tmp 2] R) (argEnv 0 args) h) : ACall Tryd.prog 65 args h R :=
  acall_of_awp mixed Tryd.func65 rfl ord65 ok65 (by kernel_rfl) hn hp
def t65 : Tab := ⟨15, c65, [.tmp 2]⟩
theorem tab65 : TabOk Tryd.prog 65 t65 := tabOk Tryd.func65 rfl ord65 ok65 (by kernel_rfl) rfl

def c66r7 : List AOper := [
 ⟨some 42, .mov (.tmp 0), none, []⟩, 
 ⟨some 43, .mov (.tmp 4), none, []⟩, 
 ⟨some 44, .bin .sub (.tmp 43) (.const (.int .i64 1)), none, [1]⟩, 
 ⟨some 45, .mov (.tmp 0), none, []⟩, 
 ⟨some 46, .mov (.tmp 4), none, []⟩, 
 ⟨some 47, .bin .sub (.tmp 46) (.const (.int .i64 2)), none, [4]⟩, 
 ⟨some 48, .mov (.tmp 9), none, []⟩, 
 ⟨some 49, .bin .add (.tmp 48) (.const (.int .u32 1)), none, [6]⟩, 
 ⟨some 50, .index (.const (.str [48, 48, 48, 49, 48, 50, 48, 51, 48, 52, 48, 53, 48, 54, 48, 55, 48, 56, 48, 57, 49, 48, 49, 49, 49, 50, 49, 51, 49, 52, 49, 53, 49, 54, 49, 55, 49, 56, 49, 57, 50, 48, 50, 49, 50, 50, 50, 51, 50, 52, 50, 53, 50, 54, 50, 55, 50, 56, 50, 57, 51, 48, 51, 49, 51, 50, 51, 51, 51, 52, 51, 53, 51, 54, 51, 55, 51, 56, 51, 57, 52, 48, 52, 49, 52, 50, 52, 51, 52, 52, 52, 53, 52, 54, 52, 55, 52, 56, 52, 57, 53, 48, 53, 49, 53, 50, 53, 51, 53, 52, 53, 53, 53, 54, 53, 55, 53, 56, 53, 57, 54, 48, 54, 49, 54, 50, 54, 51, 54, 52, 54, 53, 54, 54, 54, 55, 54, 56, 54, 57, 55, 48, 55, 49, 55, 50, 55, 51, 55, 52, 55, 53, 55, 54, 55, 55, 55, 56, 55, 57, 56, 48, 56, 49, 56, 50, 56, 51, 56, 52, 56, 53, 56, 54, 56, 55, 56, 56, 56, 57, 57, 48, 57, 49, 57, 50, 57, 51, 57, 52, 57, 53, 57, 54, 57, 55, 57, 56, 57, 57])) (.tmp 49), none, [7]⟩, 
 ⟨some 51, .mov (.tmp 9), none, []⟩, 
 ⟨some 52, .index (.const (.str [48, 48, 48, 49, 48, 50, 48, 51, 48, 52, 48, 53, 48, 54, 48, 55, 48, 56, 48, 57, 49, 48, 49, 49, 49, 50, 49, 51, 49, 52, 49, 53, 49, 54, 49, 55, 49, 56, 49, 57, 50, 48, 50, 49, 50, 50, 50, 51, 50, 52, 50, 53, 50, 54, 50, 55, 50, 56, 50, 57, 51, 48, 51, 49, 51, 50, 51, 51, 51, 52, 51, 53, 51, 54, 51, 55, 51, 56, 51, 57, 52, 48, 52, 49, 52, 50, 52, 51, 52, 52, 52, 53, 52, 54, 52, 55, 52, 56, 52, 57, 53, 48, 53, 49, 53, 50, 53, 51, 53, 52, 53, 53, 53, 54, 53, 55, 53, 56, 53, 57, 54, 48, 54, 49, 54, 50, 54, 51, 54, 52, 54, 53, 54, 54, 54, 55, 54, 56, 54, 57, 55, 48, 55, 49, 55, 50, 55, 51, 55, 52, 55, 53, 55, 54, 55, 55, 55, 56, 55, 57, 56, 48, 56, 49, 56, 50, 56, 51, 56, 52, 56, 53, 56, 54, 56, 55, 56, 56, 56, 57, 57, 48, 57, 49, 57, 50, 57, 51, 57, 52, 57, 53, 57, 54, 57, 55, 57, 56, 57, 57])) (.tmp 51), none, [9]⟩, 
 ⟨some 53, .indexAddr 1 (.tmp 42) (.tmp 44), none, [0, 2, 0, 1, 2, 6, 7, 8]⟩, 
 ⟨none, .store 1 (.tmp 53) (.tmp 50), none, [11, 8, 0, 1, 2, 6, 7, 8]⟩, 
 ⟨some 54, .indexAddr 1 (.tmp 45) (.tmp 47), none, [3, 5, 0, 1, 2, 3, 4, 5, 6, 7, 8, 9, 10, 11, 12]⟩, 
 ⟨none, .store 1 (.tmp 54) (.tmp 52), none, [13, 10, 12, 0, 1, 2, 3, 4, 5, 6, 7, 8, 9, 10, 11, 12]⟩]
def c66r8 : List AOper := [
 ⟨some 55, .mov (.tmp 0), none, []⟩, 
 ⟨some 56, .mov (.tmp 4), none, []⟩, 
 ⟨some 57, .bin .sub (.tmp 56) (.const (.int .i64 3)), none, [1]⟩, 
 ⟨some 58, .mov (.tmp 0), none, []⟩, 
 ⟨some 59, .mov (.tmp 4), none, []⟩, 
 ⟨some 60, .bin .sub (.tmp 59) (.const (.int .i64 4)), none, [4]⟩, 
 ⟨some 61, .mov (.tmp 8), none, []⟩, 
 ⟨some 62, .bin .add (.tmp 61) (.const (.int .u32 1)), none, [6]⟩, 
 ⟨some 63, .index (.const (.str [48, 48, 48, 49, 48, 50, 48, 51, 48, 52, 48, 53, 48, 54, 48, 55, 48, 56, 48, 57, 49, 48, 49, 49, 49, 50, 49, 51, 49, 52, 49, 53, 49, 54, 49, 55, 49, 56, 49, 57, 50, 48, 50, 49, 50, 50, 50, 51, 50, 52, 50, 53, 50, 54, 50, 55, 50, 56, 50, 57, 51, 48, 51, 49, 51, 50, 51, 51, 51, 52, 51, 53, 51, 54, 51, 55, 51, 56, 51, 57, 52, 48, 52, 49, 52, 50, 52, 51, 52, 52, 52, 53, 52, 54, 52, 55, 52, 56, 52, 57, 53, 48, 53, 49, 53, 50, 53, 51, 53, 52, 53, 53, 53, 54, 53, 55, 53, 56, 53, 57, 54, 48, 54, 49, 54, 50, 54, 51, 54, 52, 54, 53, 54, 54, 54, 55, 54, 56, 54, 57, 55, 48, 55, 49, 55, 50, 55, 51, 55, 52, 55, 53, 55, 54, 55, 55, 55, 56, 55, 57, 56, 48, 56, 49, 56, 50, 56, 51, 56, 52, 56, 53, 56, 54, 56, 55, 56, 56, 56, 57, 57, 48, 57, 49, 57, 50, 57, 51, 57, 52, 57, 53, 57, 54, 57, 55, 57, 56, 57, 57])) (.tmp 62), none, [7]⟩, 
 ⟨some 64, .mov (.tmp 8), none, []⟩, 
 ⟨some 65, .index (.const (.str [48, 48, 48, 49, 48, 50, 48, 51, 48, 52, 48, 53, 48, 54, 48, 55, 48, 56, 48, 57, 49, 48, 49, 49, 49, 50, 49, 51, 49, 52, 49, 53, 49, 54, 49, 55, 49, 56, 49, 57, 50, 48, 50, 49, 50, 50, 50, 51, 50, 52, 50, 53, 50, 54, 50, 55, 50, 56, 50, 57, 51, 48, 51, 49, 51, 50, 51, 51, 51, 52, 51, 53, 51, 54, 51, 55, 51, 56, 51, 57, 52, 48, 52, 49, 52, 50, 52, 51, 52, 52, 52, 53, 52, 54, 52, 55, 52, 56, 52, 57, 53, 48, 53, 49, 53, 50, 53, 51, 53, 52, 53, 53, 53, 54, 53, 55, 53, 56, 53, 57, 54, 48, 54, 49, 54, 50, 54, 51, 54, 52, 54, 53, 54, 54, 54, 55, 54, 56, 54, 57, 55, 48, 55, 49, 55, 50, 55, 51, 55, 52, 55, 53, 55, 54, 55, 55, 55, 56, 55, 57, 56, 48, 56, 49, 56, 50, 56, 51, 56, 52, 56, 53, 56, 54, 56, 55, 56, 56, 56, 57, 57, 48, 57, 49, 57, 50, 57, 51, 57, 52, 57, 53, 57, 54, 57, 55, 57, 56, 57, 57])) (.tmp 64), none, [9]⟩, 
 ⟨some 66, .indexAddr 1 (.tmp 55) (.tmp 57), none, [0, 2, 0, 1, 2, 6, 7, 8]⟩, 
 ⟨none, .store 1 (.tmp 66) (.tmp 63), none, [11, 8, 0, 1, 2, 6, 7, 8]⟩, 
 ⟨some 67, .indexAddr 1 (.tmp 58) (.tmp 60), none, [3, 5, 0, 1, 2, 3, 4, 5, 6, 7, 8, 9, 10, 11, 12]⟩, 
 ⟨none, .store 1 (.tmp 67) (.tmp 65), none, [13, 10, 12, 0, 1, 2, 3, 4, 5, 6, 7, 8, 9, 10, 11, 12]⟩]
def c66r9 : List AOper := [
 ⟨some 68, .mov (.tmp 0), none, []⟩, 
 ⟨some 69, .mov (.tmp 4), none, []⟩, 
 ⟨some 70, .bin .sub (.tmp 69) (.const (.int .i64 5)), none, [1]⟩, 
 ⟨some 71, .mov (.tmp 0), none, []⟩, 
 ⟨some 72, .mov (.tmp 4), none, []⟩, 
 ⟨some 73, .bin .sub (.tmp 72) (.const (.int .i64 6)), none, [4]⟩, 
 ⟨some 74, .mov (.tmp 11), none, []⟩, 
 ⟨some 75, .bin .add (.tmp 74) (.const (.int .u32 1)), none, [6]⟩, 
 ⟨some 76, .index (.const (.str [48, 48, 48, 49, 48, 50, 48, 51, 48, 52, 48, 53, 48, 54, 48, 55, 48, 56, 48, 57, 49, 48, 49, 49, 49, 50, 49, 51, 49, 52, 49, 53, 49, 54, 49, 55, 49, 56, 49, 57, 50, 48, 50, 49, 50, 50, 50, 51, 50, 52, 50, 53, 50, 54, 50, 55, 50, 56, 50, 57, 51, 48, 51, 49, 51, 50, 51, 51, 51, 52, 51, 53, 51, 54, 51, 55, 51, 56, 51, 57, 52, 48, 52, 49, 52, 50, 52, 51, 52, 52, 52, 53, 52, 54, 52, 55, 52, 56, 52, 57, 53, 48, 53, 49, 53, 50, 53, 51, 53, 52, 53, 53, 53, 54, 53, 55, 53, 56, 53, 57, 54, 48, 54, 49, 54, 50, 54, 51, 54, 52, 54, 53, 54, 54, 54, 55, 54, 56, 54, 57, 55, 48, 55, 49, 55, 50, 55, 51, 55, 52, 55, 53, 55, 54, 55, 55, 55, 56, 55, 57, 56, 48, 56, 49, 56, 50, 56, 51, 56, 52, 56, 53, 56, 54, 56, 55, 56, 56, 56, 57, 57, 48, 57, 49, 57, 50, 57, 51, 57, 52, 57, 53, 57, 54, 57, 55, 57, 56, 57, 57])) (.tmp 75), none, [7]⟩, 
 ⟨some 77, .mov (.tmp 11), none, []⟩, 
 ⟨some 78, .index (.const (.str [48, 48, 48, 49, 48, 50, 48, 51, 48, 52, 48, 53, 48, 54, 48, 55, 48, 56, 48, 57, 49, 48, 49, 49, 49, 50, 49, 51, 49, 52, 49, 53, 49, 54, 49, 55, 49, 56, 49, 57, 50, 48, 50, 49, 50, 50, 50, 51, 50, 52, 50, 53, 50, 54, 50, 55, 50, 56, 50, 57, 51, 48, 51, 49, 51, 50, 51, 51, 51, 52, 51, 53, 51, 54, 51, 55, 51, 56, 51, 57, 52, 48, 52, 49, 52, 50, 52, 51, 52, 52, 52, 53, 52, 54, 52, 55, 52, 56, 52, 57, 53, 48, 53, 49, 53, 50, 53, 51, 53, 52, 53, 53, 53, 54, 53, 55, 53, 56, 53, 57, 54, 48, 54, 49, 54, 50, 54, 51, 54, 52, 54, 53, 54, 54, 54, 55, 54, 56, 54, 57, 55, 48, 55, 49, 55, 50, 55, 51, 55, 52, 55, 53, 55, 54, 55, 55, 55, 56, 55, 57, 56, 48, 56, 49, 56, 50, 56, 51, 56, 52, 56, 53, 56, 54, 56, 55, 56, 56, 56, 57, 57, 48, 57, 49, 57, 50, 57, 51, 57, 52, 57, 53, 57, 54, 57, 55, 57, 56, 57, 57])) (.tmp 77), none, [9]⟩, 
 ⟨some 79, .indexAddr 1 (.tmp 68) (.tmp 70), none, [0, 2, 0, 1, 2, 6, 7, 8]⟩, 
 ⟨none, .store 1 (.tmp 79) (.tmp 76), none, [11, 8, 0, 1, 2, 6, 7, 8]⟩, 
 ⟨some 80, .indexAddr 1 (.tmp 71) (.tmp 73), none, [3, 5, 0, 1, 2, 3, 4, 5, 6, 7, 8, 9, 10, 11, 12]⟩, 
 ⟨none, .store 1 (.tmp 80) (.tmp 78), none, [13, 10, 12, 0, 1, 2, 3, 4, 5, 6, 7, 8, 9, 10, 11, 12]⟩]
def c66r10 : List AOper := [
 ⟨some 81, .mov (.tmp 0), none, []⟩, 
 ⟨some 82, .mov (.tmp 4), none, []⟩, 
 ⟨some 83, .bin .sub (.tmp 82) (.const (.int .i64 7)), none, [1]⟩, 
 ⟨some 84, .mov (.tmp 0), none, []⟩, 
 ⟨some 85, .mov (.tmp 4), none, []⟩, 
 ⟨some 86, .bin .sub (.tmp 85) (.const (.int .i64 8)), none, [4]⟩, 
 ⟨some 87, .mov (.tmp 10), none, []⟩, 
 ⟨some 88, .bin .add (.tmp 87) (.const (.int .u32 1)), none, [6]⟩, 
 ⟨some 89, .index (.const (.str [48, 48, 48, 49, 48, 50, 48, 51, 48, 52, 48, 53, 48, 54, 48, 55, 48, 56, 48, 57, 49, 48, 49, 49, 49, 50, 49, 51, 49, 52, 49, 53, 49, 54, 49, 55, 49, 56, 49, 57, 50, 48, 50, 49, 50, 50, 50, 51, 50, 52, 50, 53, 50, 54, 50, 55, 50, 56, 50, 57, 51, 48, 51, 49, 51, 50, 51, 51, 51, 52, 51, 53, 51, 54, 51, 55, 51, 56, 51, 57, 52, 48, 52, 49, 52, 50, 52, 51, 52, 52, 52, 53, 52, 54, 52, 55, 52, 56, 52, 57, 53, 48, 53, 49, 53, 50, 53, 51, 53, 52, 53, 53, 53, 54, 53, 55, 53, 56, 53, 57, 54, 48, 54, 49, 54, 50, 54, 51, 54, 52, 54, 53, 54, 54, 54, 55, 54, 56, 54, 57, 55, 48, 55, 49, 55, 50, 55, 51, 55, 52, 55, 53, 55, 54, 55, 55, 55, 56, 55, 57, 56, 48, 56, 49, 56, 50, 56, 51, 56, 52, 56, 53, 56, 54, 56, 55, 56, 56, 56, 57, 57, 48, 57, 49, 57, 50, 57, 51, 57, 52, 57, 53, 57, 54, 57, 55, 57, 56, 57, 57])) (.tmp 88), none, [7]⟩, 
 ⟨some 90, .mov (.tmp 10), none, []⟩, 
 ⟨some 91, .index (.const (.str [48, 48, 48, 49, 48, 50, 48, 51, 48, 52, 48, 53, 48, 54, 48, 55, 48, 56, 48, 57, 49, 48, 49, 49, 49, 50, 49, 51, 49, 52, 49, 53, 49, 54, 49, 55, 49, 56, 49, 57, 50, 48, 50, 49, 50, 50, 50, 51, 50, 52, 50, 53, 50, 54, 50, 55, 50, 56, 50, 57, 51, 48, 51, 49, 51, 50, 51, 51, 51, 52, 51, 53, 51, 54, 51, 55, 51, 56, 51, 57, 52, 48, 52, 49, 52, 50, 52, 51, 52, 52, 52, 53, 52, 54, 52, 55, 52, 56, 52, 57, 53, 48, 53, 49, 53, 50, 53, 51, 53, 52, 53, 53, 53, 54, 53, 55, 53, 56, 53, 57, 54, 48, 54, 49, 54, 50, 54, 51, 54, 52, 54, 53, 54, 54, 54, 55, 54, 56, 54, 57, 55, 48, 55, 49, 55, 50, 55, 51, 55, 52, 55, 53, 55, 54, 55, 55, 55, 56, 55, 57, 56, 48, 56, 49, 56, 50, 56, 51, 56, 52, 56, 53, 56, 54, 56, 55, 56, 56, 56, 57, 57, 48, 57, 49, 57, 50, 57, 51, 57, 52, 57, 53, 57, 54, 57, 55, 57, 56, 57, 57])) (.tmp 90), none, [9]⟩, 
 ⟨some 92, .indexAddr 1 (.tmp 81) (.tmp 83), none, [0, 2, 0, 1, 2, 6, 7, 8]⟩, 
 ⟨none, .store 1 (.tmp 92) (.tmp 89), none, [11, 8, 0, 1, 2, 6, 7, 8]⟩, 
 ⟨some 93, .indexAddr 1 (.tmp 84) (.tmp 86), none, [3, 5, 0, 1, 2, 3, 4, 5, 6, 7, 8, 9, 10, 11, 12]⟩, 
 ⟨none, .store 1 (.tmp 93) (.tmp 91), none, [13, 10, 12, 0, 1, 2, 3, 4, 5, 6, 7, 8, 9, 10, 11, 12]⟩]
def c66r17 : List AOper := [
 ⟨some 110, .mov (.tmp 0), none, []⟩, 
 ⟨some 111, .mov (.tmp 4), none, []⟩, 
 ⟨some 112, .bin .sub (.tmp 111) (.const (.int .i64 1)), none, [1]⟩, 
 ⟨some 113, .mov (.tmp 0), none, []⟩, 
 ⟨some 114, .mov (.tmp 4), none, []⟩, 
 ⟨some 115, .bin .sub (.tmp 114) (.const (.int .i64 2)), none, [4]⟩, 
 ⟨some 116, .mov (.tmp 15), none, []⟩, 
 ⟨some 117, .bin .add (.tmp 116) (.const (.int .u32 1)), none, [6]⟩, 
 ⟨some 118, .index (.const (.str [48, 48, 48, 49, 48, 50, 48, 51, 48, 52, 48, 53, 48, 54, 48, 55, 48, 56, 48, 57, 49, 48, 49, 49, 49, 50, 49, 51, 49, 52, 49, 53, 49, 54, 49, 55, 49, 56, 49, 57, 50, 48, 50, 49, 50, 50, 50, 51, 50, 52, 50, 53, 50, 54, 50, 55, 50, 56, 50, 57, 51, 48, 51, 49, 51, 50, 51, 51, 51, 52, 51, 53, 51, 54, 51, 55, 51, 56, 51, 57, 52, 48, 52, 49, 52, 50, 52, 51, 52, 52, 52, 53, 52, 54, 52, 55, 52, 56, 52, 57, 53, 48, 53, 49, 53, 50, 53, 51, 53, 52, 53, 53, 53, 54, 53, 55, 53, 56, 53, 57, 54, 48, 54, 49, 54, 50, 54, 51, 54, 52, 54, 53, 54, 54, 54, 55, 54, 56, 54, 57, 55, 48, 55, 49, 55, 50, 55, 51, 55, 52, 55, 53, 55, 54, 55, 55, 55, 56, 55, 57, 56, 48, 56, 49, 56, 50, 56, 51, 56, 52, 56, 53, 56, 54, 56, 55, 56, 56, 56, 57, 57, 48, 57, 49, 57, 50, 57, 51, 57, 52, 57, 53, 57, 54, 57, 55, 57, 56, 57, 57])) (.tmp 117), none, [7]⟩, 
 ⟨some 119, .mov (.tmp 15), none, []⟩, 
 ⟨some 120, .index (.const (.str [48, 48, 48, 49, 48, 50, 48, 51, 48, 52, 48, 53, 48, 54, 48, 55, 48, 56, 48, 57, 49, 48, 49, 49, 49, 50, 49, 51, 49, 52, 49, 53, 49, 54, 49, 55, 49, 56, 49, 57, 50, 48, 50, 49, 50, 50, 50, 51, 50, 52, 50, 53, 50, 54, 50, 55, 50, 56, 50, 57, 51, 48, 51, 49, 51, 50, 51, 51, 51, 52, 51, 53, 51, 54, 51, 55, 51, 56, 51, 57, 52, 48, 52, 49, 52, 50, 52, 51, 52, 52, 52, 53, 52, 54, 52, 55, 52, 56, 52, 57, 53, 48, 53, 49, 53, 50, 53, 51, 53, 52, 53, 53, 53, 54, 53, 55, 53, 56, 53, 57, 54, 48, 54, 49, 54, 50, 54, 51, 54, 52, 54, 53, 54, 54, 54, 55, 54, 56, 54, 57, 55, 48, 55, 49, 55, 50, 55, 51, 55, 52, 55, 53, 55, 54, 55, 55, 55, 56, 55, 57, 56, 48, 56, 49, 56, 50, 56, 51, 56, 52, 56, 53, 56, 54, 56, 55, 56, 56, 56, 57, 57, 48, 57, 49, 57, 50, 57, 51, 57, 52, 57, 53, 57, 54, 57, 55, 57, 56, 57, 57])) (.tmp 119), none, [9]⟩, 
 ⟨some 121, .indexAddr 1 (.tmp 110) (.tmp 112), none, [0, 2, 0, 1, 2, 6, 7, 8]⟩, 
 ⟨none, .store 1 (.tmp 121) (.tmp 118), none, [11, 8, 0, 1, 2, 6, 7, 8]⟩, 
 ⟨some 122, .indexAddr 1 (.tmp 113) (.tmp 115), none, [3, 5, 0, 1, 2, 3, 4, 5, 6, 7, 8, 9, 10, 11, 12]⟩, 
 ⟨none, .store 1 (.tmp 122) (.tmp 120), none, [13, 10, 12, 0, 1, 2, 3, 4, 5, 6, 7, 8, 9, 10, 11, 12]⟩]
def c66r18 : List AOper := [
 ⟨some 123, .mov (.tmp 0), none, []⟩, 
 ⟨some 124, .mov (.tmp 4), none, []⟩, 
 ⟨some 125, .bin .sub (.tmp 124) (.const (.int .i64 3)), none, [1]⟩, 
 ⟨some 126, .mov (.tmp 0), none, []⟩, 
 ⟨some 127, .mov (.tmp 4), none, []⟩, 
 ⟨some 128, .bin .sub (.tmp 127) (.const (.int .i64 4)), none, [4]⟩, 
 ⟨some 129, .mov (.tmp 14), none, []⟩, 
 ⟨some 130, .bin .add (.tmp 129) (.const (.int .u32 1)), none, [6]⟩, 
 ⟨some 131, .index (.const (.str [48, 48, 48, 49, 48, 50, 48, 51, 48, 52, 48, 53, 48, 54, 48, 55, 48, 56, 48, 57, 49, 48, 49, 49, 49, 50, 49, 51, 49, 52, 49, 53, 49, 54, 49, 55, 49, 56, 49, 57, 50, 48, 50, 49, 50, 50, 50, 51, 50, 52, 50, 53, 50, 54, 50, 55, 50, 56, 50, 57, 51, 48, 51, 49, 51, 50, 51, 51, 51, 52, 51, 53, 51, 54, 51, 55, 51, 56, 51, 57, 52, 48, 52, 49, 52, 50, 52, 51, 52, 52, 52, 53, 52, 54, 52, 55, 52, 56, 52, 57, 53, 48, 53, 49, 53, 50, 53, 51, 53, 52, 53, 53, 53, 54, 53, 55, 53, 56, 53, 57, 54, 48, 54, 49, 54, 50, 54, 51, 54, 52, 54, 53, 54, 54, 54, 55, 54, 56, 54, 57, 55, 48, 55, 49, 55, 50, 55, 51, 55, 52, 55, 53, 55, 54, 55, 55, 55, 56, 55, 57, 56, 48, 56, 49, 56, 50, 56, 51, 56, 52, 56, 53, 56, 54, 56, 55, 56, 56, 56, 57, 57, 48, 57, 49, 57, 50, 57, 51, 57, 52, 57, 53, 57, 54, 57, 55, 57, 56, 57, 57])) (.tmp 130), none, [7]⟩, 
 ⟨some 132, .mov (.tmp 14), none, []⟩, 
 ⟨some 133, .index (.const (.str [48, 48, 48, 49, 48, 50, 48, 51, 48, 52, 48, 53, 48, 54, 48, 55, 48, 56, 48, 57, 49, 48, 49, 49, 49, 50, 49, 51, 49, 52, 49, 53, 49, 54, 49, 55, 49, 56, 49, 57, 50, 48, 50, 49, 50, 50, 50, 51, 50, 52, 50, 53, 50, 54, 50, 55, 50, 56, 50, 57, 51, 48, 51, 49, 51, 50, 51, 51, 51, 52, 51, 53, 51, 54, 51, 55, 51, 56, 51, 57, 52, 48, 52, 49, 52, 50, 52, 51, 52, 52, 52, 53, 52, 54, 52, 55, 52, 56, 52, 57, 53, 48, 53, 49, 53, 50, 53, 51, 53, 52, 53, 53, 53, 54, 53, 55, 53, 56, 53, 57, 54, 48, 54, 49, 54, 50, 54, 51, 54, 52, 54, 53, 54, 54, 54, 55, 54, 56, 54, 57, 55, 48, 55, 49, 55, 50, 55, 51, 55, 52, 55, 53, 55, 54, 55, 55, 55, 56, 55, 57, 56, 48, 56, 49, 56, 50, 56, 51, 56, 52, 56, 53, 56, 54, 56, 55, 56, 56, 56, 57, 57, 48, 57, 49, 57, 50, 57, 51, 57, 52, 57, 53, 57, 54, 57, 55, 57, 56, 57, 57])) (.tmp 132), none, [9]⟩, 
 ⟨some 134, .indexAddr 1 (.tmp 123) (.tmp 125), none, [0, 2, 0, 1, 2, 6, 7, 8]⟩, 
 ⟨none, .store 1 (.tmp 134) (.tmp 131), none, [11, 8, 0, 1, 2, 6, 7, 8]⟩, 
 ⟨some 135, .indexAddr 1 (.tmp 126) (.tmp 128), none, [3, 5, 0, 1, 2, 3, 4, 5, 6, 7, 8, 9, 10, 11, 12]⟩, 
 ⟨none, .store 1 (.tmp 135) (.tmp 133), none, [13, 10, 12, 0, 1, 2, 3, 4, 5, 6, 7, 8, 9, 10, 11, 12]⟩]
def c66r23 : List AOper := [
 ⟨some 145, .mov (.tmp 0), none, []⟩, 
 ⟨some 146, .mov (.tmp 4), none, []⟩, 
 ⟨some 147, .bin .sub (.tmp 146) (.const (.int .i64 1)), none, [1]⟩, 
 ⟨some 148, .mov (.tmp 0), none, []⟩, 
 ⟨some 149, .mov (.tmp 4), none, []⟩, 
 ⟨some 150, .bin .sub (.tmp 149) (.const (.int .i64 2)), none, [4]⟩, 
 ⟨some 151, .mov (.tmp 16), none, []⟩, 
 ⟨some 152, .bin .add (.tmp 151) (.const (.int .u32 1)), none, [6]⟩, 
 ⟨some 153, .index (.const (.str [48, 48, 48, 49, 48, 50, 48, 51, 48, 52, 48, 53, 48, 54, 48, 55, 48, 56, 48, 57, 49, 48, 49, 49, 49, 50, 49, 51, 49, 52, 49, 53, 49, 54, 49, 55, 49, 56, 49, 57, 50, 48, 50, 49, 50, 50, 50, 51, 50, 52, 50, 53, 50, 54, 50, 55, 50, 56, 50, 57, 51, 48, 51, 49, 51, 50, 51, 51, 51, 52, 51, 53, 51, 54, 51, 55, 51, 56, 51, 57, 52, 48, 52, 49, 52, 50, 52, 51, 52, 52, 52, 53, 52, 54, 52, 55, 52, 56, 52, 57, 53, 48, 53, 49, 53, 50, 53, 51, 53, 52, 53, 53, 53, 54, 53, 55, 53, 56, 53, 57, 54, 48, 54, 49, 54, 50, 54, 51, 54, 52, 54, 53, 54, 54, 54, 55, 54, 56, 54, 57, 55, 48, 55, 49, 55, 50, 55, 51, 55, 52, 55, 53, 55, 54, 55, 55, 55, 56, 55, 57, 56, 48, 56, 49, 56, 50, 56, 51, 56, 52, 56, 53, 56, 54, 56, 55, 56, 56, 56, 57, 57, 48, 57, 49, 57, 50, 57, 51, 57, 52, 57, 53, 57, 54, 57, 55, 57, 56, 57, 57])) (.tmp 152), none, [7]⟩, 
 ⟨some 154, .mov (.tmp 16), none, []⟩, 
 ⟨some 155, .index (.const (.str [48, 48, 48, 49, 48, 50, 48, 51, 48, 52, 48, 53, 48, 54, 48, 55, 48, 56, 48, 57, 49, 48, 49, 49, 49, 50, 49, 51, 49, 52, 49, 53, 49, 54, 49, 55, 49, 56, 49, 57, 50, 48, 50, 49, 50, 50, 50, 51, 50, 52, 50, 53, 50, 54, 50, 55, 50, 56, 50, 57, 51, 48, 51, 49, 51, 50, 51, 51, 51, 52, 51, 53, 51, 54, 51, 55, 51, 56, 51, 57, 52, 48, 52, 49, 52, 50, 52, 51, 52, 52, 52, 53, 52, 54, 52, 55, 52, 56, 52, 57, 53, 48, 53, 49, 53, 50, 53, 51, 53, 52, 53, 53, 53, 54, 53, 55, 53, 56, 53, 57, 54, 48, 54, 49, 54, 50, 54, 51, 54, 52, 54, 53, 54, 54, 54, 55, 54, 56, 54, 57, 55, 48, 55, 49, 55, 50, 55, 51, 55, 52, 55, 53, 55, 54, 55, 55, 55, 56, 55, 57, 56, 48, 56, 49, 56, 50, 56, 51, 56, 52, 56, 53, 56, 54, 56, 55, 56, 56, 56, 57, 57, 48, 57, 49, 57, 50, 57, 51, 57, 52, 57, 53, 57, 54, 57, 55, 57, 56, 57, 57])) (.tmp 154), none, [9]⟩, 
 ⟨some 156, .indexAddr 1 (.tmp 145) (.tmp 147), none, [0, 2, 0, 1, 2, 6, 7, 8]⟩, 
 ⟨none, .store 1 (.tmp 156) (.tmp 153), none, [11, 8, 0, 1, 2, 6, 7, 8]⟩, 
 ⟨some 157, .indexAddr 1 (.tmp 148) (.tmp 150), none, [3, 5, 0, 1, 2, 3, 4, 5, 6, 7, 8, 9, 10, 11, 12]⟩, 
 ⟨none, .store 1 (.tmp 157) (.tmp 155), none, [13, 10, 12, 0, 1, 2, 3, 4, 5, 6, 7, 8, 9, 10, 11, 12]⟩]
/-- internal/strconv.formatBase10 -/
def c66 : ACode :=
 .seq (.region [
  ⟨some 17, .mov (.tmp 0), none, []⟩, 
  ⟨some 18, .len false (.tmp 17), none, []⟩, 
  ⟨some 4, .mov (.tmp 18), none, []⟩] [17, 18])
 (.seq (.block 0 (.loop (.seq (.seq (.region [
    ⟨some 19, .mov (.tmp 4), none, []⟩, 
    ⟨some 20, .bin .geq (.tmp 19) (.const (.int .i64 8)), none, []⟩] [19])
   (.cond (.tmp 20)
    (.skip)
    (.exit 0)))
   (.block 1 (.seq (.region [
     ⟨some 21, .mov (.tmp 1), none, []⟩, 
     ⟨some 22, .bin .rem (.tmp 21) (.const (.int .u64 100000000)), none, []⟩, 
     ⟨some 23, .conv .u32 (.tmp 22), none, []⟩, 
     ⟨some 5, .mov (.tmp 23), none, []⟩] [21, 22, 23])
    (.seq (.region [
     ⟨some 24, .mov (.tmp 1), none, []⟩, 
     ⟨some 25, .bin .quo (.tmp 24) (.const (.int .u64 100000000)), none, []⟩, 
     ⟨some 1, .mov (.tmp 25), none, []⟩] [24, 25])
    (.seq (.region [
     ⟨some 26, .mov (.tmp 5), none, []⟩, 
     ⟨some 27, .bin .quo (.tmp 26) (.const (.int .u32 10000)), none, []⟩, 
     ⟨some 28, .mov (.tmp 5), none, []⟩, 
     ⟨some 29, .bin .rem (.tmp 28) (.const (.int .u32 10000)), none, []⟩, 
     ⟨some 6, .mov (.tmp 27), none, []⟩, 
     ⟨some 7, .mov (.tmp 29), none, []⟩] [26, 27, 28, 29])
    (.seq (.region [
     ⟨some 30, .mov (.tmp 7), none, []⟩, 
     ⟨some 31, .bin .quo (.tmp 30) (.const (.int .u32 100)), none, []⟩, 
     ⟨some 32, .bin .mul (.tmp 31) (.const (.int .u32 2)), none, []⟩, 
     ⟨some 33, .mov (.tmp 7), none, []⟩, 
     ⟨some 34, .bin .rem (.tmp 33) (.const (.int .u32 100)), none, []⟩, 
     ⟨some 35, .bin .mul (.tmp 34) (.const (.int .u32 2)), none, []⟩, 
     ⟨some 8, .mov (.tmp 32), none, []⟩, 
     ⟨some 9, .mov (.tmp 35), none, []⟩] [30, 31, 32, 33, 34, 35])
    (.seq (.region [
     ⟨some 36, .mov (.tmp 6), none, []⟩, 
     ⟨some 37, .bin .quo (.tmp 36) (.const (.int .u32 100)), none, []⟩, 
     ⟨some 38, .bin .mul (.tmp 37) (.const (.int .u32 2)), none, []⟩, 
     ⟨some 39, .mov (.tmp 6), none, []⟩, 
     ⟨some 40, .bin .rem (.tmp 39) (.const (.int .u32 100)), none, []⟩, 
     ⟨some 41, .bin .mul (.tmp 40) (.const (.int .u32 2)), none, []⟩, 
     ⟨some 10, .mov (.tmp 38), none, []⟩, 
     ⟨some 11, .mov (.tmp 41), none, []⟩] [36, 37, 38, 39, 40, 41])
    (.seq (.dregion c66r7 [(0, false, []), (1, false, []), (2, false, []), (3, false, []), (4, false, []), (5, false, []), (6, false, []), (7, false, []), (8, false, []), (9, false, []), (10, false, []), (11, false, []), (12, true, []), (13, false, []), (14, true, [])] [42, 43, 44, 45, 46, 47, 48, 49, 50, 51, 52, 53, 54])
    (.seq (.dregion c66r8 [(0, false, []), (1, false, []), (2, false, []), (3, false, []), (4, false, []), (5, false, []), (6, false, []), (7, false, []), (8, false, []), (9, false, []), (10, false, []), (11, false, []), (12, true, []), (13, false, []), (14, true, [])] [55, 56, 57, 58, 59, 60, 61, 62, 63, 64, 65, 66, 67])
    (.seq (.dregion c66r9 [(0, false, []), (1, false, []), (2, false, []), (3, false, []), (4, false, []), (5, false, []), (6, false, []), (7, false, []), (8, false, []), (9, false, []), (10, false, []), (11, false, []), (12, true, []), (13, false, []), (14, true, [])] [68, 69, 70, 71, 72, 73, 74, 75, 76, 77, 78, 79, 80])
    (.seq (.dregion c66r10 [(0, false, []), (1, false, []), (2, false, []), (3, false, []), (4, false, []), (5, false, []), (6, false, []), (7, false, []), (8, false, []), (9, false, []), (10, false, []), (11, false, []), (12, true, []), (13, false, []), (14, true, [])] [81, 82, 83, 84, 85, 86, 87, 88, 89, 90, 91, 92, 93])
    (.region [
     ⟨some 94, .mov (.tmp 4), none, []⟩, 
     ⟨some 95, .bin .sub (.tmp 94) (.const (.int .i64 8)), none, []⟩, 
     ⟨some 4, .mov (.tmp 95), none, []⟩] [94, 95]))))))))))))))
 (.seq (.region [
  ⟨some 96, .mov (.tmp 1), none, []⟩, 
  ⟨some 97, .conv .u32 (.tmp 96), none, []⟩, 
  ⟨some 12, .mov (.tmp 97), none, []⟩] [96, 97])
 (.seq (.seq (.region [
  ⟨some 98, .mov (.tmp 4), none, []⟩, 
  ⟨some 99, .bin .geq (.tmp 98) (.const (.int .i64 4)), none, []⟩] [98])
 (.cond (.tmp 99)
  (.seq (.region [
   ⟨some 100, .mov (.tmp 12), none, []⟩, 
   ⟨some 101, .bin .rem (.tmp 100) (.const (.int .u32 10000)), none, []⟩, 
   ⟨some 13, .mov (.tmp 101), none, []⟩] [100, 101])
  (.seq (.region [
   ⟨some 102, .mov (.tmp 12), none, []⟩, 
   ⟨some 103, .bin .quo (.tmp 102) (.const (.int .u32 10000)), none, []⟩, 
   ⟨some 12, .mov (.tmp 103), none, []⟩] [102, 103])
  (.seq (.region [
   ⟨some 104, .mov (.tmp 13), none, []⟩, 
   ⟨some 105, .bin .quo (.tmp 104) (.const (.int .u32 100)), none, []⟩, 
   ⟨some 106, .bin .mul (.tmp 105) (.const (.int .u32 2)), none, []⟩, 
   ⟨some 107, .mov (.tmp 13), none, []⟩, 
   ⟨some 108, .bin .rem (.tmp 107) (.const (.int .u32 100)), none, []⟩, 
   ⟨some 109, .bin .mul (.tmp 108) (.const (.int .u32 2)), none, []⟩, 
   ⟨some 14, .mov (.tmp 106), none, []⟩, 
   ⟨some 15, .mov (.tmp 109), none, []⟩] [104, 105, 106, 107, 108, 109])
  (.seq (.dregion c66r17 [(0, false, []), (1, false, []), (2, false, []), (3, false, []), (4, false, []), (5, false, []), (6, false, []), (7, false, []), (8, false, []), (9, false, []), (10, false, []), (11, false, []), (12, true, []), (13, false, []), (14, true, [])] [110, 111, 112, 113, 114, 115, 116, 117, 118, 119, 120, 121, 122])
  (.seq (.dregion c66r18 [(0, false, []), (1, false, []), (2, false, []), (3, false, []), (4, false, []), (5, false, []), (6, false, []), (7, false, []), (8, false, []), (9, false, []), (10, false, []), (11, false, []), (12, true, []), (13, false, []), (14, true, [])] [123, 124, 125, 126, 127, 128, 129, 130, 131, 132, 133, 134, 135])
  (.region [
   ⟨some 136, .mov (.tmp 4), none, []⟩, 
   ⟨some 137, .bin .sub (.tmp 136) (.const (.int .i64 4)), none, []⟩, 
   ⟨some 4, .mov (.tmp 137), none, []⟩] [136, 137]))))))
  (.skip)))
 (.seq (.seq (.region [
  ⟨some 138, .mov (.tmp 4), none, []⟩, 
  ⟨some 139, .bin .geq (.tmp 138) (.const (.int .i64 2)), none, []⟩] [138])
 (.cond (.tmp 139)
  (.seq (.region [
   ⟨some 140, .mov (.tmp 12), none, []⟩, 
   ⟨some 141, .bin .rem (.tmp 140) (.const (.int .u32 100)), none, []⟩, 
   ⟨some 142, .bin .mul (.tmp 141) (.const (.int .u32 2)), none, []⟩, 
   ⟨some 16, .mov (.tmp 142), none, []⟩] [140, 141, 142])
  (.seq (.region [
   ⟨some 143, .mov (.tmp 12), none, []⟩, 
   ⟨some 144, .bin .quo (.tmp 143) (.const (.int .u32 100)), none, []⟩, 
   ⟨some 12, .mov (.tmp 144), none, []⟩] [143, 144])
  (.seq (.dregion c66r23 [(0, false, []), (1, false, []), (2, false, []), (3, false, []), (4, false, []), (5, false, []), (6, false, []), (7, false, []), (8, false, []), (9, false, []), (10, false, []), (11, false, []), (12, true, []), (13, false, []), (14, true, [])] [145, 146, 147, 148, 149, 150, 151, 152, 153, 154, 155, 156, 157])
  (.region [
   ⟨some 158, .mov (.tmp 4), none, []⟩, 
   ⟨some 159, .bin .sub (.tmp 158) (.const (.int .i64 2)), none, []⟩, 
   ⟨some 4, .mov (.tmp 159), none, []⟩] [158, 159]))))
  (.skip)))
 (.seq (.region [
  ⟨some 160, .mov (.tmp 4), none, []⟩, 
  ⟨some 161, .bin .gtr (.tmp 160) (.const (.int .i64 0)), none, []⟩] [160])
 (.cond (.tmp 161)
  (.region [
   ⟨some 162, .mov (.tmp 0), none, []⟩, 
   ⟨some 163, .mov (.tmp 12), none, []⟩, 
   ⟨some 164, .bin .add (.const (.int .u32 48)) (.tmp 163), none, []⟩, 
   ⟨some 165, .conv .u8 (.tmp 164), none, []⟩, 
   ⟨some 166, .indexAddr 1 (.tmp 162) (.const (.int .i64 0)), none, []⟩, 
   ⟨none, .store 1 (.tmp 166) (.tmp 165), none, []⟩] [162, 163, 164, 165, 166])
  (.skip)))))))
theorem ok66 : erase c66 = cCode Tryd.prog 167 ((Tryd.f66).body.getD .skip) := by kernel_rfl
theorem ord66 : ordsOk c66 = true := by kernel_rfl
theorem call66 {args : List SV} {h : Heap} {R : AEnd → Heap → Prop} (hn : Nat.ble args.length 167 = true) (hp : awp Tryd.prog c66 (finQ [] R) (argEnv 0 args) h) : ACall Tryd.prog 66 args h R :=
  acall_of_awp mixed Tryd.func66 rfl ord66 ok66 (by kernel_rfl) hn hp
def t66 : Tab := ⟨167, c66, []⟩
theorem tab66 : TabOk Tryd.prog 66 t66 := tabOk Tryd.func66 rfl ord66 ok66 (by kernel_rfl) rfl

/-- internal/strconv.formatBits -/
def c67 : ACode :=
 .seq (.region [
  ⟨some 10, .mov (.const .nils), none, []⟩, 
  ⟨some 11, .mov (.const (.str [])), none, []⟩] [])
 (.seq (.seq (.region [
  ⟨some 19, .mov (.tmp 2), none, []⟩, 
  ⟨some 20, .bin .lss (.tmp 19) (.const (.int .i64 2)), none, []⟩, 
  ⟨some 21, .mov (.tmp 20), none, []⟩, 
  ⟨some 22, .mov (.tmp 2), (some (21, false)), []⟩, 
  ⟨some 23, .bin .eql (.tmp 22) (.const (.int .i64 10)), (some (21, false)), []⟩, 
  ⟨some 24, .pick (.tmp 21) (.const (.bool true)) (.tmp 23), none, []⟩, 
  ⟨some 25, .mov (.tmp 24), none, []⟩, 
  ⟨some 26, .mov (.tmp 2), (some (25, false)), []⟩, 
  ⟨some 27, .bin .gtr (.tmp 26) (.const (.int .i64 36)), (some (25, false)), []⟩, 
  ⟨some 28, .pick (.tmp 25) (.const (.bool true)) (.tmp 27), none, []⟩] [19, 20, 21, 22, 23, 24, 25, 26, 27])
 (.cond (.tmp 28)
  (.region [
   ⟨some 29, .mkIface 9 (.const (.str [115, 116, 114, 99, 111, 110, 118, 58, 32, 105, 108, 108, 101, 103, 97, 108, 32, 65, 112, 112, 101, 110, 100, 73, 110, 116, 47, 70, 111, 114, 109, 97, 116, 73, 110, 116, 32, 98, 97, 115, 101])), none, []⟩, 
   ⟨none, .panic (.tmp 29), none, []⟩] [29])
  (.skip)))
 (.seq (.region [
  ⟨some 12, .boxR 129 65 (.const (.agg [(.int .u8 0), (.int .u8 0), (.int .u8 0), (.int .u8 0), (.int .u8 0), (.int .u8 0), (.int .u8 0), (.int .u8 0), (.int .u8 0), (.int .u8 0), (.int .u8 0), (.int .u8 0), (.int .u8 0), (.int .u8 0), (.int .u8 0), (.int .u8 0), (.int .u8 0), (.int .u8 0), (.int .u8 0), (.int .u8 0), (.int .u8 0), (.int .u8 0), (.int .u8 0), (.int .u8 0), (.int .u8 0), (.int .u8 0), (.int .u8 0), (.int .u8 0), (.int .u8 0), (.int .u8 0), (.int .u8 0), (.int .u8 0), (.int .u8 0), (.int .u8 0), (.int .u8 0), (.int .u8 0), (.int .u8 0), (.int .u8 0), (.int .u8 0), (.int .u8 0), (.int .u8 0), (.int .u8 0), (.int .u8 0), (.int .u8 0), (.int .u8 0), (.int .u8 0), (.int .u8 0), (.int .u8 0), (.int .u8 0), (.int .u8 0), (.int .u8 0), (.int .u8 0), (.int .u8 0), (.int .u8 0), (.int .u8 0), (.int .u8 0), (.int .u8 0), (.int .u8 0), (.int .u8 0), (.int .u8 0), (.int .u8 0), (.int .u8 0), (.int .u8 0), (.int .u8 0), (.int .u8 0)])), none, []⟩] [])
 (.seq (.region [
  ⟨some 13, .mov (.const (.int .i64 65)), none, []⟩] [])
 (.seq (.seq (.region [
  ⟨some 30, .mov (.tmp 3), none, []⟩] [])
 (.cond (.tmp 30)
  (.region [
   ⟨some 31, .mov (.tmp 1), none, []⟩, 
   ⟨some 32, .un .neg (.tmp 31), none, []⟩, 
   ⟨some 1, .mov (.tmp 32), none, []⟩] [31, 32])
  (.skip)))
 (.seq (.seq (.region [
  ⟨some 33, .mov (.tmp 2), none, []⟩, 
  ⟨some 34, .call 71 [(.tmp 33)], none, []⟩] [33])
 (.cond (.tmp 34)
  (.seq (.region [
   ⟨some 35, .mov (.tmp 2), none, []⟩, 
   ⟨some 36, .conv .u64 (.tmp 35), none, []⟩, 
   ⟨some 37, .call 72 [(.tmp 36)], none, []⟩, 
   ⟨some 38, .conv .u64 (.tmp 37), none, []⟩, 
   ⟨some 14, .mov (.tmp 38), none, []⟩] [35, 36, 37, 38])
  (.seq (.region [
   ⟨some 39, .mov (.tmp 2), none, []⟩, 
   ⟨some 40, .conv .u64 (.tmp 39), none, []⟩, 
   ⟨some 15, .mov (.tmp 40), none, []⟩] [39, 40])
  (.seq (.region [
   ⟨some 41, .mov (.tmp 2), none, []⟩, 
   ⟨some 42, .conv .u64 (.tmp 41), none, []⟩, 
   ⟨some 43, .bin .sub (.tmp 42) (.const (.int .u64 1)), none, []⟩, 
   ⟨some 16, .mov (.tmp 43), none, []⟩] [41, 42, 43])
  (.seq (.block 0 (.loop (.seq (.seq (.region [
     ⟨some 44, .mov (.tmp 1), none, []⟩, 
     ⟨some 45, .mov (.tmp 15), none, []⟩, 
     ⟨some 46, .bin .geq (.tmp 44) (.tmp 45), none, []⟩] [44, 45])
    (.cond (.tmp 46)
     (.skip)
     (.exit 0)))
    (.block 1 (.seq (.region [
      ⟨some 47, .mov (.tmp 13), none, []⟩, 
      ⟨some 48, .bin .sub (.tmp 47) (.const (.int .i64 1)), none, []⟩, 
      ⟨some 13, .mov (.tmp 48), none, []⟩] [47, 48])
     (.seq (.region [
      ⟨some 49, .mov (.tmp 13), none, []⟩, 
      ⟨some 50, .mov (.tmp 1), none, []⟩, 
      ⟨some 51, .mov (.tmp 16), none, []⟩, 
      ⟨some 52, .bin .and (.tmp 50) (.tmp 51), none, []⟩, 
      ⟨some 53, .index (.const (.str [48, 49, 50, 51, 52, 53, 54, 55, 56, 57, 97, 98, 99, 100, 101, 102, 103, 104, 105, 106, 107, 108, 109, 110, 111, 112, 113, 114, 115, 116, 117, 118, 119, 120, 121, 122])) (.tmp 52), none, []⟩, 
      ⟨some 54, .indexArr 65 1 (.tmp 12) (.tmp 49), none, []⟩, 
      ⟨none, .store 1 (.tmp 54) (.tmp 53), none, []⟩] [49, 50, 51, 52, 53, 54])
     (.region [
      ⟨some 55, .mov (.tmp 1), none, []⟩, 
      ⟨some 56, .mov (.tmp 14), none, []⟩, 
      ⟨some 57, .bin .shr (.tmp 55) (.tmp 56), none, []⟩, 
      ⟨some 1, .mov (.tmp 57), none, []⟩] [55, 56, 57])))))))
  (.seq (.region [
   ⟨some 58, .mov (.tmp 13), none, []⟩, 
   ⟨some 59, .bin .sub (.tmp 58) (.const (.int .i64 1)), none, []⟩, 
   ⟨some 13, .mov (.tmp 59), none, []⟩] [58, 59])
  (.region [
   ⟨some 60, .mov (.tmp 13), none, []⟩, 
   ⟨some 61, .mov (.tmp 1), none, []⟩, 
   ⟨some 62, .index (.const (.str [48, 49, 50, 51, 52, 53, 54, 55, 56, 57, 97, 98, 99, 100, 101, 102, 103, 104, 105, 106, 107, 108, 109, 110, 111, 112, 113, 114, 115, 116, 117, 118, 119, 120, 121, 122])) (.tmp 61), none, []⟩, 
   ⟨some 63, .indexArr 65 1 (.tmp 12) (.tmp 60), none, []⟩, 
   ⟨none, .store 1 (.tmp 63) (.tmp 62), none, []⟩] [60, 61, 62, 63]))))))
  (.seq (.region [
   ⟨some 64, .mov (.tmp 2), none, []⟩, 
   ⟨some 65, .conv .u64 (.tmp 64), none, []⟩, 
   ⟨some 17, .mov (.tmp 65), none, []⟩] [64, 65])
  (.seq (.block 2 (.loop (.seq (.seq (.region [
     ⟨some 66, .mov (.tmp 1), none, []⟩, 
     ⟨some 67, .mov (.tmp 17), none, []⟩, 
     ⟨some 68, .bin .geq (.tmp 66) (.tmp 67), none, []⟩] [66, 67])
    (.cond (.tmp 68)
     (.skip)
     (.exit 2)))
    (.block 3 (.seq (.region [
      ⟨some 69, .mov (.tmp 13), none, []⟩, 
      ⟨some 70, .bin .sub (.tmp 69) (.const (.int .i64 1)), none, []⟩, 
      ⟨some 13, .mov (.tmp 70), none, []⟩] [69, 70])
     (.seq (.region [
      ⟨some 71, .mov (.tmp 1), none, []⟩, 
      ⟨some 72, .mov (.tmp 17), none, []⟩, 
      ⟨some 73, .bin .quo (.tmp 71) (.tmp 72), none, []⟩, 
      ⟨some 18, .mov (.tmp 73), none, []⟩] [71, 72, 73])
     (.seq (.region [
      ⟨some 74, .mov (.tmp 13), none, []⟩, 
      ⟨some 75, .mov (.tmp 1), none, []⟩, 
      ⟨some 76, .mov (.tmp 18), none, []⟩, 
      ⟨some 77, .mov (.tmp 17), none, []⟩, 
      ⟨some 78, .bin .mul (.tmp 76) (.tmp 77), none, []⟩, 
      ⟨some 79, .bin .sub (.tmp 75) (.tmp 78), none, []⟩, 
      ⟨some 80, .index (.const (.str [48, 49, 50, 51, 52, 53, 54, 55, 56, 57, 97, 98, 99, 100, 101, 102, 103, 104, 105, 106, 107, 108, 109, 110, 111, 112, 113, 114, 115, 116, 117, 118, 119, 120, 121, 122])) (.tmp 79), none, []⟩, 
      ⟨some 81, .indexArr 65 1 (.tmp 12) (.tmp 74), none, []⟩, 
      ⟨none, .store 1 (.tmp 81) (.tmp 80), none, []⟩] [74, 75, 76, 77, 78, 79, 80, 81])
     (.region [
      ⟨some 82, .mov (.tmp 18), none, []⟩, 
      ⟨some 1, .mov (.tmp 82), none, []⟩] [82]))))))))
  (.seq (.region [
   ⟨some 83, .mov (.tmp 13), none, []⟩, 
   ⟨some 84, .bin .sub (.tmp 83) (.const (.int .i64 1)), none, []⟩, 
   ⟨some 13, .mov (.tmp 84), none, []⟩] [83, 84])
  (.region [
   ⟨some 85, .mov (.tmp 13), none, []⟩, 
   ⟨some 86, .mov (.tmp 1), none, []⟩, 
   ⟨some 87, .index (.const (.str [48, 49, 50, 51, 52, 53, 54, 55, 56, 57, 97, 98, 99, 100, 101, 102, 103, 104, 105, 106, 107, 108, 109, 110, 111, 112, 113, 114, 115, 116, 117, 118, 119, 120, 121, 122])) (.tmp 86), none, []⟩, 
   ⟨some 88, .indexArr 65 1 (.tmp 12) (.tmp 85), none, []⟩, 
   ⟨none, .store 1 (.tmp 88) (.tmp 87), none, []⟩] [85, 86, 87, 88]))))))
 (.seq (.seq (.region [
  ⟨some 89, .mov (.tmp 3), none, []⟩] [])
 (.cond (.tmp 89)
  (.seq (.region [
   ⟨some 90, .mov (.tmp 13), none, []⟩, 
   ⟨some 91, .bin .sub (.tmp 90) (.const (.int .i64 1)), none, []⟩, 
   ⟨some 13, .mov (.tmp 91), none, []⟩] [90, 91])
  (.region [
   ⟨some 92, .mov (.tmp 13), none, []⟩, 
   ⟨some 93, .indexArr 65 1 (.tmp 12) (.tmp 92), none, []⟩, 
   ⟨none, .store 1 (.tmp 93) (.const (.int .u8 45)), none, []⟩] [92, 93]))
  (.skip)))
 (.seq (.seq (.region [
  ⟨some 94, .mov (.tmp 4), none, []⟩] [])
 (.cond (.tmp 94)
  (.seq (.region [
   ⟨some 95, .mov (.tmp 0), none, []⟩, 
   ⟨some 96, .mov (.tmp 13), none, []⟩, 
   ⟨some 97, .sliceArr 65 (.tmp 12) (some (.tmp 96)) none, none, []⟩, 
   ⟨some 98, .append 5 1 1 (.tmp 95) (.tmp 97), none, []⟩, 
   ⟨some 10, .mov (.tmp 98), none, []⟩] [95, 96, 97, 98])
  (.ret))
  (.skip)))
 (.seq (.region [
  ⟨some 99, .mov (.tmp 13), none, []⟩, 
  ⟨some 100, .sliceArr 65 (.tmp 12) (some (.tmp 99)) none, none, []⟩, 
  ⟨some 101, .toStr (.tmp 100), none, []⟩, 
  ⟨some 11, .mov (.tmp 101), none, []⟩] [99, 100, 101])
 (.ret)))))))))
theorem ok67 : erase c67 = cCode Tryd.prog 102 ((Tryd.f67).body.getD .skip) := by kernel_rfl
theorem ord67 : ordsOk c67 = true := by kernel_rfl
theorem call67 {args : List SV} {h : Heap} {R : AEnd → Heap → Prop} (hn : Nat.ble args.length 102 = true) (hp : awp Tryd.prog c67 (finQ [.tmp 10, .tmp 11] R) (argEnv 0 args) h) : ACall Tryd.prog 67 args h R :=
  acall_of_awp mixed Tryd.func67 rfl ord67 ok67 (by kernel_rfl) hn hp
def t67 : Tab := ⟨102, c67, [.tmp 10, .tmp 11]⟩
theorem tab67 : TabOk Tryd.prog 67 t67 := tabOk Tryd.func67 rfl ord67 ok67 (by kernel_rfl) rfl

/-- internal/strconv.log10Pow2 -/
def c68 : ACode :=
 .seq (.region [
  ⟨some 2, .mov (.const (.int .i64 0)), none, []⟩] [])
 (.seq (.region [
  ⟨some 3, .mov (.tmp 0), none, []⟩, 
  ⟨some 4, .bin .mul (.tmp 3) (.const (.int .i64 78913)), none, []⟩, 
  ⟨some 5, .bin .shr (.tmp 4) (.const (.int .u64 18)), none, []⟩, 
  ⟨some 2, .mov (.tmp 5), none, []⟩] [3, 4, 5])
 (.ret))
theorem ok68 : erase c68 = cCode Tryd.prog 6 ((Tryd.f68).body.getD .skip) := by kernel_rfl
theorem ord68 : ordsOk c68 = true := by kernel_rfl
theorem call68 {args : List SV} {h : Heap} {R : AEnd → Heap → Prop} (hn : Nat.ble args.length 6 = true) (hp : awp Tryd.prog c68 (finQ [.tmp 2] R) (argEnv 0 args) h) : ACall Tryd.prog 68 args h R :=
  acall_of_awp mixed Tryd.func68 rfl ord68 ok68 (by kernel_rfl) hn hp
def t68 : Tab := ⟨6, c68, [.tmp 2]⟩
theorem tab68 : TabOk Tryd.prog 68 t68 := tabOk Tryd.func68 rfl ord68 ok68 (by kernel_rfl) rfl

/-- math/bits.Len64 -/
def c69 : ACode :=
 .seq (.region [
  ⟨some 2, .mov (.const (.int .i64 0)), none, []⟩] [])
 (.seq (.seq (.region [
  ⟨some 3, .mov (.tmp 0), none, []⟩, 
  ⟨some 4, .bin .geq (.tmp 3) (.const (.int .u64 4294967296)), none, []⟩] [3])
 (.cond (.tmp 4)
  (.seq (.region [
   ⟨some 5, .mov (.tmp 0), none, []⟩, 
   ⟨some 6, .bin .shr (.tmp 5) (.const (.int .u64 32)), none, []⟩, 
   ⟨some 0, .mov (.tmp 6), none, []⟩] [5, 6])
  (.region [
   ⟨some 2, .mov (.const (.int .i64 32)), none, []⟩] []))
  (.skip)))
 (.seq (.seq (.region [
  ⟨some 7, .mov (.tmp 0), none, []⟩, 
  ⟨some 8, .bin .geq (.tmp 7) (.const (.int .u64 65536)), none, []⟩] [7])
 (.cond (.tmp 8)
  (.seq (.region [
   ⟨some 9, .mov (.tmp 0), none, []⟩, 
   ⟨some 10, .bin .shr (.tmp 9) (.const (.int .u64 16)), none, []⟩, 
   ⟨some 0, .mov (.tmp 10), none, []⟩] [9, 10])
  (.region [
   ⟨some 11, .mov (.tmp 2), none, []⟩, 
   ⟨some 12, .bin .add (.tmp 11) (.const (.int .i64 16)), none, []⟩, 
   ⟨some 2, .mov (.tmp 12), none, []⟩] [11, 12]))
  (.skip)))
 (.seq (.seq (.region [
  ⟨some 13, .mov (.tmp 0), none, []⟩, 
  ⟨some 14, .bin .geq (.tmp 13) (.const (.int .u64 256)), none, []⟩] [13])
 (.cond (.tmp 14)
  (.seq (.region [
   ⟨some 15, .mov (.tmp 0), none, []⟩, 
   ⟨some 16, .bin .shr (.tmp 15) (.const (.int .u64 8)), none, []⟩, 
   ⟨some 0, .mov (.tmp 16), none, []⟩] [15, 16])
  (.region [
   ⟨some 17, .mov (.tmp 2), none, []⟩, 
   ⟨some 18, .bin .add (.tmp 17) (.const (.int .i64 8)), none, []⟩, 
   ⟨some 2, .mov (.tmp 18), none, []⟩] [17, 18]))
  (.skip)))
 (.seq (.region [
  ⟨some 19, .mov (.tmp 2), none, []⟩, 
  ⟨some 20, .mov (.tmp 0), none, []⟩, 
  ⟨some 21, .conv .u8 (.tmp 20), none, []⟩, 
  ⟨some 22, .index (.const (.str [0, 1, 2, 2, 3, 3, 3, 3, 4, 4, 4, 4, 4, 4, 4, 4, 5, 5, 5, 5, 5, 5, 5, 5, 5, 5, 5, 5, 5, 5, 5, 5, 6, 6, 6, 6, 6, 6, 6, 6, 6, 6, 6, 6, 6, 6, 6, 6, 6, 6, 6, 6, 6, 6, 6, 6, 6, 6, 6, 6, 6, 6, 6, 6, 7, 7, 7, 7, 7, 7, 7, 7, 7, 7, 7, 7, 7, 7, 7, 7, 7, 7, 7, 7, 7, 7, 7, 7, 7, 7, 7, 7, 7, 7, 7, 7, 7, 7, 7, 7, 7, 7, 7, 7, 7, 7, 7, 7, 7, 7, 7, 7, 7, 7, 7, 7, 7, 7, 7, 7, 7, 7, 7, 7, 7, 7, 7, 7, 8, 8, 8, 8, 8, 8, 8, 8, 8, 8, 8, 8, 8, 8, 8, 8, 8, 8, 8, 8, 8, 8, 8, 8, 8, 8, 8, 8, 8, 8, 8, 8, 8, 8, 8, 8, 8, 8, 8, 8, 8, 8, 8, 8, 8, 8, 8, 8, 8, 8, 8, 8, 8, 8, 8, 8, 8, 8, 8, 8, 8, 8, 8, 8, 8, 8, 8, 8, 8, 8, 8, 8, 8, 8, 8, 8, 8, 8, 8, 8, 8, 8, 8, 8, 8, 8, 8, 8, 8, 8, 8, 8, 8, 8, 8, 8, 8, 8, 8, 8, 8, 8, 8, 8, 8, 8, 8, 8, 8, 8, 8, 8, 8, 8, 8, 8, 8, 8, 8, 8, 8, 8, 8, 8, 8, 8, 8, 8])) (.tmp 21), none, []⟩, 
  ⟨some 23, .conv .i64 (.tmp 22), none, []⟩, 
  ⟨some 24, .bin .add (.tmp 19) (.tmp 23), none, []⟩, 
  ⟨some 2, .mov (.tmp 24), none, []⟩] [19, 20, 21, 22, 23, 24])
 (.ret)))))
theorem ok69 : erase c69 = cCode Tryd.prog 25 ((Tryd.f69).body.getD .skip) := by kernel_rfl
theorem ord69 : ordsOk c69 = true := by kernel_rfl
theorem call69 {args : List SV} {h : Heap} {R : AEnd → Heap → Prop} (hn : Nat.ble args.length 25 = true) (hp : awp Tryd.prog c69 (finQ [.tmp 2] R) (argEnv 0 args) h) : ACall Tryd.prog 69 args h R :=
  acall_of_awp mixed Tryd.func69 rfl ord69 ok69 (by kernel_rfl) hn hp
def t69 : Tab := ⟨25, c69, [.tmp 2]⟩
theorem tab69 : TabOk Tryd.prog 69 t69 := tabOk Tryd.func69 rfl ord69 ok69 (by kernel_rfl) rfl

/-- internal/strconv.bool2[int] -/
def c70 : ACode :=
 .seq (.region [
  ⟨some 2, .mov (.const (.int .i64 0)), none, []⟩] [])
 (.seq (.seq (.region [
  ⟨some 3, .mov (.tmp 0), none, []⟩] [])
 (.cond (.tmp 3)
  (.seq (.region [
   ⟨some 2, .mov (.const (.int .i64 1)), none, []⟩] [])
  (.ret))
  (.skip)))
 (.seq (.region [
  ⟨some 2, .mov (.const (.int .i64 0)), none, []⟩] [])
 (.ret)))
theorem ok70 : erase c70 = cCode Tryd.prog 4 ((Tryd.f70).body.getD .skip) := by kernel_rfl
theorem ord70 : ordsOk c70 = true := by kernel_rfl
theorem call70 {args : List SV} {h : Heap} {R : AEnd → Heap → Prop} (hn : Nat.ble args.length 4 = true) (hp : awp Tryd.prog c70 (finQ [.tmp 2] R) (argEnv 0 args) h) : ACall Tryd.prog 70 args h R :=
  acall_of_awp mixed Tryd.func70 rfl ord70 ok70 (by kernel_rfl) hn hp
def t70 : Tab := ⟨4, c70, [.tmp 2]⟩
theorem tab70 : TabOk Tryd.prog 70 t70 := tabOk Tryd.func70 rfl ord70 ok70 (by kernel_rfl) rfl

/-- internal/strconv.isPowerOfTwo -/
def c71 : ACode :=
 .seq (.region [
  ⟨some 2, .mov (.const (.bool false)), none, []⟩] [])
 (.seq (.region [
  ⟨some 3, .mov (.tmp 0), none, []⟩, 
  ⟨some 4, .mov (.tmp 0), none, []⟩, 
  ⟨some 5, .bin .sub (.tmp 4) (.const (.int .i64 1)), none, []⟩, 
  ⟨some 6, .bin .and (.tmp 3) (.tmp 5), none, []⟩, 
  ⟨some 7, .bin .eql (.tmp 6) (.const (.int .i64 0)), none, []⟩, 
  ⟨some 2, .mov (.tmp 7), none, []⟩] [3, 4, 5, 6, 7])
 (.ret))
theorem ok71 : erase c71 = cCode Tryd.prog 8 ((Tryd.f71).body.getD .skip) := by kernel_rfl
theorem ord71 : ordsOk c71 = true := by kernel_rfl
theorem call71 {args : List SV} {h : Heap} {R : AEnd → Heap → Prop} (hn : Nat.ble args.length 8 = true) (hp : awp Tryd.prog c71 (finQ [.tmp 2] R) (argEnv 0 args) h) : ACall Tryd.prog 71 args h R :=
  acall_of_awp mixed Tryd.func71 rfl ord71 ok71 (by kernel_rfl) hn hp
def t71 : Tab := ⟨8, c71, [.tmp 2]⟩
theorem tab71 : TabOk Tryd.prog 71 t71 := tabOk Tryd.func71 rfl ord71 ok71 (by kernel_rfl) rfl

/-- math/bits.TrailingZeros -/
def c72 : ACode :=
 .seq (.region [
  ⟨some 2, .mov (.const (.int .i64 0)), none, []⟩] [])
 (.seq (.cond (.const (.bool false))
  (.seq (.region [
   ⟨some 3, .mov (.tmp 0), none, []⟩, 
   ⟨some 4, .conv .u32 (.tmp 3), none, []⟩, 
   ⟨some 5, .call 73 [(.tmp 4)], none, []⟩, 
   ⟨some 2, .mov (.tmp 5), none, []⟩] [3, 4, 5])
  (.ret))
  (.skip))
 (.seq (.region [
  ⟨some 6, .mov (.tmp 0), none, []⟩, 
  ⟨some 7, .call 74 [(.tmp 6)], none, []⟩, 
  ⟨some 2, .mov (.tmp 7), none, []⟩] [6, 7])
 (.ret)))
theorem ok72 : erase c72 = cCode Tryd.prog 8 ((Tryd.f72).body.getD .skip) := by kernel_rfl
theorem ord72 : ordsOk c72 = true := by kernel_rfl
theorem call72 {args : List SV} {h : Heap} {R : AEnd → Heap → Prop} (hn : Nat.ble args.length 8 = true) (hp : awp Tryd.prog c72 (finQ [.tmp 2] R) (argEnv 0 args) h) : ACall Tryd.prog 72 args h R :=
  acall_of_awp mixed Tryd.func72 rfl ord72 ok72 (by kernel_rfl) hn hp
def t72 : Tab := ⟨8, c72, [.tmp 2]⟩
theorem tab72 : TabOk Tryd.prog 72 t72 := tabOk Tryd.func72 rfl ord72 ok72 (by kernel_rfl) rfl

/-- math/bits.TrailingZeros32 -/
def c73 : ACode :=
 .seq (.region [
  ⟨some 2, .mov (.const (.int .i64 0)), none, []⟩] [])
 (.seq (.seq (.region [
  ⟨some 3, .mov (.tmp 0), none, []⟩, 
  ⟨some 4, .bin .eql (.tmp 3) (.const (.int .u32 0)), none, []⟩] [3])
 (.cond (.tmp 4)
  (.seq (.region [
   ⟨some 2, .mov (.const (.int .i64 32)), none, []⟩] [])
  (.ret))
  (.skip)))
 (.seq (.region [
  ⟨some 5, .mov (.tmp 0), none, []⟩, 
  ⟨some 6, .mov (.tmp 0), none, []⟩, 
  ⟨some 7, .un .neg (.tmp 6), none, []⟩, 
  ⟨some 8, .bin .and (.tmp 5) (.tmp 7), none, []⟩, 
  ⟨some 9, .bin .mul (.tmp 8) (.const (.int .u32 125613361)), none, []⟩, 
  ⟨some 10, .bin .shr (.tmp 9) (.const (.int .u64 27)), none, []⟩, 
  ⟨some 11, .indexArr 32 1 (.const (.glob 9)) (.tmp 10), none, []⟩, 
  ⟨some 12, .loadS (.tmp 11), none, []⟩, 
  ⟨some 13, .conv .i64 (.tmp 12), none, []⟩, 
  ⟨some 2, .mov (.tmp 13), none, []⟩] [5, 6, 7, 8, 9, 10, 11, 12, 13])
 (.ret)))
theorem ok73 : erase c73 = cCode Tryd.prog 14 ((Tryd.f73).body.getD .skip) := by kernel_rfl
theorem ord73 : ordsOk c73 = true := by kernel_rfl
theorem call73 {args : List SV} {h : Heap} {R : AEnd → Heap → Prop} (hn : Nat.ble args.length 14 = true) (hp : awp Tryd.prog c73 (finQ [.tmp 2] R) (argEnv 0 args) h) : ACall Tryd.prog 73 args h R :=
  acall_of_awp mixed Tryd.func73 rfl ord73 ok73 (by kernel_rfl) hn hp
def t73 : Tab := ⟨14, c73, [.tmp 2]⟩
theorem tab73 : TabOk Tryd.prog 73 t73 := tabOk Tryd.func73 rfl ord73 ok73 (by kernel_rfl) rfl

/-- math/bits.TrailingZeros64 -/
def c74 : ACode :=
 .seq (.region [
  ⟨some 2, .mov (.const (.int .i64 0)), none, []⟩] [])
 (.seq (.seq (.region [
  ⟨some 3, .mov (.tmp 0), none, []⟩, 
  ⟨some 4, .bin .eql (.tmp 3) (.const (.int .u64 0)), none, []⟩] [3])
 (.cond (.tmp 4)
  (.seq (.region [
   ⟨some 2, .mov (.const (.int .i64 64)), none, []⟩] [])
  (.ret))
  (.skip)))
 (.seq (.region [
  ⟨some 5, .mov (.tmp 0), none, []⟩, 
  ⟨some 6, .mov (.tmp 0), none, []⟩, 
  ⟨some 7, .un .neg (.tmp 6), none, []⟩, 
  ⟨some 8, .bin .and (.tmp 5) (.tmp 7), none, []⟩, 
  ⟨some 9, .bin .mul (.tmp 8) (.const (.int .u64 285870213051353865)), none, []⟩, 
  ⟨some 10, .bin .shr (.tmp 9) (.const (.int .u64 58)), none, []⟩, 
  ⟨some 11, .indexArr 64 1 (.const (.glob 10)) (.tmp 10), none, []⟩, 
  ⟨some 12, .loadS (.tmp 11), none, []⟩, 
  ⟨some 13, .conv .i64 (.tmp 12), none, []⟩, 
  ⟨some 2, .mov (.tmp 13), none, []⟩] [5, 6, 7, 8, 9, 10, 11, 12, 13])
 (.ret)))
theorem ok74 : erase c74 = cCode Tryd.prog 14 ((Tryd.f74).body.getD .skip) := by kernel_rfl
theorem ord74 : ordsOk c74 = true := by kernel_rfl
theorem call74 {args : List SV} {h : Heap} {R : AEnd → Heap → Prop} (hn : Nat.ble args.length 14 = true) (hp : awp Tryd.prog c74 (finQ [.tmp 2] R) (argEnv 0 args) h) : ACall Tryd.prog 74 args h R :=
  acall_of_awp mixed Tryd.func74 rfl ord74 ok74 (by kernel_rfl) hn hp
def t74 : Tab := ⟨14, c74, [.tmp 2]⟩
theorem tab74 : TabOk Tryd.prog 74 t74 := tabOk Tryd.func74 rfl ord74 ok74 (by kernel_rfl) rfl





































/-- gosem.cut.vars -/
def c111 : ACode :=
 .seq (.region [
  ⟨some 0, .bad, none, []⟩, 
  ⟨none, .store 32 (.const (.glob 9)) (.tmp 0), none, []⟩] [0])
 (.seq (.region [
  ⟨some 1, .bad, none, []⟩, 
  ⟨none, .store 64 (.const (.glob 10)) (.tmp 1), none, []⟩] [1])
 (.seq (.region [
  ⟨some 2, .bad, none, []⟩, 
  ⟨none, .store 20 (.const (.glob 8)) (.tmp 2), none, []⟩] [2])
 (.seq (.region [
  ⟨some 3, .build [(.int .u8 0), (.int .u8 0)] [(0, 1, (.const (.int .u8 128))), (1, 1, (.const (.int .u8 191)))], none, []⟩, 
  ⟨some 4, .build [(.int .u8 0), (.int .u8 0)] [(0, 1, (.const (.int .u8 160))), (1, 1, (.const (.int .u8 191)))], none, []⟩, 
  ⟨some 5, .build [(.int .u8 0), (.int .u8 0)] [(0, 1, (.const (.int .u8 128))), (1, 1, (.const (.int .u8 159)))], none, []⟩, 
  ⟨some 6, .build [(.int .u8 0), (.int .u8 0)] [(0, 1, (.const (.int .u8 144))), (1, 1, (.const (.int .u8 191)))], none, []⟩, 
  ⟨some 7, .build [(.int .u8 0), (.int .u8 0)] [(0, 1, (.const (.int .u8 128))), (1, 1, (.const (.int .u8 143)))], none, []⟩, 
  ⟨some 8, .bad, none, []⟩, 
  ⟨none, .store 32 (.const (.glob 3)) (.tmp 8), none, []⟩] [3, 4, 5, 6, 7, 8])
 (.seq (.region [
  ⟨some 9, .call 55 [(.const (.str [118, 97, 108, 117, 101, 32, 111, 117, 116, 32, 111, 102, 32, 114, 97, 110, 103, 101]))], none, []⟩, 
  ⟨none, .store 1 (.const (.glob 7)) (.tmp 9), none, []⟩] [9])
 (.seq (.region [
  ⟨some 10, .call 55 [(.const (.str [105, 110, 118, 97, 108, 105, 100, 32, 115, 121, 110, 116, 97, 120]))], none, []⟩, 
  ⟨none, .store 1 (.const (.glob 6)) (.tmp 10), none, []⟩] [10])
 (.seq (.region [
  ⟨some 11, .build [(.int .u16 0), (.int .u16 0), (.int .u16 0)] [(0, 1, (.const (.int .u16 9))), (1, 1, (.const (.int .u16 13))), (2, 1, (.const (.int .u16 1)))], none, []⟩, 
  ⟨some 12, .build [(.int .u16 0), (.int .u16 0), (.int .u16 0)] [(0, 1, (.const (.int .u16 32))), (1, 1, (.const (.int .u16 133))), (2, 1, (.const (.int .u16 101)))], none, []⟩, 
  ⟨some 13, .build [(.int .u16 0), (.int .u16 0), (.int .u16 0)] [(0, 1, (.const (.int .u16 160))), (1, 1, (.const (.int .u16 5760))), (2, 1, (.const (.int .u16 5600)))], none, []⟩, 
  ⟨some 14, .build [(.int .u16 0), (.int .u16 0), (.int .u16 0)] [(0, 1, (.const (.int .u16 8192))), (1, 1, (.const (.int .u16 8202))), (2, 1, (.const (.int .u16 1)))], none, []⟩, 
  ⟨some 15, .build [(.int .u16 0), (.int .u16 0), (.int .u16 0)] [(0, 1, (.const (.int .u16 8232))), (1, 1, (.const (.int .u16 8233))), (2, 1, (.const (.int .u16 1)))], none, []⟩, 
  ⟨some 16, .build [(.int .u16 0), (.int .u16 0), (.int .u16 0)] [(0, 1, (.const (.int .u16 8239))), (1, 1, (.const (.int .u16 8287))), (2, 1, (.const (.int .u16 48)))], none, []⟩, 
  ⟨some 17, .build [(.int .u16 0), (.int .u16 0), (.int .u16 0)] [(0, 1, (.const (.int .u16 12288))), (1, 1, (.const (.int .u16 12288))), (2, 1, (.const (.int .u16 1)))], none, []⟩, 
  ⟨some 18, .buildSlice 103 3 (.agg [(.int .u16 0), (.int .u16 0), (.int .u16 0)]) 7 [(0, (.tmp 11)), (1, (.tmp 12)), (2, (.tmp 13)), (3, (.tmp 14)), (4, (.tmp 15)), (5, (.tmp 16)), (6, (.tmp 17))], none, []⟩, 
  ⟨some 19, .build [.nils, .nils, (.int .i64 0)] [(0, 1, (.tmp 18)), (2, 1, (.const (.int .i64 2)))], none, []⟩, 
  ⟨some 20, .box 100 3 (.tmp 19), none, []⟩, 
  ⟨none, .store 1 (.const (.glob 11)) (.tmp 20), none, []⟩] [11, 12, 13, 14, 15, 16, 17, 18, 19, 20])
 (.seq (.region [
  ⟨some 21, .loadS (.const (.glob 11)), none, []⟩, 
  ⟨none, .store 1 (.const (.glob 4)) (.tmp 21), none, []⟩] [21])
 (.region [
  ⟨some 22, .bad, none, []⟩, 
  ⟨none, .store 256 (.const (.glob 1)) (.tmp 22), none, []⟩] [22]))))))))
theorem ok111 : erase c111 = cCode Tryd.prog 23 ((Tryd.f111).body.getD .skip) := by kernel_rfl
theorem ord111 : ordsOk c111 = true := by kernel_rfl
theorem call111 {args : List SV} {h : Heap} {R : AEnd → Heap → Prop} (hn : Nat.ble args.length 23 = true) (hp : awp Tryd.prog c111 (finQ [] R) (argEnv 0 args) h) : ACall Tryd.prog 111 args h R :=
  acall_of_awp mixed Tryd.func111 rfl ord111 ok111 (by kernel_rfl) hn hp
def t111 : Tab := ⟨23, c111, []⟩
theorem tab111 : TabOk Tryd.prog 111 t111 := tabOk Tryd.func111 rfl ord111 ok111 (by kernel_rfl) rfl


end Go.Proofs.YtboinbjiemmggaaDoor
