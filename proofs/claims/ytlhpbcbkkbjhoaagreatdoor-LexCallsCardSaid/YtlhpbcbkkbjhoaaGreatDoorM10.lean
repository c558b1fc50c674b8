/- Parts of the proof of PLexCalls, one behind the other. -/
import Derived.Test.YtlhpbcbkkbjhoaaGreatDoorM9
import Derived.Test.YtlhpbcbkkbjhoaaGreatDoorProg
import Derived.Test.YtlhpbcbkkbjhoaaGreatDoorM8
import Derived.KernelRfl
namespace Go.Proofs.YtlhpbcbkkbjhoaaGreatDoor
open Ab
set_option maxRecDepth 100000
theorem mixed : Tryz.prog.follows .mixedOrders = true := by kernel_rfl


/-- gosem.cut.init -/
def c2 : ACode :=
 .region [
  ⟨some 0, .bad, none, []⟩] [0]
theorem ok2 : erase c2 = cCode Tryz.prog 1 ((Tryz.f2).body.getD .skip) := by kernel_rfl
theorem ord2 : ordsOk c2 = true := by kernel_rfl
theorem call2 {args : List SV} {h : Heap} {R : AEnd → Heap → Prop} (hn : Nat.ble args.length 1 = true) (hp : awp Tryz.prog c2 (finQ [] R) (argEnv 0 args) h) : ACall Tryz.prog 2 args h R :=
  acall_of_awp mixed Tryz.func2 rfl ord2 ok2 (by kernel_rfl) hn hp
def t2 : Tab := ⟨1, c2, []⟩
theorem tab2 : TabOk Tryz.prog 2 t2 := tabOk Tryz.func2 rfl ord2 ok2 (by kernel_rfl) rfl

/-- stagepost/stagepostlaw13.LexCalls -/
def c3 : ACode :=
 .seq (.region [
  ⟨some 6, .mov (.const (.bool false)), none, []⟩] [])
 (.seq (.seq (.region [
  ⟨some 17, .call 4 [], none, []⟩, 
  ⟨some 18, .un .not (.tmp 17), none, []⟩] [17])
 (.cond (.tmp 18)
  (.seq (.region [
   ⟨some 6, .mov (.const (.bool false)), none, []⟩] [])
  (.ret))
  (.skip)))
 (.seq (.seq (.region [
  ⟨some 19, .mov (.tmp 0), none, []⟩, 
  ⟨some 20, .len true (.tmp 19), none, []⟩, 
  ⟨some 21, .bin .gtr (.tmp 20) (.const (.int .i64 4000)), none, []⟩, 
  ⟨some 22, .mov (.tmp 21), none, []⟩, 
  ⟨some 23, .mov (.tmp 0), (some (22, true)), []⟩, 
  ⟨some 24, .len true (.tmp 23), (some (22, true)), []⟩, 
  ⟨some 25, .bin .leq (.tmp 24) (.const (.int .i64 65536)), (some (22, true)), []⟩, 
  ⟨some 26, .pick (.tmp 22) (.tmp 25) (.const (.bool false)), none, []⟩, 
  ⟨some 27, .mov (.tmp 26), none, []⟩, 
  ⟨some 28, .mov (.tmp 1), (some (27, false)), []⟩, 
  ⟨some 29, .len false (.tmp 28), (some (27, false)), []⟩, 
  ⟨some 30, .bin .gtr (.tmp 29) (.const (.int .i64 200)), (some (27, false)), []⟩, 
  ⟨some 31, .pick (.tmp 27) (.const (.bool true)) (.tmp 30), none, []⟩] [19, 20, 21, 22, 23, 24, 25, 26, 27, 28, 29, 30])
 (.cond (.tmp 31)
  (.seq (.region [
   ⟨some 6, .mov (.const (.bool true)), none, []⟩] [])
  (.ret))
  (.skip)))
 (.seq (.seq (.region [
  ⟨some 7, .mov (.const (.int .i64 0)), none, []⟩] [])
 (.block 0 (.loop (.seq (.seq (.region [
    ⟨some 32, .mov (.tmp 7), none, []⟩, 
    ⟨some 33, .mov (.tmp 1), none, []⟩, 
    ⟨some 34, .len false (.tmp 33), none, []⟩, 
    ⟨some 35, .bin .lss (.tmp 32) (.tmp 34), none, []⟩] [32, 33, 34])
   (.cond (.tmp 35)
    (.skip)
    (.exit 0)))
   (.seq (.block 1 (.seq (.region [
     ⟨some 38, .mov (.tmp 1), none, []⟩, 
     ⟨some 39, .mov (.tmp 7), none, []⟩, 
     ⟨some 40, .indexAddr 4 (.tmp 38) (.tmp 39), none, []⟩, 
     ⟨some 41, .fieldAddr 1 (.tmp 40), none, []⟩, 
     ⟨some 42, .loadS (.tmp 41), none, []⟩, 
     ⟨some 43, .len true (.tmp 42), none, []⟩, 
     ⟨some 44, .bin .gtr (.tmp 43) (.const (.int .i64 4000)), none, []⟩] [38, 39, 40, 41, 42, 43])
    (.cond (.tmp 44)
     (.seq (.region [
      ⟨some 6, .mov (.const (.bool true)), none, []⟩] [])
     (.ret))
     (.skip))))
   (.region [
    ⟨some 36, .mov (.tmp 7), none, []⟩, 
    ⟨some 37, .bin .add (.tmp 36) (.const (.int .i64 1)), none, []⟩, 
    ⟨some 7, .mov (.tmp 37), none, []⟩] [36, 37]))))))
 (.seq (.region [
  ⟨some 46, .mov (.tmp 0), none, []⟩, 
  ⟨some 47, .call 5 [(.tmp 46)], none, []⟩, 
  ⟨some 45, .mov (.tmp 47), none, []⟩, 
  ⟨some 48, .extract (.tmp 45) 0, none, []⟩, 
  ⟨some 49, .extract (.tmp 45) 1, none, []⟩, 
  ⟨some 9, .box 30 2 (.const (.agg [(.int .i64 0), (.int .i64 0)])), none, []⟩, 
  ⟨some 8, .mov (.tmp 48), none, []⟩, 
  ⟨none, .store 2 (.tmp 9) (.tmp 49), none, []⟩] [46, 47, 45, 48, 49])
 (.seq (.region [
  ⟨some 51, .mov (.tmp 0), none, []⟩, 
  ⟨some 52, .call 6 [(.tmp 51)], none, []⟩, 
  ⟨some 50, .mov (.tmp 52), none, []⟩, 
  ⟨some 53, .extract (.tmp 50) 0, none, []⟩, 
  ⟨some 54, .extract (.tmp 50) 1, none, []⟩, 
  ⟨some 11, .box 30 2 (.const (.agg [(.int .i64 0), (.int .i64 0)])), none, []⟩, 
  ⟨some 10, .mov (.tmp 53), none, []⟩, 
  ⟨none, .store 2 (.tmp 11) (.tmp 54), none, []⟩] [51, 52, 50, 53, 54])
 (.seq (.region [
  ⟨some 55, .buildSlice 27 4 (.agg [(.int .u8 0), (.str []), (.int .u64 0), (.int .i64 0)]) 0 [], none, []⟩, 
  ⟨some 56, .mov (.tmp 1), none, []⟩, 
  ⟨some 57, .append 27 4 40 (.tmp 55) (.tmp 56), none, []⟩, 
  ⟨some 12, .mov (.tmp 57), none, []⟩] [55, 56, 57])
 (.seq (.region [
  ⟨some 59, .mov (.tmp 12), none, []⟩, 
  ⟨some 60, .call 7 [(.tmp 59)], none, []⟩, 
  ⟨some 58, .mov (.tmp 60), none, []⟩, 
  ⟨some 61, .extract (.tmp 58) 0, none, []⟩, 
  ⟨some 62, .extract (.tmp 58) 1, none, []⟩, 
  ⟨some 14, .box 30 2 (.const (.agg [(.int .i64 0), (.int .i64 0)])), none, []⟩, 
  ⟨some 13, .mov (.tmp 61), none, []⟩, 
  ⟨none, .store 2 (.tmp 14) (.tmp 62), none, []⟩] [59, 60, 58, 61, 62])
 (.seq (.region [
  ⟨some 64, .mov (.tmp 1), none, []⟩, 
  ⟨some 65, .call 8 [(.tmp 64)], none, []⟩, 
  ⟨some 63, .mov (.tmp 65), none, []⟩, 
  ⟨some 66, .extract (.tmp 63) 0, none, []⟩, 
  ⟨some 67, .extract (.tmp 63) 1, none, []⟩, 
  ⟨some 16, .box 30 2 (.const (.agg [(.int .i64 0), (.int .i64 0)])), none, []⟩, 
  ⟨some 15, .mov (.tmp 66), none, []⟩, 
  ⟨none, .store 2 (.tmp 16) (.tmp 67), none, []⟩] [64, 65, 63, 66, 67])
 (.seq (.region (
  ⟨some 68, .loadA 2 (.tmp 9), none, []⟩ :: 
  ⟨some 69, .loadA 2 (.tmp 11), none, []⟩ :: 
  ⟨some 70, .eqA false [.int, .int] (.tmp 68) (.tmp 69), none, []⟩ :: 
  ⟨some 71, .mov (.tmp 70), none, []⟩ :: 
  ⟨some 72, .mov (.tmp 8), (some (71, true)), []⟩ :: 
  ⟨some 73, .mov (.tmp 10), (some (71, true)), []⟩ :: 
  ⟨some 74, .call 9 [(.tmp 72), (.tmp 73)], (some (71, true)), []⟩ :: 
  ⟨some 75, .pick (.tmp 71) (.tmp 74) (.const (.bool false)), none, []⟩ :: 
  ⟨some 76, .mov (.tmp 75), none, []⟩ :: 
  ⟨some 77, .mov (.tmp 13), (some (76, true)), []⟩ :: 
  ⟨some 78, .mov (.tmp 15), (some (76, true)), []⟩ :: 
  ⟨some 79, .bin .eql (.tmp 77) (.tmp 78), (some (76, true)), []⟩ :: 
  ⟨some 80, .pick (.tmp 76) (.tmp 79) (.const (.bool false)), none, []⟩ :: 
  ⟨some 81, .mov (.tmp 80), none, []⟩ :: 
  ⟨some 82, .loadA 2 (.tmp 14), (some (81, true)), []⟩ :: 
  ⟨some 83, .loadA 2 (.tmp 16), (some (81, true)), []⟩ :: 
  ⟨some 84, .eqA false [.int, .int] (.tmp 82) (.tmp 83), (some (81, true)), []⟩ :: 
  ⟨some 85, .pick (.tmp 81) (.tmp 84) (.const (.bool false)), none, []⟩ :: 
  ⟨some 86, .mov (.tmp 85), none, []⟩ :: 
  ⟨some 87, .mov (.tmp 12), (some (86, true)), []⟩ :: 
  ⟨some 88, .mov (.tmp 1), (some (86, true)), []⟩ :: 
  ⟨some 89, .call 9 [(.tmp 87), (.tmp 88)], (some (86, true)), []⟩ :: 
  ⟨some 90, .pick (.tmp 86) (.tmp 89) (.const (.bool false)), none, []⟩ :: 
  ⟨some 91, .mov (.tmp 90), none, []⟩ :: 
  ⟨some 92, .mov (.tmp 2), (some (91, true)), []⟩ :: 
  ⟨some 93, .call 10 [(.tmp 92)], (some (91, true)), []⟩ :: 
  ⟨some 94, .mov (.tmp 2), (some (91, true)), []⟩ :: 
  ⟨some 95, .call 11 [(.tmp 94)], (some (91, true)), []⟩ :: 
  ⟨some 96, .eqB false (.tmp 93) (.tmp 95), (some (91, true)), []⟩ :: 
  ⟨some 97, .pick (.tmp 91) (.tmp 96) (.const (.bool false)), none, []⟩ :: 
  ⟨some 6, .mov (.tmp 97), none, []⟩ :: []) (68 :: 69 :: 70 :: 71 :: 72 :: 73 :: 74 :: 75 :: 76 :: 77 :: 78 :: 79 :: 80 :: 81 :: 82 :: 83 :: 84 :: 85 :: 86 :: 87 :: 88 :: 89 :: 90 :: 91 :: 92 :: 93 :: 94 :: 95 :: 96 :: 97 :: []))
 (.ret))))))))))
theorem ok3 : erase c3 = cCode Tryz.prog 98 ((Tryz.f3).body.getD .skip) := by kernel_rfl
theorem ord3 : ordsOk c3 = true := by kernel_rfl
theorem call3 {args : List SV} {h : Heap} {R : AEnd → Heap → Prop} (hn : Nat.ble args.length 98 = true) (hp : awp Tryz.prog c3 (finQ [.tmp 6] R) (argEnv 0 args) h) : ACall Tryz.prog 3 args h R :=
  acall_of_awp mixed Tryz.func3 rfl ord3 ok3 (by kernel_rfl) hn hp
def t3 : Tab := ⟨98, c3, [.tmp 6]⟩
theorem tab3 : TabOk Tryz.prog 3 t3 := tabOk Tryz.func3 rfl ord3 ok3 (by kernel_rfl) rfl

/-- stagepost/stagepostlaw13.lives -/
def c4 : ACode :=
 .seq (.region [
  ⟨some 0, .mov (.const (.bool false)), none, []⟩] [])
 (.seq (.region [
  ⟨some 4, .call 5 [(.const (.str [83, 69, 76, 69, 67, 84, 32, 97, 49, 44, 39, 105, 116, 39, 39, 115, 39]))], none, []⟩, 
  ⟨some 3, .mov (.tmp 4), none, []⟩, 
  ⟨some 5, .extract (.tmp 3) 0, none, []⟩, 
  ⟨some 6, .extract (.tmp 3) 1, none, []⟩, 
  ⟨some 2, .box 30 2 (.const (.agg [(.int .i64 0), (.int .i64 0)])), none, []⟩, 
  ⟨some 1, .mov (.tmp 5), none, []⟩, 
  ⟨none, .store 2 (.tmp 2) (.tmp 6), none, []⟩] [4, 3, 5, 6])
 (.seq (.region [
  ⟨some 7, .loadA 2 (.tmp 2), none, []⟩, 
  ⟨some 8, .build [(.int .i64 0), (.int .i64 0)] [], none, []⟩, 
  ⟨some 9, .eqA false [.int, .int] (.tmp 7) (.tmp 8), none, []⟩, 
  ⟨some 10, .mov (.tmp 9), none, []⟩, 
  ⟨some 11, .mov (.tmp 1), (some (10, true)), []⟩, 
  ⟨some 12, .build [(.int .u8 0), (.str []), (.int .u64 0), (.int .i64 0)] [(0, 1, (.const (.int .u8 1))), (1, 1, (.const (.str [115, 101, 108, 101, 99, 116])))], (some (10, true)), []⟩, 
  ⟨some 13, .build [(.int .u8 0), (.str []), (.int .u64 0), (.int .i64 0)] [(0, 1, (.const (.int .u8 1))), (1, 1, (.const (.str [97, 49]))), (3, 1, (.const (.int .i64 7)))], (some (10, true)), []⟩, 
  ⟨some 14, .build [(.int .u8 0), (.str []), (.int .u64 0), (.int .i64 0)] [(0, 1, (.const (.int .u8 4))), (1, 1, (.const (.str [44]))), (3, 1, (.const (.int .i64 9)))], (some (10, true)), []⟩, 
  ⟨some 15, .build [(.int .u8 0), (.str []), (.int .u64 0), (.int .i64 0)] [(0, 1, (.const (.int .u8 3))), (1, 1, (.const (.str [105, 116, 39, 115]))), (3, 1, (.const (.int .i64 10)))], (some (10, true)), []⟩, 
  ⟨some 16, .buildSlice 27 4 (.agg [(.int .u8 0), (.str []), (.int .u64 0), (.int .i64 0)]) 4 [(0, (.tmp 12)), (1, (.tmp 13)), (2, (.tmp 14)), (3, (.tmp 15))], (some (10, true)), []⟩, 
  ⟨some 17, .call 9 [(.tmp 11), (.tmp 16)], (some (10, true)), []⟩, 
  ⟨some 18, .pick (.tmp 10) (.tmp 17) (.const (.bool false)), none, []⟩, 
  ⟨some 0, .mov (.tmp 18), none, []⟩] [7, 8, 9, 10, 11, 12, 13, 14, 15, 16, 17, 18])
 (.ret)))
theorem ok4 : erase c4 = cCode Tryz.prog 19 ((Tryz.f4).body.getD .skip) := by kernel_rfl
theorem ord4 : ordsOk c4 = true := by kernel_rfl
theorem call4 {args : List SV} {h : Heap} {R : AEnd → Heap → Prop} (hn : Nat.ble args.length 19 = true) (hp : awp Tryz.prog c4 (finQ [.tmp 0] R) (argEnv 0 args) h) : ACall Tryz.prog 4 args h R :=
  acall_of_awp mixed Tryz.func4 rfl ord4 ok4 (by kernel_rfl) hn hp
def t4 : Tab := ⟨19, c4, [.tmp 0]⟩
theorem tab4 : TabOk Tryz.prog 4 t4 := tabOk Tryz.func4 rfl ord4 ok4 (by kernel_rfl) rfl

/-- stagepost/lexer.Lex -/
def c5 : ACode :=
 .seq (.region [
  ⟨some 2, .mov (.const .nils), none, []⟩, 
  ⟨some 3, .box 30 2 (.const (.agg [(.int .i64 0), (.int .i64 0)])), none, []⟩] [])
 (.seq (.seq (.region [
  ⟨some 9, .mov (.tmp 0), none, []⟩, 
  ⟨some 10, .len true (.tmp 9), none, []⟩, 
  ⟨some 11, .bin .gtr (.tmp 10) (.const (.int .i64 65536)), none, []⟩] [9, 10])
 (.cond (.tmp 11)
  (.seq (.region [
   ⟨some 12, .build [(.int .i64 0), (.int .i64 0)] [(0, 1, (.const (.int .i64 3))), (1, 1, (.const (.int .i64 (-1))))], none, []⟩, 
   ⟨some 2, .mov (.const .nils), none, []⟩, 
   ⟨none, .store 2 (.tmp 3) (.tmp 12), none, []⟩] [12])
  (.ret))
  (.skip)))
 (.seq (.region [
  ⟨some 4, .mov (.const .nils), none, []⟩] [])
 (.seq (.seq (.region [
  ⟨some 5, .mov (.const (.int .i64 0)), none, []⟩] [])
 (.block 0 (.loop (.seq (.seq (.region [
    ⟨some 13, .mov (.tmp 5), none, []⟩, 
    ⟨some 14, .mov (.tmp 0), none, []⟩, 
    ⟨some 15, .len true (.tmp 14), none, []⟩, 
    ⟨some 16, .bin .lss (.tmp 13) (.tmp 15), none, []⟩] [13, 14, 15])
   (.cond (.tmp 16)
    (.skip)
    (.exit 0)))
   (.block 1 (.seq (.seq (.region [
     ⟨some 17, .mov (.tmp 0), none, []⟩, 
     ⟨some 18, .mov (.tmp 5), none, []⟩, 
     ⟨some 19, .index (.tmp 17) (.tmp 18), none, []⟩, 
     ⟨some 20, .call 12 [(.const (.str [9, 10, 13, 32])), (.tmp 19)], none, []⟩, 
     ⟨some 21, .bin .geq (.tmp 20) (.const (.int .i64 0)), none, []⟩] [17, 18, 19, 20])
    (.cond (.tmp 21)
     (.seq (.region [
      ⟨some 22, .mov (.tmp 5), none, []⟩, 
      ⟨some 23, .bin .add (.tmp 22) (.const (.int .i64 1)), none, []⟩, 
      ⟨some 5, .mov (.tmp 23), none, []⟩] [22, 23])
     (.exit 1))
     (.skip)))
    (.seq (.region [
     ⟨some 25, .mov (.tmp 0), none, []⟩, 
     ⟨some 26, .mov (.tmp 5), none, []⟩, 
     ⟨some 27, .sliceStr (.tmp 25) (some (.tmp 26)) none, none, []⟩, 
     ⟨some 28, .call 13 [(.tmp 27)], none, []⟩, 
     ⟨some 24, .mov (.tmp 28), none, []⟩, 
     ⟨some 29, .extract (.tmp 24) 0, none, []⟩, 
     ⟨some 30, .extract (.tmp 24) 1, none, []⟩, 
     ⟨some 31, .extract (.tmp 24) 2, none, []⟩, 
     ⟨some 6, .box 27 4 (.const (.agg [(.int .u8 0), (.str []), (.int .u64 0), (.int .i64 0)])), none, []⟩, 
     ⟨none, .store 4 (.tmp 6) (.tmp 29), none, []⟩, 
     ⟨some 7, .mov (.tmp 30), none, []⟩, 
     ⟨some 8, .mov (.tmp 31), none, []⟩] [25, 26, 27, 28, 24, 29, 30, 31])
    (.seq (.seq (.region [
     ⟨some 32, .mov (.tmp 8), none, []⟩, 
     ⟨some 33, .bin .neq (.tmp 32) (.const (.int .i64 0)), none, []⟩] [32])
    (.cond (.tmp 33)
     (.seq (.region [
      ⟨some 34, .mov (.tmp 8), none, []⟩, 
      ⟨some 35, .mov (.tmp 5), none, []⟩, 
      ⟨some 36, .build [(.int .i64 0), (.int .i64 0)] [(0, 1, (.tmp 34)), (1, 1, (.tmp 35))], none, []⟩, 
      ⟨some 2, .mov (.const .nils), none, []⟩, 
      ⟨none, .store 2 (.tmp 3) (.tmp 36), none, []⟩] [34, 35, 36])
     (.ret))
     (.skip)))
    (.seq (.region [
     ⟨some 37, .mov (.tmp 5), none, []⟩, 
     ⟨some 38, .fieldAddr 3 (.tmp 6), none, []⟩, 
     ⟨none, .store 1 (.tmp 38) (.tmp 37), none, []⟩] [37, 38])
    (.region [
     ⟨some 39, .mov (.tmp 4), none, []⟩, 
     ⟨some 40, .loadA 4 (.tmp 6), none, []⟩, 
     ⟨some 41, .buildSlice 27 4 (.agg [(.int .u8 0), (.str []), (.int .u64 0), (.int .i64 0)]) 1 [(0, (.tmp 40))], none, []⟩, 
     ⟨some 42, .append 27 4 40 (.tmp 39) (.tmp 41), none, []⟩, 
     ⟨some 43, .mov (.tmp 5), none, []⟩, 
     ⟨some 44, .mov (.tmp 7), none, []⟩, 
     ⟨some 45, .bin .add (.tmp 43) (.tmp 44), none, []⟩, 
     ⟨some 4, .mov (.tmp 42), none, []⟩, 
     ⟨some 5, .mov (.tmp 45), none, []⟩] [39, 40, 41, 42, 43, 44, 45]))))))))))
 (.seq (.region [
  ⟨some 46, .mov (.tmp 4), none, []⟩, 
  ⟨some 47, .build [(.int .i64 0), (.int .i64 0)] [], none, []⟩, 
  ⟨some 2, .mov (.tmp 46), none, []⟩, 
  ⟨none, .store 2 (.tmp 3) (.tmp 47), none, []⟩] [46, 47])
 (.ret)))))
theorem ok5 : erase c5 = cCode Tryz.prog 48 ((Tryz.f5).body.getD .skip) := by kernel_rfl
theorem ord5 : ordsOk c5 = true := by kernel_rfl
theorem call5 {args : List SV} {h : Heap} {R : AEnd → Heap → Prop} (hn : Nat.ble args.length 48 = true) (hp : awp Tryz.prog c5 (finQ [.tmp 2, .cellA 3 2] R) (argEnv 0 args) h) : ACall Tryz.prog 5 args h R :=
  acall_of_awp mixed Tryz.func5 rfl ord5 ok5 (by kernel_rfl) hn hp
def t5 : Tab := ⟨48, c5, [.tmp 2, .cellA 3 2]⟩
theorem tab5 : TabOk Tryz.prog 5 t5 := tabOk Tryz.func5 rfl ord5 ok5 (by kernel_rfl) rfl

/-- stagepost/stagepostref13.Lex -/
def c6 : ACode :=
 .seq (.region [
  ⟨some 2, .mov (.const .nils), none, []⟩, 
  ⟨some 3, .box 30 2 (.const (.agg [(.int .i64 0), (.int .i64 0)])), none, []⟩] [])
 (.seq (.seq (.region [
  ⟨some 9, .mov (.tmp 0), none, []⟩, 
  ⟨some 10, .len true (.tmp 9), none, []⟩, 
  ⟨some 11, .bin .gtr (.tmp 10) (.const (.int .i64 65536)), none, []⟩] [9, 10])
 (.cond (.tmp 11)
  (.seq (.region [
   ⟨some 12, .build [(.int .i64 0), (.int .i64 0)] [(0, 1, (.const (.int .i64 3))), (1, 1, (.const (.int .i64 (-1))))], none, []⟩, 
   ⟨some 2, .mov (.const .nils), none, []⟩, 
   ⟨none, .store 2 (.tmp 3) (.tmp 12), none, []⟩] [12])
  (.ret))
  (.skip)))
 (.seq (.region [
  ⟨some 4, .mov (.const .nils), none, []⟩] [])
 (.seq (.region [
  ⟨some 5, .mov (.const (.int .i64 0)), none, []⟩] [])
 (.seq (.block 0 (.loop (.seq (.seq (.region [
    ⟨some 13, .mov (.tmp 5), none, []⟩, 
    ⟨some 14, .mov (.tmp 0), none, []⟩, 
    ⟨some 15, .len true (.tmp 14), none, []⟩, 
    ⟨some 16, .bin .lss (.tmp 13) (.tmp 15), none, []⟩] [13, 14, 15])
   (.cond (.tmp 16)
    (.skip)
    (.exit 0)))
   (.block 1 (.seq (.seq (.region [
     ⟨some 17, .mov (.tmp 0), none, []⟩, 
     ⟨some 18, .mov (.tmp 5), none, []⟩, 
     ⟨some 19, .index (.tmp 17) (.tmp 18), none, []⟩, 
     ⟨some 20, .call 14 [(.tmp 19)], none, []⟩] [17, 18, 19])
    (.cond (.tmp 20)
     (.seq (.region [
      ⟨some 21, .mov (.tmp 5), none, []⟩, 
      ⟨some 22, .bin .add (.tmp 21) (.const (.int .i64 1)), none, []⟩, 
      ⟨some 5, .mov (.tmp 22), none, []⟩] [21, 22])
     (.exit 1))
     (.skip)))
    (.seq (.region [
     ⟨some 24, .mov (.tmp 0), none, []⟩, 
     ⟨some 25, .mov (.tmp 5), none, []⟩, 
     ⟨some 26, .call 15 [(.tmp 24), (.tmp 25)], none, []⟩, 
     ⟨some 23, .mov (.tmp 26), none, []⟩, 
     ⟨some 27, .extract (.tmp 23) 0, none, []⟩, 
     ⟨some 28, .extract (.tmp 23) 1, none, []⟩, 
     ⟨some 29, .extract (.tmp 23) 2, none, []⟩, 
     ⟨some 6, .box 27 4 (.const (.agg [(.int .u8 0), (.str []), (.int .u64 0), (.int .i64 0)])), none, []⟩, 
     ⟨none, .store 4 (.tmp 6) (.tmp 27), none, []⟩, 
     ⟨some 7, .mov (.tmp 28), none, []⟩, 
     ⟨some 8, .mov (.tmp 29), none, []⟩] [24, 25, 26, 23, 27, 28, 29])
    (.seq (.seq (.region [
     ⟨some 30, .mov (.tmp 8), none, []⟩, 
     ⟨some 31, .bin .neq (.tmp 30) (.const (.int .i64 0)), none, []⟩] [30])
    (.cond (.tmp 31)
     (.seq (.region [
      ⟨some 32, .mov (.tmp 8), none, []⟩, 
      ⟨some 33, .mov (.tmp 5), none, []⟩, 
      ⟨some 34, .build [(.int .i64 0), (.int .i64 0)] [(0, 1, (.tmp 32)), (1, 1, (.tmp 33))], none, []⟩, 
      ⟨some 2, .mov (.const .nils), none, []⟩, 
      ⟨none, .store 2 (.tmp 3) (.tmp 34), none, []⟩] [32, 33, 34])
     (.ret))
     (.skip)))
    (.seq (.region [
     ⟨some 35, .mov (.tmp 4), none, []⟩, 
     ⟨some 36, .loadA 4 (.tmp 6), none, []⟩, 
     ⟨some 37, .buildSlice 27 4 (.agg [(.int .u8 0), (.str []), (.int .u64 0), (.int .i64 0)]) 1 [(0, (.tmp 36))], none, []⟩, 
     ⟨some 38, .append 27 4 40 (.tmp 35) (.tmp 37), none, []⟩, 
     ⟨some 4, .mov (.tmp 38), none, []⟩] [35, 36, 37, 38])
    (.region [
     ⟨some 39, .mov (.tmp 7), none, []⟩, 
     ⟨some 5, .mov (.tmp 39), none, []⟩] [39])))))))))
 (.seq (.region [
  ⟨some 40, .mov (.tmp 4), none, []⟩, 
  ⟨some 41, .build [(.int .i64 0), (.int .i64 0)] [], none, []⟩, 
  ⟨some 2, .mov (.tmp 40), none, []⟩, 
  ⟨none, .store 2 (.tmp 3) (.tmp 41), none, []⟩] [40, 41])
 (.ret))))))
theorem ok6 : erase c6 = cCode Tryz.prog 42 ((Tryz.f6).body.getD .skip) := by kernel_rfl
theorem ord6 : ordsOk c6 = true := by kernel_rfl
theorem call6 {args : List SV} {h : Heap} {R : AEnd → Heap → Prop} (hn : Nat.ble args.length 42 = true) (hp : awp Tryz.prog c6 (finQ [.tmp 2, .cellA 3 2] R) (argEnv 0 args) h) : ACall Tryz.prog 6 args h R :=
  acall_of_awp mixed Tryz.func6 rfl ord6 ok6 (by kernel_rfl) hn hp
def t6 : Tab := ⟨42, c6, [.tmp 2, .cellA 3 2]⟩
theorem tab6 : TabOk Tryz.prog 6 t6 := tabOk Tryz.func6 rfl ord6 ok6 (by kernel_rfl) rfl

/-- stagepost/lexer.Text -/
def c7 : ACode :=
 .seq (.region [
  ⟨some 2, .mov (.const (.str [])), none, []⟩, 
  ⟨some 3, .box 30 2 (.const (.agg [(.int .i64 0), (.int .i64 0)])), none, []⟩] [])
 (.seq (.region [
  ⟨some 7, .mov (.tmp 0), none, []⟩, 
  ⟨some 8, .len false (.tmp 7), none, []⟩, 
  ⟨some 9, .makeSlice 9 1 16 (.str []) (.tmp 8) (.tmp 8), none, []⟩, 
  ⟨some 4, .mov (.tmp 9), none, []⟩] [7, 8, 9])
 (.seq (.seq (.region [
  ⟨some 10, .mov (.tmp 0), none, []⟩, 
  ⟨some 11, .len false (.tmp 10), none, []⟩, 
  ⟨some 12, .mov (.const (.int .i64 0)), none, []⟩] [])
 (.block 0 (.loop (.seq (.region [
    ⟨some 13, .bin .lss (.tmp 12) (.tmp 11), none, []⟩] [])
   (.seq (.cond (.tmp 13)
    (.skip)
    (.exit 0))
   (.seq (.block 1 (.seq (.region [
     ⟨some 14, .mov (.tmp 12), none, []⟩, 
     ⟨some 15, .indexAddr 4 (.tmp 10) (.tmp 12), none, []⟩, 
     ⟨some 16, .loadA 4 (.tmp 15), none, []⟩, 
     ⟨some 6, .box 27 4 (.const (.agg [(.int .u8 0), (.str []), (.int .u64 0), (.int .i64 0)])), none, []⟩, 
     ⟨some 5, .mov (.tmp 14), none, []⟩, 
     ⟨none, .store 4 (.tmp 6) (.tmp 16), none, []⟩] [14, 15, 16])
    (.seq (.seq (.region [
     ⟨some 17, .loadA 4 (.tmp 6), none, []⟩, 
     ⟨some 18, .call 16 [(.tmp 17)], none, []⟩, 
     ⟨some 19, .un .not (.tmp 18), none, []⟩] [17, 18])
    (.cond (.tmp 19)
     (.seq (.region [
      ⟨some 20, .mov (.tmp 5), none, []⟩, 
      ⟨some 21, .build [(.int .i64 0), (.int .i64 0)] [(0, 1, (.const (.int .i64 2))), (1, 1, (.tmp 20))], none, []⟩, 
      ⟨some 2, .mov (.const (.str [])), none, []⟩, 
      ⟨none, .store 2 (.tmp 3) (.tmp 21), none, []⟩] [20, 21])
     (.ret))
     (.skip)))
    (.region [
     ⟨some 22, .mov (.tmp 4), none, []⟩, 
     ⟨some 23, .mov (.tmp 5), none, []⟩, 
     ⟨some 24, .loadA 4 (.tmp 6), none, []⟩, 
     ⟨some 25, .call 17 [(.tmp 24)], none, []⟩, 
     ⟨some 26, .indexAddr 1 (.tmp 22) (.tmp 23), none, []⟩, 
     ⟨none, .store 1 (.tmp 26) (.tmp 25), none, []⟩] [22, 23, 24, 25, 26]))))
   (.region [
    ⟨some 27, .bin .add (.tmp 12) (.const (.int .i64 1)), none, []⟩, 
    ⟨some 12, .mov (.tmp 27), none, []⟩] [27])))))))
 (.seq (.region [
  ⟨some 28, .mov (.tmp 4), none, []⟩, 
  ⟨some 29, .call 18 [(.tmp 28), (.const (.str [32]))], none, []⟩, 
  ⟨some 30, .build [(.int .i64 0), (.int .i64 0)] [], none, []⟩, 
  ⟨some 2, .mov (.tmp 29), none, []⟩, 
  ⟨none, .store 2 (.tmp 3) (.tmp 30), none, []⟩] [28, 29, 30])
 (.ret))))
theorem ok7 : erase c7 = cCode Tryz.prog 31 ((Tryz.f7).body.getD .skip) := by kernel_rfl
theorem ord7 : ordsOk c7 = true := by kernel_rfl
theorem call7 {args : List SV} {h : Heap} {R : AEnd → Heap → Prop} (hn : Nat.ble args.length 31 = true) (hp : awp Tryz.prog c7 (finQ [.tmp 2, .cellA 3 2] R) (argEnv 0 args) h) : ACall Tryz.prog 7 args h R :=
  acall_of_awp mixed Tryz.func7 rfl ord7 ok7 (by kernel_rfl) hn hp
def t7 : Tab := ⟨31, c7, [.tmp 2, .cellA 3 2]⟩
theorem tab7 : TabOk Tryz.prog 7 t7 := tabOk Tryz.func7 rfl ord7 ok7 (by kernel_rfl) rfl

/-- stagepost/stagepostref13.Text -/
def c8 : ACode :=
 .seq (.region [
  ⟨some 2, .mov (.const (.str [])), none, []⟩, 
  ⟨some 3, .box 30 2 (.const (.agg [(.int .i64 0), (.int .i64 0)])), none, []⟩] [])
 (.seq (.seq (.region [
  ⟨some 4, .mov (.const (.int .i64 0)), none, []⟩] [])
 (.block 0 (.loop (.seq (.seq (.region [
    ⟨some 7, .mov (.tmp 4), none, []⟩, 
    ⟨some 8, .mov (.tmp 0), none, []⟩, 
    ⟨some 9, .len false (.tmp 8), none, []⟩, 
    ⟨some 10, .bin .lss (.tmp 7) (.tmp 9), none, []⟩] [7, 8, 9])
   (.cond (.tmp 10)
    (.skip)
    (.exit 0)))
   (.seq (.block 1 (.seq (.region [
     ⟨some 13, .mov (.tmp 0), none, []⟩, 
     ⟨some 14, .mov (.tmp 4), none, []⟩, 
     ⟨some 15, .indexAddr 4 (.tmp 13) (.tmp 14), none, []⟩, 
     ⟨some 16, .loadA 4 (.tmp 15), none, []⟩, 
     ⟨some 17, .call 19 [(.tmp 16)], none, []⟩, 
     ⟨some 18, .un .not (.tmp 17), none, []⟩] [13, 14, 15, 16, 17])
    (.cond (.tmp 18)
     (.seq (.region [
      ⟨some 19, .mov (.tmp 4), none, []⟩, 
      ⟨some 20, .build [(.int .i64 0), (.int .i64 0)] [(0, 1, (.const (.int .i64 2))), (1, 1, (.tmp 19))], none, []⟩, 
      ⟨some 2, .mov (.const (.str [])), none, []⟩, 
      ⟨none, .store 2 (.tmp 3) (.tmp 20), none, []⟩] [19, 20])
     (.ret))
     (.skip))))
   (.region [
    ⟨some 11, .mov (.tmp 4), none, []⟩, 
    ⟨some 12, .bin .add (.tmp 11) (.const (.int .i64 1)), none, []⟩, 
    ⟨some 4, .mov (.tmp 12), none, []⟩] [11, 12]))))))
 (.seq (.region [
  ⟨some 5, .mov (.const .nils), none, []⟩] [])
 (.seq (.seq (.region [
  ⟨some 6, .mov (.const (.int .i64 0)), none, []⟩] [])
 (.block 2 (.loop (.seq (.seq (.region [
    ⟨some 21, .mov (.tmp 6), none, []⟩, 
    ⟨some 22, .mov (.tmp 0), none, []⟩, 
    ⟨some 23, .len false (.tmp 22), none, []⟩, 
    ⟨some 24, .bin .lss (.tmp 21) (.tmp 23), none, []⟩] [21, 22, 23])
   (.cond (.tmp 24)
    (.skip)
    (.exit 2)))
   (.seq (.block 3 (.seq (.seq (.region [
     ⟨some 27, .mov (.tmp 6), none, []⟩, 
     ⟨some 28, .bin .gtr (.tmp 27) (.const (.int .i64 0)), none, []⟩] [27])
    (.cond (.tmp 28)
     (.region [
      ⟨some 29, .mov (.tmp 5), none, []⟩, 
      ⟨some 30, .buildSlice 5 1 (.int .u8 0) 1 [(0, (.const (.int .u8 32)))], none, []⟩, 
      ⟨some 31, .append 5 1 1 (.tmp 29) (.tmp 30), none, []⟩, 
      ⟨some 5, .mov (.tmp 31), none, []⟩] [29, 30, 31])
     (.skip)))
    (.region [
     ⟨some 32, .mov (.tmp 5), none, []⟩, 
     ⟨some 33, .mov (.tmp 0), none, []⟩, 
     ⟨some 34, .mov (.tmp 6), none, []⟩, 
     ⟨some 35, .indexAddr 4 (.tmp 33) (.tmp 34), none, []⟩, 
     ⟨some 36, .loadA 4 (.tmp 35), none, []⟩, 
     ⟨some 37, .call 20 [(.tmp 36)], none, []⟩, 
     ⟨some 38, .append 5 1 1 (.tmp 32) (.tmp 37), none, []⟩, 
     ⟨some 5, .mov (.tmp 38), none, []⟩] [32, 33, 34, 35, 36, 37, 38])))
   (.region [
    ⟨some 25, .mov (.tmp 6), none, []⟩, 
    ⟨some 26, .bin .add (.tmp 25) (.const (.int .i64 1)), none, []⟩, 
    ⟨some 6, .mov (.tmp 26), none, []⟩] [25, 26]))))))
 (.seq (.region [
  ⟨some 39, .mov (.tmp 5), none, []⟩, 
  ⟨some 40, .toStr (.tmp 39), none, []⟩, 
  ⟨some 41, .build [(.int .i64 0), (.int .i64 0)] [], none, []⟩, 
  ⟨some 2, .mov (.tmp 40), none, []⟩, 
  ⟨none, .store 2 (.tmp 3) (.tmp 41), none, []⟩] [39, 40, 41])
 (.ret)))))
theorem ok8 : erase c8 = cCode Tryz.prog 42 ((Tryz.f8).body.getD .skip) := by kernel_rfl
theorem ord8 : ordsOk c8 = true := by kernel_rfl
theorem call8 {args : List SV} {h : Heap} {R : AEnd → Heap → Prop} (hn : Nat.ble args.length 42 = true) (hp : awp Tryz.prog c8 (finQ [.tmp 2, .cellA 3 2] R) (argEnv 0 args) h) : ACall Tryz.prog 8 args h R :=
  acall_of_awp mixed Tryz.func8 rfl ord8 ok8 (by kernel_rfl) hn hp
def t8 : Tab := ⟨42, c8, [.tmp 2, .cellA 3 2]⟩
theorem tab8 : TabOk Tryz.prog 8 t8 := tabOk Tryz.func8 rfl ord8 ok8 (by kernel_rfl) rfl

def c9r6 : List AOper := [
 ⟨some 17, .mov (.tmp 0), none, []⟩, 
 ⟨some 18, .mov (.tmp 5), none, []⟩, 
 ⟨some 19, .indexAddr 4 (.tmp 17) (.tmp 18), none, [0, 1]⟩, 
 ⟨some 20, .loadA 4 (.tmp 19), none, [2]⟩, 
 ⟨some 21, .mov (.tmp 1), none, []⟩, 
 ⟨some 22, .mov (.tmp 5), none, []⟩, 
 ⟨some 23, .indexAddr 4 (.tmp 21) (.tmp 22), none, [4, 5]⟩, 
 ⟨some 24, .loadA 4 (.tmp 23), none, [6]⟩, 
 ⟨some 25, .eqA true [.int, .str, .int, .int] (.tmp 20) (.tmp 24), none, [3, 7]⟩]
/-- stagepost/stagepostlaw13.same -/
def c9 : ACode :=
 .seq (.region [
  ⟨some 4, .mov (.const (.bool false)), none, []⟩] [])
 (.seq (.seq (.region [
  ⟨some 6, .mov (.tmp 0), none, []⟩, 
  ⟨some 7, .len false (.tmp 6), none, []⟩, 
  ⟨some 8, .mov (.tmp 1), none, []⟩, 
  ⟨some 9, .len false (.tmp 8), none, []⟩, 
  ⟨some 10, .bin .neq (.tmp 7) (.tmp 9), none, []⟩] [6, 7, 8, 9])
 (.cond (.tmp 10)
  (.seq (.region [
   ⟨some 4, .mov (.const (.bool false)), none, []⟩] [])
  (.ret))
  (.skip)))
 (.seq (.seq (.region [
  ⟨some 5, .mov (.const (.int .i64 0)), none, []⟩] [])
 (.block 0 (.loop (.seq (.seq (.region [
    ⟨some 11, .mov (.tmp 5), none, []⟩, 
    ⟨some 12, .mov (.tmp 0), none, []⟩, 
    ⟨some 13, .len false (.tmp 12), none, []⟩, 
    ⟨some 14, .bin .lss (.tmp 11) (.tmp 13), none, []⟩] [11, 12, 13])
   (.cond (.tmp 14)
    (.skip)
    (.exit 0)))
   (.seq (.block 1 (.seq (.dregion c9r6 [(0, false, []), (1, false, []), (2, false, []), (3, false, []), (4, false, []), (5, false, []), (6, false, []), (7, false, []), (8, false, [])] [17, 18, 19, 20, 21, 22, 23, 24])
    (.cond (.tmp 25)
     (.seq (.region [
      ⟨some 4, .mov (.const (.bool false)), none, []⟩] [])
     (.ret))
     (.skip))))
   (.region [
    ⟨some 15, .mov (.tmp 5), none, []⟩, 
    ⟨some 16, .bin .add (.tmp 15) (.const (.int .i64 1)), none, []⟩, 
    ⟨some 5, .mov (.tmp 16), none, []⟩] [15, 16]))))))
 (.seq (.region [
  ⟨some 4, .mov (.const (.bool true)), none, []⟩] [])
 (.ret))))
theorem ok9 : erase c9 = cCode Tryz.prog 26 ((Tryz.f9).body.getD .skip) := by kernel_rfl
theorem ord9 : ordsOk c9 = true := by kernel_rfl
theorem call9 {args : List SV} {h : Heap} {R : AEnd → Heap → Prop} (hn : Nat.ble args.length 26 = true) (hp : awp Tryz.prog c9 (finQ [.tmp 4] R) (argEnv 0 args) h) : ACall Tryz.prog 9 args h R :=
  acall_of_awp mixed Tryz.func9 rfl ord9 ok9 (by kernel_rfl) hn hp
def t9 : Tab := ⟨26, c9, [.tmp 4]⟩
theorem tab9 : TabOk Tryz.prog 9 t9 := tabOk Tryz.func9 rfl ord9 ok9 (by kernel_rfl) rfl

/-- stagepost/lexer.Reserved -/
def c10 : ACode :=
 .seq (.region [
  ⟨some 2, .mov (.const (.bool false)), none, []⟩] [])
 (.seq (.region [
  ⟨some 3, .call 22 [], none, []⟩, 
  ⟨some 4, .mov (.tmp 0), none, []⟩, 
  ⟨some 5, .call 21 [(.tmp 3), (.tmp 4)], none, []⟩, 
  ⟨some 2, .mov (.tmp 5), none, []⟩] [3, 4, 5])
 (.ret))
theorem ok10 : erase c10 = cCode Tryz.prog 6 ((Tryz.f10).body.getD .skip) := by kernel_rfl
theorem ord10 : ordsOk c10 = true := by kernel_rfl
theorem call10 {args : List SV} {h : Heap} {R : AEnd → Heap → Prop} (hn : Nat.ble args.length 6 = true) (hp : awp Tryz.prog c10 (finQ [.tmp 2] R) (argEnv 0 args) h) : ACall Tryz.prog 10 args h R :=
  acall_of_awp mixed Tryz.func10 rfl ord10 ok10 (by kernel_rfl) hn hp
def t10 : Tab := ⟨6, c10, [.tmp 2]⟩
theorem tab10 : TabOk Tryz.prog 10 t10 := tabOk Tryz.func10 rfl ord10 ok10 (by kernel_rfl) rfl

/-- stagepost/stagepostref13.Reserved -/
def c11 : ACode :=
 .seq (.region [
  ⟨some 2, .mov (.const (.bool false)), none, []⟩] [])
 (.seq (.region [
  ⟨some 5, .call 23 [], none, []⟩, 
  ⟨some 3, .mov (.tmp 5), none, []⟩] [5])
 (.seq (.seq (.region [
  ⟨some 4, .mov (.const (.int .i64 0)), none, []⟩] [])
 (.block 0 (.loop (.seq (.seq (.region [
    ⟨some 6, .mov (.tmp 4), none, []⟩, 
    ⟨some 7, .mov (.tmp 3), none, []⟩, 
    ⟨some 8, .len false (.tmp 7), none, []⟩, 
    ⟨some 9, .bin .lss (.tmp 6) (.tmp 8), none, []⟩] [6, 7, 8])
   (.cond (.tmp 9)
    (.skip)
    (.exit 0)))
   (.seq (.block 1 (.seq (.region [
     ⟨some 12, .mov (.tmp 3), none, []⟩, 
     ⟨some 13, .mov (.tmp 4), none, []⟩, 
     ⟨some 14, .indexAddr 1 (.tmp 12) (.tmp 13), none, []⟩, 
     ⟨some 15, .loadS (.tmp 14), none, []⟩, 
     ⟨some 16, .mov (.tmp 0), none, []⟩, 
     ⟨some 17, .bin .eql (.tmp 15) (.tmp 16), none, []⟩] [12, 13, 14, 15, 16])
    (.cond (.tmp 17)
     (.seq (.region [
      ⟨some 2, .mov (.const (.bool true)), none, []⟩] [])
     (.ret))
     (.skip))))
   (.region [
    ⟨some 10, .mov (.tmp 4), none, []⟩, 
    ⟨some 11, .bin .add (.tmp 10) (.const (.int .i64 1)), none, []⟩, 
    ⟨some 4, .mov (.tmp 11), none, []⟩] [10, 11]))))))
 (.seq (.region [
  ⟨some 2, .mov (.const (.bool false)), none, []⟩] [])
 (.ret))))
theorem ok11 : erase c11 = cCode Tryz.prog 18 ((Tryz.f11).body.getD .skip) := by kernel_rfl
theorem ord11 : ordsOk c11 = true := by kernel_rfl
theorem call11 {args : List SV} {h : Heap} {R : AEnd → Heap → Prop} (hn : Nat.ble args.length 18 = true) (hp : awp Tryz.prog c11 (finQ [.tmp 2] R) (argEnv 0 args) h) : ACall Tryz.prog 11 args h R :=
  acall_of_awp mixed Tryz.func11 rfl ord11 ok11 (by kernel_rfl) hn hp
def t11 : Tab := ⟨18, c11, [.tmp 2]⟩
theorem tab11 : TabOk Tryz.prog 11 t11 := tabOk Tryz.func11 rfl ord11 ok11 (by kernel_rfl) rfl

/-- strings.IndexByte -/
def c12 : ACode :=
 .seq (.region [
  ⟨some 4, .mov (.const (.int .i64 0)), none, []⟩] [])
 (.seq (.region [
  ⟨some 5, .mov (.tmp 0), none, []⟩, 
  ⟨some 6, .mov (.tmp 1), none, []⟩, 
  ⟨some 7, .call 24 [(.tmp 5), (.tmp 6)], none, []⟩, 
  ⟨some 4, .mov (.tmp 7), none, []⟩] [5, 6, 7])
 (.ret))
theorem ok12 : erase c12 = cCode Tryz.prog 8 ((Tryz.f12).body.getD .skip) := by kernel_rfl
theorem ord12 : ordsOk c12 = true := by kernel_rfl
theorem call12 {args : List SV} {h : Heap} {R : AEnd → Heap → Prop} (hn : Nat.ble args.length 8 = true) (hp : awp Tryz.prog c12 (finQ [.tmp 4] R) (argEnv 0 args) h) : ACall Tryz.prog 12 args h R :=
  acall_of_awp mixed Tryz.func12 rfl ord12 ok12 (by kernel_rfl) hn hp
def t12 : Tab := ⟨8, c12, [.tmp 4]⟩
theorem tab12 : TabOk Tryz.prog 12 t12 := tabOk Tryz.func12 rfl ord12 ok12 (by kernel_rfl) rfl

/-- stagepost/lexer.one -/
def c13 : ACode :=
 .seq (.region [
  ⟨some 2, .box 27 4 (.const (.agg [(.int .u8 0), (.str []), (.int .u64 0), (.int .i64 0)])), none, []⟩, 
  ⟨some 3, .mov (.const (.int .i64 0)), none, []⟩, 
  ⟨some 4, .mov (.const (.int .i64 0)), none, []⟩] [])
 (.seq (.seq (.region [
  ⟨some 8, .mov (.tmp 0), none, []⟩, 
  ⟨some 9, .index (.tmp 8) (.const (.int .i64 0)), none, []⟩, 
  ⟨some 5, .mov (.tmp 9), none, []⟩] [8, 9])
 (.block 0 (.seq (.region [
   ⟨some 11, .mov (.tmp 5), none, []⟩, 
   ⟨some 12, .call 25 [(.tmp 11)], none, []⟩, 
   ⟨some 10, .mov (.tmp 12), none, []⟩] [11, 12])
  (.cond (.tmp 10)
   (.seq (.region [
    ⟨some 13, .mov (.tmp 0), none, []⟩, 
    ⟨some 14, .call 26 [(.tmp 13)], none, []⟩, 
    ⟨some 15, .extract (.tmp 14) 0, none, []⟩, 
    ⟨some 16, .extract (.tmp 14) 1, none, []⟩, 
    ⟨some 17, .extract (.tmp 14) 2, none, []⟩, 
    ⟨none, .store 4 (.tmp 2) (.tmp 15), none, []⟩, 
    ⟨some 3, .mov (.tmp 16), none, []⟩, 
    ⟨some 4, .mov (.tmp 17), none, []⟩] [13, 14, 15, 16, 17])
   (.ret))
   (.seq (.region [
    ⟨some 19, .mov (.tmp 5), none, []⟩, 
    ⟨some 20, .call 27 [(.tmp 19)], none, []⟩, 
    ⟨some 18, .mov (.tmp 20), none, []⟩] [19, 20])
   (.cond (.tmp 18)
    (.seq (.region [
     ⟨some 21, .mov (.tmp 0), none, []⟩, 
     ⟨some 22, .call 28 [(.tmp 21)], none, []⟩, 
     ⟨some 23, .extract (.tmp 22) 0, none, []⟩, 
     ⟨some 24, .extract (.tmp 22) 1, none, []⟩, 
     ⟨some 25, .extract (.tmp 22) 2, none, []⟩, 
     ⟨none, .store 4 (.tmp 2) (.tmp 23), none, []⟩, 
     ⟨some 3, .mov (.tmp 24), none, []⟩, 
     ⟨some 4, .mov (.tmp 25), none, []⟩] [21, 22, 23, 24, 25])
    (.ret))
    (.seq (.region [
     ⟨some 27, .mov (.tmp 5), none, []⟩, 
     ⟨some 28, .bin .eql (.tmp 27) (.const (.int .u8 39)), none, []⟩, 
     ⟨some 26, .mov (.tmp 28), none, []⟩] [27, 28])
    (.cond (.tmp 26)
     (.seq (.region [
      ⟨some 29, .mov (.tmp 0), none, []⟩, 
      ⟨some 30, .call 29 [(.tmp 29)], none, []⟩, 
      ⟨some 31, .extract (.tmp 30) 0, none, []⟩, 
      ⟨some 32, .extract (.tmp 30) 1, none, []⟩, 
      ⟨some 33, .extract (.tmp 30) 2, none, []⟩, 
      ⟨none, .store 4 (.tmp 2) (.tmp 31), none, []⟩, 
      ⟨some 3, .mov (.tmp 32), none, []⟩, 
      ⟨some 4, .mov (.tmp 33), none, []⟩] [29, 30, 31, 32, 33])
     (.ret))
     (.skip)))))))))
 (.seq (.seq (.region [
  ⟨some 34, .call 30 [], none, []⟩, 
  ⟨some 35, .len false (.tmp 34), none, []⟩, 
  ⟨some 36, .mov (.const (.int .i64 0)), none, []⟩] [])
 (.block 1 (.loop (.seq (.region [
    ⟨some 37, .bin .lss (.tmp 36) (.tmp 35), none, []⟩] [])
   (.seq (.cond (.tmp 37)
    (.skip)
    (.exit 1))
   (.seq (.block 2 (.seq (.region [
     ⟨some 38, .indexAddr 1 (.tmp 34) (.tmp 36), none, []⟩, 
     ⟨some 39, .loadS (.tmp 38), none, []⟩, 
     ⟨some 7, .mov (.tmp 39), none, []⟩] [38, 39])
    (.seq (.region [
     ⟨some 40, .mov (.tmp 0), none, []⟩, 
     ⟨some 41, .mov (.tmp 7), none, []⟩, 
     ⟨some 42, .call 31 [(.tmp 40), (.tmp 41)], none, []⟩] [40, 41])
    (.cond (.tmp 42)
     (.seq (.region [
      ⟨some 43, .mov (.tmp 7), none, []⟩, 
      ⟨some 44, .build [(.int .u8 0), (.str []), (.int .u64 0), (.int .i64 0)] [(0, 1, (.const (.int .u8 4))), (1, 1, (.tmp 43))], none, []⟩, 
      ⟨some 45, .mov (.tmp 7), none, []⟩, 
      ⟨some 46, .len true (.tmp 45), none, []⟩, 
      ⟨none, .store 4 (.tmp 2) (.tmp 44), none, []⟩, 
      ⟨some 3, .mov (.tmp 46), none, []⟩, 
      ⟨some 4, .mov (.const (.int .i64 0)), none, []⟩] [43, 44, 45, 46])
     (.ret))
     (.skip)))))
   (.region [
    ⟨some 47, .bin .add (.tmp 36) (.const (.int .i64 1)), none, []⟩, 
    ⟨some 36, .mov (.tmp 47), none, []⟩] [47])))))))
 (.seq (.region [
  ⟨some 48, .build [(.int .u8 0), (.str []), (.int .u64 0), (.int .i64 0)] [], none, []⟩, 
  ⟨none, .store 4 (.tmp 2) (.tmp 48), none, []⟩, 
  ⟨some 3, .mov (.const (.int .i64 0)), none, []⟩, 
  ⟨some 4, .mov (.const (.int .i64 230)), none, []⟩] [48])
 (.ret))))
theorem ok13 : erase c13 = cCode Tryz.prog 49 ((Tryz.f13).body.getD .skip) := by kernel_rfl
theorem ord13 : ordsOk c13 = true := by kernel_rfl
theorem call13 {args : List SV} {h : Heap} {R : AEnd → Heap → Prop} (hn : Nat.ble args.length 49 = true) (hp : awp Tryz.prog c13 (finQ [.cellA 2 4, .tmp 3, .tmp 4] R) (argEnv 0 args) h) : ACall Tryz.prog 13 args h R :=
  acall_of_awp mixed Tryz.func13 rfl ord13 ok13 (by kernel_rfl) hn hp
def t13 : Tab := ⟨49, c13, [.cellA 2 4, .tmp 3, .tmp 4]⟩
theorem tab13 : TabOk Tryz.prog 13 t13 := tabOk Tryz.func13 rfl ord13 ok13 (by kernel_rfl) rfl

/-- stagepost/stagepostref13.blank -/
def c14 : ACode :=
 .seq (.region [
  ⟨some 2, .mov (.const (.bool false)), none, []⟩] [])
 (.seq (.region [
  ⟨some 3, .mov (.tmp 0), none, []⟩, 
  ⟨some 4, .bin .eql (.tmp 3) (.const (.int .u8 9)), none, []⟩, 
  ⟨some 5, .mov (.tmp 4), none, []⟩, 
  ⟨some 6, .mov (.tmp 0), (some (5, false)), []⟩, 
  ⟨some 7, .bin .eql (.tmp 6) (.const (.int .u8 10)), (some (5, false)), []⟩, 
  ⟨some 8, .pick (.tmp 5) (.const (.bool true)) (.tmp 7), none, []⟩, 
  ⟨some 9, .mov (.tmp 8), none, []⟩, 
  ⟨some 10, .mov (.tmp 0), (some (9, false)), []⟩, 
  ⟨some 11, .bin .eql (.tmp 10) (.const (.int .u8 13)), (some (9, false)), []⟩, 
  ⟨some 12, .pick (.tmp 9) (.const (.bool true)) (.tmp 11), none, []⟩, 
  ⟨some 13, .mov (.tmp 12), none, []⟩, 
  ⟨some 14, .mov (.tmp 0), (some (13, false)), []⟩, 
  ⟨some 15, .bin .eql (.tmp 14) (.const (.int .u8 32)), (some (13, false)), []⟩, 
  ⟨some 16, .pick (.tmp 13) (.const (.bool true)) (.tmp 15), none, []⟩, 
  ⟨some 2, .mov (.tmp 16), none, []⟩] [3, 4, 5, 6, 7, 8, 9, 10, 11, 12, 13, 14, 15, 16])
 (.ret))
theorem ok14 : erase c14 = cCode Tryz.prog 17 ((Tryz.f14).body.getD .skip) := by kernel_rfl
theorem ord14 : ordsOk c14 = true := by kernel_rfl
theorem call14 {args : List SV} {h : Heap} {R : AEnd → Heap → Prop} (hn : Nat.ble args.length 17 = true) (hp : awp Tryz.prog c14 (finQ [.tmp 2] R) (argEnv 0 args) h) : ACall Tryz.prog 14 args h R :=
  acall_of_awp mixed Tryz.func14 rfl ord14 ok14 (by kernel_rfl) hn hp
def t14 : Tab := ⟨17, c14, [.tmp 2]⟩
theorem tab14 : TabOk Tryz.prog 14 t14 := tabOk Tryz.func14 rfl ord14 ok14 (by kernel_rfl) rfl

/-- stagepost/stagepostref13.next -/
def c15 : ACode :=
 .seq (.region [
  ⟨some 4, .box 27 4 (.const (.agg [(.int .u8 0), (.str []), (.int .u64 0), (.int .i64 0)])), none, []⟩, 
  ⟨some 5, .mov (.const (.int .i64 0)), none, []⟩, 
  ⟨some 6, .mov (.const (.int .i64 0)), none, []⟩] [])
 (.seq (.region [
  ⟨some 8, .mov (.tmp 0), none, []⟩, 
  ⟨some 9, .mov (.tmp 1), none, []⟩, 
  ⟨some 10, .index (.tmp 8) (.tmp 9), none, []⟩, 
  ⟨some 7, .mov (.tmp 10), none, []⟩] [8, 9, 10])
 (.seq (.block 0 (.seq (.region [
   ⟨some 12, .mov (.tmp 7), none, []⟩, 
   ⟨some 13, .call 32 [(.tmp 12)], none, []⟩, 
   ⟨some 11, .mov (.tmp 13), none, []⟩] [12, 13])
  (.cond (.tmp 11)
   (.seq (.region [
    ⟨some 14, .mov (.tmp 0), none, []⟩, 
    ⟨some 15, .mov (.tmp 1), none, []⟩, 
    ⟨some 16, .call 33 [(.tmp 14), (.tmp 15)], none, []⟩, 
    ⟨some 17, .extract (.tmp 16) 0, none, []⟩, 
    ⟨some 18, .extract (.tmp 16) 1, none, []⟩, 
    ⟨some 19, .extract (.tmp 16) 2, none, []⟩, 
    ⟨none, .store 4 (.tmp 4) (.tmp 17), none, []⟩, 
    ⟨some 5, .mov (.tmp 18), none, []⟩, 
    ⟨some 6, .mov (.tmp 19), none, []⟩] [14, 15, 16, 17, 18, 19])
   (.ret))
   (.seq (.region [
    ⟨some 21, .mov (.tmp 7), none, []⟩, 
    ⟨some 22, .call 34 [(.tmp 21)], none, []⟩, 
    ⟨some 20, .mov (.tmp 22), none, []⟩] [21, 22])
   (.cond (.tmp 20)
    (.seq (.region [
     ⟨some 23, .mov (.tmp 0), none, []⟩, 
     ⟨some 24, .mov (.tmp 1), none, []⟩, 
     ⟨some 25, .call 35 [(.tmp 23), (.tmp 24)], none, []⟩, 
     ⟨some 26, .extract (.tmp 25) 0, none, []⟩, 
     ⟨some 27, .extract (.tmp 25) 1, none, []⟩, 
     ⟨some 28, .extract (.tmp 25) 2, none, []⟩, 
     ⟨none, .store 4 (.tmp 4) (.tmp 26), none, []⟩, 
     ⟨some 5, .mov (.tmp 27), none, []⟩, 
     ⟨some 6, .mov (.tmp 28), none, []⟩] [23, 24, 25, 26, 27, 28])
    (.ret))
    (.seq (.region [
     ⟨some 30, .mov (.tmp 7), none, []⟩, 
     ⟨some 31, .bin .eql (.tmp 30) (.const (.int .u8 39)), none, []⟩, 
     ⟨some 29, .mov (.tmp 31), none, []⟩] [30, 31])
    (.cond (.tmp 29)
     (.seq (.region [
      ⟨some 32, .mov (.tmp 0), none, []⟩, 
      ⟨some 33, .mov (.tmp 1), none, []⟩, 
      ⟨some 34, .call 36 [(.tmp 32), (.tmp 33)], none, []⟩, 
      ⟨some 35, .extract (.tmp 34) 0, none, []⟩, 
      ⟨some 36, .extract (.tmp 34) 1, none, []⟩, 
      ⟨some 37, .extract (.tmp 34) 2, none, []⟩, 
      ⟨none, .store 4 (.tmp 4) (.tmp 35), none, []⟩, 
      ⟨some 5, .mov (.tmp 36), none, []⟩, 
      ⟨some 6, .mov (.tmp 37), none, []⟩] [32, 33, 34, 35, 36, 37])
     (.ret))
     (.seq (.region [
      ⟨some 39, .mov (.tmp 1), none, []⟩, 
      ⟨some 40, .bin .add (.tmp 39) (.const (.int .i64 2)), none, []⟩, 
      ⟨some 41, .mov (.tmp 0), none, []⟩, 
      ⟨some 42, .len true (.tmp 41), none, []⟩, 
      ⟨some 43, .bin .leq (.tmp 40) (.tmp 42), none, []⟩, 
      ⟨some 44, .mov (.tmp 43), none, []⟩, 
      ⟨some 45, .mov (.tmp 0), (some (44, true)), []⟩, 
      ⟨some 46, .mov (.tmp 1), (some (44, true)), []⟩, 
      ⟨some 47, .mov (.tmp 1), (some (44, true)), []⟩, 
      ⟨some 48, .bin .add (.tmp 47) (.const (.int .i64 2)), (some (44, true)), []⟩, 
      ⟨some 49, .sliceStr (.tmp 45) (some (.tmp 46)) (some (.tmp 48)), (some (44, true)), []⟩, 
      ⟨some 50, .call 37 [(.tmp 49)], (some (44, true)), []⟩, 
      ⟨some 51, .pick (.tmp 44) (.tmp 50) (.const (.bool false)), none, []⟩, 
      ⟨some 38, .mov (.tmp 51), none, []⟩] [39, 40, 41, 42, 43, 44, 45, 46, 47, 48, 49, 50, 51])
     (.cond (.tmp 38)
      (.seq (.region [
       ⟨some 52, .mov (.tmp 0), none, []⟩, 
       ⟨some 53, .mov (.tmp 1), none, []⟩, 
       ⟨some 54, .mov (.tmp 1), none, []⟩, 
       ⟨some 55, .bin .add (.tmp 54) (.const (.int .i64 2)), none, []⟩, 
       ⟨some 56, .sliceStr (.tmp 52) (some (.tmp 53)) (some (.tmp 55)), none, []⟩, 
       ⟨some 57, .mov (.tmp 1), none, []⟩, 
       ⟨some 58, .build [(.int .u8 0), (.str []), (.int .u64 0), (.int .i64 0)] [(0, 1, (.const (.int .u8 4))), (1, 1, (.tmp 56)), (3, 1, (.tmp 57))], none, []⟩, 
       ⟨some 59, .mov (.tmp 1), none, []⟩, 
       ⟨some 60, .bin .add (.tmp 59) (.const (.int .i64 2)), none, []⟩, 
       ⟨none, .store 4 (.tmp 4) (.tmp 58), none, []⟩, 
       ⟨some 5, .mov (.tmp 60), none, []⟩, 
       ⟨some 6, .mov (.const (.int .i64 0)), none, []⟩] [52, 53, 54, 55, 56, 57, 58, 59, 60])
      (.ret))
      (.seq (.region [
       ⟨some 62, .mov (.tmp 7), none, []⟩, 
       ⟨some 63, .call 38 [(.tmp 62)], none, []⟩, 
       ⟨some 61, .mov (.tmp 63), none, []⟩] [62, 63])
      (.cond (.tmp 61)
       (.seq (.region [
        ⟨some 64, .mov (.tmp 0), none, []⟩, 
        ⟨some 65, .mov (.tmp 1), none, []⟩, 
        ⟨some 66, .mov (.tmp 1), none, []⟩, 
        ⟨some 67, .bin .add (.tmp 66) (.const (.int .i64 1)), none, []⟩, 
        ⟨some 68, .sliceStr (.tmp 64) (some (.tmp 65)) (some (.tmp 67)), none, []⟩, 
        ⟨some 69, .mov (.tmp 1), none, []⟩, 
        ⟨some 70, .build [(.int .u8 0), (.str []), (.int .u64 0), (.int .i64 0)] [(0, 1, (.const (.int .u8 4))), (1, 1, (.tmp 68)), (3, 1, (.tmp 69))], none, []⟩, 
        ⟨some 71, .mov (.tmp 1), none, []⟩, 
        ⟨some 72, .bin .add (.tmp 71) (.const (.int .i64 1)), none, []⟩, 
        ⟨none, .store 4 (.tmp 4) (.tmp 70), none, []⟩, 
        ⟨some 5, .mov (.tmp 72), none, []⟩, 
        ⟨some 6, .mov (.const (.int .i64 0)), none, []⟩] [64, 65, 66, 67, 68, 69, 70, 71, 72])
       (.ret))
       (.skip))))))))))))
 (.seq (.region [
  ⟨some 73, .build [(.int .u8 0), (.str []), (.int .u64 0), (.int .i64 0)] [], none, []⟩, 
  ⟨some 74, .mov (.tmp 1), none, []⟩, 
  ⟨none, .store 4 (.tmp 4) (.tmp 73), none, []⟩, 
  ⟨some 5, .mov (.tmp 74), none, []⟩, 
  ⟨some 6, .mov (.const (.int .i64 230)), none, []⟩] [73, 74])
 (.ret))))
theorem ok15 : erase c15 = cCode Tryz.prog 75 ((Tryz.f15).body.getD .skip) := by kernel_rfl
theorem ord15 : ordsOk c15 = true := by kernel_rfl
theorem call15 {args : List SV} {h : Heap} {R : AEnd → Heap → Prop} (hn : Nat.ble args.length 75 = true) (hp : awp Tryz.prog c15 (finQ [.cellA 4 4, .tmp 5, .tmp 6] R) (argEnv 0 args) h) : ACall Tryz.prog 15 args h R :=
  acall_of_awp mixed Tryz.func15 rfl ord15 ok15 (by kernel_rfl) hn hp
def t15 : Tab := ⟨75, c15, [.cellA 4 4, .tmp 5, .tmp 6]⟩
theorem tab15 : TabOk Tryz.prog 15 t15 := tabOk Tryz.func15 rfl ord15 ok15 (by kernel_rfl) rfl

def c16r8 : List AOper := [
 ⟨some 60, .loadA 2 (.tmp 4), none, []⟩, 
 ⟨some 61, .build [(.int .i64 0), (.int .i64 0)] [], none, []⟩, 
 ⟨some 62, .eqA false [.int, .int] (.tmp 60) (.tmp 61), none, [0, 1]⟩, 
 ⟨some 63, .mov (.tmp 62), none, [2]⟩, 
 ⟨some 64, .mov (.tmp 3), (some (63, true)), [3]⟩, 
 ⟨some 65, .len false (.tmp 64), (some (63, true)), [4, 3]⟩, 
 ⟨some 66, .bin .eql (.tmp 65) (.const (.int .i64 1)), (some (63, true)), [5, 3]⟩, 
 ⟨some 67, .pick (.tmp 63) (.tmp 66) (.const (.bool false)), none, [3, 6]⟩, 
 ⟨some 68, .mov (.tmp 67), none, [7, 3]⟩, 
 ⟨some 69, .mov (.tmp 3), (some (68, true)), [8]⟩, 
 ⟨some 70, .indexAddr 4 (.tmp 69) (.const (.int .i64 0)), (some (68, true)), [9, 8]⟩, 
 ⟨some 71, .loadA 4 (.tmp 70), (some (68, true)), [10, 8]⟩, 
 ⟨some 72, .loadA 4 (.tmp 1), (some (68, true)), [8]⟩, 
 ⟨some 73, .eqA false [.int, .str, .int, .int] (.tmp 71) (.tmp 72), (some (68, true)), [11, 12, 8]⟩, 
 ⟨some 74, .pick (.tmp 68) (.tmp 73) (.const (.bool false)), none, [8, 13]⟩, 
 ⟨some 2, .mov (.tmp 74), none, [14, 8, 0, 1, 2, 3, 4, 5, 6, 7, 8, 9, 10, 11, 12, 13, 14]⟩]
/-- stagepost/lexer.fine -/
def c16 : ACode :=
 .seq (.region [
  ⟨some 1, .box 27 4 (.tmp 0), none, []⟩, 
  ⟨some 2, .mov (.const (.bool false)), none, []⟩] [])
 (.seq (.seq (.region [
  ⟨some 5, .fieldAddr 3 (.tmp 1), none, []⟩, 
  ⟨some 6, .loadS (.tmp 5), none, []⟩, 
  ⟨some 7, .bin .neq (.tmp 6) (.const (.int .i64 0)), none, []⟩, 
  ⟨some 8, .mov (.tmp 7), none, []⟩, 
  ⟨some 9, .fieldAddr 0 (.tmp 1), (some (8, false)), []⟩, 
  ⟨some 10, .loadS (.tmp 9), (some (8, false)), []⟩, 
  ⟨some 11, .bin .neq (.tmp 10) (.const (.int .u8 2)), (some (8, false)), []⟩, 
  ⟨some 12, .mov (.tmp 11), (some (8, false)), []⟩, 
  ⟨some 13, .fieldAddr 2 (.tmp 1), (some (12, true)), []⟩, 
  ⟨some 14, .loadS (.tmp 13), (some (12, true)), []⟩, 
  ⟨some 15, .bin .neq (.tmp 14) (.const (.int .u64 0)), (some (12, true)), []⟩, 
  ⟨some 16, .pick (.tmp 12) (.tmp 15) (.const (.bool false)), (some (8, false)), []⟩, 
  ⟨some 17, .pick (.tmp 8) (.const (.bool true)) (.tmp 16), none, []⟩, 
  ⟨some 18, .mov (.tmp 17), none, []⟩, 
  ⟨some 19, .fieldAddr 0 (.tmp 1), (some (18, false)), []⟩, 
  ⟨some 20, .loadS (.tmp 19), (some (18, false)), []⟩, 
  ⟨some 21, .bin .eql (.tmp 20) (.const (.int .u8 0)), (some (18, false)), []⟩, 
  ⟨some 22, .pick (.tmp 18) (.const (.bool true)) (.tmp 21), none, []⟩, 
  ⟨some 23, .mov (.tmp 22), none, []⟩, 
  ⟨some 24, .fieldAddr 0 (.tmp 1), (some (23, false)), []⟩, 
  ⟨some 25, .loadS (.tmp 24), (some (23, false)), []⟩, 
  ⟨some 26, .bin .gtr (.tmp 25) (.const (.int .u8 4)), (some (23, false)), []⟩, 
  ⟨some 27, .pick (.tmp 23) (.const (.bool true)) (.tmp 26), none, []⟩] [5, 6, 7, 8, 9, 10, 11, 12, 13, 14, 15, 16, 17, 18, 19, 20, 21, 22, 23, 24, 25, 26])
 (.cond (.tmp 27)
  (.seq (.region [
   ⟨some 2, .mov (.const (.bool false)), none, []⟩] [])
  (.ret))
  (.skip)))
 (.seq (.seq (.region [
  ⟨some 28, .fieldAddr 0 (.tmp 1), none, []⟩, 
  ⟨some 29, .loadS (.tmp 28), none, []⟩, 
  ⟨some 30, .bin .eql (.tmp 29) (.const (.int .u8 2)), none, []⟩] [28, 29])
 (.cond (.tmp 30)
  (.seq (.region [
   ⟨some 31, .fieldAddr 1 (.tmp 1), none, []⟩, 
   ⟨some 32, .loadS (.tmp 31), none, []⟩, 
   ⟨some 33, .bin .eql (.tmp 32) (.const (.str [])), none, []⟩, 
   ⟨some 34, .mov (.tmp 33), none, []⟩, 
   ⟨some 35, .fieldAddr 2 (.tmp 1), (some (34, true)), []⟩, 
   ⟨some 36, .loadS (.tmp 35), (some (34, true)), []⟩, 
   ⟨some 37, .bin .leq (.tmp 36) (.const (.int .u64 9223372036854775808)), (some (34, true)), []⟩, 
   ⟨some 38, .pick (.tmp 34) (.tmp 37) (.const (.bool false)), none, []⟩, 
   ⟨some 2, .mov (.tmp 38), none, []⟩] [31, 32, 33, 34, 35, 36, 37, 38])
  (.ret))
  (.skip)))
 (.seq (.seq (.region [
  ⟨some 39, .fieldAddr 0 (.tmp 1), none, []⟩, 
  ⟨some 40, .loadS (.tmp 39), none, []⟩, 
  ⟨some 41, .bin .eql (.tmp 40) (.const (.int .u8 3)), none, []⟩, 
  ⟨some 42, .mov (.tmp 41), none, []⟩, 
  ⟨some 43, .fieldAddr 1 (.tmp 1), (some (42, true)), []⟩, 
  ⟨some 44, .loadS (.tmp 43), (some (42, true)), []⟩, 
  ⟨some 45, .len true (.tmp 44), (some (42, true)), []⟩, 
  ⟨some 46, .bin .gtr (.tmp 45) (.const (.int .i64 64)), (some (42, true)), []⟩, 
  ⟨some 47, .mov (.tmp 46), (some (42, true)), []⟩, 
  ⟨some 48, .fieldAddr 1 (.tmp 1), (some (47, false)), []⟩, 
  ⟨some 49, .loadS (.tmp 48), (some (47, false)), []⟩, 
  ⟨some 50, .call 39 [(.tmp 49)], (some (47, false)), []⟩, 
  ⟨some 51, .un .not (.tmp 50), (some (47, false)), []⟩, 
  ⟨some 52, .pick (.tmp 47) (.const (.bool true)) (.tmp 51), (some (42, true)), []⟩, 
  ⟨some 53, .pick (.tmp 42) (.tmp 52) (.const (.bool false)), none, []⟩] [39, 40, 41, 42, 43, 44, 45, 46, 47, 48, 49, 50, 51, 52])
 (.cond (.tmp 53)
  (.seq (.region [
   ⟨some 2, .mov (.const (.bool false)), none, []⟩] [])
  (.ret))
  (.skip)))
 (.seq (.region [
  ⟨some 55, .loadA 4 (.tmp 1), none, []⟩, 
  ⟨some 56, .call 17 [(.tmp 55)], none, []⟩, 
  ⟨some 57, .call 5 [(.tmp 56)], none, []⟩, 
  ⟨some 54, .mov (.tmp 57), none, []⟩, 
  ⟨some 58, .extract (.tmp 54) 0, none, []⟩, 
  ⟨some 59, .extract (.tmp 54) 1, none, []⟩, 
  ⟨some 4, .box 30 2 (.const (.agg [(.int .i64 0), (.int .i64 0)])), none, []⟩, 
  ⟨some 3, .mov (.tmp 58), none, []⟩, 
  ⟨none, .store 2 (.tmp 4) (.tmp 59), none, []⟩] [55, 56, 57, 54, 58, 59])
 (.seq (.dregion c16r8 [(0, false, []), (1, false, []), (2, false, []), (3, false, []), (4, false, []), (5, false, []), (6, false, []), (7, false, []), (8, false, []), (9, false, []), (10, false, []), (11, false, []), (12, false, []), (13, false, []), (14, false, []), (15, false, [])] [60, 61, 62, 63, 64, 65, 66, 67, 68, 69, 70, 71, 72, 73, 74])
 (.ret))))))
theorem ok16 : erase c16 = cCode Tryz.prog 75 ((Tryz.f16).body.getD .skip) := by kernel_rfl
theorem ord16 : ordsOk c16 = true := by kernel_rfl
theorem call16 {args : List SV} {h : Heap} {R : AEnd → Heap → Prop} (hn : Nat.ble args.length 75 = true) (hp : awp Tryz.prog c16 (finQ [.tmp 2] R) (argEnv 0 args) h) : ACall Tryz.prog 16 args h R :=
  acall_of_awp mixed Tryz.func16 rfl ord16 ok16 (by kernel_rfl) hn hp
def t16 : Tab := ⟨75, c16, [.tmp 2]⟩
theorem tab16 : TabOk Tryz.prog 16 t16 := tabOk Tryz.func16 rfl ord16 ok16 (by kernel_rfl) rfl

/-- stagepost/lexer.said -/
def c17 : ACode :=
 .seq (.region [
  ⟨some 1, .box 27 4 (.tmp 0), none, []⟩, 
  ⟨some 2, .mov (.const (.str [])), none, []⟩] [])
 (.seq (.seq (.region [
  ⟨some 3, .fieldAddr 0 (.tmp 1), none, []⟩, 
  ⟨some 4, .loadS (.tmp 3), none, []⟩] [3])
 (.block 0 (.seq (.region [
   ⟨some 6, .bin .eql (.tmp 4) (.const (.int .u8 2)), none, []⟩, 
   ⟨some 5, .mov (.tmp 6), none, []⟩] [6])
  (.cond (.tmp 5)
   (.seq (.region [
    ⟨some 7, .fieldAddr 2 (.tmp 1), none, []⟩, 
    ⟨some 8, .loadS (.tmp 7), none, []⟩, 
    ⟨some 9, .call 40 [(.tmp 8), (.const (.int .i64 10))], none, []⟩, 
    ⟨some 2, .mov (.tmp 9), none, []⟩] [7, 8, 9])
   (.ret))
   (.seq (.region [
    ⟨some 11, .bin .eql (.tmp 4) (.const (.int .u8 3)), none, []⟩, 
    ⟨some 10, .mov (.tmp 11), none, []⟩] [11])
   (.cond (.tmp 10)
    (.seq (.region [
     ⟨some 12, .fieldAddr 1 (.tmp 1), none, []⟩, 
     ⟨some 13, .loadS (.tmp 12), none, []⟩, 
     ⟨some 14, .call 41 [(.tmp 13), (.const (.str [39])), (.const (.str [39, 39]))], none, []⟩, 
     ⟨some 15, .bin .add (.const (.str [39])) (.tmp 14), none, []⟩, 
     ⟨some 16, .bin .add (.tmp 15) (.const (.str [39])), none, []⟩, 
     ⟨some 2, .mov (.tmp 16), none, []⟩] [12, 13, 14, 15, 16])
    (.ret))
    (.skip)))))))
 (.seq (.region [
  ⟨some 17, .fieldAddr 1 (.tmp 1), none, []⟩, 
  ⟨some 18, .loadS (.tmp 17), none, []⟩, 
  ⟨some 2, .mov (.tmp 18), none, []⟩] [17, 18])
 (.ret)))
theorem ok17 : erase c17 = cCode Tryz.prog 19 ((Tryz.f17).body.getD .skip) := by kernel_rfl
theorem ord17 : ordsOk c17 = true := by kernel_rfl
theorem call17 {args : List SV} {h : Heap} {R : AEnd → Heap → Prop} (hn : Nat.ble args.length 19 = true) (hp : awp Tryz.prog c17 (finQ [.tmp 2] R) (argEnv 0 args) h) : ACall Tryz.prog 17 args h R :=
  acall_of_awp mixed Tryz.func17 rfl ord17 ok17 (by kernel_rfl) hn hp
def t17 : Tab := ⟨19, c17, [.tmp 2]⟩
theorem tab17 : TabOk Tryz.prog 17 t17 := tabOk Tryz.func17 rfl ord17 ok17 (by kernel_rfl) rfl

/-- stagepost/stagepostref13.may -/
def c19 : ACode :=
 .seq (.region [
  ⟨some 1, .box 27 4 (.tmp 0), none, []⟩, 
  ⟨some 2, .mov (.const (.bool false)), none, []⟩] [])
 (.seq (.seq (.region [
  ⟨some 7, .fieldAddr 0 (.tmp 1), none, []⟩, 
  ⟨some 8, .loadS (.tmp 7), none, []⟩, 
  ⟨some 9, .bin .lss (.tmp 8) (.const (.int .u8 1)), none, []⟩, 
  ⟨some 10, .mov (.tmp 9), none, []⟩, 
  ⟨some 11, .fieldAddr 0 (.tmp 1), (some (10, false)), []⟩, 
  ⟨some 12, .loadS (.tmp 11), (some (10, false)), []⟩, 
  ⟨some 13, .bin .gtr (.tmp 12) (.const (.int .u8 4)), (some (10, false)), []⟩, 
  ⟨some 14, .pick (.tmp 10) (.const (.bool true)) (.tmp 13), none, []⟩, 
  ⟨some 15, .mov (.tmp 14), none, []⟩, 
  ⟨some 16, .fieldAddr 3 (.tmp 1), (some (15, false)), []⟩, 
  ⟨some 17, .loadS (.tmp 16), (some (15, false)), []⟩, 
  ⟨some 18, .bin .neq (.tmp 17) (.const (.int .i64 0)), (some (15, false)), []⟩, 
  ⟨some 19, .pick (.tmp 15) (.const (.bool true)) (.tmp 18), none, []⟩, 
  ⟨some 20, .mov (.tmp 19), none, []⟩, 
  ⟨some 21, .fieldAddr 0 (.tmp 1), (some (20, false)), []⟩, 
  ⟨some 22, .loadS (.tmp 21), (some (20, false)), []⟩, 
  ⟨some 23, .bin .eql (.tmp 22) (.const (.int .u8 2)), (some (20, false)), []⟩, 
  ⟨some 24, .mov (.tmp 23), (some (20, false)), []⟩, 
  ⟨some 25, .fieldAddr 1 (.tmp 1), (some (24, true)), []⟩, 
  ⟨some 26, .loadS (.tmp 25), (some (24, true)), []⟩, 
  ⟨some 27, .bin .neq (.tmp 26) (.const (.str [])), (some (24, true)), []⟩, 
  ⟨some 28, .pick (.tmp 24) (.tmp 27) (.const (.bool false)), (some (20, false)), []⟩, 
  ⟨some 29, .pick (.tmp 20) (.const (.bool true)) (.tmp 28), none, []⟩] [7, 8, 9, 10, 11, 12, 13, 14, 15, 16, 17, 18, 19, 20, 21, 22, 23, 24, 25, 26, 27, 28])
 (.cond (.tmp 29)
  (.seq (.region [
   ⟨some 2, .mov (.const (.bool false)), none, []⟩] [])
  (.ret))
  (.skip)))
 (.seq (.region [
  ⟨some 30, .loadA 4 (.tmp 1), none, []⟩, 
  ⟨some 31, .call 20 [(.tmp 30)], none, []⟩, 
  ⟨some 3, .mov (.tmp 31), none, []⟩] [30, 31])
 (.seq (.seq (.region [
  ⟨some 32, .mov (.tmp 3), none, []⟩, 
  ⟨some 33, .len true (.tmp 32), none, []⟩, 
  ⟨some 34, .bin .eql (.tmp 33) (.const (.int .i64 0)), none, []⟩, 
  ⟨some 35, .mov (.tmp 34), none, []⟩, 
  ⟨some 36, .mov (.tmp 3), (some (35, false)), []⟩, 
  ⟨some 37, .len true (.tmp 36), (some (35, false)), []⟩, 
  ⟨some 38, .bin .gtr (.tmp 37) (.const (.int .i64 256)), (some (35, false)), []⟩, 
  ⟨some 39, .pick (.tmp 35) (.const (.bool true)) (.tmp 38), none, []⟩, 
  ⟨some 40, .mov (.tmp 39), none, []⟩, 
  ⟨some 41, .mov (.tmp 3), (some (40, false)), []⟩, 
  ⟨some 42, .index (.tmp 41) (.const (.int .i64 0)), (some (40, false)), []⟩, 
  ⟨some 43, .call 14 [(.tmp 42)], (some (40, false)), []⟩, 
  ⟨some 44, .pick (.tmp 40) (.const (.bool true)) (.tmp 43), none, []⟩] [32, 33, 34, 35, 36, 37, 38, 39, 40, 41, 42, 43])
 (.cond (.tmp 44)
  (.seq (.region [
   ⟨some 2, .mov (.const (.bool false)), none, []⟩] [])
  (.ret))
  (.skip)))
 (.seq (.region [
  ⟨some 46, .mov (.tmp 3), none, []⟩, 
  ⟨some 47, .call 15 [(.tmp 46), (.const (.int .i64 0))], none, []⟩, 
  ⟨some 45, .mov (.tmp 47), none, []⟩, 
  ⟨some 48, .extract (.tmp 45) 0, none, []⟩, 
  ⟨some 49, .extract (.tmp 45) 1, none, []⟩, 
  ⟨some 50, .extract (.tmp 45) 2, none, []⟩, 
  ⟨some 4, .box 27 4 (.const (.agg [(.int .u8 0), (.str []), (.int .u64 0), (.int .i64 0)])), none, []⟩, 
  ⟨none, .store 4 (.tmp 4) (.tmp 48), none, []⟩, 
  ⟨some 5, .mov (.tmp 49), none, []⟩, 
  ⟨some 6, .mov (.tmp 50), none, []⟩] [46, 47, 45, 48, 49, 50])
 (.seq (.region [
  ⟨some 51, .mov (.tmp 6), none, []⟩, 
  ⟨some 52, .bin .eql (.tmp 51) (.const (.int .i64 0)), none, []⟩, 
  ⟨some 53, .mov (.tmp 52), none, []⟩, 
  ⟨some 54, .mov (.tmp 5), (some (53, true)), []⟩, 
  ⟨some 55, .mov (.tmp 3), (some (53, true)), []⟩, 
  ⟨some 56, .len true (.tmp 55), (some (53, true)), []⟩, 
  ⟨some 57, .bin .eql (.tmp 54) (.tmp 56), (some (53, true)), []⟩, 
  ⟨some 58, .pick (.tmp 53) (.tmp 57) (.const (.bool false)), none, []⟩, 
  ⟨some 59, .mov (.tmp 58), none, []⟩, 
  ⟨some 60, .loadA 4 (.tmp 4), (some (59, true)), []⟩, 
  ⟨some 61, .loadA 4 (.tmp 1), (some (59, true)), []⟩, 
  ⟨some 62, .eqA false [.int, .str, .int, .int] (.tmp 60) (.tmp 61), (some (59, true)), []⟩, 
  ⟨some 63, .pick (.tmp 59) (.tmp 62) (.const (.bool false)), none, []⟩, 
  ⟨some 2, .mov (.tmp 63), none, []⟩] [51, 52, 53, 54, 55, 56, 57, 58, 59, 60, 61, 62, 63])
 (.ret))))))
theorem ok19 : erase c19 = cCode Tryz.prog 64 ((Tryz.f19).body.getD .skip) := by kernel_rfl
theorem ord19 : ordsOk c19 = true := by kernel_rfl
theorem call19 {args : List SV} {h : Heap} {R : AEnd → Heap → Prop} (hn : Nat.ble args.length 64 = true) (hp : awp Tryz.prog c19 (finQ [.tmp 2] R) (argEnv 0 args) h) : ACall Tryz.prog 19 args h R :=
  acall_of_awp mixed Tryz.func19 rfl ord19 ok19 (by kernel_rfl) hn hp
def t19 : Tab := ⟨64, c19, [.tmp 2]⟩
theorem tab19 : TabOk Tryz.prog 19 t19 := tabOk Tryz.func19 rfl ord19 ok19 (by kernel_rfl) rfl

/-- stagepost/stagepostref13.said -/
def c20 : ACode :=
 .seq (.region [
  ⟨some 1, .box 27 4 (.tmp 0), none, []⟩, 
  ⟨some 2, .mov (.const (.str [])), none, []⟩] [])
 (.seq (.seq (.region [
  ⟨some 3, .fieldAddr 0 (.tmp 1), none, []⟩, 
  ⟨some 4, .loadS (.tmp 3), none, []⟩] [3])
 (.block 0 (.seq (.region [
   ⟨some 6, .bin .eql (.tmp 4) (.const (.int .u8 2)), none, []⟩, 
   ⟨some 5, .mov (.tmp 6), none, []⟩] [6])
  (.cond (.tmp 5)
   (.seq (.region [
    ⟨some 7, .fieldAddr 2 (.tmp 1), none, []⟩, 
    ⟨some 8, .loadS (.tmp 7), none, []⟩, 
    ⟨some 9, .call 45 [(.tmp 8)], none, []⟩, 
    ⟨some 2, .mov (.tmp 9), none, []⟩] [7, 8, 9])
   (.ret))
   (.seq (.region [
    ⟨some 11, .bin .eql (.tmp 4) (.const (.int .u8 3)), none, []⟩, 
    ⟨some 10, .mov (.tmp 11), none, []⟩] [11])
   (.cond (.tmp 10)
    (.seq (.region [
     ⟨some 12, .fieldAddr 1 (.tmp 1), none, []⟩, 
     ⟨some 13, .loadS (.tmp 12), none, []⟩, 
     ⟨some 14, .call 46 [(.tmp 13)], none, []⟩, 
     ⟨some 2, .mov (.tmp 14), none, []⟩] [12, 13, 14])
    (.ret))
    (.skip)))))))
 (.seq (.region [
  ⟨some 15, .fieldAddr 1 (.tmp 1), none, []⟩, 
  ⟨some 16, .loadS (.tmp 15), none, []⟩, 
  ⟨some 2, .mov (.tmp 16), none, []⟩] [15, 16])
 (.ret)))
theorem ok20 : erase c20 = cCode Tryz.prog 17 ((Tryz.f20).body.getD .skip) := by kernel_rfl
theorem ord20 : ordsOk c20 = true := by kernel_rfl
theorem call20 {args : List SV} {h : Heap} {R : AEnd → Heap → Prop} (hn : Nat.ble args.length 17 = true) (hp : awp Tryz.prog c20 (finQ [.tmp 2] R) (argEnv 0 args) h) : ACall Tryz.prog 20 args h R :=
  acall_of_awp mixed Tryz.func20 rfl ord20 ok20 (by kernel_rfl) hn hp
def t20 : Tab := ⟨17, c20, [.tmp 2]⟩
theorem tab20 : TabOk Tryz.prog 20 t20 := tabOk Tryz.func20 rfl ord20 ok20 (by kernel_rfl) rfl

/-- slices.Contains[[]string,string] -/
def c21 : ACode :=
 .seq (.region [
  ⟨some 4, .mov (.const (.bool false)), none, []⟩] [])
 (.seq (.region [
  ⟨some 5, .mov (.tmp 0), none, []⟩, 
  ⟨some 6, .mov (.tmp 1), none, []⟩, 
  ⟨some 7, .call 47 [(.tmp 5), (.tmp 6)], none, []⟩, 
  ⟨some 8, .bin .geq (.tmp 7) (.const (.int .i64 0)), none, []⟩, 
  ⟨some 4, .mov (.tmp 8), none, []⟩] [5, 6, 7, 8])
 (.ret))
theorem ok21 : erase c21 = cCode Tryz.prog 9 ((Tryz.f21).body.getD .skip) := by kernel_rfl
theorem ord21 : ordsOk c21 = true := by kernel_rfl
theorem call21 {args : List SV} {h : Heap} {R : AEnd → Heap → Prop} (hn : Nat.ble args.length 9 = true) (hp : awp Tryz.prog c21 (finQ [.tmp 4] R) (argEnv 0 args) h) : ACall Tryz.prog 21 args h R :=
  acall_of_awp mixed Tryz.func21 rfl ord21 ok21 (by kernel_rfl) hn hp
def t21 : Tab := ⟨9, c21, [.tmp 4]⟩
theorem tab21 : TabOk Tryz.prog 21 t21 := tabOk Tryz.func21 rfl ord21 ok21 (by kernel_rfl) rfl

/-- stagepost/lexer.reserved -/
def c22 : ACode :=
 .seq (.region [
  ⟨some 0, .mov (.const .nils), none, []⟩] [])
 (.seq (.region [
  ⟨some 1, .call 48 [(.const (.str [97, 110, 100, 32, 97, 115, 32, 97, 115, 99, 32, 98, 101, 103, 105, 110, 32, 98, 111, 111, 108, 32, 98, 121, 32, 99, 111, 109, 109, 105, 116, 32, 99, 111, 117, 110, 116, 32, 99, 114, 101, 97, 116, 101, 32, 100, 101, 108, 101, 116, 101, 32, 100, 101, 115, 99, 32, 102, 97, 108, 115, 101, 32, 102, 114, 111, 109, 32, 103, 114, 111, 117, 112, 32, 105, 110, 100, 101, 120, 32, 105, 110, 115, 101, 114, 116, 32, 105, 110, 116, 32, 105, 110, 116, 111, 32, 105, 115, 32, 106, 111, 105, 110, 32, 107, 101, 121, 32, 108, 105, 109, 105, 116, 32, 109, 97, 120, 32, 109, 105, 110, 32, 110, 111, 116, 32, 110, 117, 108, 108, 32, 111, 110, 32, 111, 114, 32, 111, 114, 100, 101, 114, 32, 112, 114, 105, 109, 97, 114, 121, 32, 114, 111, 108, 108, 98, 97, 99, 107, 32, 115, 97, 118, 101, 112, 111, 105, 110, 116, 32, 115, 101, 108, 101, 99, 116, 32, 115, 101, 116, 32, 115, 117, 109, 32, 116, 97, 98, 108, 101, 32, 116, 101, 120, 116, 32, 116, 111, 32, 116, 114, 117, 101, 32, 117, 110, 105, 113, 117, 101, 32, 117, 112, 100, 97, 116, 101, 32, 118, 97, 108, 117, 101, 115, 32, 119, 104, 101, 114, 101]))], none, []⟩, 
  ⟨some 0, .mov (.tmp 1), none, []⟩] [1])
 (.ret))
theorem ok22 : erase c22 = cCode Tryz.prog 2 ((Tryz.f22).body.getD .skip) := by kernel_rfl
theorem ord22 : ordsOk c22 = true := by kernel_rfl
theorem call22 {args : List SV} {h : Heap} {R : AEnd → Heap → Prop} (hn : Nat.ble args.length 2 = true) (hp : awp Tryz.prog c22 (finQ [.tmp 0] R) (argEnv 0 args) h) : ACall Tryz.prog 22 args h R :=
  acall_of_awp mixed Tryz.func22 rfl ord22 ok22 (by kernel_rfl) hn hp
def t22 : Tab := ⟨2, c22, [.tmp 0]⟩
theorem tab22 : TabOk Tryz.prog 22 t22 := tabOk Tryz.func22 rfl ord22 ok22 (by kernel_rfl) rfl

/-- stagepost/stagepostref13.words -/
def c23 : ACode :=
 .seq (.region [
  ⟨some 0, .mov (.const .nils), none, []⟩] [])
 (.seq (.region [
  ⟨some 1, .buildSlice 9 1 (.str []) 43 [(0, (.const (.str [97, 110, 100]))), (1, (.const (.str [97, 115]))), (2, (.const (.str [97, 115, 99]))), (3, (.const (.str [98, 101, 103, 105, 110]))), (4, (.const (.str [98, 111, 111, 108]))), (5, (.const (.str [98, 121]))), (6, (.const (.str [99, 111, 109, 109, 105, 116]))), (7, (.const (.str [99, 111, 117, 110, 116]))), (8, (.const (.str [99, 114, 101, 97, 116, 101]))), (9, (.const (.str [100, 101, 108, 101, 116, 101]))), (10, (.const (.str [100, 101, 115, 99]))), (11, (.const (.str [102, 97, 108, 115, 101]))), (12, (.const (.str [102, 114, 111, 109]))), (13, (.const (.str [103, 114, 111, 117, 112]))), (14, (.const (.str [105, 110, 100, 101, 120]))), (15, (.const (.str [105, 110, 115, 101, 114, 116]))), (16, (.const (.str [105, 110, 116]))), (17, (.const (.str [105, 110, 116, 111]))), (18, (.const (.str [105, 115]))), (19, (.const (.str [106, 111, 105, 110]))), (20, (.const (.str [107, 101, 121]))), (21, (.const (.str [108, 105, 109, 105, 116]))), (22, (.const (.str [109, 97, 120]))), (23, (.const (.str [109, 105, 110]))), (24, (.const (.str [110, 111, 116]))), (25, (.const (.str [110, 117, 108, 108]))), (26, (.const (.str [111, 110]))), (27, (.const (.str [111, 114]))), (28, (.const (.str [111, 114, 100, 101, 114]))), (29, (.const (.str [112, 114, 105, 109, 97, 114, 121]))), (30, (.const (.str [114, 111, 108, 108, 98, 97, 99, 107]))), (31, (.const (.str [115, 97, 118, 101, 112, 111, 105, 110, 116]))), (32, (.const (.str [115, 101, 108, 101, 99, 116]))), (33, (.const (.str [115, 101, 116]))), (34, (.const (.str [115, 117, 109]))), (35, (.const (.str [116, 97, 98, 108, 101]))), (36, (.const (.str [116, 101, 120, 116]))), (37, (.const (.str [116, 111]))), (38, (.const (.str [116, 114, 117, 101]))), (39, (.const (.str [117, 110, 105, 113, 117, 101]))), (40, (.const (.str [117, 112, 100, 97, 116, 101]))), (41, (.const (.str [118, 97, 108, 117, 101, 115]))), (42, (.const (.str [119, 104, 101, 114, 101])))], none, []⟩, 
  ⟨some 0, .mov (.tmp 1), none, []⟩] [1])
 (.ret))
theorem ok23 : erase c23 = cCode Tryz.prog 2 ((Tryz.f23).body.getD .skip) := by kernel_rfl
theorem ord23 : ordsOk c23 = true := by kernel_rfl
theorem call23 {args : List SV} {h : Heap} {R : AEnd → Heap → Prop} (hn : Nat.ble args.length 2 = true) (hp : awp Tryz.prog c23 (finQ [.tmp 0] R) (argEnv 0 args) h) : ACall Tryz.prog 23 args h R :=
  acall_of_awp mixed Tryz.func23 rfl ord23 ok23 (by kernel_rfl) hn hp
def t23 : Tab := ⟨2, c23, [.tmp 0]⟩
theorem tab23 : TabOk Tryz.prog 23 t23 := tabOk Tryz.func23 rfl ord23 ok23 (by kernel_rfl) rfl

/-- internal/stringslite.IndexByte -/
def c24 : ACode :=
 .seq (.region [
  ⟨some 4, .mov (.const (.int .i64 0)), none, []⟩] [])
 (.seq (.region [
  ⟨some 5, .mov (.tmp 0), none, []⟩, 
  ⟨some 6, .mov (.tmp 1), none, []⟩, 
  ⟨some 7, .ext1 1 (.tmp 5) (.tmp 6), none, []⟩, 
  ⟨some 4, .mov (.tmp 7), none, []⟩] [5, 6, 7])
 (.ret))
theorem ok24 : erase c24 = cCode Tryz.prog 8 ((Tryz.f24).body.getD .skip) := by kernel_rfl
theorem ord24 : ordsOk c24 = true := by kernel_rfl
theorem call24 {args : List SV} {h : Heap} {R : AEnd → Heap → Prop} (hn : Nat.ble args.length 8 = true) (hp : awp Tryz.prog c24 (finQ [.tmp 4] R) (argEnv 0 args) h) : ACall Tryz.prog 24 args h R :=
  acall_of_awp mixed Tryz.func24 rfl ord24 ok24 (by kernel_rfl) hn hp
def t24 : Tab := ⟨8, c24, [.tmp 4]⟩
theorem tab24 : TabOk Tryz.prog 24 t24 := tabOk Tryz.func24 rfl ord24 ok24 (by kernel_rfl) rfl

/-- stagepost/lexer.letter -/
def c25 : ACode :=
 .seq (.region [
  ⟨some 2, .mov (.const (.bool false)), none, []⟩] [])
 (.seq (.region [
  ⟨some 3, .mov (.tmp 0), none, []⟩, 
  ⟨some 4, .bin .or (.tmp 3) (.const (.int .u8 32)), none, []⟩, 
  ⟨some 5, .bin .geq (.tmp 4) (.const (.int .u8 97)), none, []⟩, 
  ⟨some 6, .mov (.tmp 5), none, []⟩, 
  ⟨some 7, .mov (.tmp 0), (some (6, true)), []⟩, 
  ⟨some 8, .bin .or (.tmp 7) (.const (.int .u8 32)), (some (6, true)), []⟩, 
  ⟨some 9, .bin .leq (.tmp 8) (.const (.int .u8 122)), (some (6, true)), []⟩, 
  ⟨some 10, .pick (.tmp 6) (.tmp 9) (.const (.bool false)), none, []⟩, 
  ⟨some 11, .mov (.tmp 10), none, []⟩, 
  ⟨some 12, .mov (.tmp 0), (some (11, false)), []⟩, 
  ⟨some 13, .bin .eql (.tmp 12) (.const (.int .u8 95)), (some (11, false)), []⟩, 
  ⟨some 14, .pick (.tmp 11) (.const (.bool true)) (.tmp 13), none, []⟩, 
  ⟨some 2, .mov (.tmp 14), none, []⟩] [3, 4, 5, 6, 7, 8, 9, 10, 11, 12, 13, 14])
 (.ret))
theorem ok25 : erase c25 = cCode Tryz.prog 15 ((Tryz.f25).body.getD .skip) := by kernel_rfl
theorem ord25 : ordsOk c25 = true := by kernel_rfl
theorem call25 {args : List SV} {h : Heap} {R : AEnd → Heap → Prop} (hn : Nat.ble args.length 15 = true) (hp : awp Tryz.prog c25 (finQ [.tmp 2] R) (argEnv 0 args) h) : ACall Tryz.prog 25 args h R :=
  acall_of_awp mixed Tryz.func25 rfl ord25 ok25 (by kernel_rfl) hn hp
def t25 : Tab := ⟨15, c25, [.tmp 2]⟩
theorem tab25 : TabOk Tryz.prog 25 t25 := tabOk Tryz.func25 rfl ord25 ok25 (by kernel_rfl) rfl

/-- stagepost/lexer.word -/
def c26 : ACode :=
 .seq (.region [
  ⟨some 2, .box 27 4 (.const (.agg [(.int .u8 0), (.str []), (.int .u64 0), (.int .i64 0)])), none, []⟩, 
  ⟨some 3, .mov (.const (.int .i64 0)), none, []⟩, 
  ⟨some 4, .mov (.const (.int .i64 0)), none, []⟩] [])
 (.seq (.region [
  ⟨some 5, .mov (.const (.int .i64 0)), none, []⟩] [])
 (.seq (.block 0 (.loop (.seq (.seq (.region [
    ⟨some 6, .mov (.tmp 5), none, []⟩, 
    ⟨some 7, .mov (.tmp 0), none, []⟩, 
    ⟨some 8, .len true (.tmp 7), none, []⟩, 
    ⟨some 9, .bin .lss (.tmp 6) (.tmp 8), none, []⟩, 
    ⟨some 10, .mov (.tmp 9), none, []⟩, 
    ⟨some 11, .mov (.tmp 0), (some (10, true)), []⟩, 
    ⟨some 12, .mov (.tmp 5), (some (10, true)), []⟩, 
    ⟨some 13, .index (.tmp 11) (.tmp 12), (some (10, true)), []⟩, 
    ⟨some 14, .call 25 [(.tmp 13)], (some (10, true)), []⟩, 
    ⟨some 15, .mov (.tmp 14), (some (10, true)), []⟩, 
    ⟨some 16, .mov (.tmp 0), (some (15, false)), []⟩, 
    ⟨some 17, .mov (.tmp 5), (some (15, false)), []⟩, 
    ⟨some 18, .index (.tmp 16) (.tmp 17), (some (15, false)), []⟩, 
    ⟨some 19, .call 27 [(.tmp 18)], (some (15, false)), []⟩, 
    ⟨some 20, .pick (.tmp 15) (.const (.bool true)) (.tmp 19), (some (10, true)), []⟩, 
    ⟨some 21, .pick (.tmp 10) (.tmp 20) (.const (.bool false)), none, []⟩] [6, 7, 8, 9, 10, 11, 12, 13, 14, 15, 16, 17, 18, 19, 20])
   (.cond (.tmp 21)
    (.skip)
    (.exit 0)))
   (.block 1 (.region [
     ⟨some 22, .mov (.tmp 5), none, []⟩, 
     ⟨some 23, .bin .add (.tmp 22) (.const (.int .i64 1)), none, []⟩, 
     ⟨some 5, .mov (.tmp 23), none, []⟩] [22, 23])))))
 (.seq (.seq (.region [
  ⟨some 24, .mov (.tmp 5), none, []⟩, 
  ⟨some 25, .bin .gtr (.tmp 24) (.const (.int .i64 32)), none, []⟩] [24])
 (.cond (.tmp 25)
  (.seq (.region [
   ⟨some 26, .build [(.int .u8 0), (.str []), (.int .u64 0), (.int .i64 0)] [], none, []⟩, 
   ⟨none, .store 4 (.tmp 2) (.tmp 26), none, []⟩, 
   ⟨some 3, .mov (.const (.int .i64 0)), none, []⟩, 
   ⟨some 4, .mov (.const (.int .i64 3)), none, []⟩] [26])
  (.ret))
  (.skip)))
 (.seq (.region [
  ⟨some 27, .mov (.tmp 0), none, []⟩, 
  ⟨some 28, .mov (.tmp 5), none, []⟩, 
  ⟨some 29, .sliceStr (.tmp 27) none (some (.tmp 28)), none, []⟩, 
  ⟨some 30, .call 50 [(.tmp 29)], none, []⟩, 
  ⟨some 31, .build [(.int .u8 0), (.str []), (.int .u64 0), (.int .i64 0)] [(0, 1, (.const (.int .u8 1))), (1, 1, (.tmp 30))], none, []⟩, 
  ⟨some 32, .mov (.tmp 5), none, []⟩, 
  ⟨none, .store 4 (.tmp 2) (.tmp 31), none, []⟩, 
  ⟨some 3, .mov (.tmp 32), none, []⟩, 
  ⟨some 4, .mov (.const (.int .i64 0)), none, []⟩] [27, 28, 29, 30, 31, 32])
 (.ret)))))
theorem ok26 : erase c26 = cCode Tryz.prog 33 ((Tryz.f26).body.getD .skip) := by kernel_rfl
theorem ord26 : ordsOk c26 = true := by kernel_rfl
theorem call26 {args : List SV} {h : Heap} {R : AEnd → Heap → Prop} (hn : Nat.ble args.length 33 = true) (hp : awp Tryz.prog c26 (finQ [.cellA 2 4, .tmp 3, .tmp 4] R) (argEnv 0 args) h) : ACall Tryz.prog 26 args h R :=
  acall_of_awp mixed Tryz.func26 rfl ord26 ok26 (by kernel_rfl) hn hp
def t26 : Tab := ⟨33, c26, [.cellA 2 4, .tmp 3, .tmp 4]⟩
theorem tab26 : TabOk Tryz.prog 26 t26 := tabOk Tryz.func26 rfl ord26 ok26 (by kernel_rfl) rfl

/-- stagepost/lexer.digit -/
def c27 : ACode :=
 .seq (.region [
  ⟨some 2, .mov (.const (.bool false)), none, []⟩] [])
 (.seq (.region [
  ⟨some 3, .mov (.tmp 0), none, []⟩, 
  ⟨some 4, .bin .geq (.tmp 3) (.const (.int .u8 48)), none, []⟩, 
  ⟨some 5, .mov (.tmp 4), none, []⟩, 
  ⟨some 6, .mov (.tmp 0), (some (5, true)), []⟩, 
  ⟨some 7, .bin .leq (.tmp 6) (.const (.int .u8 57)), (some (5, true)), []⟩, 
  ⟨some 8, .pick (.tmp 5) (.tmp 7) (.const (.bool false)), none, []⟩, 
  ⟨some 2, .mov (.tmp 8), none, []⟩] [3, 4, 5, 6, 7, 8])
 (.ret))
theorem ok27 : erase c27 = cCode Tryz.prog 9 ((Tryz.f27).body.getD .skip) := by kernel_rfl
theorem ord27 : ordsOk c27 = true := by kernel_rfl
theorem call27 {args : List SV} {h : Heap} {R : AEnd → Heap → Prop} (hn : Nat.ble args.length 9 = true) (hp : awp Tryz.prog c27 (finQ [.tmp 2] R) (argEnv 0 args) h) : ACall Tryz.prog 27 args h R :=
  acall_of_awp mixed Tryz.func27 rfl ord27 ok27 (by kernel_rfl) hn hp
def t27 : Tab := ⟨9, c27, [.tmp 2]⟩
theorem tab27 : TabOk Tryz.prog 27 t27 := tabOk Tryz.func27 rfl ord27 ok27 (by kernel_rfl) rfl

/-- stagepost/lexer.number -/
def c28 : ACode :=
 .seq (.region [
  ⟨some 2, .box 27 4 (.const (.agg [(.int .u8 0), (.str []), (.int .u64 0), (.int .i64 0)])), none, []⟩, 
  ⟨some 3, .mov (.const (.int .i64 0)), none, []⟩, 
  ⟨some 4, .mov (.const (.int .i64 0)), none, []⟩] [])
 (.seq (.region [
  ⟨some 5, .mov (.const (.int .i64 0)), none, []⟩] [])
 (.seq (.block 0 (.loop (.seq (.seq (.region [
    ⟨some 8, .mov (.tmp 5), none, []⟩, 
    ⟨some 9, .mov (.tmp 0), none, []⟩, 
    ⟨some 10, .len true (.tmp 9), none, []⟩, 
    ⟨some 11, .bin .lss (.tmp 8) (.tmp 10), none, []⟩, 
    ⟨some 12, .mov (.tmp 11), none, []⟩, 
    ⟨some 13, .mov (.tmp 0), (some (12, true)), []⟩, 
    ⟨some 14, .mov (.tmp 5), (some (12, true)), []⟩, 
    ⟨some 15, .index (.tmp 13) (.tmp 14), (some (12, true)), []⟩, 
    ⟨some 16, .call 27 [(.tmp 15)], (some (12, true)), []⟩, 
    ⟨some 17, .pick (.tmp 12) (.tmp 16) (.const (.bool false)), none, []⟩] [8, 9, 10, 11, 12, 13, 14, 15, 16])
   (.cond (.tmp 17)
    (.skip)
    (.exit 0)))
   (.block 1 (.region [
     ⟨some 18, .mov (.tmp 5), none, []⟩, 
     ⟨some 19, .bin .add (.tmp 18) (.const (.int .i64 1)), none, []⟩, 
     ⟨some 5, .mov (.tmp 19), none, []⟩] [18, 19])))))
 (.seq (.region [
  ⟨some 21, .mov (.tmp 0), none, []⟩, 
  ⟨some 22, .mov (.tmp 5), none, []⟩, 
  ⟨some 23, .sliceStr (.tmp 21) none (some (.tmp 22)), none, []⟩, 
  ⟨some 24, .call 51 [(.tmp 23), (.const (.int .i64 10)), (.const (.int .i64 64))], none, []⟩, 
  ⟨some 20, .mov (.tmp 24), none, []⟩, 
  ⟨some 25, .extract (.tmp 20) 0, none, []⟩, 
  ⟨some 26, .extract (.tmp 20) 1, none, []⟩, 
  ⟨some 6, .mov (.tmp 25), none, []⟩, 
  ⟨some 7, .mov (.tmp 26), none, []⟩] [21, 22, 23, 24, 20, 25, 26])
 (.seq (.seq (.region [
  ⟨some 27, .mov (.tmp 7), none, []⟩, 
  ⟨some 28, .eqI true (.tmp 27) (.const .nili), none, []⟩, 
  ⟨some 29, .mov (.tmp 28), none, []⟩, 
  ⟨some 30, .mov (.tmp 6), (some (29, false)), []⟩, 
  ⟨some 31, .bin .gtr (.tmp 30) (.const (.int .u64 9223372036854775808)), (some (29, false)), []⟩, 
  ⟨some 32, .pick (.tmp 29) (.const (.bool true)) (.tmp 31), none, []⟩] [27, 28, 29, 30, 31])
 (.cond (.tmp 32)
  (.seq (.region [
   ⟨some 33, .build [(.int .u8 0), (.str []), (.int .u64 0), (.int .i64 0)] [], none, []⟩, 
   ⟨none, .store 4 (.tmp 2) (.tmp 33), none, []⟩, 
   ⟨some 3, .mov (.const (.int .i64 0)), none, []⟩, 
   ⟨some 4, .mov (.const (.int .i64 233)), none, []⟩] [33])
  (.ret))
  (.skip)))
 (.seq (.region [
  ⟨some 34, .mov (.tmp 6), none, []⟩, 
  ⟨some 35, .build [(.int .u8 0), (.str []), (.int .u64 0), (.int .i64 0)] [(0, 1, (.const (.int .u8 2))), (2, 1, (.tmp 34))], none, []⟩, 
  ⟨some 36, .mov (.tmp 5), none, []⟩, 
  ⟨none, .store 4 (.tmp 2) (.tmp 35), none, []⟩, 
  ⟨some 3, .mov (.tmp 36), none, []⟩, 
  ⟨some 4, .mov (.const (.int .i64 0)), none, []⟩] [34, 35, 36])
 (.ret))))))
theorem ok28 : erase c28 = cCode Tryz.prog 37 ((Tryz.f28).body.getD .skip) := by kernel_rfl
theorem ord28 : ordsOk c28 = true := by kernel_rfl
theorem call28 {args : List SV} {h : Heap} {R : AEnd → Heap → Prop} (hn : Nat.ble args.length 37 = true) (hp : awp Tryz.prog c28 (finQ [.cellA 2 4, .tmp 3, .tmp 4] R) (argEnv 0 args) h) : ACall Tryz.prog 28 args h R :=
  acall_of_awp mixed Tryz.func28 rfl ord28 ok28 (by kernel_rfl) hn hp
def t28 : Tab := ⟨37, c28, [.cellA 2 4, .tmp 3, .tmp 4]⟩
theorem tab28 : TabOk Tryz.prog 28 t28 := tabOk Tryz.func28 rfl ord28 ok28 (by kernel_rfl) rfl

/-- stagepost/lexer.text -/
def c29 : ACode :=
 .seq (.region [
  ⟨some 2, .box 27 4 (.const (.agg [(.int .u8 0), (.str []), (.int .u64 0), (.int .i64 0)])), none, []⟩, 
  ⟨some 3, .mov (.const (.int .i64 0)), none, []⟩, 
  ⟨some 4, .mov (.const (.int .i64 0)), none, []⟩] [])
 (.seq (.region [
  ⟨some 5, .box 55 2 (.const (.agg [.nilp, .nils])), none, []⟩] [])
 (.seq (.region [
  ⟨some 6, .mov (.const (.bool false)), none, []⟩, 
  ⟨some 7, .mov (.const (.bool false)), none, []⟩] [])
 (.seq (.seq (.region [
  ⟨some 12, .mov (.tmp 0), none, []⟩, 
  ⟨some 13, .rangeS (.tmp 12), none, []⟩] [12])
 (.block 0 (.loop (.seq (.region [
    ⟨some 14, .nextS (.tmp 13), none, []⟩, 
    ⟨some 15, .extract (.tmp 14) 0, none, []⟩] [])
   (.seq (.cond (.tmp 15)
    (.skip)
    (.exit 0))
   (.block 1 (.seq (.region [
     ⟨some 16, .extract (.tmp 14) 1, none, []⟩, 
     ⟨some 17, .extract (.tmp 14) 2, none, []⟩, 
     ⟨some 8, .mov (.tmp 16), none, []⟩, 
     ⟨some 9, .mov (.tmp 17), none, []⟩] [16, 17])
    (.block 2 (.seq (.region [
      ⟨some 23, .mov (.tmp 8), none, []⟩, 
      ⟨some 24, .bin .eql (.tmp 23) (.const (.int .i64 0)), none, []⟩, 
      ⟨some 22, .mov (.tmp 24), none, []⟩] [23, 24])
     (.cond (.tmp 22)
      (.skip)
      (.seq (.region [
       ⟨some 26, .mov (.tmp 7), none, []⟩, 
       ⟨some 25, .mov (.tmp 26), none, []⟩] [26])
      (.cond (.tmp 25)
       (.region [
        ⟨some 7, .mov (.const (.bool false)), none, []⟩] [])
       (.seq (.region [
        ⟨some 28, .mov (.tmp 9), none, []⟩, 
        ⟨some 29, .bin .neq (.tmp 28) (.const (.int .i32 39)), none, []⟩, 
        ⟨some 27, .mov (.tmp 29), none, []⟩] [28, 29])
       (.cond (.tmp 27)
        (.seq (.region [
         ⟨some 31, .mov (.tmp 0), none, []⟩, 
         ⟨some 32, .mov (.tmp 8), none, []⟩, 
         ⟨some 33, .sliceStr (.tmp 31) (some (.tmp 32)) none, none, []⟩, 
         ⟨some 34, .call 52 [(.tmp 33)], none, []⟩, 
         ⟨some 30, .mov (.tmp 34), none, []⟩, 
         ⟨some 35, .extract (.tmp 30) 0, none, []⟩, 
         ⟨some 36, .extract (.tmp 30) 1, none, []⟩, 
         ⟨some 10, .mov (.tmp 35), none, []⟩, 
         ⟨some 11, .mov (.tmp 36), none, []⟩] [31, 32, 33, 34, 30, 35, 36, 10])
        (.seq (.region [
         ⟨some 37, .mov (.tmp 6), none, []⟩, 
         ⟨some 38, .mov (.tmp 37), none, []⟩, 
         ⟨some 39, .mov (.tmp 9), (some (38, false)), []⟩, 
         ⟨some 40, .bin .eql (.tmp 39) (.const (.int .i32 65533)), (some (38, false)), []⟩, 
         ⟨some 41, .mov (.tmp 40), (some (38, false)), []⟩, 
         ⟨some 42, .mov (.tmp 11), (some (41, true)), []⟩, 
         ⟨some 43, .bin .eql (.tmp 42) (.const (.int .i64 1)), (some (41, true)), []⟩, 
         ⟨some 44, .pick (.tmp 41) (.tmp 43) (.const (.bool false)), (some (38, false)), []⟩, 
         ⟨some 45, .pick (.tmp 38) (.const (.bool true)) (.tmp 44), none, []⟩, 
         ⟨some 6, .mov (.tmp 45), none, []⟩] [37, 38, 39, 40, 41, 42, 43, 44, 45])
        (.region [
         ⟨some 46, .mov (.tmp 0), none, []⟩, 
         ⟨some 47, .mov (.tmp 8), none, []⟩, 
         ⟨some 48, .mov (.tmp 8), none, []⟩, 
         ⟨some 49, .mov (.tmp 11), none, []⟩, 
         ⟨some 50, .bin .add (.tmp 48) (.tmp 49), none, []⟩, 
         ⟨some 51, .sliceStr (.tmp 46) (some (.tmp 47)) (some (.tmp 50)), none, []⟩, 
         ⟨some 52, .call 43 [(.tmp 5), (.tmp 51)], none, []⟩] [46, 47, 48, 49, 50, 51, 52])))
        (.seq (.region [
         ⟨some 54, .mov (.tmp 0), none, []⟩, 
         ⟨some 55, .mov (.tmp 8), none, []⟩, 
         ⟨some 56, .sliceStr (.tmp 54) (some (.tmp 55)) none, none, []⟩, 
         ⟨some 57, .call 31 [(.tmp 56), (.const (.str [39, 39]))], none, []⟩, 
         ⟨some 53, .mov (.tmp 57), none, []⟩] [54, 55, 56, 57])
        (.cond (.tmp 53)
         (.seq (.region [
          ⟨some 58, .call 53 [(.tmp 5), (.const (.int .u8 39))], none, []⟩] [58])
         (.region [
          ⟨some 7, .mov (.const (.bool true)), none, []⟩] []))
         (.seq (.region [
          ⟨some 60, .mov (.tmp 6), none, []⟩, 
          ⟨some 59, .mov (.tmp 60), none, []⟩] [60])
         (.cond (.tmp 59)
          (.seq (.region [
           ⟨some 61, .build [(.int .u8 0), (.str []), (.int .u64 0), (.int .i64 0)] [], none, []⟩, 
           ⟨none, .store 4 (.tmp 2) (.tmp 61), none, []⟩, 
           ⟨some 3, .mov (.const (.int .i64 0)), none, []⟩, 
           ⟨some 4, .mov (.const (.int .i64 232)), none, []⟩] [61])
          (.ret))
          (.seq (.region [
           ⟨some 63, .call 54 [(.tmp 5)], none, []⟩, 
           ⟨some 64, .bin .gtr (.tmp 63) (.const (.int .i64 64)), none, []⟩, 
           ⟨some 62, .mov (.tmp 64), none, []⟩] [63, 64])
          (.cond (.tmp 62)
           (.seq (.region [
            ⟨some 65, .build [(.int .u8 0), (.str []), (.int .u64 0), (.int .i64 0)] [], none, []⟩, 
            ⟨none, .store 4 (.tmp 2) (.tmp 65), none, []⟩, 
            ⟨some 3, .mov (.const (.int .i64 0)), none, []⟩, 
            ⟨some 4, .mov (.const (.int .i64 3)), none, []⟩] [65])
           (.ret))
           (.seq (.region [
            ⟨some 18, .call 44 [(.tmp 5)], none, []⟩, 
            ⟨some 19, .build [(.int .u8 0), (.str []), (.int .u64 0), (.int .i64 0)] [(0, 1, (.const (.int .u8 3))), (1, 1, (.tmp 18))], none, []⟩, 
            ⟨some 20, .mov (.tmp 8), none, []⟩, 
            ⟨some 21, .bin .add (.tmp 20) (.const (.int .i64 1)), none, []⟩, 
            ⟨none, .store 4 (.tmp 2) (.tmp 19), none, []⟩, 
            ⟨some 3, .mov (.tmp 21), none, []⟩, 
            ⟨some 4, .mov (.const (.int .i64 0)), none, []⟩] [18, 19, 20, 21])
           (.ret))))))))))))))))))))))
 (.seq (.region [
  ⟨some 66, .build [(.int .u8 0), (.str []), (.int .u64 0), (.int .i64 0)] [], none, []⟩, 
  ⟨none, .store 4 (.tmp 2) (.tmp 66), none, []⟩, 
  ⟨some 3, .mov (.const (.int .i64 0)), none, []⟩, 
  ⟨some 4, .mov (.const (.int .i64 231)), none, []⟩] [66])
 (.ret)))))
theorem ok29 : erase c29 = cCode Tryz.prog 67 ((Tryz.f29).body.getD .skip) := by kernel_rfl
theorem ord29 : ordsOk c29 = true := by kernel_rfl
theorem call29 {args : List SV} {h : Heap} {R : AEnd → Heap → Prop} (hn : Nat.ble args.length 67 = true) (hp : awp Tryz.prog c29 (finQ [.cellA 2 4, .tmp 3, .tmp 4] R) (argEnv 0 args) h) : ACall Tryz.prog 29 args h R :=
  acall_of_awp mixed Tryz.func29 rfl ord29 ok29 (by kernel_rfl) hn hp
def t29 : Tab := ⟨67, c29, [.cellA 2 4, .tmp 3, .tmp 4]⟩
theorem tab29 : TabOk Tryz.prog 29 t29 := tabOk Tryz.func29 rfl ord29 ok29 (by kernel_rfl) rfl

/-- stagepost/lexer.signs -/
def c30 : ACode :=
 .seq (.region [
  ⟨some 0, .mov (.const .nils), none, []⟩] [])
 (.seq (.region [
  ⟨some 1, .call 48 [(.const (.str [60, 62, 32, 60, 61, 32, 62, 61, 32, 124, 124, 32, 40, 32, 41, 32, 44, 32, 59, 32, 46, 32, 42, 32, 43, 32, 45, 32, 47, 32, 37, 32, 61, 32, 60, 32, 62]))], none, []⟩, 
  ⟨some 0, .mov (.tmp 1), none, []⟩] [1])
 (.ret))
theorem ok30 : erase c30 = cCode Tryz.prog 2 ((Tryz.f30).body.getD .skip) := by kernel_rfl
theorem ord30 : ordsOk c30 = true := by kernel_rfl
theorem call30 {args : List SV} {h : Heap} {R : AEnd → Heap → Prop} (hn : Nat.ble args.length 2 = true) (hp : awp Tryz.prog c30 (finQ [.tmp 0] R) (argEnv 0 args) h) : ACall Tryz.prog 30 args h R :=
  acall_of_awp mixed Tryz.func30 rfl ord30 ok30 (by kernel_rfl) hn hp
def t30 : Tab := ⟨2, c30, [.tmp 0]⟩
theorem tab30 : TabOk Tryz.prog 30 t30 := tabOk Tryz.func30 rfl ord30 ok30 (by kernel_rfl) rfl

/-- strings.HasPrefix -/
def c31 : ACode :=
 .seq (.region [
  ⟨some 4, .mov (.const (.bool false)), none, []⟩] [])
 (.seq (.region [
  ⟨some 5, .mov (.tmp 0), none, []⟩, 
  ⟨some 6, .mov (.tmp 1), none, []⟩, 
  ⟨some 7, .call 55 [(.tmp 5), (.tmp 6)], none, []⟩, 
  ⟨some 4, .mov (.tmp 7), none, []⟩] [5, 6, 7])
 (.ret))
theorem ok31 : erase c31 = cCode Tryz.prog 8 ((Tryz.f31).body.getD .skip) := by kernel_rfl
theorem ord31 : ordsOk c31 = true := by kernel_rfl
theorem call31 {args : List SV} {h : Heap} {R : AEnd → Heap → Prop} (hn : Nat.ble args.length 8 = true) (hp : awp Tryz.prog c31 (finQ [.tmp 4] R) (argEnv 0 args) h) : ACall Tryz.prog 31 args h R :=
  acall_of_awp mixed Tryz.func31 rfl ord31 ok31 (by kernel_rfl) hn hp
def t31 : Tab := ⟨8, c31, [.tmp 4]⟩
theorem tab31 : TabOk Tryz.prog 31 t31 := tabOk Tryz.func31 rfl ord31 ok31 (by kernel_rfl) rfl

/-- stagepost/stagepostref13.letter -/
def c32 : ACode :=
 .seq (.region [
  ⟨some 2, .mov (.const (.bool false)), none, []⟩] [])
 (.seq (.region [
  ⟨some 3, .mov (.tmp 0), none, []⟩, 
  ⟨some 4, .call 56 [(.tmp 3)], none, []⟩, 
  ⟨some 5, .mov (.tmp 4), none, []⟩, 
  ⟨some 6, .mov (.tmp 0), (some (5, false)), []⟩, 
  ⟨some 7, .bin .geq (.tmp 6) (.const (.int .u8 65)), (some (5, false)), []⟩, 
  ⟨some 8, .mov (.tmp 7), (some (5, false)), []⟩, 
  ⟨some 9, .mov (.tmp 0), (some (8, true)), []⟩, 
  ⟨some 10, .bin .leq (.tmp 9) (.const (.int .u8 90)), (some (8, true)), []⟩, 
  ⟨some 11, .pick (.tmp 8) (.tmp 10) (.const (.bool false)), (some (5, false)), []⟩, 
  ⟨some 12, .pick (.tmp 5) (.const (.bool true)) (.tmp 11), none, []⟩, 
  ⟨some 2, .mov (.tmp 12), none, []⟩] [3, 4, 5, 6, 7, 8, 9, 10, 11, 12])
 (.ret))
theorem ok32 : erase c32 = cCode Tryz.prog 13 ((Tryz.f32).body.getD .skip) := by kernel_rfl
theorem ord32 : ordsOk c32 = true := by kernel_rfl
theorem call32 {args : List SV} {h : Heap} {R : AEnd → Heap → Prop} (hn : Nat.ble args.length 13 = true) (hp : awp Tryz.prog c32 (finQ [.tmp 2] R) (argEnv 0 args) h) : ACall Tryz.prog 32 args h R :=
  acall_of_awp mixed Tryz.func32 rfl ord32 ok32 (by kernel_rfl) hn hp
def t32 : Tab := ⟨13, c32, [.tmp 2]⟩
theorem tab32 : TabOk Tryz.prog 32 t32 := tabOk Tryz.func32 rfl ord32 ok32 (by kernel_rfl) rfl

/-- stagepost/stagepostref13.word -/
def c33 : ACode :=
 .seq (.region [
  ⟨some 4, .box 27 4 (.const (.agg [(.int .u8 0), (.str []), (.int .u64 0), (.int .i64 0)])), none, []⟩, 
  ⟨some 5, .mov (.const (.int .i64 0)), none, []⟩, 
  ⟨some 6, .mov (.const (.int .i64 0)), none, []⟩] [])
 (.seq (.region [
  ⟨some 7, .mov (.const .nils), none, []⟩] [])
 (.seq (.region [
  ⟨some 10, .mov (.tmp 1), none, []⟩, 
  ⟨some 8, .mov (.tmp 10), none, []⟩] [10])
 (.seq (.block 0 (.loop (.seq (.seq (.region [
    ⟨some 11, .mov (.tmp 8), none, []⟩, 
    ⟨some 12, .mov (.tmp 0), none, []⟩, 
    ⟨some 13, .len true (.tmp 12), none, []⟩, 
    ⟨some 14, .bin .lss (.tmp 11) (.tmp 13), none, []⟩, 
    ⟨some 15, .mov (.tmp 14), none, []⟩, 
    ⟨some 16, .mov (.tmp 0), (some (15, true)), []⟩, 
    ⟨some 17, .mov (.tmp 8), (some (15, true)), []⟩, 
    ⟨some 18, .index (.tmp 16) (.tmp 17), (some (15, true)), []⟩, 
    ⟨some 19, .call 32 [(.tmp 18)], (some (15, true)), []⟩, 
    ⟨some 20, .mov (.tmp 19), (some (15, true)), []⟩, 
    ⟨some 21, .mov (.tmp 0), (some (20, false)), []⟩, 
    ⟨some 22, .mov (.tmp 8), (some (20, false)), []⟩, 
    ⟨some 23, .index (.tmp 21) (.tmp 22), (some (20, false)), []⟩, 
    ⟨some 24, .call 34 [(.tmp 23)], (some (20, false)), []⟩, 
    ⟨some 25, .pick (.tmp 20) (.const (.bool true)) (.tmp 24), (some (15, true)), []⟩, 
    ⟨some 26, .pick (.tmp 15) (.tmp 25) (.const (.bool false)), none, []⟩] [11, 12, 13, 14, 15, 16, 17, 18, 19, 20, 21, 22, 23, 24, 25])
   (.cond (.tmp 26)
    (.skip)
    (.exit 0)))
   (.block 1 (.seq (.region [
     ⟨some 27, .mov (.tmp 0), none, []⟩, 
     ⟨some 28, .mov (.tmp 8), none, []⟩, 
     ⟨some 29, .index (.tmp 27) (.tmp 28), none, []⟩, 
     ⟨some 9, .mov (.tmp 29), none, []⟩] [27, 28, 29])
    (.seq (.seq (.region [
     ⟨some 30, .mov (.tmp 9), none, []⟩, 
     ⟨some 31, .bin .geq (.tmp 30) (.const (.int .u8 65)), none, []⟩, 
     ⟨some 32, .mov (.tmp 31), none, []⟩, 
     ⟨some 33, .mov (.tmp 9), (some (32, true)), []⟩, 
     ⟨some 34, .bin .leq (.tmp 33) (.const (.int .u8 90)), (some (32, true)), []⟩, 
     ⟨some 35, .pick (.tmp 32) (.tmp 34) (.const (.bool false)), none, []⟩] [30, 31, 32, 33, 34])
    (.cond (.tmp 35)
     (.region [
      ⟨some 36, .mov (.tmp 9), none, []⟩, 
      ⟨some 37, .bin .add (.tmp 36) (.const (.int .u8 32)), none, []⟩, 
      ⟨some 9, .mov (.tmp 37), none, []⟩] [36, 37])
     (.skip)))
    (.seq (.region [
     ⟨some 38, .mov (.tmp 7), none, []⟩, 
     ⟨some 39, .mov (.tmp 9), none, []⟩, 
     ⟨some 40, .buildSlice 5 1 (.int .u8 0) 1 [(0, (.tmp 39))], none, []⟩, 
     ⟨some 41, .append 5 1 1 (.tmp 38) (.tmp 40), none, []⟩, 
     ⟨some 7, .mov (.tmp 41), none, []⟩] [38, 39, 40, 41])
    (.region [
     ⟨some 42, .mov (.tmp 8), none, []⟩, 
     ⟨some 43, .bin .add (.tmp 42) (.const (.int .i64 1)), none, []⟩, 
     ⟨some 8, .mov (.tmp 43), none, []⟩] [42, 43]))))))))
 (.seq (.seq (.region [
  ⟨some 44, .mov (.tmp 7), none, []⟩, 
  ⟨some 45, .len false (.tmp 44), none, []⟩, 
  ⟨some 46, .bin .gtr (.tmp 45) (.const (.int .i64 32)), none, []⟩] [44, 45])
 (.cond (.tmp 46)
  (.seq (.region [
   ⟨some 47, .build [(.int .u8 0), (.str []), (.int .u64 0), (.int .i64 0)] [], none, []⟩, 
   ⟨some 48, .mov (.tmp 8), none, []⟩, 
   ⟨none, .store 4 (.tmp 4) (.tmp 47), none, []⟩, 
   ⟨some 5, .mov (.tmp 48), none, []⟩, 
   ⟨some 6, .mov (.const (.int .i64 3)), none, []⟩] [47, 48])
  (.ret))
  (.skip)))
 (.seq (.region [
  ⟨some 49, .mov (.tmp 7), none, []⟩, 
  ⟨some 50, .toStr (.tmp 49), none, []⟩, 
  ⟨some 51, .mov (.tmp 1), none, []⟩, 
  ⟨some 52, .build [(.int .u8 0), (.str []), (.int .u64 0), (.int .i64 0)] [(0, 1, (.const (.int .u8 1))), (1, 1, (.tmp 50)), (3, 1, (.tmp 51))], none, []⟩, 
  ⟨some 53, .mov (.tmp 8), none, []⟩, 
  ⟨none, .store 4 (.tmp 4) (.tmp 52), none, []⟩, 
  ⟨some 5, .mov (.tmp 53), none, []⟩, 
  ⟨some 6, .mov (.const (.int .i64 0)), none, []⟩] [49, 50, 51, 52, 53])
 (.ret))))))
theorem ok33 : erase c33 = cCode Tryz.prog 54 ((Tryz.f33).body.getD .skip) := by kernel_rfl
theorem ord33 : ordsOk c33 = true := by kernel_rfl
theorem call33 {args : List SV} {h : Heap} {R : AEnd → Heap → Prop} (hn : Nat.ble args.length 54 = true) (hp : awp Tryz.prog c33 (finQ [.cellA 4 4, .tmp 5, .tmp 6] R) (argEnv 0 args) h) : ACall Tryz.prog 33 args h R :=
  acall_of_awp mixed Tryz.func33 rfl ord33 ok33 (by kernel_rfl) hn hp
def t33 : Tab := ⟨54, c33, [.cellA 4 4, .tmp 5, .tmp 6]⟩
theorem tab33 : TabOk Tryz.prog 33 t33 := tabOk Tryz.func33 rfl ord33 ok33 (by kernel_rfl) rfl

/-- stagepost/stagepostref13.digit -/
def c34 : ACode :=
 .seq (.region [
  ⟨some 2, .mov (.const (.bool false)), none, []⟩] [])
 (.seq (.region [
  ⟨some 3, .mov (.tmp 0), none, []⟩, 
  ⟨some 4, .bin .geq (.tmp 3) (.const (.int .u8 48)), none, []⟩, 
  ⟨some 5, .mov (.tmp 4), none, []⟩, 
  ⟨some 6, .mov (.tmp 0), (some (5, true)), []⟩, 
  ⟨some 7, .bin .leq (.tmp 6) (.const (.int .u8 57)), (some (5, true)), []⟩, 
  ⟨some 8, .pick (.tmp 5) (.tmp 7) (.const (.bool false)), none, []⟩, 
  ⟨some 2, .mov (.tmp 8), none, []⟩] [3, 4, 5, 6, 7, 8])
 (.ret))
theorem ok34 : erase c34 = cCode Tryz.prog 9 ((Tryz.f34).body.getD .skip) := by kernel_rfl
theorem ord34 : ordsOk c34 = true := by kernel_rfl
theorem call34 {args : List SV} {h : Heap} {R : AEnd → Heap → Prop} (hn : Nat.ble args.length 9 = true) (hp : awp Tryz.prog c34 (finQ [.tmp 2] R) (argEnv 0 args) h) : ACall Tryz.prog 34 args h R :=
  acall_of_awp mixed Tryz.func34 rfl ord34 ok34 (by kernel_rfl) hn hp
def t34 : Tab := ⟨9, c34, [.tmp 2]⟩
theorem tab34 : TabOk Tryz.prog 34 t34 := tabOk Tryz.func34 rfl ord34 ok34 (by kernel_rfl) rfl

/-- stagepost/stagepostref13.number -/
def c35 : ACode :=
 .seq (.region [
  ⟨some 4, .box 27 4 (.const (.agg [(.int .u8 0), (.str []), (.int .u64 0), (.int .i64 0)])), none, []⟩, 
  ⟨some 5, .mov (.const (.int .i64 0)), none, []⟩, 
  ⟨some 6, .mov (.const (.int .i64 0)), none, []⟩] [])
 (.seq (.region [
  ⟨some 11, .mov (.tmp 1), none, []⟩, 
  ⟨some 7, .mov (.tmp 11), none, []⟩] [11])
 (.seq (.region [
  ⟨some 8, .mov (.const (.int .u64 0)), none, []⟩] [])
 (.seq (.region [
  ⟨some 9, .mov (.const (.bool false)), none, []⟩] [])
 (.seq (.block 0 (.loop (.seq (.seq (.region [
    ⟨some 12, .mov (.tmp 7), none, []⟩, 
    ⟨some 13, .mov (.tmp 0), none, []⟩, 
    ⟨some 14, .len true (.tmp 13), none, []⟩, 
    ⟨some 15, .bin .lss (.tmp 12) (.tmp 14), none, []⟩, 
    ⟨some 16, .mov (.tmp 15), none, []⟩, 
    ⟨some 17, .mov (.tmp 0), (some (16, true)), []⟩, 
    ⟨some 18, .mov (.tmp 7), (some (16, true)), []⟩, 
    ⟨some 19, .index (.tmp 17) (.tmp 18), (some (16, true)), []⟩, 
    ⟨some 20, .call 34 [(.tmp 19)], (some (16, true)), []⟩, 
    ⟨some 21, .pick (.tmp 16) (.tmp 20) (.const (.bool false)), none, []⟩] [12, 13, 14, 15, 16, 17, 18, 19, 20])
   (.cond (.tmp 21)
    (.skip)
    (.exit 0)))
   (.block 1 (.seq (.region [
     ⟨some 22, .mov (.tmp 0), none, []⟩, 
     ⟨some 23, .mov (.tmp 7), none, []⟩, 
     ⟨some 24, .index (.tmp 22) (.tmp 23), none, []⟩, 
     ⟨some 25, .bin .sub (.tmp 24) (.const (.int .u8 48)), none, []⟩, 
     ⟨some 26, .conv .u64 (.tmp 25), none, []⟩, 
     ⟨some 10, .mov (.tmp 26), none, []⟩] [22, 23, 24, 25, 26])
    (.seq (.region [
     ⟨some 27, .mov (.tmp 9), none, []⟩, 
     ⟨some 28, .mov (.tmp 27), none, []⟩, 
     ⟨some 29, .mov (.tmp 8), (some (28, false)), []⟩, 
     ⟨some 30, .mov (.tmp 10), (some (28, false)), []⟩, 
     ⟨some 31, .bin .sub (.const (.int .u64 9223372036854775808)) (.tmp 30), (some (28, false)), []⟩, 
     ⟨some 32, .bin .quo (.tmp 31) (.const (.int .u64 10)), (some (28, false)), []⟩, 
     ⟨some 33, .bin .gtr (.tmp 29) (.tmp 32), (some (28, false)), []⟩, 
     ⟨some 34, .pick (.tmp 28) (.const (.bool true)) (.tmp 33), none, []⟩, 
     ⟨some 9, .mov (.tmp 34), none, []⟩] [27, 28, 29, 30, 31, 32, 33, 34])
    (.seq (.region [
     ⟨some 35, .mov (.tmp 8), none, []⟩, 
     ⟨some 36, .bin .mul (.const (.int .u64 10)) (.tmp 35), none, []⟩, 
     ⟨some 37, .mov (.tmp 10), none, []⟩, 
     ⟨some 38, .bin .add (.tmp 36) (.tmp 37), none, []⟩, 
     ⟨some 8, .mov (.tmp 38), none, []⟩] [35, 36, 37, 38])
    (.region [
     ⟨some 39, .mov (.tmp 7), none, []⟩, 
     ⟨some 40, .bin .add (.tmp 39) (.const (.int .i64 1)), none, []⟩, 
     ⟨some 7, .mov (.tmp 40), none, []⟩] [39, 40]))))))))
 (.seq (.seq (.region [
  ⟨some 41, .mov (.tmp 9), none, []⟩] [])
 (.cond (.tmp 41)
  (.seq (.region [
   ⟨some 42, .build [(.int .u8 0), (.str []), (.int .u64 0), (.int .i64 0)] [], none, []⟩, 
   ⟨some 43, .mov (.tmp 7), none, []⟩, 
   ⟨none, .store 4 (.tmp 4) (.tmp 42), none, []⟩, 
   ⟨some 5, .mov (.tmp 43), none, []⟩, 
   ⟨some 6, .mov (.const (.int .i64 233)), none, []⟩] [42, 43])
  (.ret))
  (.skip)))
 (.seq (.region [
  ⟨some 44, .mov (.tmp 8), none, []⟩, 
  ⟨some 45, .mov (.tmp 1), none, []⟩, 
  ⟨some 46, .build [(.int .u8 0), (.str []), (.int .u64 0), (.int .i64 0)] [(0, 1, (.const (.int .u8 2))), (2, 1, (.tmp 44)), (3, 1, (.tmp 45))], none, []⟩, 
  ⟨some 47, .mov (.tmp 7), none, []⟩, 
  ⟨none, .store 4 (.tmp 4) (.tmp 46), none, []⟩, 
  ⟨some 5, .mov (.tmp 47), none, []⟩, 
  ⟨some 6, .mov (.const (.int .i64 0)), none, []⟩] [44, 45, 46, 47])
 (.ret)))))))
theorem ok35 : erase c35 = cCode Tryz.prog 48 ((Tryz.f35).body.getD .skip) := by kernel_rfl
theorem ord35 : ordsOk c35 = true := by kernel_rfl
theorem call35 {args : List SV} {h : Heap} {R : AEnd → Heap → Prop} (hn : Nat.ble args.length 48 = true) (hp : awp Tryz.prog c35 (finQ [.cellA 4 4, .tmp 5, .tmp 6] R) (argEnv 0 args) h) : ACall Tryz.prog 35 args h R :=
  acall_of_awp mixed Tryz.func35 rfl ord35 ok35 (by kernel_rfl) hn hp
def t35 : Tab := ⟨48, c35, [.cellA 4 4, .tmp 5, .tmp 6]⟩
theorem tab35 : TabOk Tryz.prog 35 t35 := tabOk Tryz.func35 rfl ord35 ok35 (by kernel_rfl) rfl

/-- stagepost/stagepostref13.text -/
def c36 : ACode :=
 .seq (.region [
  ⟨some 4, .box 27 4 (.const (.agg [(.int .u8 0), (.str []), (.int .u64 0), (.int .i64 0)])), none, []⟩, 
  ⟨some 5, .mov (.const (.int .i64 0)), none, []⟩, 
  ⟨some 6, .mov (.const (.int .i64 0)), none, []⟩] [])
 (.seq (.region [
  ⟨some 7, .mov (.const .nils), none, []⟩] [])
 (.seq (.seq (.region [
  ⟨some 9, .mov (.tmp 1), none, []⟩, 
  ⟨some 10, .bin .add (.tmp 9) (.const (.int .i64 1)), none, []⟩, 
  ⟨some 8, .mov (.tmp 10), none, []⟩] [9, 10])
 (.block 0 (.loop (.seq (.seq (.region [
    ⟨some 11, .mov (.tmp 8), none, []⟩, 
    ⟨some 12, .mov (.tmp 0), none, []⟩, 
    ⟨some 13, .len true (.tmp 12), none, []⟩, 
    ⟨some 14, .bin .lss (.tmp 11) (.tmp 13), none, []⟩] [11, 12, 13])
   (.cond (.tmp 14)
    (.skip)
    (.exit 0)))
   (.seq (.block 1 (.seq (.seq (.region [
     ⟨some 17, .mov (.tmp 0), none, []⟩, 
     ⟨some 18, .mov (.tmp 8), none, []⟩, 
     ⟨some 19, .index (.tmp 17) (.tmp 18), none, []⟩, 
     ⟨some 20, .bin .neq (.tmp 19) (.const (.int .u8 39)), none, []⟩] [17, 18, 19])
    (.cond (.tmp 20)
     (.seq (.region [
      ⟨some 21, .mov (.tmp 7), none, []⟩, 
      ⟨some 22, .mov (.tmp 0), none, []⟩, 
      ⟨some 23, .mov (.tmp 8), none, []⟩, 
      ⟨some 24, .index (.tmp 22) (.tmp 23), none, []⟩, 
      ⟨some 25, .buildSlice 5 1 (.int .u8 0) 1 [(0, (.tmp 24))], none, []⟩, 
      ⟨some 26, .append 5 1 1 (.tmp 21) (.tmp 25), none, []⟩, 
      ⟨some 7, .mov (.tmp 26), none, []⟩] [21, 22, 23, 24, 25, 26])
     (.exit 1))
     (.skip)))
    (.seq (.seq (.region [
     ⟨some 27, .mov (.tmp 8), none, []⟩, 
     ⟨some 28, .bin .add (.tmp 27) (.const (.int .i64 1)), none, []⟩, 
     ⟨some 29, .mov (.tmp 0), none, []⟩, 
     ⟨some 30, .len true (.tmp 29), none, []⟩, 
     ⟨some 31, .bin .lss (.tmp 28) (.tmp 30), none, []⟩, 
     ⟨some 32, .mov (.tmp 31), none, []⟩, 
     ⟨some 33, .mov (.tmp 0), (some (32, true)), []⟩, 
     ⟨some 34, .mov (.tmp 8), (some (32, true)), []⟩, 
     ⟨some 35, .bin .add (.tmp 34) (.const (.int .i64 1)), (some (32, true)), []⟩, 
     ⟨some 36, .index (.tmp 33) (.tmp 35), (some (32, true)), []⟩, 
     ⟨some 37, .bin .eql (.tmp 36) (.const (.int .u8 39)), (some (32, true)), []⟩, 
     ⟨some 38, .pick (.tmp 32) (.tmp 37) (.const (.bool false)), none, []⟩] [27, 28, 29, 30, 31, 32, 33, 34, 35, 36, 37])
    (.cond (.tmp 38)
     (.seq (.region [
      ⟨some 39, .mov (.tmp 7), none, []⟩, 
      ⟨some 40, .buildSlice 5 1 (.int .u8 0) 1 [(0, (.const (.int .u8 39)))], none, []⟩, 
      ⟨some 41, .append 5 1 1 (.tmp 39) (.tmp 40), none, []⟩, 
      ⟨some 7, .mov (.tmp 41), none, []⟩] [39, 40, 41])
     (.seq (.region [
      ⟨some 42, .mov (.tmp 8), none, []⟩, 
      ⟨some 43, .bin .add (.tmp 42) (.const (.int .i64 1)), none, []⟩, 
      ⟨some 8, .mov (.tmp 43), none, []⟩] [42, 43])
     (.exit 1)))
     (.skip)))
    (.seq (.block 2 (.seq (.region [
      ⟨some 45, .mov (.tmp 7), none, []⟩, 
      ⟨some 46, .call 57 [(.tmp 45)], none, []⟩, 
      ⟨some 47, .un .not (.tmp 46), none, []⟩, 
      ⟨some 44, .mov (.tmp 47), none, []⟩] [45, 46, 47])
     (.cond (.tmp 44)
      (.seq (.region [
       ⟨some 48, .build [(.int .u8 0), (.str []), (.int .u64 0), (.int .i64 0)] [], none, []⟩, 
       ⟨some 49, .mov (.tmp 8), none, []⟩, 
       ⟨some 50, .bin .add (.tmp 49) (.const (.int .i64 1)), none, []⟩, 
       ⟨none, .store 4 (.tmp 4) (.tmp 48), none, []⟩, 
       ⟨some 5, .mov (.tmp 50), none, []⟩, 
       ⟨some 6, .mov (.const (.int .i64 232)), none, []⟩] [48, 49, 50])
      (.ret))
      (.seq (.region [
       ⟨some 52, .mov (.tmp 7), none, []⟩, 
       ⟨some 53, .len false (.tmp 52), none, []⟩, 
       ⟨some 54, .bin .gtr (.tmp 53) (.const (.int .i64 64)), none, []⟩, 
       ⟨some 51, .mov (.tmp 54), none, []⟩] [52, 53, 54])
      (.cond (.tmp 51)
       (.seq (.region [
        ⟨some 55, .build [(.int .u8 0), (.str []), (.int .u64 0), (.int .i64 0)] [], none, []⟩, 
        ⟨some 56, .mov (.tmp 8), none, []⟩, 
        ⟨some 57, .bin .add (.tmp 56) (.const (.int .i64 1)), none, []⟩, 
        ⟨none, .store 4 (.tmp 4) (.tmp 55), none, []⟩, 
        ⟨some 5, .mov (.tmp 57), none, []⟩, 
        ⟨some 6, .mov (.const (.int .i64 3)), none, []⟩] [55, 56, 57])
       (.ret))
       (.skip))))))
    (.seq (.region [
     ⟨some 58, .mov (.tmp 7), none, []⟩, 
     ⟨some 59, .toStr (.tmp 58), none, []⟩, 
     ⟨some 60, .mov (.tmp 1), none, []⟩, 
     ⟨some 61, .build [(.int .u8 0), (.str []), (.int .u64 0), (.int .i64 0)] [(0, 1, (.const (.int .u8 3))), (1, 1, (.tmp 59)), (3, 1, (.tmp 60))], none, []⟩, 
     ⟨some 62, .mov (.tmp 8), none, []⟩, 
     ⟨some 63, .bin .add (.tmp 62) (.const (.int .i64 1)), none, []⟩, 
     ⟨none, .store 4 (.tmp 4) (.tmp 61), none, []⟩, 
     ⟨some 5, .mov (.tmp 63), none, []⟩, 
     ⟨some 6, .mov (.const (.int .i64 0)), none, []⟩] [58, 59, 60, 61, 62, 63])
    (.ret))))))
   (.region [
    ⟨some 15, .mov (.tmp 8), none, []⟩, 
    ⟨some 16, .bin .add (.tmp 15) (.const (.int .i64 1)), none, []⟩, 
    ⟨some 8, .mov (.tmp 16), none, []⟩] [15, 16]))))))
 (.seq (.region [
  ⟨some 64, .build [(.int .u8 0), (.str []), (.int .u64 0), (.int .i64 0)] [], none, []⟩, 
  ⟨some 65, .mov (.tmp 0), none, []⟩, 
  ⟨some 66, .len true (.tmp 65), none, []⟩, 
  ⟨none, .store 4 (.tmp 4) (.tmp 64), none, []⟩, 
  ⟨some 5, .mov (.tmp 66), none, []⟩, 
  ⟨some 6, .mov (.const (.int .i64 231)), none, []⟩] [64, 65, 66])
 (.ret))))
theorem ok36 : erase c36 = cCode Tryz.prog 67 ((Tryz.f36).body.getD .skip) := by kernel_rfl
theorem ord36 : ordsOk c36 = true := by kernel_rfl
theorem call36 {args : List SV} {h : Heap} {R : AEnd → Heap → Prop} (hn : Nat.ble args.length 67 = true) (hp : awp Tryz.prog c36 (finQ [.cellA 4 4, .tmp 5, .tmp 6] R) (argEnv 0 args) h) : ACall Tryz.prog 36 args h R :=
  acall_of_awp mixed Tryz.func36 rfl ord36 ok36 (by kernel_rfl) hn hp
def t36 : Tab := ⟨67, c36, [.cellA 4 4, .tmp 5, .tmp 6]⟩
theorem tab36 : TabOk Tryz.prog 36 t36 := tabOk Tryz.func36 rfl ord36 ok36 (by kernel_rfl) rfl

/-- stagepost/stagepostref13.two -/
def c37 : ACode :=
 .seq (.region [
  ⟨some 2, .mov (.const (.bool false)), none, []⟩] [])
 (.seq (.region [
  ⟨some 3, .mov (.tmp 0), none, []⟩, 
  ⟨some 4, .bin .eql (.tmp 3) (.const (.str [60, 62])), none, []⟩, 
  ⟨some 5, .mov (.tmp 4), none, []⟩, 
  ⟨some 6, .mov (.tmp 0), (some (5, false)), []⟩, 
  ⟨some 7, .bin .eql (.tmp 6) (.const (.str [60, 61])), (some (5, false)), []⟩, 
  ⟨some 8, .pick (.tmp 5) (.const (.bool true)) (.tmp 7), none, []⟩, 
  ⟨some 9, .mov (.tmp 8), none, []⟩, 
  ⟨some 10, .mov (.tmp 0), (some (9, false)), []⟩, 
  ⟨some 11, .bin .eql (.tmp 10) (.const (.str [62, 61])), (some (9, false)), []⟩, 
  ⟨some 12, .pick (.tmp 9) (.const (.bool true)) (.tmp 11), none, []⟩, 
  ⟨some 13, .mov (.tmp 12), none, []⟩, 
  ⟨some 14, .mov (.tmp 0), (some (13, false)), []⟩, 
  ⟨some 15, .bin .eql (.tmp 14) (.const (.str [124, 124])), (some (13, false)), []⟩, 
  ⟨some 16, .pick (.tmp 13) (.const (.bool true)) (.tmp 15), none, []⟩, 
  ⟨some 2, .mov (.tmp 16), none, []⟩] [3, 4, 5, 6, 7, 8, 9, 10, 11, 12, 13, 14, 15, 16])
 (.ret))
theorem ok37 : erase c37 = cCode Tryz.prog 17 ((Tryz.f37).body.getD .skip) := by kernel_rfl
theorem ord37 : ordsOk c37 = true := by kernel_rfl
theorem call37 {args : List SV} {h : Heap} {R : AEnd → Heap → Prop} (hn : Nat.ble args.length 17 = true) (hp : awp Tryz.prog c37 (finQ [.tmp 2] R) (argEnv 0 args) h) : ACall Tryz.prog 37 args h R :=
  acall_of_awp mixed Tryz.func37 rfl ord37 ok37 (by kernel_rfl) hn hp
def t37 : Tab := ⟨17, c37, [.tmp 2]⟩
theorem tab37 : TabOk Tryz.prog 37 t37 := tabOk Tryz.func37 rfl ord37 ok37 (by kernel_rfl) rfl

/-- stagepost/stagepostref13.one -/
def c38 : ACode :=
 .seq (.region [
  ⟨some 2, .mov (.const (.bool false)), none, []⟩] [])
 (.seq (.region [
  ⟨some 3, .mov (.const (.str [40, 41, 44, 59, 46, 42, 43, 45, 47, 37, 61, 60, 62])), none, []⟩] [])
 (.seq (.seq (.region [
  ⟨some 4, .mov (.const (.int .i64 0)), none, []⟩] [])
 (.block 0 (.loop (.seq (.seq (.region [
    ⟨some 5, .mov (.tmp 4), none, []⟩, 
    ⟨some 6, .mov (.tmp 3), none, []⟩, 
    ⟨some 7, .len true (.tmp 6), none, []⟩, 
    ⟨some 8, .bin .lss (.tmp 5) (.tmp 7), none, []⟩] [5, 6, 7])
   (.cond (.tmp 8)
    (.skip)
    (.exit 0)))
   (.seq (.block 1 (.seq (.region [
     ⟨some 11, .mov (.tmp 3), none, []⟩, 
     ⟨some 12, .mov (.tmp 4), none, []⟩, 
     ⟨some 13, .index (.tmp 11) (.tmp 12), none, []⟩, 
     ⟨some 14, .mov (.tmp 0), none, []⟩, 
     ⟨some 15, .bin .eql (.tmp 13) (.tmp 14), none, []⟩] [11, 12, 13, 14])
    (.cond (.tmp 15)
     (.seq (.region [
      ⟨some 2, .mov (.const (.bool true)), none, []⟩] [])
     (.ret))
     (.skip))))
   (.region [
    ⟨some 9, .mov (.tmp 4), none, []⟩, 
    ⟨some 10, .bin .add (.tmp 9) (.const (.int .i64 1)), none, []⟩, 
    ⟨some 4, .mov (.tmp 10), none, []⟩] [9, 10]))))))
 (.seq (.region [
  ⟨some 2, .mov (.const (.bool false)), none, []⟩] [])
 (.ret))))
theorem ok38 : erase c38 = cCode Tryz.prog 16 ((Tryz.f38).body.getD .skip) := by kernel_rfl
theorem ord38 : ordsOk c38 = true := by kernel_rfl
theorem call38 {args : List SV} {h : Heap} {R : AEnd → Heap → Prop} (hn : Nat.ble args.length 16 = true) (hp : awp Tryz.prog c38 (finQ [.tmp 2] R) (argEnv 0 args) h) : ACall Tryz.prog 38 args h R :=
  acall_of_awp mixed Tryz.func38 rfl ord38 ok38 (by kernel_rfl) hn hp
def t38 : Tab := ⟨16, c38, [.tmp 2]⟩
theorem tab38 : TabOk Tryz.prog 38 t38 := tabOk Tryz.func38 rfl ord38 ok38 (by kernel_rfl) rfl

def c39r7 : List AOper := [
 ⟨some 27, .mov (.tmp 0), none, []⟩, 
 ⟨some 28, .len true (.tmp 27), none, [0]⟩, 
 ⟨some 29, .bin .gtr (.tmp 28) (.const (.int .i64 16)), none, [1]⟩, 
 ⟨some 30, .mov (.tmp 29), none, [2]⟩, 
 ⟨some 31, .mov (.tmp 0), (some (30, true)), [3]⟩, 
 ⟨some 32, .call 58 [(.tmp 31)], (some (30, true)), [4, 3, 3]⟩, 
 ⟨some 33, .mov (.tmp 0), (some (30, true)), [3]⟩, 
 ⟨some 34, .sliceStr (.tmp 33) (some (.const (.int .i64 8))) none, (some (30, true)), [6, 3]⟩, 
 ⟨some 35, .call 58 [(.tmp 34)], (some (30, true)), [7, 5, 3]⟩, 
 ⟨some 36, .bin .or (.tmp 32) (.tmp 35), (some (30, true)), [5, 8, 3]⟩, 
 ⟨some 37, .bin .and (.tmp 36) (.const (.int .u64 9259542123273814144)), (some (30, true)), [9, 3]⟩, 
 ⟨some 38, .bin .eql (.tmp 37) (.const (.int .u64 0)), (some (30, true)), [10, 3]⟩, 
 ⟨some 39, .pick (.tmp 30) (.tmp 38) (.const (.bool false)), none, [3, 11]⟩]
def c39r9 : List AOper := [
 ⟨some 42, .mov (.tmp 0), none, []⟩, 
 ⟨some 43, .len true (.tmp 42), none, [0]⟩, 
 ⟨some 44, .bin .gtr (.tmp 43) (.const (.int .i64 32)), none, [1]⟩, 
 ⟨some 45, .mov (.tmp 44), none, [2]⟩, 
 ⟨some 46, .mov (.tmp 0), (some (45, true)), [3]⟩, 
 ⟨some 47, .call 58 [(.tmp 46)], (some (45, true)), [4, 3, 3]⟩, 
 ⟨some 48, .mov (.tmp 0), (some (45, true)), [3]⟩, 
 ⟨some 49, .sliceStr (.tmp 48) (some (.const (.int .i64 8))) none, (some (45, true)), [6, 3]⟩, 
 ⟨some 50, .call 58 [(.tmp 49)], (some (45, true)), [7, 5, 3]⟩, 
 ⟨some 51, .bin .or (.tmp 47) (.tmp 50), (some (45, true)), [5, 8, 3]⟩, 
 ⟨some 52, .mov (.tmp 0), (some (45, true)), [3]⟩, 
 ⟨some 53, .sliceStr (.tmp 52) (some (.const (.int .i64 16))) none, (some (45, true)), [10, 3]⟩, 
 ⟨some 54, .call 58 [(.tmp 53)], (some (45, true)), [11, 8, 3]⟩, 
 ⟨some 55, .mov (.tmp 0), (some (45, true)), [3]⟩, 
 ⟨some 56, .sliceStr (.tmp 55) (some (.const (.int .i64 24))) none, (some (45, true)), [13, 3]⟩, 
 ⟨some 57, .call 58 [(.tmp 56)], (some (45, true)), [14, 12, 3]⟩, 
 ⟨some 58, .bin .or (.tmp 54) (.tmp 57), (some (45, true)), [12, 15, 3]⟩, 
 ⟨some 59, .bin .or (.tmp 51) (.tmp 58), (some (45, true)), [9, 16, 3]⟩, 
 ⟨some 60, .bin .and (.tmp 59) (.const (.int .u64 9259542123273814144)), (some (45, true)), [17, 3]⟩, 
 ⟨some 61, .bin .eql (.tmp 60) (.const (.int .u64 0)), (some (45, true)), [18, 3]⟩, 
 ⟨some 62, .pick (.tmp 45) (.tmp 61) (.const (.bool false)), none, [3, 19]⟩]
def c39r17 : List AOper := [
 ⟨some 78, .mov (.tmp 0), none, []⟩, 
 ⟨some 79, .len true (.tmp 78), none, [0]⟩, 
 ⟨some 80, .bin .lss (.tmp 79) (.const (.int .i64 2)), none, [1]⟩, 
 ⟨some 81, .mov (.tmp 80), none, [2]⟩, 
 ⟨some 82, .mov (.tmp 0), (some (81, false)), [3]⟩, 
 ⟨some 83, .index (.tmp 82) (.const (.int .i64 1)), (some (81, false)), [4, 3]⟩, 
 ⟨some 84, .fieldAddr 0 (.tmp 6), (some (81, false)), [3]⟩, 
 ⟨some 85, .loadS (.tmp 84), (some (81, false)), [6, 3]⟩, 
 ⟨some 86, .bin .lss (.tmp 83) (.tmp 85), (some (81, false)), [5, 7, 3]⟩, 
 ⟨some 87, .pick (.tmp 81) (.const (.bool true)) (.tmp 86), none, [3, 8]⟩, 
 ⟨some 88, .mov (.tmp 87), none, [9, 3]⟩, 
 ⟨some 89, .fieldAddr 1 (.tmp 6), (some (88, false)), [10]⟩, 
 ⟨some 90, .loadS (.tmp 89), (some (88, false)), [11, 10]⟩, 
 ⟨some 91, .mov (.tmp 0), (some (88, false)), [10]⟩, 
 ⟨some 92, .index (.tmp 91) (.const (.int .i64 1)), (some (88, false)), [13, 10]⟩, 
 ⟨some 93, .bin .lss (.tmp 90) (.tmp 92), (some (88, false)), [12, 14, 10]⟩, 
 ⟨some 94, .pick (.tmp 88) (.const (.bool true)) (.tmp 93), none, [10, 15]⟩]
def c39r21 : List AOper := [
 ⟨some 99, .mov (.tmp 0), none, []⟩, 
 ⟨some 100, .len true (.tmp 99), none, [0]⟩, 
 ⟨some 101, .bin .lss (.tmp 100) (.const (.int .i64 3)), none, [1]⟩, 
 ⟨some 102, .mov (.tmp 101), none, [2]⟩, 
 ⟨some 103, .mov (.tmp 0), (some (102, false)), [3]⟩, 
 ⟨some 104, .index (.tmp 103) (.const (.int .i64 1)), (some (102, false)), [4, 3]⟩, 
 ⟨some 105, .fieldAddr 0 (.tmp 6), (some (102, false)), [3]⟩, 
 ⟨some 106, .loadS (.tmp 105), (some (102, false)), [6, 3]⟩, 
 ⟨some 107, .bin .lss (.tmp 104) (.tmp 106), (some (102, false)), [5, 7, 3]⟩, 
 ⟨some 108, .pick (.tmp 102) (.const (.bool true)) (.tmp 107), none, [3, 8]⟩, 
 ⟨some 109, .mov (.tmp 108), none, [9, 3]⟩, 
 ⟨some 110, .fieldAddr 1 (.tmp 6), (some (109, false)), [10]⟩, 
 ⟨some 111, .loadS (.tmp 110), (some (109, false)), [11, 10]⟩, 
 ⟨some 112, .mov (.tmp 0), (some (109, false)), [10]⟩, 
 ⟨some 113, .index (.tmp 112) (.const (.int .i64 1)), (some (109, false)), [13, 10]⟩, 
 ⟨some 114, .bin .lss (.tmp 111) (.tmp 113), (some (109, false)), [12, 14, 10]⟩, 
 ⟨some 115, .pick (.tmp 109) (.const (.bool true)) (.tmp 114), none, [10, 15]⟩, 
 ⟨some 116, .mov (.tmp 115), none, [16, 10]⟩, 
 ⟨some 117, .mov (.tmp 0), (some (116, false)), [17]⟩, 
 ⟨some 118, .index (.tmp 117) (.const (.int .i64 2)), (some (116, false)), [18, 17]⟩, 
 ⟨some 119, .bin .lss (.tmp 118) (.const (.int .u8 128)), (some (116, false)), [19, 17]⟩, 
 ⟨some 120, .pick (.tmp 116) (.const (.bool true)) (.tmp 119), none, [17, 20]⟩, 
 ⟨some 121, .mov (.tmp 120), none, [21, 17]⟩, 
 ⟨some 122, .mov (.tmp 0), (some (121, false)), [22]⟩, 
 ⟨some 123, .index (.tmp 122) (.const (.int .i64 2)), (some (121, false)), [23, 22]⟩, 
 ⟨some 124, .bin .lss (.const (.int .u8 191)) (.tmp 123), (some (121, false)), [24, 22]⟩, 
 ⟨some 125, .pick (.tmp 121) (.const (.bool true)) (.tmp 124), none, [22, 25]⟩]
def c39r25 : List AOper := (
 ⟨some 130, .mov (.tmp 0), none, []⟩ :: 
 ⟨some 131, .len true (.tmp 130), none, [0]⟩ :: 
 ⟨some 132, .bin .lss (.tmp 131) (.const (.int .i64 4)), none, [1]⟩ :: 
 ⟨some 133, .mov (.tmp 132), none, [2]⟩ :: 
 ⟨some 134, .mov (.tmp 0), (some (133, false)), [3]⟩ :: 
 ⟨some 135, .index (.tmp 134) (.const (.int .i64 1)), (some (133, false)), [4, 3]⟩ :: 
 ⟨some 136, .fieldAddr 0 (.tmp 6), (some (133, false)), [3]⟩ :: 
 ⟨some 137, .loadS (.tmp 136), (some (133, false)), [6, 3]⟩ :: 
 ⟨some 138, .bin .lss (.tmp 135) (.tmp 137), (some (133, false)), [5, 7, 3]⟩ :: 
 ⟨some 139, .pick (.tmp 133) (.const (.bool true)) (.tmp 138), none, [3, 8]⟩ :: 
 ⟨some 140, .mov (.tmp 139), none, [9, 3]⟩ :: 
 ⟨some 141, .fieldAddr 1 (.tmp 6), (some (140, false)), [10]⟩ :: 
 ⟨some 142, .loadS (.tmp 141), (some (140, false)), [11, 10]⟩ :: 
 ⟨some 143, .mov (.tmp 0), (some (140, false)), [10]⟩ :: 
 ⟨some 144, .index (.tmp 143) (.const (.int .i64 1)), (some (140, false)), [13, 10]⟩ :: 
 ⟨some 145, .bin .lss (.tmp 142) (.tmp 144), (some (140, false)), [12, 14, 10]⟩ :: 
 ⟨some 146, .pick (.tmp 140) (.const (.bool true)) (.tmp 145), none, [10, 15]⟩ :: 
 ⟨some 147, .mov (.tmp 146), none, [16, 10]⟩ :: 
 ⟨some 148, .mov (.tmp 0), (some (147, false)), [17]⟩ :: 
 ⟨some 149, .index (.tmp 148) (.const (.int .i64 2)), (some (147, false)), [18, 17]⟩ :: 
 ⟨some 150, .bin .lss (.tmp 149) (.const (.int .u8 128)), (some (147, false)), [19, 17]⟩ :: 
 ⟨some 151, .pick (.tmp 147) (.const (.bool true)) (.tmp 150), none, [17, 20]⟩ :: 
 ⟨some 152, .mov (.tmp 151), none, [21, 17]⟩ :: 
 ⟨some 153, .mov (.tmp 0), (some (152, false)), [22]⟩ :: 
 ⟨some 154, .index (.tmp 153) (.const (.int .i64 2)), (some (152, false)), [23, 22]⟩ :: 
 ⟨some 155, .bin .lss (.const (.int .u8 191)) (.tmp 154), (some (152, false)), [24, 22]⟩ :: 
 ⟨some 156, .pick (.tmp 152) (.const (.bool true)) (.tmp 155), none, [22, 25]⟩ :: 
 ⟨some 157, .mov (.tmp 156), none, [26, 22]⟩ :: 
 ⟨some 158, .mov (.tmp 0), (some (157, false)), [27]⟩ :: 
 ⟨some 159, .index (.tmp 158) (.const (.int .i64 3)), (some (157, false)), [28, 27]⟩ :: 
 ⟨some 160, .bin .lss (.tmp 159) (.const (.int .u8 128)), (some (157, false)), [29, 27]⟩ :: 
 ⟨some 161, .pick (.tmp 157) (.const (.bool true)) (.tmp 160), none, [27, 30]⟩ :: 
 ⟨some 162, .mov (.tmp 161), none, [31, 27]⟩ :: 
 ⟨some 163, .mov (.tmp 0), (some (162, false)), [32]⟩ :: 
 ⟨some 164, .index (.tmp 163) (.const (.int .i64 3)), (some (162, false)), [33, 32]⟩ :: 
 ⟨some 165, .bin .lss (.const (.int .u8 191)) (.tmp 164), (some (162, false)), [34, 32]⟩ :: 
 ⟨some 166, .pick (.tmp 162) (.const (.bool true)) (.tmp 165), none, [32, 35]⟩ :: [])
/-- unicode/utf8.ValidString -/
def c39 : ACode :=
 .seq (.region [
  ⟨some 2, .mov (.const (.bool false)), none, []⟩] [])
 (.seq (.block 0 (.loop (.seq (.seq (.region [
    ⟨some 7, .mov (.tmp 0), none, []⟩, 
    ⟨some 8, .len true (.tmp 7), none, []⟩, 
    ⟨some 9, .bin .gtr (.tmp 8) (.const (.int .i64 0)), none, []⟩] [7, 8])
   (.cond (.tmp 9)
    (.skip)
    (.exit 0)))
   (.block 1 (.seq (.region [
     ⟨some 10, .mov (.tmp 0), none, []⟩, 
     ⟨some 11, .index (.tmp 10) (.const (.int .i64 0)), none, []⟩, 
     ⟨some 3, .mov (.tmp 11), none, []⟩] [10, 11])
    (.seq (.seq (.region [
     ⟨some 12, .mov (.tmp 3), none, []⟩, 
     ⟨some 13, .bin .lss (.tmp 12) (.const (.int .u8 128)), none, []⟩] [12])
    (.cond (.tmp 13)
     (.seq (.region [
      ⟨some 14, .mov (.tmp 0), none, []⟩, 
      ⟨some 15, .sliceStr (.tmp 14) (some (.const (.int .i64 1))) none, none, []⟩, 
      ⟨some 0, .mov (.tmp 15), none, []⟩] [14, 15])
     (.seq (.seq (.region [
      ⟨some 16, .mov (.tmp 0), none, []⟩, 
      ⟨some 17, .len true (.tmp 16), none, []⟩, 
      ⟨some 18, .bin .gtr (.tmp 17) (.const (.int .i64 8)), none, []⟩, 
      ⟨some 19, .mov (.tmp 18), none, []⟩, 
      ⟨some 20, .mov (.tmp 0), (some (19, true)), []⟩, 
      ⟨some 21, .call 58 [(.tmp 20)], (some (19, true)), []⟩, 
      ⟨some 22, .bin .and (.tmp 21) (.const (.int .u64 9259542123273814144)), (some (19, true)), []⟩, 
      ⟨some 23, .bin .eql (.tmp 22) (.const (.int .u64 0)), (some (19, true)), []⟩, 
      ⟨some 24, .pick (.tmp 19) (.tmp 23) (.const (.bool false)), none, []⟩] [16, 17, 18, 19, 20, 21, 22, 23])
     (.cond (.tmp 24)
      (.seq (.region [
       ⟨some 25, .mov (.tmp 0), none, []⟩, 
       ⟨some 26, .sliceStr (.tmp 25) (some (.const (.int .i64 8))) none, none, []⟩, 
       ⟨some 0, .mov (.tmp 26), none, []⟩] [25, 26])
      (.seq (.dregion c39r7 [(0, false, []), (1, false, []), (2, false, []), (3, false, []), (4, false, []), (6, false, []), (7, false, []), (5, true, []), (8, true, []), (9, false, []), (10, false, []), (11, false, []), (12, false, [])] [27, 28, 29, 30, 31, 32, 33, 34, 35, 36, 37, 38])
      (.cond (.tmp 39)
       (.seq (.region [
        ⟨some 40, .mov (.tmp 0), none, []⟩, 
        ⟨some 41, .sliceStr (.tmp 40) (some (.const (.int .i64 16))) none, none, []⟩, 
        ⟨some 0, .mov (.tmp 41), none, []⟩] [40, 41])
       (.block 2 (.loop (.seq (.seq (.dregion c39r9 [(0, false, []), (1, false, []), (2, false, []), (3, false, []), (4, false, []), (6, false, []), (7, false, []), (10, false, []), (11, false, []), (13, false, []), (14, false, []), (5, true, []), (8, true, []), (9, false, []), (12, true, []), (15, true, []), (16, false, []), (17, false, []), (18, false, []), (19, false, []), (20, false, [])] [42, 43, 44, 45, 46, 47, 48, 49, 50, 51, 52, 53, 54, 55, 56, 57, 58, 59, 60, 61])
         (.cond (.tmp 62)
          (.skip)
          (.exit 2)))
         (.block 3 (.region [
           ⟨some 63, .mov (.tmp 0), none, []⟩, 
           ⟨some 64, .sliceStr (.tmp 63) (some (.const (.int .i64 32))) none, none, []⟩, 
           ⟨some 0, .mov (.tmp 64), none, []⟩] [63, 64]))))))
       (.skip))))
      (.skip)))
     (.exit 1)))
     (.skip)))
    (.seq (.region [
     ⟨some 65, .mov (.tmp 3), none, []⟩, 
     ⟨some 66, .indexArr 256 1 (.const (.glob 0)) (.tmp 65), none, []⟩, 
     ⟨some 67, .loadS (.tmp 66), none, []⟩, 
     ⟨some 4, .mov (.tmp 67), none, []⟩] [65, 66, 67])
    (.seq (.region [
     ⟨some 68, .mov (.tmp 4), none, []⟩, 
     ⟨some 69, .bin .and (.tmp 68) (.const (.int .u8 7)), none, []⟩, 
     ⟨some 70, .conv .i64 (.tmp 69), none, []⟩, 
     ⟨some 5, .mov (.tmp 70), none, []⟩] [68, 69, 70])
    (.seq (.region [
     ⟨some 71, .mov (.tmp 4), none, []⟩, 
     ⟨some 72, .bin .shr (.tmp 71) (.const (.int .u64 4)), none, []⟩, 
     ⟨some 73, .indexArr 16 2 (.const (.glob 1)) (.tmp 72), none, []⟩, 
     ⟨some 74, .loadA 2 (.tmp 73), none, []⟩, 
     ⟨some 6, .box 76 2 (.const (.agg [(.int .u8 0), (.int .u8 0)])), none, []⟩, 
     ⟨none, .store 2 (.tmp 6) (.tmp 74), none, []⟩] [71, 72, 73, 74])
    (.seq (.region [
     ⟨some 75, .mov (.tmp 5), none, []⟩] [])
    (.block 4 (.seq (.region [
      ⟨some 77, .bin .eql (.tmp 75) (.const (.int .i64 2)), none, []⟩, 
      ⟨some 76, .mov (.tmp 77), none, []⟩] [77])
     (.cond (.tmp 76)
      (.seq (.seq (.dregion c39r17 [(0, false, []), (1, false, []), (2, false, []), (3, false, []), (4, false, []), (5, false, []), (6, false, []), (7, false, []), (8, false, []), (9, false, []), (10, false, []), (11, false, []), (12, false, []), (13, false, []), (14, false, []), (15, false, []), (16, false, [])] [78, 79, 80, 81, 82, 83, 84, 85, 86, 87, 88, 89, 90, 91, 92, 93])
      (.cond (.tmp 94)
       (.seq (.region [
        ⟨some 2, .mov (.const (.bool false)), none, []⟩] [])
       (.ret))
       (.skip)))
      (.region [
       ⟨some 95, .mov (.tmp 0), none, []⟩, 
       ⟨some 96, .sliceStr (.tmp 95) (some (.const (.int .i64 2))) none, none, []⟩, 
       ⟨some 0, .mov (.tmp 96), none, []⟩] [95, 96]))
      (.seq (.region [
       ⟨some 98, .bin .eql (.tmp 75) (.const (.int .i64 3)), none, []⟩, 
       ⟨some 97, .mov (.tmp 98), none, []⟩] [98])
      (.cond (.tmp 97)
       (.seq (.seq (.dregion c39r21 [(0, false, []), (1, false, []), (2, false, []), (3, false, []), (4, false, []), (5, false, []), (6, false, []), (7, false, []), (8, false, []), (9, false, []), (10, false, []), (11, false, []), (12, false, []), (13, false, []), (14, false, []), (15, false, []), (16, false, []), (17, false, []), (18, false, []), (19, false, []), (20, false, []), (21, false, []), (22, false, []), (23, false, []), (24, false, []), (25, false, []), (26, false, [])] [99, 100, 101, 102, 103, 104, 105, 106, 107, 108, 109, 110, 111, 112, 113, 114, 115, 116, 117, 118, 119, 120, 121, 122, 123, 124])
       (.cond (.tmp 125)
        (.seq (.region [
         ⟨some 2, .mov (.const (.bool false)), none, []⟩] [])
        (.ret))
        (.skip)))
       (.region [
        ⟨some 126, .mov (.tmp 0), none, []⟩, 
        ⟨some 127, .sliceStr (.tmp 126) (some (.const (.int .i64 3))) none, none, []⟩, 
        ⟨some 0, .mov (.tmp 127), none, []⟩] [126, 127]))
       (.seq (.region [
        ⟨some 129, .bin .eql (.tmp 75) (.const (.int .i64 4)), none, []⟩, 
        ⟨some 128, .mov (.tmp 129), none, []⟩] [129])
       (.cond (.tmp 128)
        (.seq (.seq (.dregion c39r25 ((0, false, []) :: (1, false, []) :: (2, false, []) :: (3, false, []) :: (4, false, []) :: (5, false, []) :: (6, false, []) :: (7, false, []) :: (8, false, []) :: (9, false, []) :: (10, false, []) :: (11, false, []) :: (12, false, []) :: (13, false, []) :: (14, false, []) :: (15, false, []) :: (16, false, []) :: (17, false, []) :: (18, false, []) :: (19, false, []) :: (20, false, []) :: (21, false, []) :: (22, false, []) :: (23, false, []) :: (24, false, []) :: (25, false, []) :: (26, false, []) :: (27, false, []) :: (28, false, []) :: (29, false, []) :: (30, false, []) :: (31, false, []) :: (32, false, []) :: (33, false, []) :: (34, false, []) :: (35, false, []) :: (36, false, []) :: []) (130 :: 131 :: 132 :: 133 :: 134 :: 135 :: 136 :: 137 :: 138 :: 139 :: 140 :: 141 :: 142 :: 143 :: 144 :: 145 :: 146 :: 147 :: 148 :: 149 :: 150 :: 151 :: 152 :: 153 :: 154 :: 155 :: 156 :: 157 :: 158 :: 159 :: 160 :: 161 :: 162 :: 163 :: 164 :: 165 :: []))
        (.cond (.tmp 166)
         (.seq (.region [
          ⟨some 2, .mov (.const (.bool false)), none, []⟩] [])
         (.ret))
         (.skip)))
        (.region [
         ⟨some 167, .mov (.tmp 0), none, []⟩, 
         ⟨some 168, .sliceStr (.tmp 167) (some (.const (.int .i64 4))) none, none, []⟩, 
         ⟨some 0, .mov (.tmp 168), none, []⟩] [167, 168]))
        (.seq (.region [
         ⟨some 2, .mov (.const (.bool false)), none, []⟩] [])
        (.ret)))))))))))))))))))
 (.seq (.region [
  ⟨some 2, .mov (.const (.bool true)), none, []⟩] [])
 (.ret)))
theorem ok39 : erase c39 = cCode Tryz.prog 169 ((Tryz.f39).body.getD .skip) := by kernel_rfl
theorem ord39 : ordsOk c39 = true := by kernel_rfl
theorem call39 {args : List SV} {h : Heap} {R : AEnd → Heap → Prop} (hn : Nat.ble args.length 169 = true) (hp : awp Tryz.prog c39 (finQ [.tmp 2] R) (argEnv 0 args) h) : ACall Tryz.prog 39 args h R :=
  acall_of_awp mixed Tryz.func39 rfl ord39 ok39 (by kernel_rfl) hn hp
def t39 : Tab := ⟨169, c39, [.tmp 2]⟩
theorem tab39 : TabOk Tryz.prog 39 t39 := tabOk Tryz.func39 rfl ord39 ok39 (by kernel_rfl) rfl

/-- strconv.FormatUint -/
def c40 : ACode :=
 .seq (.region [
  ⟨some 4, .mov (.const (.str [])), none, []⟩] [])
 (.seq (.region [
  ⟨some 5, .mov (.tmp 0), none, []⟩, 
  ⟨some 6, .mov (.tmp 1), none, []⟩, 
  ⟨some 7, .call 59 [(.tmp 5), (.tmp 6)], none, []⟩, 
  ⟨some 4, .mov (.tmp 7), none, []⟩] [5, 6, 7])
 (.ret))
theorem ok40 : erase c40 = cCode Tryz.prog 8 ((Tryz.f40).body.getD .skip) := by kernel_rfl
theorem ord40 : ordsOk c40 = true := by kernel_rfl
theorem call40 {args : List SV} {h : Heap} {R : AEnd → Heap → Prop} (hn : Nat.ble args.length 8 = true) (hp : awp Tryz.prog c40 (finQ [.tmp 4] R) (argEnv 0 args) h) : ACall Tryz.prog 40 args h R :=
  acall_of_awp mixed Tryz.func40 rfl ord40 ok40 (by kernel_rfl) hn hp
def t40 : Tab := ⟨8, c40, [.tmp 4]⟩
theorem tab40 : TabOk Tryz.prog 40 t40 := tabOk Tryz.func40 rfl ord40 ok40 (by kernel_rfl) rfl

/-- strings.ReplaceAll -/
def c41 : ACode :=
 .seq (.region [
  ⟨some 6, .mov (.const (.str [])), none, []⟩] [])
 (.seq (.region [
  ⟨some 7, .mov (.tmp 0), none, []⟩, 
  ⟨some 8, .mov (.tmp 1), none, []⟩, 
  ⟨some 9, .mov (.tmp 2), none, []⟩, 
  ⟨some 10, .call 60 [(.tmp 7), (.tmp 8), (.tmp 9), (.const (.int .i64 (-1)))], none, []⟩, 
  ⟨some 6, .mov (.tmp 10), none, []⟩] [7, 8, 9, 10])
 (.ret))
theorem ok41 : erase c41 = cCode Tryz.prog 11 ((Tryz.f41).body.getD .skip) := by kernel_rfl
theorem ord41 : ordsOk c41 = true := by kernel_rfl
theorem call41 {args : List SV} {h : Heap} {R : AEnd → Heap → Prop} (hn : Nat.ble args.length 11 = true) (hp : awp Tryz.prog c41 (finQ [.tmp 6] R) (argEnv 0 args) h) : ACall Tryz.prog 41 args h R :=
  acall_of_awp mixed Tryz.func41 rfl ord41 ok41 (by kernel_rfl) hn hp
def t41 : Tab := ⟨11, c41, [.tmp 6]⟩
theorem tab41 : TabOk Tryz.prog 41 t41 := tabOk Tryz.func41 rfl ord41 ok41 (by kernel_rfl) rfl

def c42r3 : List AOper := [
 ⟨some 9, .mov (.tmp 0), none, []⟩, 
 ⟨some 10, .nilChk (.tmp 9), none, [0]⟩, 
 ⟨some 11, .fieldAddr 1 (.tmp 10), none, [1]⟩, 
 ⟨some 12, .loadS (.tmp 11), none, [2]⟩, 
 ⟨some 13, .capOf (.tmp 12), none, [3]⟩, 
 ⟨some 14, .mov (.tmp 0), none, []⟩, 
 ⟨some 15, .nilChk (.tmp 14), none, [5]⟩, 
 ⟨some 16, .fieldAddr 1 (.tmp 15), none, [6]⟩, 
 ⟨some 17, .loadS (.tmp 16), none, [7]⟩, 
 ⟨some 18, .len false (.tmp 17), none, [8]⟩, 
 ⟨some 19, .bin .sub (.tmp 13) (.tmp 18), none, [4, 9]⟩, 
 ⟨some 20, .mov (.tmp 1), none, []⟩, 
 ⟨some 21, .bin .lss (.tmp 19) (.tmp 20), none, [10, 11]⟩]
/-- (*strings.Builder).Grow -/
def c42 : ACode :=
 .seq (.region [
  ⟨some 4, .mov (.tmp 0), none, []⟩, 
  ⟨some 5, .call 61 [(.tmp 4)], none, []⟩] [4, 5])
 (.seq (.seq (.region [
  ⟨some 6, .mov (.tmp 1), none, []⟩, 
  ⟨some 7, .bin .lss (.tmp 6) (.const (.int .i64 0)), none, []⟩] [6])
 (.cond (.tmp 7)
  (.region [
   ⟨some 8, .mkIface 9 (.const (.str [115, 116, 114, 105, 110, 103, 115, 46, 66, 117, 105, 108, 100, 101, 114, 46, 71, 114, 111, 119, 58, 32, 110, 101, 103, 97, 116, 105, 118, 101, 32, 99, 111, 117, 110, 116])), none, []⟩, 
   ⟨none, .panic (.tmp 8), none, []⟩] [8])
  (.skip)))
 (.seq (.dregion c42r3 [(0, false, []), (1, false, []), (2, false, []), (3, false, []), (4, false, []), (5, false, []), (6, false, []), (7, false, []), (8, false, []), (9, false, []), (10, false, []), (11, false, []), (12, false, [])] [9, 10, 11, 12, 13, 14, 15, 16, 17, 18, 19, 20])
 (.cond (.tmp 21)
  (.region [
   ⟨some 22, .mov (.tmp 0), none, []⟩, 
   ⟨some 23, .mov (.tmp 1), none, []⟩, 
   ⟨some 24, .call 62 [(.tmp 22), (.tmp 23)], none, []⟩] [22, 23, 24])
  (.skip))))
theorem ok42 : erase c42 = cCode Tryz.prog 25 ((Tryz.f42).body.getD .skip) := by kernel_rfl
theorem ord42 : ordsOk c42 = true := by kernel_rfl
theorem call42 {args : List SV} {h : Heap} {R : AEnd → Heap → Prop} (hn : Nat.ble args.length 25 = true) (hp : awp Tryz.prog c42 (finQ [] R) (argEnv 0 args) h) : ACall Tryz.prog 42 args h R :=
  acall_of_awp mixed Tryz.func42 rfl ord42 ok42 (by kernel_rfl) hn hp
def t42 : Tab := ⟨25, c42, []⟩
theorem tab42 : TabOk Tryz.prog 42 t42 := tabOk Tryz.func42 rfl ord42 ok42 (by kernel_rfl) rfl

/-- (*strings.Builder).WriteString -/
def c43 : ACode :=
 .seq (.region [
  ⟨some 4, .mov (.const (.int .i64 0)), none, []⟩, 
  ⟨some 5, .mov (.const .nili), none, []⟩] [])
 (.seq (.region [
  ⟨some 6, .mov (.tmp 0), none, []⟩, 
  ⟨some 7, .call 61 [(.tmp 6)], none, []⟩] [6, 7])
 (.seq (.region [
  ⟨some 8, .mov (.tmp 0), none, []⟩, 
  ⟨some 9, .mov (.tmp 0), none, []⟩, 
  ⟨some 10, .nilChk (.tmp 9), none, []⟩, 
  ⟨some 11, .fieldAddr 1 (.tmp 10), none, []⟩, 
  ⟨some 12, .loadS (.tmp 11), none, []⟩, 
  ⟨some 13, .mov (.tmp 1), none, []⟩, 
  ⟨some 14, .append 5 1 1 (.tmp 12) (.tmp 13), none, []⟩, 
  ⟨some 15, .nilChk (.tmp 8), none, []⟩, 
  ⟨some 16, .fieldAddr 1 (.tmp 15), none, []⟩, 
  ⟨none, .store 1 (.tmp 16) (.tmp 14), none, []⟩] [8, 9, 10, 11, 12, 13, 14, 15, 16])
 (.seq (.region [
  ⟨some 17, .mov (.tmp 1), none, []⟩, 
  ⟨some 18, .len true (.tmp 17), none, []⟩, 
  ⟨some 4, .mov (.tmp 18), none, []⟩, 
  ⟨some 5, .mov (.const .nili), none, []⟩] [17, 18])
 (.ret))))
theorem ok43 : erase c43 = cCode Tryz.prog 19 ((Tryz.f43).body.getD .skip) := by kernel_rfl
theorem ord43 : ordsOk c43 = true := by kernel_rfl
theorem call43 {args : List SV} {h : Heap} {R : AEnd → Heap → Prop} (hn : Nat.ble args.length 19 = true) (hp : awp Tryz.prog c43 (finQ [.tmp 4, .tmp 5] R) (argEnv 0 args) h) : ACall Tryz.prog 43 args h R :=
  acall_of_awp mixed Tryz.func43 rfl ord43 ok43 (by kernel_rfl) hn hp
def t43 : Tab := ⟨19, c43, [.tmp 4, .tmp 5]⟩
theorem tab43 : TabOk Tryz.prog 43 t43 := tabOk Tryz.func43 rfl ord43 ok43 (by kernel_rfl) rfl

def c44r1 : List AOper := [
 ⟨some 3, .mov (.tmp 0), none, []⟩, 
 ⟨some 4, .nilChk (.tmp 3), none, [0]⟩, 
 ⟨some 5, .fieldAddr 1 (.tmp 4), none, [1]⟩, 
 ⟨some 6, .loadS (.tmp 5), none, [2]⟩, 
 ⟨some 7, .sliceData (.tmp 6), none, [3]⟩, 
 ⟨some 8, .mov (.tmp 0), none, []⟩, 
 ⟨some 9, .nilChk (.tmp 8), none, [5]⟩, 
 ⟨some 10, .fieldAddr 1 (.tmp 9), none, [6]⟩, 
 ⟨some 11, .loadS (.tmp 10), none, [7]⟩, 
 ⟨some 12, .len false (.tmp 11), none, [8]⟩, 
 ⟨some 13, .unsStr 5 (.tmp 7) (.tmp 12), none, [4, 9]⟩, 
 ⟨some 2, .mov (.tmp 13), none, [10, 0, 1, 2, 3, 4, 5, 6, 7, 8, 9, 10]⟩]
/-- (*strings.Builder).String -/
def c44 : ACode :=
 .seq (.region [
  ⟨some 2, .mov (.const (.str [])), none, []⟩] [])
 (.seq (.dregion c44r1 [(0, false, []), (1, false, []), (2, false, []), (3, false, []), (4, false, []), (5, false, []), (6, false, []), (7, false, []), (8, false, []), (9, false, []), (10, true, []), (11, false, [])] [3, 4, 5, 6, 7, 8, 9, 10, 11, 12, 13])
 (.ret))
theorem ok44 : erase c44 = cCode Tryz.prog 14 ((Tryz.f44).body.getD .skip) := by kernel_rfl
theorem ord44 : ordsOk c44 = true := by kernel_rfl
theorem call44 {args : List SV} {h : Heap} {R : AEnd → Heap → Prop} (hn : Nat.ble args.length 14 = true) (hp : awp Tryz.prog c44 (finQ [.tmp 2] R) (argEnv 0 args) h) : ACall Tryz.prog 44 args h R :=
  acall_of_awp mixed Tryz.func44 rfl ord44 ok44 (by kernel_rfl) hn hp
def t44 : Tab := ⟨14, c44, [.tmp 2]⟩
theorem tab44 : TabOk Tryz.prog 44 t44 := tabOk Tryz.func44 rfl ord44 ok44 (by kernel_rfl) rfl

/-- stagepost/stagepostref12.Digits -/
def c45 : ACode :=
 .seq (.region [
  ⟨some 2, .mov (.const (.str [])), none, []⟩] [])
 (.seq (.seq (.region [
  ⟨some 3, .mov (.tmp 0), none, []⟩, 
  ⟨some 4, .bin .lss (.tmp 3) (.const (.int .u64 10)), none, []⟩] [3])
 (.cond (.tmp 4)
  (.seq (.region [
   ⟨some 5, .mov (.tmp 0), none, []⟩, 
   ⟨some 6, .mov (.tmp 0), none, []⟩, 
   ⟨some 7, .bin .add (.tmp 6) (.const (.int .u64 1)), none, []⟩, 
   ⟨some 8, .sliceStr (.const (.str [48, 49, 50, 51, 52, 53, 54, 55, 56, 57])) (some (.tmp 5)) (some (.tmp 7)), none, []⟩, 
   ⟨some 2, .mov (.tmp 8), none, []⟩] [5, 6, 7, 8])
  (.ret))
  (.skip)))
 (.seq (.region [
  ⟨some 9, .mov (.tmp 0), none, []⟩, 
  ⟨some 10, .bin .quo (.tmp 9) (.const (.int .u64 10)), none, []⟩, 
  ⟨some 11, .call 45 [(.tmp 10)], none, []⟩, 
  ⟨some 12, .mov (.tmp 0), none, []⟩, 
  ⟨some 13, .bin .rem (.tmp 12) (.const (.int .u64 10)), none, []⟩, 
  ⟨some 14, .call 45 [(.tmp 13)], none, []⟩, 
  ⟨some 15, .bin .add (.tmp 11) (.tmp 14), none, []⟩, 
  ⟨some 2, .mov (.tmp 15), none, []⟩] [9, 10, 11, 12, 13, 14, 15])
 (.ret)))
theorem ok45 : erase c45 = cCode Tryz.prog 16 ((Tryz.f45).body.getD .skip) := by kernel_rfl
theorem ord45 : ordsOk c45 = true := by kernel_rfl
theorem call45 {args : List SV} {h : Heap} {R : AEnd → Heap → Prop} (hn : Nat.ble args.length 16 = true) (hp : awp Tryz.prog c45 (finQ [.tmp 2] R) (argEnv 0 args) h) : ACall Tryz.prog 45 args h R :=
  acall_of_awp mixed Tryz.func45 rfl ord45 ok45 (by kernel_rfl) hn hp
def t45 : Tab := ⟨16, c45, [.tmp 2]⟩
theorem tab45 : TabOk Tryz.prog 45 t45 := tabOk Tryz.func45 rfl ord45 ok45 (by kernel_rfl) rfl

/-- stagepost/stagepostref12.Quoted -/
def c46 : ACode :=
 .seq (.region [
  ⟨some 2, .mov (.const (.str [])), none, []⟩] [])
 (.seq (.region [
  ⟨some 5, .buildSlice 5 1 (.int .u8 0) 1 [(0, (.const (.int .u8 39)))], none, []⟩, 
  ⟨some 3, .mov (.tmp 5), none, []⟩] [5])
 (.seq (.seq (.region [
  ⟨some 4, .mov (.const (.int .i64 0)), none, []⟩] [])
 (.block 0 (.loop (.seq (.seq (.region [
    ⟨some 6, .mov (.tmp 4), none, []⟩, 
    ⟨some 7, .mov (.tmp 0), none, []⟩, 
    ⟨some 8, .len true (.tmp 7), none, []⟩, 
    ⟨some 9, .bin .lss (.tmp 6) (.tmp 8), none, []⟩] [6, 7, 8])
   (.cond (.tmp 9)
    (.skip)
    (.exit 0)))
   (.seq (.block 1 (.seq (.region [
     ⟨some 12, .mov (.tmp 3), none, []⟩, 
     ⟨some 13, .mov (.tmp 0), none, []⟩, 
     ⟨some 14, .mov (.tmp 4), none, []⟩, 
     ⟨some 15, .index (.tmp 13) (.tmp 14), none, []⟩, 
     ⟨some 16, .buildSlice 5 1 (.int .u8 0) 1 [(0, (.tmp 15))], none, []⟩, 
     ⟨some 17, .append 5 1 1 (.tmp 12) (.tmp 16), none, []⟩, 
     ⟨some 3, .mov (.tmp 17), none, []⟩] [12, 13, 14, 15, 16, 17])
    (.seq (.region [
     ⟨some 18, .mov (.tmp 0), none, []⟩, 
     ⟨some 19, .mov (.tmp 4), none, []⟩, 
     ⟨some 20, .index (.tmp 18) (.tmp 19), none, []⟩, 
     ⟨some 21, .bin .eql (.tmp 20) (.const (.int .u8 39)), none, []⟩] [18, 19, 20])
    (.cond (.tmp 21)
     (.region [
      ⟨some 22, .mov (.tmp 3), none, []⟩, 
      ⟨some 23, .buildSlice 5 1 (.int .u8 0) 1 [(0, (.const (.int .u8 39)))], none, []⟩, 
      ⟨some 24, .append 5 1 1 (.tmp 22) (.tmp 23), none, []⟩, 
      ⟨some 3, .mov (.tmp 24), none, []⟩] [22, 23, 24])
     (.skip)))))
   (.region [
    ⟨some 10, .mov (.tmp 4), none, []⟩, 
    ⟨some 11, .bin .add (.tmp 10) (.const (.int .i64 1)), none, []⟩, 
    ⟨some 4, .mov (.tmp 11), none, []⟩] [10, 11]))))))
 (.seq (.region [
  ⟨some 25, .mov (.tmp 3), none, []⟩, 
  ⟨some 26, .buildSlice 5 1 (.int .u8 0) 1 [(0, (.const (.int .u8 39)))], none, []⟩, 
  ⟨some 27, .append 5 1 1 (.tmp 25) (.tmp 26), none, []⟩, 
  ⟨some 28, .toStr (.tmp 27), none, []⟩, 
  ⟨some 2, .mov (.tmp 28), none, []⟩] [25, 26, 27, 28])
 (.ret))))
theorem ok46 : erase c46 = cCode Tryz.prog 29 ((Tryz.f46).body.getD .skip) := by kernel_rfl
theorem ord46 : ordsOk c46 = true := by kernel_rfl
theorem call46 {args : List SV} {h : Heap} {R : AEnd → Heap → Prop} (hn : Nat.ble args.length 29 = true) (hp : awp Tryz.prog c46 (finQ [.tmp 2] R) (argEnv 0 args) h) : ACall Tryz.prog 46 args h R :=
  acall_of_awp mixed Tryz.func46 rfl ord46 ok46 (by kernel_rfl) hn hp
def t46 : Tab := ⟨29, c46, [.tmp 2]⟩
theorem tab46 : TabOk Tryz.prog 46 t46 := tabOk Tryz.func46 rfl ord46 ok46 (by kernel_rfl) rfl

/-- slices.Index[[]string,string] -/
def c47 : ACode :=
 .seq (.region [
  ⟨some 4, .mov (.const (.int .i64 0)), none, []⟩] [])
 (.seq (.seq (.region [
  ⟨some 6, .mov (.tmp 0), none, []⟩, 
  ⟨some 7, .len false (.tmp 6), none, []⟩, 
  ⟨some 8, .mov (.const (.int .i64 0)), none, []⟩] [6])
 (.block 0 (.loop (.seq (.region [
    ⟨some 9, .bin .lss (.tmp 8) (.tmp 7), none, []⟩] [])
   (.seq (.cond (.tmp 9)
    (.skip)
    (.exit 0))
   (.seq (.block 1 (.seq (.region [
     ⟨some 10, .mov (.tmp 8), none, []⟩, 
     ⟨some 5, .mov (.tmp 10), none, []⟩] [10])
    (.seq (.region [
     ⟨some 11, .mov (.tmp 1), none, []⟩, 
     ⟨some 12, .mov (.tmp 0), none, []⟩, 
     ⟨some 13, .mov (.tmp 5), none, []⟩, 
     ⟨some 14, .indexAddr 1 (.tmp 12) (.tmp 13), none, []⟩, 
     ⟨some 15, .loadS (.tmp 14), none, []⟩, 
     ⟨some 16, .bin .eql (.tmp 11) (.tmp 15), none, []⟩] [11, 12, 13, 14, 15])
    (.cond (.tmp 16)
     (.seq (.region [
      ⟨some 17, .mov (.tmp 5), none, []⟩, 
      ⟨some 4, .mov (.tmp 17), none, []⟩] [17])
     (.ret))
     (.skip)))))
   (.region [
    ⟨some 18, .bin .add (.tmp 8) (.const (.int .i64 1)), none, []⟩, 
    ⟨some 8, .mov (.tmp 18), none, []⟩] [18])))))))
 (.seq (.region [
  ⟨some 4, .mov (.const (.int .i64 (-1))), none, []⟩] [])
 (.ret)))
theorem ok47 : erase c47 = cCode Tryz.prog 19 ((Tryz.f47).body.getD .skip) := by kernel_rfl
theorem ord47 : ordsOk c47 = true := by kernel_rfl
theorem call47 {args : List SV} {h : Heap} {R : AEnd → Heap → Prop} (hn : Nat.ble args.length 19 = true) (hp : awp Tryz.prog c47 (finQ [.tmp 4] R) (argEnv 0 args) h) : ACall Tryz.prog 47 args h R :=
  acall_of_awp mixed Tryz.func47 rfl ord47 ok47 (by kernel_rfl) hn hp
def t47 : Tab := ⟨19, c47, [.tmp 4]⟩
theorem tab47 : TabOk Tryz.prog 47 t47 := tabOk Tryz.func47 rfl ord47 ok47 (by kernel_rfl) rfl

/-- strings.Fields -/
def c48 : ACode :=
 .seq (.region [
  ⟨some 2, .mov (.const .nils), none, []⟩] [])
 (.seq (.region [
  ⟨some 3, .mov (.const (.int .i64 0)), none, []⟩] [])
 (.seq (.region [
  ⟨some 4, .mov (.const (.int .i64 1)), none, []⟩] [])
 (.seq (.region [
  ⟨some 5, .mov (.const (.int .u8 0)), none, []⟩] [])
 (.seq (.seq (.region [
  ⟨some 6, .mov (.const (.int .i64 0)), none, []⟩] [])
 (.block 0 (.loop (.seq (.seq (.region [
    ⟨some 13, .mov (.tmp 6), none, []⟩, 
    ⟨some 14, .mov (.tmp 0), none, []⟩, 
    ⟨some 15, .len true (.tmp 14), none, []⟩, 
    ⟨some 16, .bin .lss (.tmp 13) (.tmp 15), none, []⟩] [13, 14, 15])
   (.cond (.tmp 16)
    (.skip)
    (.exit 0)))
   (.seq (.block 1 (.seq (.region [
     ⟨some 19, .mov (.tmp 0), none, []⟩, 
     ⟨some 20, .mov (.tmp 6), none, []⟩, 
     ⟨some 21, .index (.tmp 19) (.tmp 20), none, []⟩, 
     ⟨some 7, .mov (.tmp 21), none, []⟩] [19, 20, 21])
    (.seq (.region [
     ⟨some 22, .mov (.tmp 5), none, []⟩, 
     ⟨some 23, .mov (.tmp 7), none, []⟩, 
     ⟨some 24, .bin .or (.tmp 22) (.tmp 23), none, []⟩, 
     ⟨some 5, .mov (.tmp 24), none, []⟩] [22, 23, 24])
    (.seq (.region [
     ⟨some 25, .mov (.tmp 7), none, []⟩, 
     ⟨some 26, .indexArr 256 1 (.const (.glob 2)) (.tmp 25), none, []⟩, 
     ⟨some 27, .loadS (.tmp 26), none, []⟩, 
     ⟨some 28, .conv .i64 (.tmp 27), none, []⟩, 
     ⟨some 8, .mov (.tmp 28), none, []⟩] [25, 26, 27, 28])
    (.seq (.region [
     ⟨some 29, .mov (.tmp 3), none, []⟩, 
     ⟨some 30, .mov (.tmp 4), none, []⟩, 
     ⟨some 31, .mov (.tmp 8), none, []⟩, 
     ⟨some 32, .un .xor (.tmp 31), none, []⟩, 
     ⟨some 33, .bin .and (.tmp 30) (.tmp 32), none, []⟩, 
     ⟨some 34, .bin .add (.tmp 29) (.tmp 33), none, []⟩, 
     ⟨some 3, .mov (.tmp 34), none, []⟩] [29, 30, 31, 32, 33, 34])
    (.region [
     ⟨some 35, .mov (.tmp 8), none, []⟩, 
     ⟨some 4, .mov (.tmp 35), none, []⟩] [35]))))))
   (.region [
    ⟨some 17, .mov (.tmp 6), none, []⟩, 
    ⟨some 18, .bin .add (.tmp 17) (.const (.int .i64 1)), none, []⟩, 
    ⟨some 6, .mov (.tmp 18), none, []⟩] [17, 18]))))))
 (.seq (.seq (.region [
  ⟨some 36, .mov (.tmp 5), none, []⟩, 
  ⟨some 37, .bin .geq (.tmp 36) (.const (.int .u8 128)), none, []⟩] [36])
 (.cond (.tmp 37)
  (.seq (.region [
   ⟨some 38, .mov (.tmp 0), none, []⟩, 
   ⟨some 39, .call 63 [(.tmp 38), (.const (.func (.func 64) [] []))], none, []⟩, 
   ⟨some 2, .mov (.tmp 39), none, []⟩] [38, 39])
  (.ret))
  (.skip)))
 (.seq (.region [
  ⟨some 40, .mov (.tmp 3), none, []⟩, 
  ⟨some 41, .makeSlice 9 1 16 (.str []) (.tmp 40) (.tmp 40), none, []⟩, 
  ⟨some 9, .mov (.tmp 41), none, []⟩] [40, 41])
 (.seq (.region [
  ⟨some 10, .mov (.const (.int .i64 0)), none, []⟩] [])
 (.seq (.region [
  ⟨some 11, .mov (.const (.int .i64 0)), none, []⟩] [])
 (.seq (.region [
  ⟨some 12, .mov (.const (.int .i64 0)), none, []⟩] [])
 (.seq (.block 2 (.loop (.seq (.seq (.region [
    ⟨some 42, .mov (.tmp 12), none, []⟩, 
    ⟨some 43, .mov (.tmp 0), none, []⟩, 
    ⟨some 44, .len true (.tmp 43), none, []⟩, 
    ⟨some 45, .bin .lss (.tmp 42) (.tmp 44), none, []⟩, 
    ⟨some 46, .mov (.tmp 45), none, []⟩, 
    ⟨some 47, .mov (.tmp 0), (some (46, true)), []⟩, 
    ⟨some 48, .mov (.tmp 12), (some (46, true)), []⟩, 
    ⟨some 49, .index (.tmp 47) (.tmp 48), (some (46, true)), []⟩, 
    ⟨some 50, .indexArr 256 1 (.const (.glob 2)) (.tmp 49), (some (46, true)), []⟩, 
    ⟨some 51, .loadS (.tmp 50), (some (46, true)), []⟩, 
    ⟨some 52, .bin .neq (.tmp 51) (.const (.int .u8 0)), (some (46, true)), []⟩, 
    ⟨some 53, .pick (.tmp 46) (.tmp 52) (.const (.bool false)), none, []⟩] [42, 43, 44, 45, 46, 47, 48, 49, 50, 51, 52])
   (.cond (.tmp 53)
    (.skip)
    (.exit 2)))
   (.block 3 (.region [
     ⟨some 54, .mov (.tmp 12), none, []⟩, 
     ⟨some 55, .bin .add (.tmp 54) (.const (.int .i64 1)), none, []⟩, 
     ⟨some 12, .mov (.tmp 55), none, []⟩] [54, 55])))))
 (.seq (.region [
  ⟨some 56, .mov (.tmp 12), none, []⟩, 
  ⟨some 11, .mov (.tmp 56), none, []⟩] [56])
 (.seq (.block 4 (.loop (.seq (.seq (.region [
    ⟨some 57, .mov (.tmp 12), none, []⟩, 
    ⟨some 58, .mov (.tmp 0), none, []⟩, 
    ⟨some 59, .len true (.tmp 58), none, []⟩, 
    ⟨some 60, .bin .lss (.tmp 57) (.tmp 59), none, []⟩] [57, 58, 59])
   (.cond (.tmp 60)
    (.skip)
    (.exit 4)))
   (.block 5 (.seq (.seq (.region [
     ⟨some 61, .mov (.tmp 0), none, []⟩, 
     ⟨some 62, .mov (.tmp 12), none, []⟩, 
     ⟨some 63, .index (.tmp 61) (.tmp 62), none, []⟩, 
     ⟨some 64, .indexArr 256 1 (.const (.glob 2)) (.tmp 63), none, []⟩, 
     ⟨some 65, .loadS (.tmp 64), none, []⟩, 
     ⟨some 66, .bin .eql (.tmp 65) (.const (.int .u8 0)), none, []⟩] [61, 62, 63, 64, 65])
    (.cond (.tmp 66)
     (.seq (.region [
      ⟨some 67, .mov (.tmp 12), none, []⟩, 
      ⟨some 68, .bin .add (.tmp 67) (.const (.int .i64 1)), none, []⟩, 
      ⟨some 12, .mov (.tmp 68), none, []⟩] [67, 68])
     (.exit 5))
     (.skip)))
    (.seq (.region [
     ⟨some 69, .mov (.tmp 9), none, []⟩, 
     ⟨some 70, .mov (.tmp 10), none, []⟩, 
     ⟨some 71, .mov (.tmp 0), none, []⟩, 
     ⟨some 72, .mov (.tmp 11), none, []⟩, 
     ⟨some 73, .mov (.tmp 12), none, []⟩, 
     ⟨some 74, .sliceStr (.tmp 71) (some (.tmp 72)) (some (.tmp 73)), none, []⟩, 
     ⟨some 75, .indexAddr 1 (.tmp 69) (.tmp 70), none, []⟩, 
     ⟨none, .store 1 (.tmp 75) (.tmp 74), none, []⟩] [69, 70, 71, 72, 73, 74, 75])
    (.seq (.region [
     ⟨some 76, .mov (.tmp 10), none, []⟩, 
     ⟨some 77, .bin .add (.tmp 76) (.const (.int .i64 1)), none, []⟩, 
     ⟨some 10, .mov (.tmp 77), none, []⟩] [76, 77])
    (.seq (.region [
     ⟨some 78, .mov (.tmp 12), none, []⟩, 
     ⟨some 79, .bin .add (.tmp 78) (.const (.int .i64 1)), none, []⟩, 
     ⟨some 12, .mov (.tmp 79), none, []⟩] [78, 79])
    (.seq (.block 6 (.loop (.seq (.seq (.region [
       ⟨some 80, .mov (.tmp 12), none, []⟩, 
       ⟨some 81, .mov (.tmp 0), none, []⟩, 
       ⟨some 82, .len true (.tmp 81), none, []⟩, 
       ⟨some 83, .bin .lss (.tmp 80) (.tmp 82), none, []⟩, 
       ⟨some 84, .mov (.tmp 83), none, []⟩, 
       ⟨some 85, .mov (.tmp 0), (some (84, true)), []⟩, 
       ⟨some 86, .mov (.tmp 12), (some (84, true)), []⟩, 
       ⟨some 87, .index (.tmp 85) (.tmp 86), (some (84, true)), []⟩, 
       ⟨some 88, .indexArr 256 1 (.const (.glob 2)) (.tmp 87), (some (84, true)), []⟩, 
       ⟨some 89, .loadS (.tmp 88), (some (84, true)), []⟩, 
       ⟨some 90, .bin .neq (.tmp 89) (.const (.int .u8 0)), (some (84, true)), []⟩, 
       ⟨some 91, .pick (.tmp 84) (.tmp 90) (.const (.bool false)), none, []⟩] [80, 81, 82, 83, 84, 85, 86, 87, 88, 89, 90])
      (.cond (.tmp 91)
       (.skip)
       (.exit 6)))
      (.block 7 (.region [
        ⟨some 92, .mov (.tmp 12), none, []⟩, 
        ⟨some 93, .bin .add (.tmp 92) (.const (.int .i64 1)), none, []⟩, 
        ⟨some 12, .mov (.tmp 93), none, []⟩] [92, 93])))))
    (.region [
     ⟨some 94, .mov (.tmp 12), none, []⟩, 
     ⟨some 11, .mov (.tmp 94), none, []⟩] [94]))))))))))
 (.seq (.seq (.region [
  ⟨some 95, .mov (.tmp 11), none, []⟩, 
  ⟨some 96, .mov (.tmp 0), none, []⟩, 
  ⟨some 97, .len true (.tmp 96), none, []⟩, 
  ⟨some 98, .bin .lss (.tmp 95) (.tmp 97), none, []⟩] [95, 96, 97])
 (.cond (.tmp 98)
  (.region [
   ⟨some 99, .mov (.tmp 9), none, []⟩, 
   ⟨some 100, .mov (.tmp 10), none, []⟩, 
   ⟨some 101, .mov (.tmp 0), none, []⟩, 
   ⟨some 102, .mov (.tmp 11), none, []⟩, 
   ⟨some 103, .sliceStr (.tmp 101) (some (.tmp 102)) none, none, []⟩, 
   ⟨some 104, .indexAddr 1 (.tmp 99) (.tmp 100), none, []⟩, 
   ⟨none, .store 1 (.tmp 104) (.tmp 103), none, []⟩] [99, 100, 101, 102, 103, 104])
  (.skip)))
 (.seq (.region [
  ⟨some 105, .mov (.tmp 9), none, []⟩, 
  ⟨some 2, .mov (.tmp 105), none, []⟩] [105])
 (.ret)))))))))))))))
theorem ok48 : erase c48 = cCode Tryz.prog 106 ((Tryz.f48).body.getD .skip) := by kernel_rfl
theorem ord48 : ordsOk c48 = true := by kernel_rfl
theorem call48 {args : List SV} {h : Heap} {R : AEnd → Heap → Prop} (hn : Nat.ble args.length 106 = true) (hp : awp Tryz.prog c48 (finQ [.tmp 2] R) (argEnv 0 args) h) : ACall Tryz.prog 48 args h R :=
  acall_of_awp mixed Tryz.func48 rfl ord48 ok48 (by kernel_rfl) hn hp
def t48 : Tab := ⟨106, c48, [.tmp 2]⟩
theorem tab48 : TabOk Tryz.prog 48 t48 := tabOk Tryz.func48 rfl ord48 ok48 (by kernel_rfl) rfl

/-- strings.ToLower -/
def c50 : ACode :=
 .seq (.region [
  ⟨some 2, .mov (.const (.str [])), none, []⟩] [])
 (.seq (.region [
  ⟨some 3, .mov (.const (.bool true)), none, []⟩, 
  ⟨some 4, .mov (.const (.bool false)), none, []⟩] [])
 (.seq (.seq (.region [
  ⟨some 5, .mov (.const (.int .i64 0)), none, []⟩] [])
 (.block 0 (.loop (.seq (.seq (.region [
    ⟨some 11, .mov (.tmp 5), none, []⟩, 
    ⟨some 12, .mov (.tmp 0), none, []⟩, 
    ⟨some 13, .len true (.tmp 12), none, []⟩, 
    ⟨some 14, .bin .lss (.tmp 11) (.tmp 13), none, []⟩] [11, 12, 13])
   (.cond (.tmp 14)
    (.skip)
    (.exit 0)))
   (.seq (.block 1 (.seq (.region [
     ⟨some 17, .mov (.tmp 0), none, []⟩, 
     ⟨some 18, .mov (.tmp 5), none, []⟩, 
     ⟨some 19, .index (.tmp 17) (.tmp 18), none, []⟩, 
     ⟨some 6, .mov (.tmp 19), none, []⟩] [17, 18, 19])
    (.seq (.seq (.region [
     ⟨some 20, .mov (.tmp 6), none, []⟩, 
     ⟨some 21, .bin .geq (.tmp 20) (.const (.int .u8 128)), none, []⟩] [20])
    (.cond (.tmp 21)
     (.seq (.region [
      ⟨some 3, .mov (.const (.bool false)), none, []⟩] [])
     (.exit 0))
     (.skip)))
    (.region [
     ⟨some 22, .mov (.tmp 4), none, []⟩, 
     ⟨some 23, .mov (.tmp 22), none, []⟩, 
     ⟨some 24, .mov (.tmp 6), (some (23, false)), []⟩, 
     ⟨some 25, .bin .leq (.const (.int .u8 65)) (.tmp 24), (some (23, false)), []⟩, 
     ⟨some 26, .mov (.tmp 25), (some (23, false)), []⟩, 
     ⟨some 27, .mov (.tmp 6), (some (26, true)), []⟩, 
     ⟨some 28, .bin .leq (.tmp 27) (.const (.int .u8 90)), (some (26, true)), []⟩, 
     ⟨some 29, .pick (.tmp 26) (.tmp 28) (.const (.bool false)), (some (23, false)), []⟩, 
     ⟨some 30, .pick (.tmp 23) (.const (.bool true)) (.tmp 29), none, []⟩, 
     ⟨some 4, .mov (.tmp 30), none, []⟩] [22, 23, 24, 25, 26, 27, 28, 29, 30]))))
   (.region [
    ⟨some 15, .mov (.tmp 5), none, []⟩, 
    ⟨some 16, .bin .add (.tmp 15) (.const (.int .i64 1)), none, []⟩, 
    ⟨some 5, .mov (.tmp 16), none, []⟩] [15, 16]))))))
 (.seq (.seq (.region [
  ⟨some 31, .mov (.tmp 3), none, []⟩] [])
 (.cond (.tmp 31)
  (.seq (.seq (.region [
   ⟨some 32, .mov (.tmp 4), none, []⟩, 
   ⟨some 33, .un .not (.tmp 32), none, []⟩] [32])
  (.cond (.tmp 33)
   (.seq (.region [
    ⟨some 34, .mov (.tmp 0), none, []⟩, 
    ⟨some 2, .mov (.tmp 34), none, []⟩] [34])
   (.ret))
   (.skip)))
  (.seq (.region [
   ⟨some 7, .box 55 2 (.const (.agg [.nilp, .nils])), none, []⟩] [])
  (.seq (.region [
   ⟨some 8, .mov (.const (.int .i64 0)), none, []⟩] [])
  (.seq (.region [
   ⟨some 35, .mov (.tmp 0), none, []⟩, 
   ⟨some 36, .len true (.tmp 35), none, []⟩, 
   ⟨some 37, .call 42 [(.tmp 7), (.tmp 36)], none, []⟩] [35, 36, 37])
  (.seq (.seq (.region [
   ⟨some 9, .mov (.const (.int .i64 0)), none, []⟩] [])
  (.block 2 (.loop (.seq (.seq (.region [
     ⟨some 38, .mov (.tmp 9), none, []⟩, 
     ⟨some 39, .mov (.tmp 0), none, []⟩, 
     ⟨some 40, .len true (.tmp 39), none, []⟩, 
     ⟨some 41, .bin .lss (.tmp 38) (.tmp 40), none, []⟩] [38, 39, 40])
    (.cond (.tmp 41)
     (.skip)
     (.exit 2)))
    (.seq (.block 3 (.seq (.region [
      ⟨some 44, .mov (.tmp 0), none, []⟩, 
      ⟨some 45, .mov (.tmp 9), none, []⟩, 
      ⟨some 46, .index (.tmp 44) (.tmp 45), none, []⟩, 
      ⟨some 10, .mov (.tmp 46), none, []⟩] [44, 45, 46])
     (.seq (.region [
      ⟨some 47, .mov (.tmp 10), none, []⟩, 
      ⟨some 48, .bin .leq (.const (.int .u8 65)) (.tmp 47), none, []⟩, 
      ⟨some 49, .mov (.tmp 48), none, []⟩, 
      ⟨some 50, .mov (.tmp 10), (some (49, true)), []⟩, 
      ⟨some 51, .bin .leq (.tmp 50) (.const (.int .u8 90)), (some (49, true)), []⟩, 
      ⟨some 52, .pick (.tmp 49) (.tmp 51) (.const (.bool false)), none, []⟩] [47, 48, 49, 50, 51])
     (.cond (.tmp 52)
      (.seq (.region [
       ⟨some 53, .mov (.tmp 10), none, []⟩, 
       ⟨some 54, .bin .add (.tmp 53) (.const (.int .u8 32)), none, []⟩, 
       ⟨some 10, .mov (.tmp 54), none, []⟩] [53, 54])
      (.seq (.seq (.region [
       ⟨some 55, .mov (.tmp 8), none, []⟩, 
       ⟨some 56, .mov (.tmp 9), none, []⟩, 
       ⟨some 57, .bin .lss (.tmp 55) (.tmp 56), none, []⟩] [55, 56])
      (.cond (.tmp 57)
       (.region [
        ⟨some 58, .mov (.tmp 0), none, []⟩, 
        ⟨some 59, .mov (.tmp 8), none, []⟩, 
        ⟨some 60, .mov (.tmp 9), none, []⟩, 
        ⟨some 61, .sliceStr (.tmp 58) (some (.tmp 59)) (some (.tmp 60)), none, []⟩, 
        ⟨some 62, .call 43 [(.tmp 7), (.tmp 61)], none, []⟩] [58, 59, 60, 61, 62])
       (.skip)))
      (.seq (.region [
       ⟨some 63, .mov (.tmp 10), none, []⟩, 
       ⟨some 64, .call 53 [(.tmp 7), (.tmp 63)], none, []⟩] [63, 64])
      (.region [
       ⟨some 65, .mov (.tmp 9), none, []⟩, 
       ⟨some 66, .bin .add (.tmp 65) (.const (.int .i64 1)), none, []⟩, 
       ⟨some 8, .mov (.tmp 66), none, []⟩] [65, 66]))))
      (.skip)))))
    (.region [
     ⟨some 42, .mov (.tmp 9), none, []⟩, 
     ⟨some 43, .bin .add (.tmp 42) (.const (.int .i64 1)), none, []⟩, 
     ⟨some 9, .mov (.tmp 43), none, []⟩] [42, 43]))))))
  (.seq (.seq (.region [
   ⟨some 67, .mov (.tmp 8), none, []⟩, 
   ⟨some 68, .mov (.tmp 0), none, []⟩, 
   ⟨some 69, .len true (.tmp 68), none, []⟩, 
   ⟨some 70, .bin .lss (.tmp 67) (.tmp 69), none, []⟩] [67, 68, 69])
  (.cond (.tmp 70)
   (.region [
    ⟨some 71, .mov (.tmp 0), none, []⟩, 
    ⟨some 72, .mov (.tmp 8), none, []⟩, 
    ⟨some 73, .sliceStr (.tmp 71) (some (.tmp 72)) none, none, []⟩, 
    ⟨some 74, .call 43 [(.tmp 7), (.tmp 73)], none, []⟩] [71, 72, 73, 74])
   (.skip)))
  (.seq (.region [
   ⟨some 75, .call 44 [(.tmp 7)], none, []⟩, 
   ⟨some 2, .mov (.tmp 75), none, []⟩] [75])
  (.ret))))))))
  (.skip)))
 (.seq (.region [
  ⟨some 76, .mov (.tmp 0), none, []⟩, 
  ⟨some 77, .call 65 [(.const (.func (.func 66) [] [])), (.tmp 76)], none, []⟩, 
  ⟨some 2, .mov (.tmp 77), none, []⟩] [76, 77])
 (.ret)))))
theorem ok50 : erase c50 = cCode Tryz.prog 78 ((Tryz.f50).body.getD .skip) := by kernel_rfl
theorem ord50 : ordsOk c50 = true := by kernel_rfl
theorem call50 {args : List SV} {h : Heap} {R : AEnd → Heap → Prop} (hn : Nat.ble args.length 78 = true) (hp : awp Tryz.prog c50 (finQ [.tmp 2] R) (argEnv 0 args) h) : ACall Tryz.prog 50 args h R :=
  acall_of_awp mixed Tryz.func50 rfl ord50 ok50 (by kernel_rfl) hn hp
def t50 : Tab := ⟨78, c50, [.tmp 2]⟩
theorem tab50 : TabOk Tryz.prog 50 t50 := tabOk Tryz.func50 rfl ord50 ok50 (by kernel_rfl) rfl

/-- strconv.ParseUint -/
def c51 : ACode :=
 .seq (.region [
  ⟨some 6, .mov (.const (.int .u64 0)), none, []⟩, 
  ⟨some 7, .mov (.const .nili), none, []⟩] [])
 (.seq (.region [
  ⟨some 11, .mov (.tmp 0), none, []⟩, 
  ⟨some 12, .mov (.tmp 1), none, []⟩, 
  ⟨some 13, .mov (.tmp 2), none, []⟩, 
  ⟨some 14, .call 67 [(.tmp 11), (.tmp 12), (.tmp 13)], none, []⟩, 
  ⟨some 10, .mov (.tmp 14), none, []⟩, 
  ⟨some 15, .extract (.tmp 10) 0, none, []⟩, 
  ⟨some 16, .extract (.tmp 10) 1, none, []⟩, 
  ⟨some 8, .mov (.tmp 15), none, []⟩, 
  ⟨some 9, .mov (.tmp 16), none, []⟩] [11, 12, 13, 14, 10, 15, 16])
 (.seq (.seq (.region [
  ⟨some 17, .mov (.tmp 9), none, []⟩, 
  ⟨some 18, .eqI true (.tmp 17) (.const .nili), none, []⟩] [17])
 (.cond (.tmp 18)
  (.seq (.region [
   ⟨some 19, .mov (.tmp 8), none, []⟩, 
   ⟨some 20, .mov (.tmp 0), none, []⟩, 
   ⟨some 21, .mov (.tmp 1), none, []⟩, 
   ⟨some 22, .mov (.tmp 2), none, []⟩, 
   ⟨some 23, .mov (.tmp 9), none, []⟩, 
   ⟨some 24, .call 68 [(.const (.str [80, 97, 114, 115, 101, 85, 105, 110, 116])), (.tmp 20), (.tmp 21), (.tmp 22), (.tmp 23)], none, []⟩, 
   ⟨some 6, .mov (.tmp 19), none, []⟩, 
   ⟨some 7, .mov (.tmp 24), none, []⟩] [19, 20, 21, 22, 23, 24])
  (.ret))
  (.skip)))
 (.seq (.region [
  ⟨some 25, .mov (.tmp 8), none, []⟩, 
  ⟨some 6, .mov (.tmp 25), none, []⟩, 
  ⟨some 7, .mov (.const .nili), none, []⟩] [25])
 (.ret))))
theorem ok51 : erase c51 = cCode Tryz.prog 26 ((Tryz.f51).body.getD .skip) := by kernel_rfl
theorem ord51 : ordsOk c51 = true := by kernel_rfl
theorem call51 {args : List SV} {h : Heap} {R : AEnd → Heap → Prop} (hn : Nat.ble args.length 26 = true) (hp : awp Tryz.prog c51 (finQ [.tmp 6, .tmp 7] R) (argEnv 0 args) h) : ACall Tryz.prog 51 args h R :=
  acall_of_awp mixed Tryz.func51 rfl ord51 ok51 (by kernel_rfl) hn hp
def t51 : Tab := ⟨26, c51, [.tmp 6, .tmp 7]⟩
theorem tab51 : TabOk Tryz.prog 51 t51 := tabOk Tryz.func51 rfl ord51 ok51 (by kernel_rfl) rfl

/-- unicode/utf8.DecodeRuneInString -/
def c52 : ACode :=
 .seq (.region [
  ⟨some 2, .mov (.const (.int .i32 0)), none, []⟩, 
  ⟨some 3, .mov (.const (.int .i64 0)), none, []⟩] [])
 (.seq (.seq (.region [
  ⟨some 4, .mov (.tmp 0), none, []⟩, 
  ⟨some 5, .bin .neq (.tmp 4) (.const (.str [])), none, []⟩, 
  ⟨some 6, .mov (.tmp 5), none, []⟩, 
  ⟨some 7, .mov (.tmp 0), (some (6, true)), []⟩, 
  ⟨some 8, .index (.tmp 7) (.const (.int .i64 0)), (some (6, true)), []⟩, 
  ⟨some 9, .bin .lss (.tmp 8) (.const (.int .u8 128)), (some (6, true)), []⟩, 
  ⟨some 10, .pick (.tmp 6) (.tmp 9) (.const (.bool false)), none, []⟩] [4, 5, 6, 7, 8, 9])
 (.cond (.tmp 10)
  (.seq (.region [
   ⟨some 11, .mov (.tmp 0), none, []⟩, 
   ⟨some 12, .index (.tmp 11) (.const (.int .i64 0)), none, []⟩, 
   ⟨some 13, .conv .i32 (.tmp 12), none, []⟩, 
   ⟨some 2, .mov (.tmp 13), none, []⟩, 
   ⟨some 3, .mov (.const (.int .i64 1)), none, []⟩] [11, 12, 13])
  (.ret))
  (.region [
   ⟨some 15, .mov (.tmp 0), none, []⟩, 
   ⟨some 16, .call 69 [(.tmp 15)], none, []⟩, 
   ⟨some 14, .mov (.tmp 16), none, []⟩, 
   ⟨some 17, .extract (.tmp 14) 0, none, []⟩, 
   ⟨some 18, .extract (.tmp 14) 1, none, []⟩, 
   ⟨some 2, .mov (.tmp 17), none, []⟩, 
   ⟨some 3, .mov (.tmp 18), none, []⟩] [15, 16, 14, 17, 18])))
 (.ret))
theorem ok52 : erase c52 = cCode Tryz.prog 19 ((Tryz.f52).body.getD .skip) := by kernel_rfl
theorem ord52 : ordsOk c52 = true := by kernel_rfl
theorem call52 {args : List SV} {h : Heap} {R : AEnd → Heap → Prop} (hn : Nat.ble args.length 19 = true) (hp : awp Tryz.prog c52 (finQ [.tmp 2, .tmp 3] R) (argEnv 0 args) h) : ACall Tryz.prog 52 args h R :=
  acall_of_awp mixed Tryz.func52 rfl ord52 ok52 (by kernel_rfl) hn hp
def t52 : Tab := ⟨19, c52, [.tmp 2, .tmp 3]⟩
theorem tab52 : TabOk Tryz.prog 52 t52 := tabOk Tryz.func52 rfl ord52 ok52 (by kernel_rfl) rfl

/-- (*strings.Builder).WriteByte -/
def c53 : ACode :=
 .seq (.region [
  ⟨some 4, .mov (.const .nili), none, []⟩] [])
 (.seq (.region [
  ⟨some 5, .mov (.tmp 0), none, []⟩, 
  ⟨some 6, .call 61 [(.tmp 5)], none, []⟩] [5, 6])
 (.seq (.region [
  ⟨some 7, .mov (.tmp 0), none, []⟩, 
  ⟨some 8, .mov (.tmp 0), none, []⟩, 
  ⟨some 9, .nilChk (.tmp 8), none, []⟩, 
  ⟨some 10, .fieldAddr 1 (.tmp 9), none, []⟩, 
  ⟨some 11, .loadS (.tmp 10), none, []⟩, 
  ⟨some 12, .mov (.tmp 1), none, []⟩, 
  ⟨some 13, .buildSlice 5 1 (.int .u8 0) 1 [(0, (.tmp 12))], none, []⟩, 
  ⟨some 14, .append 5 1 1 (.tmp 11) (.tmp 13), none, []⟩, 
  ⟨some 15, .nilChk (.tmp 7), none, []⟩, 
  ⟨some 16, .fieldAddr 1 (.tmp 15), none, []⟩, 
  ⟨none, .store 1 (.tmp 16) (.tmp 14), none, []⟩] [7, 8, 9, 10, 11, 12, 13, 14, 15, 16])
 (.seq (.region [
  ⟨some 4, .mov (.const .nili), none, []⟩] [])
 (.ret))))
theorem ok53 : erase c53 = cCode Tryz.prog 17 ((Tryz.f53).body.getD .skip) := by kernel_rfl
theorem ord53 : ordsOk c53 = true := by kernel_rfl
theorem call53 {args : List SV} {h : Heap} {R : AEnd → Heap → Prop} (hn : Nat.ble args.length 17 = true) (hp : awp Tryz.prog c53 (finQ [.tmp 4] R) (argEnv 0 args) h) : ACall Tryz.prog 53 args h R :=
  acall_of_awp mixed Tryz.func53 rfl ord53 ok53 (by kernel_rfl) hn hp
def t53 : Tab := ⟨17, c53, [.tmp 4]⟩
theorem tab53 : TabOk Tryz.prog 53 t53 := tabOk Tryz.func53 rfl ord53 ok53 (by kernel_rfl) rfl

/-- (*strings.Builder).Len -/
def c54 : ACode :=
 .seq (.region [
  ⟨some 2, .mov (.const (.int .i64 0)), none, []⟩] [])
 (.seq (.region [
  ⟨some 3, .mov (.tmp 0), none, []⟩, 
  ⟨some 4, .nilChk (.tmp 3), none, []⟩, 
  ⟨some 5, .fieldAddr 1 (.tmp 4), none, []⟩, 
  ⟨some 6, .loadS (.tmp 5), none, []⟩, 
  ⟨some 7, .len false (.tmp 6), none, []⟩, 
  ⟨some 2, .mov (.tmp 7), none, []⟩] [3, 4, 5, 6, 7])
 (.ret))
theorem ok54 : erase c54 = cCode Tryz.prog 8 ((Tryz.f54).body.getD .skip) := by kernel_rfl
theorem ord54 : ordsOk c54 = true := by kernel_rfl
theorem call54 {args : List SV} {h : Heap} {R : AEnd → Heap → Prop} (hn : Nat.ble args.length 8 = true) (hp : awp Tryz.prog c54 (finQ [.tmp 2] R) (argEnv 0 args) h) : ACall Tryz.prog 54 args h R :=
  acall_of_awp mixed Tryz.func54 rfl ord54 ok54 (by kernel_rfl) hn hp
def t54 : Tab := ⟨8, c54, [.tmp 2]⟩
theorem tab54 : TabOk Tryz.prog 54 t54 := tabOk Tryz.func54 rfl ord54 ok54 (by kernel_rfl) rfl

/-- internal/stringslite.HasPrefix -/
def c55 : ACode :=
 .seq (.region [
  ⟨some 4, .mov (.const (.bool false)), none, []⟩] [])
 (.seq (.region [
  ⟨some 5, .mov (.tmp 0), none, []⟩, 
  ⟨some 6, .len true (.tmp 5), none, []⟩, 
  ⟨some 7, .mov (.tmp 1), none, []⟩, 
  ⟨some 8, .len true (.tmp 7), none, []⟩, 
  ⟨some 9, .bin .geq (.tmp 6) (.tmp 8), none, []⟩, 
  ⟨some 10, .mov (.tmp 9), none, []⟩, 
  ⟨some 11, .mov (.tmp 0), (some (10, true)), []⟩, 
  ⟨some 12, .mov (.tmp 1), (some (10, true)), []⟩, 
  ⟨some 13, .len true (.tmp 12), (some (10, true)), []⟩, 
  ⟨some 14, .sliceStr (.tmp 11) none (some (.tmp 13)), (some (10, true)), []⟩, 
  ⟨some 15, .mov (.tmp 1), (some (10, true)), []⟩, 
  ⟨some 16, .bin .eql (.tmp 14) (.tmp 15), (some (10, true)), []⟩, 
  ⟨some 17, .pick (.tmp 10) (.tmp 16) (.const (.bool false)), none, []⟩, 
  ⟨some 4, .mov (.tmp 17), none, []⟩] [5, 6, 7, 8, 9, 10, 11, 12, 13, 14, 15, 16, 17])
 (.ret))
theorem ok55 : erase c55 = cCode Tryz.prog 18 ((Tryz.f55).body.getD .skip) := by kernel_rfl
theorem ord55 : ordsOk c55 = true := by kernel_rfl
theorem call55 {args : List SV} {h : Heap} {R : AEnd → Heap → Prop} (hn : Nat.ble args.length 18 = true) (hp : awp Tryz.prog c55 (finQ [.tmp 4] R) (argEnv 0 args) h) : ACall Tryz.prog 55 args h R :=
  acall_of_awp mixed Tryz.func55 rfl ord55 ok55 (by kernel_rfl) hn hp
def t55 : Tab := ⟨18, c55, [.tmp 4]⟩
theorem tab55 : TabOk Tryz.prog 55 t55 := tabOk Tryz.func55 rfl ord55 ok55 (by kernel_rfl) rfl

/-- stagepost/stagepostref13.small -/
def c56 : ACode :=
 .seq (.region [
  ⟨some 2, .mov (.const (.bool false)), none, []⟩] [])
 (.seq (.region [
  ⟨some 3, .mov (.tmp 0), none, []⟩, 
  ⟨some 4, .bin .geq (.tmp 3) (.const (.int .u8 97)), none, []⟩, 
  ⟨some 5, .mov (.tmp 4), none, []⟩, 
  ⟨some 6, .mov (.tmp 0), (some (5, true)), []⟩, 
  ⟨some 7, .bin .leq (.tmp 6) (.const (.int .u8 122)), (some (5, true)), []⟩, 
  ⟨some 8, .pick (.tmp 5) (.tmp 7) (.const (.bool false)), none, []⟩, 
  ⟨some 9, .mov (.tmp 8), none, []⟩, 
  ⟨some 10, .mov (.tmp 0), (some (9, false)), []⟩, 
  ⟨some 11, .bin .eql (.tmp 10) (.const (.int .u8 95)), (some (9, false)), []⟩, 
  ⟨some 12, .pick (.tmp 9) (.const (.bool true)) (.tmp 11), none, []⟩, 
  ⟨some 2, .mov (.tmp 12), none, []⟩] [3, 4, 5, 6, 7, 8, 9, 10, 11, 12])
 (.ret))
theorem ok56 : erase c56 = cCode Tryz.prog 13 ((Tryz.f56).body.getD .skip) := by kernel_rfl
theorem ord56 : ordsOk c56 = true := by kernel_rfl
theorem call56 {args : List SV} {h : Heap} {R : AEnd → Heap → Prop} (hn : Nat.ble args.length 13 = true) (hp : awp Tryz.prog c56 (finQ [.tmp 2] R) (argEnv 0 args) h) : ACall Tryz.prog 56 args h R :=
  acall_of_awp mixed Tryz.func56 rfl ord56 ok56 (by kernel_rfl) hn hp
def t56 : Tab := ⟨13, c56, [.tmp 2]⟩
theorem tab56 : TabOk Tryz.prog 56 t56 := tabOk Tryz.func56 rfl ord56 ok56 (by kernel_rfl) rfl

def c57r8 : List AOper := [
 ⟨some 34, .mov (.tmp 0), none, []⟩, 
 ⟨some 35, .len false (.tmp 34), none, [0]⟩, 
 ⟨some 36, .bin .gtr (.tmp 35) (.const (.int .i64 16)), none, [1]⟩, 
 ⟨some 37, .mov (.tmp 36), none, [2]⟩, 
 ⟨some 38, .mov (.tmp 0), (some (37, true)), [3]⟩, 
 ⟨some 39, .call 70 [(.tmp 38)], (some (37, true)), [4, 3, 3]⟩, 
 ⟨some 40, .mov (.tmp 0), (some (37, true)), [3]⟩, 
 ⟨some 41, .slice 1 (.tmp 40) (some (.const (.int .i64 8))) none, (some (37, true)), [6, 3]⟩, 
 ⟨some 42, .call 70 [(.tmp 41)], (some (37, true)), [7, 5, 3]⟩, 
 ⟨some 43, .bin .or (.tmp 39) (.tmp 42), (some (37, true)), [5, 8, 3]⟩, 
 ⟨some 44, .bin .and (.tmp 43) (.const (.int .u64 9259542123273814144)), (some (37, true)), [9, 3]⟩, 
 ⟨some 45, .bin .eql (.tmp 44) (.const (.int .u64 0)), (some (37, true)), [10, 3]⟩, 
 ⟨some 46, .pick (.tmp 37) (.tmp 45) (.const (.bool false)), none, [3, 11]⟩]
def c57r10 : List AOper := [
 ⟨some 49, .mov (.tmp 0), none, []⟩, 
 ⟨some 50, .len false (.tmp 49), none, [0]⟩, 
 ⟨some 51, .bin .gtr (.tmp 50) (.const (.int .i64 32)), none, [1]⟩, 
 ⟨some 52, .mov (.tmp 51), none, [2]⟩, 
 ⟨some 53, .mov (.tmp 0), (some (52, true)), [3]⟩, 
 ⟨some 54, .call 70 [(.tmp 53)], (some (52, true)), [4, 3, 3]⟩, 
 ⟨some 55, .mov (.tmp 0), (some (52, true)), [3]⟩, 
 ⟨some 56, .slice 1 (.tmp 55) (some (.const (.int .i64 8))) none, (some (52, true)), [6, 3]⟩, 
 ⟨some 57, .call 70 [(.tmp 56)], (some (52, true)), [7, 5, 3]⟩, 
 ⟨some 58, .bin .or (.tmp 54) (.tmp 57), (some (52, true)), [5, 8, 3]⟩, 
 ⟨some 59, .mov (.tmp 0), (some (52, true)), [3]⟩, 
 ⟨some 60, .slice 1 (.tmp 59) (some (.const (.int .i64 16))) none, (some (52, true)), [10, 3]⟩, 
 ⟨some 61, .call 70 [(.tmp 60)], (some (52, true)), [11, 8, 3]⟩, 
 ⟨some 62, .mov (.tmp 0), (some (52, true)), [3]⟩, 
 ⟨some 63, .slice 1 (.tmp 62) (some (.const (.int .i64 24))) none, (some (52, true)), [13, 3]⟩, 
 ⟨some 64, .call 70 [(.tmp 63)], (some (52, true)), [14, 12, 3]⟩, 
 ⟨some 65, .bin .or (.tmp 61) (.tmp 64), (some (52, true)), [12, 15, 3]⟩, 
 ⟨some 66, .bin .or (.tmp 58) (.tmp 65), (some (52, true)), [9, 16, 3]⟩, 
 ⟨some 67, .bin .and (.tmp 66) (.const (.int .u64 9259542123273814144)), (some (52, true)), [17, 3]⟩, 
 ⟨some 68, .bin .eql (.tmp 67) (.const (.int .u64 0)), (some (52, true)), [18, 3]⟩, 
 ⟨some 69, .pick (.tmp 52) (.tmp 68) (.const (.bool false)), none, [3, 19]⟩]
def c57r18 : List AOper := [
 ⟨some 85, .mov (.tmp 0), none, []⟩, 
 ⟨some 86, .len false (.tmp 85), none, [0]⟩, 
 ⟨some 87, .bin .lss (.tmp 86) (.const (.int .i64 2)), none, [1]⟩, 
 ⟨some 88, .mov (.tmp 87), none, [2]⟩, 
 ⟨some 89, .mov (.tmp 0), (some (88, false)), [3]⟩, 
 ⟨some 90, .indexAddr 1 (.tmp 89) (.const (.int .i64 1)), (some (88, false)), [4, 3]⟩, 
 ⟨some 91, .loadS (.tmp 90), (some (88, false)), [5, 3]⟩, 
 ⟨some 92, .fieldAddr 0 (.tmp 6), (some (88, false)), [3]⟩, 
 ⟨some 93, .loadS (.tmp 92), (some (88, false)), [7, 3]⟩, 
 ⟨some 94, .bin .lss (.tmp 91) (.tmp 93), (some (88, false)), [6, 8, 3]⟩, 
 ⟨some 95, .pick (.tmp 88) (.const (.bool true)) (.tmp 94), none, [3, 9]⟩, 
 ⟨some 96, .mov (.tmp 95), none, [10, 3]⟩, 
 ⟨some 97, .fieldAddr 1 (.tmp 6), (some (96, false)), [11]⟩, 
 ⟨some 98, .loadS (.tmp 97), (some (96, false)), [12, 11]⟩, 
 ⟨some 99, .mov (.tmp 0), (some (96, false)), [11]⟩, 
 ⟨some 100, .indexAddr 1 (.tmp 99) (.const (.int .i64 1)), (some (96, false)), [14, 11]⟩, 
 ⟨some 101, .loadS (.tmp 100), (some (96, false)), [15, 11]⟩, 
 ⟨some 102, .bin .lss (.tmp 98) (.tmp 101), (some (96, false)), [13, 16, 11]⟩, 
 ⟨some 103, .pick (.tmp 96) (.const (.bool true)) (.tmp 102), none, [11, 17]⟩]
def c57r22 : List AOper := (
 ⟨some 108, .mov (.tmp 0), none, []⟩ :: 
 ⟨some 109, .len false (.tmp 108), none, [0]⟩ :: 
 ⟨some 110, .bin .lss (.tmp 109) (.const (.int .i64 3)), none, [1]⟩ :: 
 ⟨some 111, .mov (.tmp 110), none, [2]⟩ :: 
 ⟨some 112, .mov (.tmp 0), (some (111, false)), [3]⟩ :: 
 ⟨some 113, .indexAddr 1 (.tmp 112) (.const (.int .i64 1)), (some (111, false)), [4, 3]⟩ :: 
 ⟨some 114, .loadS (.tmp 113), (some (111, false)), [5, 3]⟩ :: 
 ⟨some 115, .fieldAddr 0 (.tmp 6), (some (111, false)), [3]⟩ :: 
 ⟨some 116, .loadS (.tmp 115), (some (111, false)), [7, 3]⟩ :: 
 ⟨some 117, .bin .lss (.tmp 114) (.tmp 116), (some (111, false)), [6, 8, 3]⟩ :: 
 ⟨some 118, .pick (.tmp 111) (.const (.bool true)) (.tmp 117), none, [3, 9]⟩ :: 
 ⟨some 119, .mov (.tmp 118), none, [10, 3]⟩ :: 
 ⟨some 120, .fieldAddr 1 (.tmp 6), (some (119, false)), [11]⟩ :: 
 ⟨some 121, .loadS (.tmp 120), (some (119, false)), [12, 11]⟩ :: 
 ⟨some 122, .mov (.tmp 0), (some (119, false)), [11]⟩ :: 
 ⟨some 123, .indexAddr 1 (.tmp 122) (.const (.int .i64 1)), (some (119, false)), [14, 11]⟩ :: 
 ⟨some 124, .loadS (.tmp 123), (some (119, false)), [15, 11]⟩ :: 
 ⟨some 125, .bin .lss (.tmp 121) (.tmp 124), (some (119, false)), [13, 16, 11]⟩ :: 
 ⟨some 126, .pick (.tmp 119) (.const (.bool true)) (.tmp 125), none, [11, 17]⟩ :: 
 ⟨some 127, .mov (.tmp 126), none, [18, 11]⟩ :: 
 ⟨some 128, .mov (.tmp 0), (some (127, false)), [19]⟩ :: 
 ⟨some 129, .indexAddr 1 (.tmp 128) (.const (.int .i64 2)), (some (127, false)), [20, 19]⟩ :: 
 ⟨some 130, .loadS (.tmp 129), (some (127, false)), [21, 19]⟩ :: 
 ⟨some 131, .bin .lss (.tmp 130) (.const (.int .u8 128)), (some (127, false)), [22, 19]⟩ :: 
 ⟨some 132, .pick (.tmp 127) (.const (.bool true)) (.tmp 131), none, [19, 23]⟩ :: 
 ⟨some 133, .mov (.tmp 132), none, [24, 19]⟩ :: 
 ⟨some 134, .mov (.tmp 0), (some (133, false)), [25]⟩ :: 
 ⟨some 135, .indexAddr 1 (.tmp 134) (.const (.int .i64 2)), (some (133, false)), [26, 25]⟩ :: 
 ⟨some 136, .loadS (.tmp 135), (some (133, false)), [27, 25]⟩ :: 
 ⟨some 137, .bin .lss (.const (.int .u8 191)) (.tmp 136), (some (133, false)), [28, 25]⟩ :: 
 ⟨some 138, .pick (.tmp 133) (.const (.bool true)) (.tmp 137), none, [25, 29]⟩ :: [])
def c57r26 : List AOper := (
 ⟨some 143, .mov (.tmp 0), none, []⟩ :: 
 ⟨some 144, .len false (.tmp 143), none, [0]⟩ :: 
 ⟨some 145, .bin .lss (.tmp 144) (.const (.int .i64 4)), none, [1]⟩ :: 
 ⟨some 146, .mov (.tmp 145), none, [2]⟩ :: 
 ⟨some 147, .mov (.tmp 0), (some (146, false)), [3]⟩ :: 
 ⟨some 148, .indexAddr 1 (.tmp 147) (.const (.int .i64 1)), (some (146, false)), [4, 3]⟩ :: 
 ⟨some 149, .loadS (.tmp 148), (some (146, false)), [5, 3]⟩ :: 
 ⟨some 150, .fieldAddr 0 (.tmp 6), (some (146, false)), [3]⟩ :: 
 ⟨some 151, .loadS (.tmp 150), (some (146, false)), [7, 3]⟩ :: 
 ⟨some 152, .bin .lss (.tmp 149) (.tmp 151), (some (146, false)), [6, 8, 3]⟩ :: 
 ⟨some 153, .pick (.tmp 146) (.const (.bool true)) (.tmp 152), none, [3, 9]⟩ :: 
 ⟨some 154, .mov (.tmp 153), none, [10, 3]⟩ :: 
 ⟨some 155, .fieldAddr 1 (.tmp 6), (some (154, false)), [11]⟩ :: 
 ⟨some 156, .loadS (.tmp 155), (some (154, false)), [12, 11]⟩ :: 
 ⟨some 157, .mov (.tmp 0), (some (154, false)), [11]⟩ :: 
 ⟨some 158, .indexAddr 1 (.tmp 157) (.const (.int .i64 1)), (some (154, false)), [14, 11]⟩ :: 
 ⟨some 159, .loadS (.tmp 158), (some (154, false)), [15, 11]⟩ :: 
 ⟨some 160, .bin .lss (.tmp 156) (.tmp 159), (some (154, false)), [13, 16, 11]⟩ :: 
 ⟨some 161, .pick (.tmp 154) (.const (.bool true)) (.tmp 160), none, [11, 17]⟩ :: 
 ⟨some 162, .mov (.tmp 161), none, [18, 11]⟩ :: 
 ⟨some 163, .mov (.tmp 0), (some (162, false)), [19]⟩ :: 
 ⟨some 164, .indexAddr 1 (.tmp 163) (.const (.int .i64 2)), (some (162, false)), [20, 19]⟩ :: 
 ⟨some 165, .loadS (.tmp 164), (some (162, false)), [21, 19]⟩ :: 
 ⟨some 166, .bin .lss (.tmp 165) (.const (.int .u8 128)), (some (162, false)), [22, 19]⟩ :: 
 ⟨some 167, .pick (.tmp 162) (.const (.bool true)) (.tmp 166), none, [19, 23]⟩ :: 
 ⟨some 168, .mov (.tmp 167), none, [24, 19]⟩ :: 
 ⟨some 169, .mov (.tmp 0), (some (168, false)), [25]⟩ :: 
 ⟨some 170, .indexAddr 1 (.tmp 169) (.const (.int .i64 2)), (some (168, false)), [26, 25]⟩ :: 
 ⟨some 171, .loadS (.tmp 170), (some (168, false)), [27, 25]⟩ :: 
 ⟨some 172, .bin .lss (.const (.int .u8 191)) (.tmp 171), (some (168, false)), [28, 25]⟩ :: 
 ⟨some 173, .pick (.tmp 168) (.const (.bool true)) (.tmp 172), none, [25, 29]⟩ :: 
 ⟨some 174, .mov (.tmp 173), none, [30, 25]⟩ :: 
 ⟨some 175, .mov (.tmp 0), (some (174, false)), [31]⟩ :: 
 ⟨some 176, .indexAddr 1 (.tmp 175) (.const (.int .i64 3)), (some (174, false)), [32, 31]⟩ :: 
 ⟨some 177, .loadS (.tmp 176), (some (174, false)), [33, 31]⟩ :: 
 ⟨some 178, .bin .lss (.tmp 177) (.const (.int .u8 128)), (some (174, false)), [34, 31]⟩ :: 
 ⟨some 179, .pick (.tmp 174) (.const (.bool true)) (.tmp 178), none, [31, 35]⟩ :: 
 ⟨some 180, .mov (.tmp 179), none, [36, 31]⟩ :: 
 ⟨some 181, .mov (.tmp 0), (some (180, false)), [37]⟩ :: 
 ⟨some 182, .indexAddr 1 (.tmp 181) (.const (.int .i64 3)), (some (180, false)), [38, 37]⟩ :: 
 ⟨some 183, .loadS (.tmp 182), (some (180, false)), [39, 37]⟩ :: 
 ⟨some 184, .bin .lss (.const (.int .u8 191)) (.tmp 183), (some (180, false)), [40, 37]⟩ :: 
 ⟨some 185, .pick (.tmp 180) (.const (.bool true)) (.tmp 184), none, [37, 41]⟩ :: [])
/-- unicode/utf8.Valid -/
def c57 : ACode :=
 .seq (.region [
  ⟨some 2, .mov (.const (.bool false)), none, []⟩] [])
 (.seq (.region [
  ⟨some 7, .mov (.tmp 0), none, []⟩, 
  ⟨some 8, .mov (.tmp 0), none, []⟩, 
  ⟨some 9, .len false (.tmp 8), none, []⟩, 
  ⟨some 10, .mov (.tmp 0), none, []⟩, 
  ⟨some 11, .len false (.tmp 10), none, []⟩, 
  ⟨some 12, .slice3 1 (.tmp 7) none (some (.tmp 9)) (.tmp 11), none, []⟩, 
  ⟨some 0, .mov (.tmp 12), none, []⟩] [7, 8, 9, 10, 11, 12])
 (.seq (.block 0 (.loop (.seq (.seq (.region [
    ⟨some 13, .mov (.tmp 0), none, []⟩, 
    ⟨some 14, .len false (.tmp 13), none, []⟩, 
    ⟨some 15, .bin .gtr (.tmp 14) (.const (.int .i64 0)), none, []⟩] [13, 14])
   (.cond (.tmp 15)
    (.skip)
    (.exit 0)))
   (.block 1 (.seq (.region [
     ⟨some 16, .mov (.tmp 0), none, []⟩, 
     ⟨some 17, .indexAddr 1 (.tmp 16) (.const (.int .i64 0)), none, []⟩, 
     ⟨some 18, .loadS (.tmp 17), none, []⟩, 
     ⟨some 3, .mov (.tmp 18), none, []⟩] [16, 17, 18])
    (.seq (.seq (.region [
     ⟨some 19, .mov (.tmp 3), none, []⟩, 
     ⟨some 20, .bin .lss (.tmp 19) (.const (.int .u8 128)), none, []⟩] [19])
    (.cond (.tmp 20)
     (.seq (.region [
      ⟨some 21, .mov (.tmp 0), none, []⟩, 
      ⟨some 22, .slice 1 (.tmp 21) (some (.const (.int .i64 1))) none, none, []⟩, 
      ⟨some 0, .mov (.tmp 22), none, []⟩] [21, 22])
     (.seq (.seq (.region [
      ⟨some 23, .mov (.tmp 0), none, []⟩, 
      ⟨some 24, .len false (.tmp 23), none, []⟩, 
      ⟨some 25, .bin .gtr (.tmp 24) (.const (.int .i64 8)), none, []⟩, 
      ⟨some 26, .mov (.tmp 25), none, []⟩, 
      ⟨some 27, .mov (.tmp 0), (some (26, true)), []⟩, 
      ⟨some 28, .call 70 [(.tmp 27)], (some (26, true)), []⟩, 
      ⟨some 29, .bin .and (.tmp 28) (.const (.int .u64 9259542123273814144)), (some (26, true)), []⟩, 
      ⟨some 30, .bin .eql (.tmp 29) (.const (.int .u64 0)), (some (26, true)), []⟩, 
      ⟨some 31, .pick (.tmp 26) (.tmp 30) (.const (.bool false)), none, []⟩] [23, 24, 25, 26, 27, 28, 29, 30])
     (.cond (.tmp 31)
      (.seq (.region [
       ⟨some 32, .mov (.tmp 0), none, []⟩, 
       ⟨some 33, .slice 1 (.tmp 32) (some (.const (.int .i64 8))) none, none, []⟩, 
       ⟨some 0, .mov (.tmp 33), none, []⟩] [32, 33])
      (.seq (.dregion c57r8 [(0, false, []), (1, false, []), (2, false, []), (3, false, []), (4, false, []), (6, false, []), (7, false, []), (5, true, [7]), (8, true, []), (9, false, []), (10, false, []), (11, false, []), (12, false, [])] [34, 35, 36, 37, 38, 39, 40, 41, 42, 43, 44, 45])
      (.cond (.tmp 46)
       (.seq (.region [
        ⟨some 47, .mov (.tmp 0), none, []⟩, 
        ⟨some 48, .slice 1 (.tmp 47) (some (.const (.int .i64 16))) none, none, []⟩, 
        ⟨some 0, .mov (.tmp 48), none, []⟩] [47, 48])
       (.block 2 (.loop (.seq (.seq (.dregion c57r10 [(0, false, []), (1, false, []), (2, false, []), (3, false, []), (4, false, []), (6, false, []), (7, false, []), (10, false, []), (11, false, []), (13, false, []), (14, false, []), (5, true, [7, 11, 14]), (8, true, [11, 14]), (9, false, []), (12, true, [14]), (15, true, []), (16, false, []), (17, false, []), (18, false, []), (19, false, []), (20, false, [])] [49, 50, 51, 52, 53, 54, 55, 56, 57, 58, 59, 60, 61, 62, 63, 64, 65, 66, 67, 68])
         (.cond (.tmp 69)
          (.skip)
          (.exit 2)))
         (.block 3 (.region [
           ⟨some 70, .mov (.tmp 0), none, []⟩, 
           ⟨some 71, .slice 1 (.tmp 70) (some (.const (.int .i64 32))) none, none, []⟩, 
           ⟨some 0, .mov (.tmp 71), none, []⟩] [70, 71]))))))
       (.skip))))
      (.skip)))
     (.exit 1)))
     (.skip)))
    (.seq (.region [
     ⟨some 72, .mov (.tmp 3), none, []⟩, 
     ⟨some 73, .indexArr 256 1 (.const (.glob 0)) (.tmp 72), none, []⟩, 
     ⟨some 74, .loadS (.tmp 73), none, []⟩, 
     ⟨some 4, .mov (.tmp 74), none, []⟩] [72, 73, 74])
    (.seq (.region [
     ⟨some 75, .mov (.tmp 4), none, []⟩, 
     ⟨some 76, .bin .and (.tmp 75) (.const (.int .u8 7)), none, []⟩, 
     ⟨some 77, .conv .i64 (.tmp 76), none, []⟩, 
     ⟨some 5, .mov (.tmp 77), none, []⟩] [75, 76, 77])
    (.seq (.region [
     ⟨some 78, .mov (.tmp 4), none, []⟩, 
     ⟨some 79, .bin .shr (.tmp 78) (.const (.int .u64 4)), none, []⟩, 
     ⟨some 80, .indexArr 16 2 (.const (.glob 1)) (.tmp 79), none, []⟩, 
     ⟨some 81, .loadA 2 (.tmp 80), none, []⟩, 
     ⟨some 6, .box 76 2 (.const (.agg [(.int .u8 0), (.int .u8 0)])), none, []⟩, 
     ⟨none, .store 2 (.tmp 6) (.tmp 81), none, []⟩] [78, 79, 80, 81])
    (.seq (.region [
     ⟨some 82, .mov (.tmp 5), none, []⟩] [])
    (.block 4 (.seq (.region [
      ⟨some 84, .bin .eql (.tmp 82) (.const (.int .i64 2)), none, []⟩, 
      ⟨some 83, .mov (.tmp 84), none, []⟩] [84])
     (.cond (.tmp 83)
      (.seq (.seq (.dregion c57r18 [(0, false, []), (1, false, []), (2, false, []), (3, false, []), (4, false, []), (5, false, []), (6, false, []), (7, false, []), (8, false, []), (9, false, []), (10, false, []), (11, false, []), (12, false, []), (13, false, []), (14, false, []), (15, false, []), (16, false, []), (17, false, []), (18, false, [])] [85, 86, 87, 88, 89, 90, 91, 92, 93, 94, 95, 96, 97, 98, 99, 100, 101, 102])
      (.cond (.tmp 103)
       (.seq (.region [
        ⟨some 2, .mov (.const (.bool false)), none, []⟩] [])
       (.ret))
       (.skip)))
      (.region [
       ⟨some 104, .mov (.tmp 0), none, []⟩, 
       ⟨some 105, .slice 1 (.tmp 104) (some (.const (.int .i64 2))) none, none, []⟩, 
       ⟨some 0, .mov (.tmp 105), none, []⟩] [104, 105]))
      (.seq (.region [
       ⟨some 107, .bin .eql (.tmp 82) (.const (.int .i64 3)), none, []⟩, 
       ⟨some 106, .mov (.tmp 107), none, []⟩] [107])
      (.cond (.tmp 106)
       (.seq (.seq (.dregion c57r22 ((0, false, []) :: (1, false, []) :: (2, false, []) :: (3, false, []) :: (4, false, []) :: (5, false, []) :: (6, false, []) :: (7, false, []) :: (8, false, []) :: (9, false, []) :: (10, false, []) :: (11, false, []) :: (12, false, []) :: (13, false, []) :: (14, false, []) :: (15, false, []) :: (16, false, []) :: (17, false, []) :: (18, false, []) :: (19, false, []) :: (20, false, []) :: (21, false, []) :: (22, false, []) :: (23, false, []) :: (24, false, []) :: (25, false, []) :: (26, false, []) :: (27, false, []) :: (28, false, []) :: (29, false, []) :: (30, false, []) :: []) (108 :: 109 :: 110 :: 111 :: 112 :: 113 :: 114 :: 115 :: 116 :: 117 :: 118 :: 119 :: 120 :: 121 :: 122 :: 123 :: 124 :: 125 :: 126 :: 127 :: 128 :: 129 :: 130 :: 131 :: 132 :: 133 :: 134 :: 135 :: 136 :: 137 :: []))
       (.cond (.tmp 138)
        (.seq (.region [
         ⟨some 2, .mov (.const (.bool false)), none, []⟩] [])
        (.ret))
        (.skip)))
       (.region [
        ⟨some 139, .mov (.tmp 0), none, []⟩, 
        ⟨some 140, .slice 1 (.tmp 139) (some (.const (.int .i64 3))) none, none, []⟩, 
        ⟨some 0, .mov (.tmp 140), none, []⟩] [139, 140]))
       (.seq (.region [
        ⟨some 142, .bin .eql (.tmp 82) (.const (.int .i64 4)), none, []⟩, 
        ⟨some 141, .mov (.tmp 142), none, []⟩] [142])
       (.cond (.tmp 141)
        (.seq (.seq (.dregion c57r26 ((0, false, []) :: (1, false, []) :: (2, false, []) :: (3, false, []) :: (4, false, []) :: (5, false, []) :: (6, false, []) :: (7, false, []) :: (8, false, []) :: (9, false, []) :: (10, false, []) :: (11, false, []) :: (12, false, []) :: (13, false, []) :: (14, false, []) :: (15, false, []) :: (16, false, []) :: (17, false, []) :: (18, false, []) :: (19, false, []) :: (20, false, []) :: (21, false, []) :: (22, false, []) :: (23, false, []) :: (24, false, []) :: (25, false, []) :: (26, false, []) :: (27, false, []) :: (28, false, []) :: (29, false, []) :: (30, false, []) :: (31, false, []) :: (32, false, []) :: (33, false, []) :: (34, false, []) :: (35, false, []) :: (36, false, []) :: (37, false, []) :: (38, false, []) :: (39, false, []) :: (40, false, []) :: (41, false, []) :: (42, false, []) :: []) (143 :: 144 :: 145 :: 146 :: 147 :: 148 :: 149 :: 150 :: 151 :: 152 :: 153 :: 154 :: 155 :: 156 :: 157 :: 158 :: 159 :: 160 :: 161 :: 162 :: 163 :: 164 :: 165 :: 166 :: 167 :: 168 :: 169 :: 170 :: 171 :: 172 :: 173 :: 174 :: 175 :: 176 :: 177 :: 178 :: 179 :: 180 :: 181 :: 182 :: 183 :: 184 :: []))
        (.cond (.tmp 185)
         (.seq (.region [
          ⟨some 2, .mov (.const (.bool false)), none, []⟩] [])
         (.ret))
         (.skip)))
        (.region [
         ⟨some 186, .mov (.tmp 0), none, []⟩, 
         ⟨some 187, .slice 1 (.tmp 186) (some (.const (.int .i64 4))) none, none, []⟩, 
         ⟨some 0, .mov (.tmp 187), none, []⟩] [186, 187]))
        (.seq (.region [
         ⟨some 2, .mov (.const (.bool false)), none, []⟩] [])
        (.ret)))))))))))))))))))
 (.seq (.region [
  ⟨some 2, .mov (.const (.bool true)), none, []⟩] [])
 (.ret))))
theorem ok57 : erase c57 = cCode Tryz.prog 188 ((Tryz.f57).body.getD .skip) := by kernel_rfl
theorem ord57 : ordsOk c57 = true := by kernel_rfl
theorem call57 {args : List SV} {h : Heap} {R : AEnd → Heap → Prop} (hn : Nat.ble args.length 188 = true) (hp : awp Tryz.prog c57 (finQ [.tmp 2] R) (argEnv 0 args) h) : ACall Tryz.prog 57 args h R :=
  acall_of_awp mixed Tryz.func57 rfl ord57 ok57 (by kernel_rfl) hn hp
def t57 : Tab := ⟨188, c57, [.tmp 2]⟩
theorem tab57 : TabOk Tryz.prog 57 t57 := tabOk Tryz.func57 rfl ord57 ok57 (by kernel_rfl) rfl

/-- internal/strconv.FormatUint -/
def c59 : ACode :=
 .seq (.region [
  ⟨some 4, .mov (.const (.str [])), none, []⟩] [])
 (.seq (.seq (.region [
  ⟨some 9, .mov (.tmp 1), none, []⟩, 
  ⟨some 10, .bin .eql (.tmp 9) (.const (.int .i64 10)), none, []⟩] [9])
 (.cond (.tmp 10)
  (.seq (.seq (.region [
   ⟨some 11, .mov (.tmp 0), none, []⟩, 
   ⟨some 12, .bin .lss (.tmp 11) (.const (.int .u64 100)), none, []⟩] [11])
  (.cond (.tmp 12)
   (.seq (.region [
    ⟨some 13, .mov (.tmp 0), none, []⟩, 
    ⟨some 14, .conv .i64 (.tmp 13), none, []⟩, 
    ⟨some 15, .call 71 [(.tmp 14)], none, []⟩, 
    ⟨some 4, .mov (.tmp 15), none, []⟩] [13, 14, 15])
   (.ret))
   (.skip)))
  (.seq (.region [
   ⟨some 5, .boxR 88 24 (.const (.agg [(.int .u8 0), (.int .u8 0), (.int .u8 0), (.int .u8 0), (.int .u8 0), (.int .u8 0), (.int .u8 0), (.int .u8 0), (.int .u8 0), (.int .u8 0), (.int .u8 0), (.int .u8 0), (.int .u8 0), (.int .u8 0), (.int .u8 0), (.int .u8 0), (.int .u8 0), (.int .u8 0), (.int .u8 0), (.int .u8 0), (.int .u8 0), (.int .u8 0), (.int .u8 0), (.int .u8 0)])), none, []⟩] [])
  (.seq (.region [
   ⟨some 16, .mov (.tmp 0), none, []⟩, 
   ⟨some 17, .call 72 [(.tmp 16)], none, []⟩, 
   ⟨some 6, .mov (.tmp 17), none, []⟩] [16, 17])
  (.seq (.region [
   ⟨some 18, .mov (.tmp 6), none, []⟩, 
   ⟨some 19, .sliceArr 24 (.tmp 5) none (some (.tmp 18)), none, []⟩, 
   ⟨some 20, .mov (.tmp 0), none, []⟩, 
   ⟨some 21, .call 73 [(.tmp 19), (.tmp 20)], none, []⟩] [18, 19, 20, 21])
  (.seq (.region [
   ⟨some 22, .mov (.tmp 6), none, []⟩, 
   ⟨some 23, .sliceArr 24 (.tmp 5) none (some (.tmp 22)), none, []⟩, 
   ⟨some 24, .toStr (.tmp 23), none, []⟩, 
   ⟨some 4, .mov (.tmp 24), none, []⟩] [22, 23, 24])
  (.ret))))))
  (.skip)))
 (.seq (.region [
  ⟨some 26, .mov (.tmp 0), none, []⟩, 
  ⟨some 27, .mov (.tmp 1), none, []⟩, 
  ⟨some 28, .call 74 [(.const .nils), (.tmp 26), (.tmp 27), (.const (.bool false)), (.const (.bool false))], none, []⟩, 
  ⟨some 25, .mov (.tmp 28), none, []⟩, 
  ⟨some 29, .extract (.tmp 25) 0, none, []⟩, 
  ⟨some 30, .extract (.tmp 25) 1, none, []⟩, 
  ⟨some 7, .mov (.tmp 29), none, []⟩, 
  ⟨some 8, .mov (.tmp 30), none, []⟩] [26, 27, 28, 25, 29, 30, 7])
 (.seq (.region [
  ⟨some 31, .mov (.tmp 8), none, []⟩, 
  ⟨some 4, .mov (.tmp 31), none, []⟩] [31])
 (.ret))))
theorem ok59 : erase c59 = cCode Tryz.prog 32 ((Tryz.f59).body.getD .skip) := by kernel_rfl
theorem ord59 : ordsOk c59 = true := by kernel_rfl
theorem call59 {args : List SV} {h : Heap} {R : AEnd → Heap → Prop} (hn : Nat.ble args.length 32 = true) (hp : awp Tryz.prog c59 (finQ [.tmp 4] R) (argEnv 0 args) h) : ACall Tryz.prog 59 args h R :=
  acall_of_awp mixed Tryz.func59 rfl ord59 ok59 (by kernel_rfl) hn hp
def t59 : Tab := ⟨32, c59, [.tmp 4]⟩
theorem tab59 : TabOk Tryz.prog 59 t59 := tabOk Tryz.func59 rfl ord59 ok59 (by kernel_rfl) rfl

/-- strings.Replace -/
def c60 : ACode :=
 .seq (.region [
  ⟨some 8, .mov (.const (.str [])), none, []⟩] [])
 (.seq (.seq (.region [
  ⟨some 16, .mov (.tmp 1), none, []⟩, 
  ⟨some 17, .mov (.tmp 2), none, []⟩, 
  ⟨some 18, .bin .eql (.tmp 16) (.tmp 17), none, []⟩, 
  ⟨some 19, .mov (.tmp 18), none, []⟩, 
  ⟨some 20, .mov (.tmp 3), (some (19, false)), []⟩, 
  ⟨some 21, .bin .eql (.tmp 20) (.const (.int .i64 0)), (some (19, false)), []⟩, 
  ⟨some 22, .pick (.tmp 19) (.const (.bool true)) (.tmp 21), none, []⟩] [16, 17, 18, 19, 20, 21])
 (.cond (.tmp 22)
  (.seq (.region [
   ⟨some 23, .mov (.tmp 0), none, []⟩, 
   ⟨some 8, .mov (.tmp 23), none, []⟩] [23])
  (.ret))
  (.skip)))
 (.seq (.seq (.region [
  ⟨some 24, .mov (.tmp 0), none, []⟩, 
  ⟨some 25, .mov (.tmp 1), none, []⟩, 
  ⟨some 26, .call 75 [(.tmp 24), (.tmp 25)], none, []⟩, 
  ⟨some 9, .mov (.tmp 26), none, []⟩] [24, 25, 26])
 (.seq (.region [
  ⟨some 27, .mov (.tmp 9), none, []⟩, 
  ⟨some 28, .bin .eql (.tmp 27) (.const (.int .i64 0)), none, []⟩] [27])
 (.cond (.tmp 28)
  (.seq (.region [
   ⟨some 29, .mov (.tmp 0), none, []⟩, 
   ⟨some 8, .mov (.tmp 29), none, []⟩] [29])
  (.ret))
  (.seq (.region [
   ⟨some 30, .mov (.tmp 3), none, []⟩, 
   ⟨some 31, .bin .lss (.tmp 30) (.const (.int .i64 0)), none, []⟩, 
   ⟨some 32, .mov (.tmp 31), none, []⟩, 
   ⟨some 33, .mov (.tmp 9), (some (32, false)), []⟩, 
   ⟨some 34, .mov (.tmp 3), (some (32, false)), []⟩, 
   ⟨some 35, .bin .lss (.tmp 33) (.tmp 34), (some (32, false)), []⟩, 
   ⟨some 36, .pick (.tmp 32) (.const (.bool true)) (.tmp 35), none, []⟩] [30, 31, 32, 33, 34, 35])
  (.cond (.tmp 36)
   (.region [
    ⟨some 37, .mov (.tmp 9), none, []⟩, 
    ⟨some 3, .mov (.tmp 37), none, []⟩] [37])
   (.skip))))))
 (.seq (.region [
  ⟨some 10, .box 55 2 (.const (.agg [.nilp, .nils])), none, []⟩] [])
 (.seq (.region [
  ⟨some 38, .mov (.tmp 0), none, []⟩, 
  ⟨some 39, .len true (.tmp 38), none, []⟩, 
  ⟨some 40, .mov (.tmp 3), none, []⟩, 
  ⟨some 41, .mov (.tmp 2), none, []⟩, 
  ⟨some 42, .len true (.tmp 41), none, []⟩, 
  ⟨some 43, .mov (.tmp 1), none, []⟩, 
  ⟨some 44, .len true (.tmp 43), none, []⟩, 
  ⟨some 45, .bin .sub (.tmp 42) (.tmp 44), none, []⟩, 
  ⟨some 46, .bin .mul (.tmp 40) (.tmp 45), none, []⟩, 
  ⟨some 47, .bin .add (.tmp 39) (.tmp 46), none, []⟩, 
  ⟨some 48, .call 42 [(.tmp 10), (.tmp 47)], none, []⟩] [38, 39, 40, 41, 42, 43, 44, 45, 46, 47, 48])
 (.seq (.region [
  ⟨some 11, .mov (.const (.int .i64 0)), none, []⟩] [])
 (.seq (.seq (.region [
  ⟨some 49, .mov (.tmp 1), none, []⟩, 
  ⟨some 50, .len true (.tmp 49), none, []⟩, 
  ⟨some 51, .bin .gtr (.tmp 50) (.const (.int .i64 0)), none, []⟩] [49, 50])
 (.cond (.tmp 51)
  (.seq (.region [
   ⟨some 52, .mov (.tmp 3), none, []⟩, 
   ⟨some 53, .mov (.const (.int .i64 0)), none, []⟩] [])
  (.block 0 (.loop (.seq (.region [
     ⟨some 54, .bin .lss (.tmp 53) (.tmp 52), none, []⟩] [])
    (.seq (.cond (.tmp 54)
     (.skip)
     (.exit 0))
    (.seq (.block 1 (.seq (.region [
      ⟨some 55, .mov (.tmp 11), none, []⟩, 
      ⟨some 56, .mov (.tmp 0), none, []⟩, 
      ⟨some 57, .mov (.tmp 11), none, []⟩, 
      ⟨some 58, .sliceStr (.tmp 56) (some (.tmp 57)) none, none, []⟩, 
      ⟨some 59, .mov (.tmp 1), none, []⟩, 
      ⟨some 60, .call 76 [(.tmp 58), (.tmp 59)], none, []⟩, 
      ⟨some 61, .bin .add (.tmp 55) (.tmp 60), none, []⟩, 
      ⟨some 12, .mov (.tmp 61), none, []⟩] [55, 56, 57, 58, 59, 60, 61])
     (.seq (.region [
      ⟨some 62, .mov (.tmp 0), none, []⟩, 
      ⟨some 63, .mov (.tmp 11), none, []⟩, 
      ⟨some 64, .mov (.tmp 12), none, []⟩, 
      ⟨some 65, .sliceStr (.tmp 62) (some (.tmp 63)) (some (.tmp 64)), none, []⟩, 
      ⟨some 66, .call 43 [(.tmp 10), (.tmp 65)], none, []⟩] [62, 63, 64, 65, 66])
     (.seq (.region [
      ⟨some 67, .mov (.tmp 2), none, []⟩, 
      ⟨some 68, .call 43 [(.tmp 10), (.tmp 67)], none, []⟩] [67, 68])
     (.region [
      ⟨some 69, .mov (.tmp 12), none, []⟩, 
      ⟨some 70, .mov (.tmp 1), none, []⟩, 
      ⟨some 71, .len true (.tmp 70), none, []⟩, 
      ⟨some 72, .bin .add (.tmp 69) (.tmp 71), none, []⟩, 
      ⟨some 11, .mov (.tmp 72), none, []⟩] [69, 70, 71, 72])))))
    (.region [
     ⟨some 73, .bin .add (.tmp 53) (.const (.int .i64 1)), none, []⟩, 
     ⟨some 53, .mov (.tmp 73), none, []⟩] [73])))))))
  (.seq (.region [
   ⟨some 74, .mov (.tmp 2), none, []⟩, 
   ⟨some 75, .call 43 [(.tmp 10), (.tmp 74)], none, []⟩] [74, 75])
  (.seq (.region [
   ⟨some 76, .mov (.tmp 3), none, []⟩, 
   ⟨some 77, .bin .sub (.tmp 76) (.const (.int .i64 1)), none, []⟩, 
   ⟨some 78, .mov (.const (.int .i64 0)), none, []⟩] [76])
  (.block 2 (.loop (.seq (.region [
     ⟨some 79, .bin .lss (.tmp 78) (.tmp 77), none, []⟩] [])
    (.seq (.cond (.tmp 79)
     (.skip)
     (.exit 2))
    (.seq (.block 3 (.seq (.region [
      ⟨some 81, .mov (.tmp 0), none, []⟩, 
      ⟨some 82, .mov (.tmp 11), none, []⟩, 
      ⟨some 83, .sliceStr (.tmp 81) (some (.tmp 82)) none, none, []⟩, 
      ⟨some 84, .call 52 [(.tmp 83)], none, []⟩, 
      ⟨some 80, .mov (.tmp 84), none, []⟩, 
      ⟨some 85, .extract (.tmp 80) 0, none, []⟩, 
      ⟨some 86, .extract (.tmp 80) 1, none, []⟩, 
      ⟨some 13, .mov (.tmp 85), none, []⟩, 
      ⟨some 14, .mov (.tmp 86), none, []⟩] [81, 82, 83, 84, 80, 85, 86, 13])
     (.seq (.region [
      ⟨some 87, .mov (.tmp 11), none, []⟩, 
      ⟨some 88, .mov (.tmp 14), none, []⟩, 
      ⟨some 89, .bin .add (.tmp 87) (.tmp 88), none, []⟩, 
      ⟨some 15, .mov (.tmp 89), none, []⟩] [87, 88, 89])
     (.seq (.region [
      ⟨some 90, .mov (.tmp 0), none, []⟩, 
      ⟨some 91, .mov (.tmp 11), none, []⟩, 
      ⟨some 92, .mov (.tmp 15), none, []⟩, 
      ⟨some 93, .sliceStr (.tmp 90) (some (.tmp 91)) (some (.tmp 92)), none, []⟩, 
      ⟨some 94, .call 43 [(.tmp 10), (.tmp 93)], none, []⟩] [90, 91, 92, 93, 94])
     (.seq (.region [
      ⟨some 95, .mov (.tmp 2), none, []⟩, 
      ⟨some 96, .call 43 [(.tmp 10), (.tmp 95)], none, []⟩] [95, 96])
     (.region [
      ⟨some 97, .mov (.tmp 15), none, []⟩, 
      ⟨some 11, .mov (.tmp 97), none, []⟩] [97]))))))
    (.region [
     ⟨some 98, .bin .add (.tmp 78) (.const (.int .i64 1)), none, []⟩, 
     ⟨some 78, .mov (.tmp 98), none, []⟩] [98]))))))))))
 (.seq (.region [
  ⟨some 99, .mov (.tmp 0), none, []⟩, 
  ⟨some 100, .mov (.tmp 11), none, []⟩, 
  ⟨some 101, .sliceStr (.tmp 99) (some (.tmp 100)) none, none, []⟩, 
  ⟨some 102, .call 43 [(.tmp 10), (.tmp 101)], none, []⟩] [99, 100, 101, 102])
 (.seq (.region [
  ⟨some 103, .call 44 [(.tmp 10)], none, []⟩, 
  ⟨some 8, .mov (.tmp 103), none, []⟩] [103])
 (.ret)))))))))
theorem ok60 : erase c60 = cCode Tryz.prog 104 ((Tryz.f60).body.getD .skip) := by kernel_rfl
theorem ord60 : ordsOk c60 = true := by kernel_rfl
theorem call60 {args : List SV} {h : Heap} {R : AEnd → Heap → Prop} (hn : Nat.ble args.length 104 = true) (hp : awp Tryz.prog c60 (finQ [.tmp 8] R) (argEnv 0 args) h) : ACall Tryz.prog 60 args h R :=
  acall_of_awp mixed Tryz.func60 rfl ord60 ok60 (by kernel_rfl) hn hp
def t60 : Tab := ⟨104, c60, [.tmp 8]⟩
theorem tab60 : TabOk Tryz.prog 60 t60 := tabOk Tryz.func60 rfl ord60 ok60 (by kernel_rfl) rfl

/-- (*strings.Builder).copyCheck -/
def c61 : ACode :=
 .seq (.region [
  ⟨some 2, .mov (.tmp 0), none, []⟩, 
  ⟨some 3, .nilChk (.tmp 2), none, []⟩, 
  ⟨some 4, .fieldAddr 0 (.tmp 3), none, []⟩, 
  ⟨some 5, .loadS (.tmp 4), none, []⟩, 
  ⟨some 6, .eqP false (.tmp 5) (.const .nilp), none, []⟩] [2, 3, 4, 5])
 (.cond (.tmp 6)
  (.region [
   ⟨some 7, .mov (.tmp 0), none, []⟩, 
   ⟨some 8, .mov (.tmp 0), none, []⟩, 
   ⟨some 9, .toUns (.tmp 8), none, []⟩, 
   ⟨some 10, .noEsc (.tmp 9), none, []⟩, 
   ⟨some 11, .fromUns 55 2 (.tmp 10), none, []⟩, 
   ⟨some 12, .nilChk (.tmp 7), none, []⟩, 
   ⟨some 13, .fieldAddr 0 (.tmp 12), none, []⟩, 
   ⟨none, .store 1 (.tmp 13) (.tmp 11), none, []⟩] [7, 8, 9, 10, 11, 12, 13])
  (.seq (.region [
   ⟨some 14, .mov (.tmp 0), none, []⟩, 
   ⟨some 15, .nilChk (.tmp 14), none, []⟩, 
   ⟨some 16, .fieldAddr 0 (.tmp 15), none, []⟩, 
   ⟨some 17, .loadS (.tmp 16), none, []⟩, 
   ⟨some 18, .mov (.tmp 0), none, []⟩, 
   ⟨some 19, .eqP true (.tmp 17) (.tmp 18), none, []⟩] [14, 15, 16, 17, 18])
  (.cond (.tmp 19)
   (.bad)
   (.skip))))
theorem ok61 : erase c61 = cCode Tryz.prog 20 ((Tryz.f61).body.getD .skip) := by kernel_rfl
theorem ord61 : ordsOk c61 = true := by kernel_rfl
theorem call61 {args : List SV} {h : Heap} {R : AEnd → Heap → Prop} (hn : Nat.ble args.length 20 = true) (hp : awp Tryz.prog c61 (finQ [] R) (argEnv 0 args) h) : ACall Tryz.prog 61 args h R :=
  acall_of_awp mixed Tryz.func61 rfl ord61 ok61 (by kernel_rfl) hn hp
def t61 : Tab := ⟨20, c61, []⟩
theorem tab61 : TabOk Tryz.prog 61 t61 := tabOk Tryz.func61 rfl ord61 ok61 (by kernel_rfl) rfl

def c62r0 : List AOper := [
 ⟨some 5, .mov (.tmp 0), none, []⟩, 
 ⟨some 6, .nilChk (.tmp 5), none, [0]⟩, 
 ⟨some 7, .fieldAddr 1 (.tmp 6), none, [1]⟩, 
 ⟨some 8, .loadS (.tmp 7), none, [2]⟩, 
 ⟨some 9, .capOf (.tmp 8), none, [3]⟩, 
 ⟨some 10, .bin .mul (.const (.int .i64 2)) (.tmp 9), none, [4]⟩, 
 ⟨some 11, .mov (.tmp 1), none, []⟩, 
 ⟨some 12, .bin .add (.tmp 10) (.tmp 11), none, [5, 6]⟩, 
 ⟨some 13, .mkNoZero 5 (.tmp 12), none, [7]⟩, 
 ⟨some 14, .mov (.tmp 0), none, []⟩, 
 ⟨some 15, .nilChk (.tmp 14), none, [9]⟩, 
 ⟨some 16, .fieldAddr 1 (.tmp 15), none, [10]⟩, 
 ⟨some 17, .loadS (.tmp 16), none, [11]⟩, 
 ⟨some 18, .len false (.tmp 17), none, [12]⟩, 
 ⟨some 19, .slice 1 (.tmp 13) none (some (.tmp 18)), none, [8, 13]⟩, 
 ⟨some 4, .mov (.tmp 19), none, [14, 8, 0, 1, 2, 3, 4, 5, 6, 7, 8, 9, 10, 11, 12, 13, 14]⟩]
/-- (*strings.Builder).grow -/
def c62 : ACode :=
 .seq (.dregion c62r0 [(0, false, []), (1, false, []), (2, false, []), (3, false, []), (4, false, []), (5, false, []), (6, false, []), (7, false, []), (9, false, []), (10, false, []), (11, false, []), (12, false, []), (13, false, []), (8, true, [10, 11, 12, 13]), (14, false, []), (15, false, [])] [5, 6, 7, 8, 9, 10, 11, 12, 13, 14, 15, 16, 17, 18, 19])
 (.seq (.region [
  ⟨some 20, .mov (.tmp 4), none, []⟩, 
  ⟨some 21, .mov (.tmp 0), none, []⟩, 
  ⟨some 22, .nilChk (.tmp 21), none, []⟩, 
  ⟨some 23, .fieldAddr 1 (.tmp 22), none, []⟩, 
  ⟨some 24, .loadS (.tmp 23), none, []⟩, 
  ⟨some 25, .copyZ (.tmp 20) (.tmp 24), none, []⟩] [20, 21, 22, 23, 24, 25])
 (.region [
  ⟨some 26, .mov (.tmp 0), none, []⟩, 
  ⟨some 27, .mov (.tmp 4), none, []⟩, 
  ⟨some 28, .nilChk (.tmp 26), none, []⟩, 
  ⟨some 29, .fieldAddr 1 (.tmp 28), none, []⟩, 
  ⟨none, .store 1 (.tmp 29) (.tmp 27), none, []⟩] [26, 27, 28, 29]))
theorem ok62 : erase c62 = cCode Tryz.prog 30 ((Tryz.f62).body.getD .skip) := by kernel_rfl
theorem ord62 : ordsOk c62 = true := by kernel_rfl
theorem call62 {args : List SV} {h : Heap} {R : AEnd → Heap → Prop} (hn : Nat.ble args.length 30 = true) (hp : awp Tryz.prog c62 (finQ [] R) (argEnv 0 args) h) : ACall Tryz.prog 62 args h R :=
  acall_of_awp mixed Tryz.func62 rfl ord62 ok62 (by kernel_rfl) hn hp
def t62 : Tab := ⟨30, c62, []⟩
theorem tab62 : TabOk Tryz.prog 62 t62 := tabOk Tryz.func62 rfl ord62 ok62 (by kernel_rfl) rfl

/-- strings.Map -/
def c65 : ACode :=
 .seq (.region [
  ⟨some 4, .mov (.const (.str [])), none, []⟩] [])
 (.seq (.region [
  ⟨some 5, .box 55 2 (.const (.agg [.nilp, .nils])), none, []⟩] [])
 (.seq (.seq (.region [
  ⟨some 13, .mov (.tmp 1), none, []⟩, 
  ⟨some 14, .rangeS (.tmp 13), none, []⟩] [13])
 (.block 0 (.loop (.seq (.region [
    ⟨some 15, .nextS (.tmp 14), none, []⟩, 
    ⟨some 16, .extract (.tmp 15) 0, none, []⟩] [])
   (.seq (.cond (.tmp 16)
    (.skip)
    (.exit 0))
   (.block 1 (.seq (.region [
     ⟨some 17, .extract (.tmp 15) 1, none, []⟩, 
     ⟨some 18, .extract (.tmp 15) 2, none, []⟩, 
     ⟨some 6, .mov (.tmp 17), none, []⟩, 
     ⟨some 7, .mov (.tmp 18), none, []⟩] [17, 18])
    (.seq (.region [
     ⟨some 19, .mov (.tmp 0), none, []⟩, 
     ⟨some 20, .mov (.tmp 7), none, []⟩, 
     ⟨some 21, .callv (.tmp 19) [(.tmp 20)], none, []⟩, 
     ⟨some 8, .mov (.tmp 21), none, []⟩] [19, 20, 21])
    (.seq (.seq (.region [
     ⟨some 22, .mov (.tmp 8), none, []⟩, 
     ⟨some 23, .mov (.tmp 7), none, []⟩, 
     ⟨some 24, .bin .eql (.tmp 22) (.tmp 23), none, []⟩, 
     ⟨some 25, .mov (.tmp 24), none, []⟩, 
     ⟨some 26, .mov (.tmp 7), (some (25, true)), []⟩, 
     ⟨some 27, .bin .neq (.tmp 26) (.const (.int .i32 65533)), (some (25, true)), []⟩, 
     ⟨some 28, .pick (.tmp 25) (.tmp 27) (.const (.bool false)), none, []⟩] [22, 23, 24, 25, 26, 27])
    (.cond (.tmp 28)
     (.exit 1)
     (.skip)))
    (.seq (.region [
     ⟨some 9, .mov (.const (.int .i64 0)), none, []⟩] [])
    (.seq (.seq (.region [
     ⟨some 29, .mov (.tmp 7), none, []⟩, 
     ⟨some 30, .bin .eql (.tmp 29) (.const (.int .i32 65533)), none, []⟩] [29])
    (.cond (.tmp 30)
     (.seq (.region [
      ⟨some 32, .mov (.tmp 1), none, []⟩, 
      ⟨some 33, .mov (.tmp 6), none, []⟩, 
      ⟨some 34, .sliceStr (.tmp 32) (some (.tmp 33)) none, none, []⟩, 
      ⟨some 35, .call 52 [(.tmp 34)], none, []⟩, 
      ⟨some 31, .mov (.tmp 35), none, []⟩, 
      ⟨some 36, .extract (.tmp 31) 0, none, []⟩, 
      ⟨some 37, .extract (.tmp 31) 1, none, []⟩, 
      ⟨some 7, .mov (.tmp 36), none, []⟩, 
      ⟨some 9, .mov (.tmp 37), none, []⟩] [32, 33, 34, 35, 31, 36, 37])
     (.seq (.region [
      ⟨some 38, .mov (.tmp 9), none, []⟩, 
      ⟨some 39, .bin .neq (.tmp 38) (.const (.int .i64 1)), none, []⟩, 
      ⟨some 40, .mov (.tmp 39), none, []⟩, 
      ⟨some 41, .mov (.tmp 8), (some (40, true)), []⟩, 
      ⟨some 42, .mov (.tmp 7), (some (40, true)), []⟩, 
      ⟨some 43, .bin .eql (.tmp 41) (.tmp 42), (some (40, true)), []⟩, 
      ⟨some 44, .pick (.tmp 40) (.tmp 43) (.const (.bool false)), none, []⟩] [38, 39, 40, 41, 42, 43])
     (.cond (.tmp 44)
      (.exit 1)
      (.skip))))
     (.region [
      ⟨some 45, .mov (.tmp 7), none, []⟩, 
      ⟨some 46, .call 80 [(.tmp 45)], none, []⟩, 
      ⟨some 9, .mov (.tmp 46), none, []⟩] [45, 46])))
    (.seq (.region [
     ⟨some 47, .mov (.tmp 1), none, []⟩, 
     ⟨some 48, .len true (.tmp 47), none, []⟩, 
     ⟨some 49, .bin .add (.tmp 48) (.const (.int .i64 4)), none, []⟩, 
     ⟨some 50, .call 42 [(.tmp 5), (.tmp 49)], none, []⟩] [47, 48, 49, 50])
    (.seq (.region [
     ⟨some 51, .mov (.tmp 1), none, []⟩, 
     ⟨some 52, .mov (.tmp 6), none, []⟩, 
     ⟨some 53, .sliceStr (.tmp 51) none (some (.tmp 52)), none, []⟩, 
     ⟨some 54, .call 43 [(.tmp 5), (.tmp 53)], none, []⟩] [51, 52, 53, 54])
    (.seq (.seq (.region [
     ⟨some 55, .mov (.tmp 8), none, []⟩, 
     ⟨some 56, .bin .geq (.tmp 55) (.const (.int .i32 0)), none, []⟩] [55])
    (.cond (.tmp 56)
     (.region [
      ⟨some 57, .mov (.tmp 8), none, []⟩, 
      ⟨some 58, .call 81 [(.tmp 5), (.tmp 57)], none, []⟩] [57, 58])
     (.skip)))
    (.seq (.region [
     ⟨some 59, .mov (.tmp 1), none, []⟩, 
     ⟨some 60, .mov (.tmp 6), none, []⟩, 
     ⟨some 61, .mov (.tmp 9), none, []⟩, 
     ⟨some 62, .bin .add (.tmp 60) (.tmp 61), none, []⟩, 
     ⟨some 63, .sliceStr (.tmp 59) (some (.tmp 62)) none, none, []⟩, 
     ⟨some 1, .mov (.tmp 63), none, []⟩] [59, 60, 61, 62, 63])
    (.exit 0))))))))))))))))
 (.seq (.seq (.region [
  ⟨some 64, .call 82 [(.tmp 5)], none, []⟩, 
  ⟨some 65, .bin .eql (.tmp 64) (.const (.int .i64 0)), none, []⟩] [64])
 (.cond (.tmp 65)
  (.seq (.region [
   ⟨some 66, .mov (.tmp 1), none, []⟩, 
   ⟨some 4, .mov (.tmp 66), none, []⟩] [66])
  (.ret))
  (.skip)))
 (.seq (.seq (.region [
  ⟨some 67, .mov (.tmp 1), none, []⟩, 
  ⟨some 68, .rangeS (.tmp 67), none, []⟩] [67])
 (.block 2 (.loop (.seq (.region [
    ⟨some 69, .nextS (.tmp 68), none, []⟩, 
    ⟨some 70, .extract (.tmp 69) 0, none, []⟩] [])
   (.seq (.cond (.tmp 70)
    (.skip)
    (.exit 2))
   (.block 3 (.seq (.region [
     ⟨some 71, .extract (.tmp 69) 2, none, []⟩, 
     ⟨some 11, .mov (.tmp 71), none, []⟩] [71])
    (.seq (.region [
     ⟨some 72, .mov (.tmp 0), none, []⟩, 
     ⟨some 73, .mov (.tmp 11), none, []⟩, 
     ⟨some 74, .callv (.tmp 72) [(.tmp 73)], none, []⟩, 
     ⟨some 12, .mov (.tmp 74), none, []⟩] [72, 73, 74])
    (.seq (.region [
     ⟨some 75, .mov (.tmp 12), none, []⟩, 
     ⟨some 76, .bin .geq (.tmp 75) (.const (.int .i32 0)), none, []⟩] [75])
    (.cond (.tmp 76)
     (.seq (.region [
      ⟨some 77, .mov (.tmp 12), none, []⟩, 
      ⟨some 78, .bin .lss (.tmp 77) (.const (.int .i32 128)), none, []⟩] [77])
     (.cond (.tmp 78)
      (.region [
       ⟨some 79, .mov (.tmp 12), none, []⟩, 
       ⟨some 80, .conv .u8 (.tmp 79), none, []⟩, 
       ⟨some 81, .call 53 [(.tmp 5), (.tmp 80)], none, []⟩] [79, 80, 81])
      (.region [
       ⟨some 82, .mov (.tmp 12), none, []⟩, 
       ⟨some 83, .call 81 [(.tmp 5), (.tmp 82)], none, []⟩] [82, 83])))
     (.skip)))))))))))
 (.seq (.region [
  ⟨some 84, .call 44 [(.tmp 5)], none, []⟩, 
  ⟨some 4, .mov (.tmp 84), none, []⟩] [84])
 (.ret))))))
theorem ok65 : erase c65 = cCode Tryz.prog 85 ((Tryz.f65).body.getD .skip) := by kernel_rfl
theorem ord65 : ordsOk c65 = true := by kernel_rfl
theorem call65 {args : List SV} {h : Heap} {R : AEnd → Heap → Prop} (hn : Nat.ble args.length 85 = true) (hp : awp Tryz.prog c65 (finQ [.tmp 4] R) (argEnv 0 args) h) : ACall Tryz.prog 65 args h R :=
  acall_of_awp mixed Tryz.func65 rfl ord65 ok65 (by kernel_rfl) hn hp
def t65 : Tab := ⟨85, c65, [.tmp 4]⟩
theorem tab65 : TabOk Tryz.prog 65 t65 := tabOk Tryz.func65 rfl ord65 ok65 (by kernel_rfl) rfl

/-- unicode.ToLower -/
def c66 : ACode :=
 .seq (.region [
  ⟨some 2, .mov (.const (.int .i32 0)), none, []⟩] [])
 (.seq (.seq (.region [
  ⟨some 3, .mov (.tmp 0), none, []⟩, 
  ⟨some 4, .bin .leq (.tmp 3) (.const (.int .i32 127)), none, []⟩] [3])
 (.cond (.tmp 4)
  (.seq (.seq (.region [
   ⟨some 5, .mov (.tmp 0), none, []⟩, 
   ⟨some 6, .bin .leq (.const (.int .i32 65)) (.tmp 5), none, []⟩, 
   ⟨some 7, .mov (.tmp 6), none, []⟩, 
   ⟨some 8, .mov (.tmp 0), (some (7, true)), []⟩, 
   ⟨some 9, .bin .leq (.tmp 8) (.const (.int .i32 90)), (some (7, true)), []⟩, 
   ⟨some 10, .pick (.tmp 7) (.tmp 9) (.const (.bool false)), none, []⟩] [5, 6, 7, 8, 9])
  (.cond (.tmp 10)
   (.region [
    ⟨some 11, .mov (.tmp 0), none, []⟩, 
    ⟨some 12, .bin .add (.tmp 11) (.const (.int .i32 32)), none, []⟩, 
    ⟨some 0, .mov (.tmp 12), none, []⟩] [11, 12])
   (.skip)))
  (.seq (.region [
   ⟨some 13, .mov (.tmp 0), none, []⟩, 
   ⟨some 2, .mov (.tmp 13), none, []⟩] [13])
  (.ret)))
  (.skip)))
 (.seq (.region [
  ⟨some 14, .mov (.tmp 0), none, []⟩, 
  ⟨some 15, .call 83 [(.const (.int .i64 1)), (.tmp 14)], none, []⟩, 
  ⟨some 2, .mov (.tmp 15), none, []⟩] [14, 15])
 (.ret)))
theorem ok66 : erase c66 = cCode Tryz.prog 16 ((Tryz.f66).body.getD .skip) := by kernel_rfl
theorem ord66 : ordsOk c66 = true := by kernel_rfl
theorem call66 {args : List SV} {h : Heap} {R : AEnd → Heap → Prop} (hn : Nat.ble args.length 16 = true) (hp : awp Tryz.prog c66 (finQ [.tmp 2] R) (argEnv 0 args) h) : ACall Tryz.prog 66 args h R :=
  acall_of_awp mixed Tryz.func66 rfl ord66 ok66 (by kernel_rfl) hn hp
def t66 : Tab := ⟨16, c66, [.tmp 2]⟩
theorem tab66 : TabOk Tryz.prog 66 t66 := tabOk Tryz.func66 rfl ord66 ok66 (by kernel_rfl) rfl

/-- internal/strconv.ParseUint -/
def c67 : ACode :=
 .seq (.region [
  ⟨some 6, .mov (.const (.int .u64 0)), none, []⟩, 
  ⟨some 7, .mov (.const .nili), none, []⟩] [])
 (.seq (.seq (.region [
  ⟨some 18, .mov (.tmp 0), none, []⟩, 
  ⟨some 19, .bin .eql (.tmp 18) (.const (.str [])), none, []⟩] [18])
 (.cond (.tmp 19)
  (.seq (.region [
   ⟨some 20, .mkIface 106 (.const (.int .i64 2)), none, []⟩, 
   ⟨some 6, .mov (.const (.int .u64 0)), none, []⟩, 
   ⟨some 7, .mov (.tmp 20), none, []⟩] [20])
  (.ret))
  (.skip)))
 (.seq (.region [
  ⟨some 21, .mov (.tmp 1), none, []⟩, 
  ⟨some 22, .bin .eql (.tmp 21) (.const (.int .i64 0)), none, []⟩, 
  ⟨some 8, .mov (.tmp 22), none, []⟩] [21, 22])
 (.seq (.region [
  ⟨some 23, .mov (.tmp 0), none, []⟩, 
  ⟨some 9, .mov (.tmp 23), none, []⟩] [23])
 (.seq (.block 0 (.seq (.region [
   ⟨some 26, .mov (.tmp 1), none, []⟩, 
   ⟨some 27, .bin .leq (.const (.int .i64 2)) (.tmp 26), none, []⟩, 
   ⟨some 28, .mov (.tmp 27), none, []⟩, 
   ⟨some 29, .mov (.tmp 1), (some (28, true)), []⟩, 
   ⟨some 30, .bin .leq (.tmp 29) (.const (.int .i64 36)), (some (28, true)), []⟩, 
   ⟨some 31, .pick (.tmp 28) (.tmp 30) (.const (.bool false)), none, []⟩, 
   ⟨some 25, .mov (.tmp 31), none, []⟩] [26, 27, 28, 29, 30, 31])
  (.cond (.tmp 25)
   (.skip)
   (.seq (.region [
    ⟨some 33, .mov (.tmp 1), none, []⟩, 
    ⟨some 34, .bin .eql (.tmp 33) (.const (.int .i64 0)), none, []⟩, 
    ⟨some 32, .mov (.tmp 34), none, []⟩] [33, 34])
   (.cond (.tmp 32)
    (.seq (.region [
     ⟨some 1, .mov (.const (.int .i64 10)), none, []⟩] [])
    (.seq (.region [
     ⟨some 35, .mov (.tmp 0), none, []⟩, 
     ⟨some 36, .index (.tmp 35) (.const (.int .i64 0)), none, []⟩, 
     ⟨some 37, .bin .eql (.tmp 36) (.const (.int .u8 48)), none, []⟩] [35, 36])
    (.cond (.tmp 37)
     (.block 1 (.seq (.region [
       ⟨some 41, .mov (.tmp 0), none, []⟩, 
       ⟨some 42, .len true (.tmp 41), none, []⟩, 
       ⟨some 43, .bin .geq (.tmp 42) (.const (.int .i64 3)), none, []⟩, 
       ⟨some 44, .mov (.tmp 43), none, []⟩, 
       ⟨some 45, .mov (.tmp 0), (some (44, true)), []⟩, 
       ⟨some 46, .index (.tmp 45) (.const (.int .i64 1)), (some (44, true)), []⟩, 
       ⟨some 47, .call 84 [(.tmp 46)], (some (44, true)), []⟩, 
       ⟨some 48, .bin .eql (.tmp 47) (.const (.int .u8 98)), (some (44, true)), []⟩, 
       ⟨some 49, .pick (.tmp 44) (.tmp 48) (.const (.bool false)), none, []⟩, 
       ⟨some 40, .mov (.tmp 49), none, []⟩] [41, 42, 43, 44, 45, 46, 47, 48, 49])
      (.cond (.tmp 40)
       (.seq (.region [
        ⟨some 1, .mov (.const (.int .i64 2)), none, []⟩] [])
       (.region [
        ⟨some 50, .mov (.tmp 0), none, []⟩, 
        ⟨some 51, .sliceStr (.tmp 50) (some (.const (.int .i64 2))) none, none, []⟩, 
        ⟨some 0, .mov (.tmp 51), none, []⟩] [50, 51]))
       (.seq (.region [
        ⟨some 53, .mov (.tmp 0), none, []⟩, 
        ⟨some 54, .len true (.tmp 53), none, []⟩, 
        ⟨some 55, .bin .geq (.tmp 54) (.const (.int .i64 3)), none, []⟩, 
        ⟨some 56, .mov (.tmp 55), none, []⟩, 
        ⟨some 57, .mov (.tmp 0), (some (56, true)), []⟩, 
        ⟨some 58, .index (.tmp 57) (.const (.int .i64 1)), (some (56, true)), []⟩, 
        ⟨some 59, .call 84 [(.tmp 58)], (some (56, true)), []⟩, 
        ⟨some 60, .bin .eql (.tmp 59) (.const (.int .u8 111)), (some (56, true)), []⟩, 
        ⟨some 61, .pick (.tmp 56) (.tmp 60) (.const (.bool false)), none, []⟩, 
        ⟨some 52, .mov (.tmp 61), none, []⟩] [53, 54, 55, 56, 57, 58, 59, 60, 61])
       (.cond (.tmp 52)
        (.seq (.region [
         ⟨some 1, .mov (.const (.int .i64 8)), none, []⟩] [])
        (.region [
         ⟨some 62, .mov (.tmp 0), none, []⟩, 
         ⟨some 63, .sliceStr (.tmp 62) (some (.const (.int .i64 2))) none, none, []⟩, 
         ⟨some 0, .mov (.tmp 63), none, []⟩] [62, 63]))
        (.seq (.region [
         ⟨some 65, .mov (.tmp 0), none, []⟩, 
         ⟨some 66, .len true (.tmp 65), none, []⟩, 
         ⟨some 67, .bin .geq (.tmp 66) (.const (.int .i64 3)), none, []⟩, 
         ⟨some 68, .mov (.tmp 67), none, []⟩, 
         ⟨some 69, .mov (.tmp 0), (some (68, true)), []⟩, 
         ⟨some 70, .index (.tmp 69) (.const (.int .i64 1)), (some (68, true)), []⟩, 
         ⟨some 71, .call 84 [(.tmp 70)], (some (68, true)), []⟩, 
         ⟨some 72, .bin .eql (.tmp 71) (.const (.int .u8 120)), (some (68, true)), []⟩, 
         ⟨some 73, .pick (.tmp 68) (.tmp 72) (.const (.bool false)), none, []⟩, 
         ⟨some 64, .mov (.tmp 73), none, []⟩] [65, 66, 67, 68, 69, 70, 71, 72, 73])
        (.cond (.tmp 64)
         (.seq (.region [
          ⟨some 1, .mov (.const (.int .i64 16)), none, []⟩] [])
         (.region [
          ⟨some 74, .mov (.tmp 0), none, []⟩, 
          ⟨some 75, .sliceStr (.tmp 74) (some (.const (.int .i64 2))) none, none, []⟩, 
          ⟨some 0, .mov (.tmp 75), none, []⟩] [74, 75]))
         (.seq (.region [
          ⟨some 1, .mov (.const (.int .i64 8)), none, []⟩] [])
         (.region [
          ⟨some 38, .mov (.tmp 0), none, []⟩, 
          ⟨some 39, .sliceStr (.tmp 38) (some (.const (.int .i64 1))) none, none, []⟩, 
          ⟨some 0, .mov (.tmp 39), none, []⟩] [38, 39])))))))))
     (.skip))))
    (.seq (.region [
     ⟨some 24, .mkIface 106 (.const (.int .i64 3)), none, []⟩, 
     ⟨some 6, .mov (.const (.int .u64 0)), none, []⟩, 
     ⟨some 7, .mov (.tmp 24), none, []⟩] [24])
    (.ret)))))))
 (.seq (.seq (.region [
  ⟨some 76, .mov (.tmp 2), none, []⟩, 
  ⟨some 77, .bin .eql (.tmp 76) (.const (.int .i64 0)), none, []⟩] [76])
 (.cond (.tmp 77)
  (.region [
   ⟨some 2, .mov (.const (.int .i64 64)), none, []⟩] [])
  (.seq (.region [
   ⟨some 78, .mov (.tmp 2), none, []⟩, 
   ⟨some 79, .bin .lss (.tmp 78) (.const (.int .i64 0)), none, []⟩, 
   ⟨some 80, .mov (.tmp 79), none, []⟩, 
   ⟨some 81, .mov (.tmp 2), (some (80, false)), []⟩, 
   ⟨some 82, .bin .gtr (.tmp 81) (.const (.int .i64 64)), (some (80, false)), []⟩, 
   ⟨some 83, .pick (.tmp 80) (.const (.bool true)) (.tmp 82), none, []⟩] [78, 79, 80, 81, 82])
  (.cond (.tmp 83)
   (.seq (.region [
    ⟨some 84, .mkIface 106 (.const (.int .i64 4)), none, []⟩, 
    ⟨some 6, .mov (.const (.int .u64 0)), none, []⟩, 
    ⟨some 7, .mov (.tmp 84), none, []⟩] [84])
   (.ret))
   (.skip)))))
 (.seq (.region [
  ⟨some 10, .mov (.const (.int .u64 0)), none, []⟩] [])
 (.seq (.seq (.region [
  ⟨some 85, .mov (.tmp 1), none, []⟩] [])
 (.block 2 (.seq (.region [
   ⟨some 91, .bin .eql (.tmp 85) (.const (.int .i64 10)), none, []⟩, 
   ⟨some 90, .mov (.tmp 91), none, []⟩] [91])
  (.cond (.tmp 90)
   (.region [
    ⟨some 10, .mov (.const (.int .u64 1844674407370955162)), none, []⟩] [])
   (.seq (.region [
    ⟨some 93, .bin .eql (.tmp 85) (.const (.int .i64 16)), none, []⟩, 
    ⟨some 92, .mov (.tmp 93), none, []⟩] [93])
   (.cond (.tmp 92)
    (.region [
     ⟨some 10, .mov (.const (.int .u64 1152921504606846976)), none, []⟩] [])
    (.region [
     ⟨some 86, .mov (.tmp 1), none, []⟩, 
     ⟨some 87, .conv .u64 (.tmp 86), none, []⟩, 
     ⟨some 88, .bin .quo (.const (.int .u64 18446744073709551615)) (.tmp 87), none, []⟩, 
     ⟨some 89, .bin .add (.tmp 88) (.const (.int .u64 1)), none, []⟩, 
     ⟨some 10, .mov (.tmp 89), none, []⟩] [86, 87, 88, 89])))))))
 (.seq (.region [
  ⟨some 94, .mov (.tmp 2), none, []⟩, 
  ⟨some 95, .conv .u64 (.tmp 94), none, []⟩, 
  ⟨some 96, .bin .shl (.const (.int .u64 1)) (.tmp 95), none, []⟩, 
  ⟨some 97, .bin .sub (.tmp 96) (.const (.int .u64 1)), none, []⟩, 
  ⟨some 11, .mov (.tmp 97), none, []⟩] [94, 95, 96, 97])
 (.seq (.region [
  ⟨some 12, .mov (.const (.bool false)), none, []⟩] [])
 (.seq (.region [
  ⟨some 13, .mov (.const (.int .u64 0)), none, []⟩] [])
 (.seq (.seq (.region [
  ⟨some 98, .mov (.tmp 0), none, []⟩, 
  ⟨some 99, .toBytes 5 (.tmp 98), none, []⟩, 
  ⟨some 100, .len false (.tmp 99), none, []⟩, 
  ⟨some 101, .mov (.const (.int .i64 0)), none, []⟩] [98])
 (.block 3 (.loop (.seq (.region [
    ⟨some 102, .bin .lss (.tmp 101) (.tmp 100), none, []⟩] [])
   (.seq (.cond (.tmp 102)
    (.skip)
    (.exit 3))
   (.seq (.block 4 (.seq (.region [
     ⟨some 103, .indexAddr 1 (.tmp 99) (.tmp 101), none, []⟩, 
     ⟨some 104, .loadS (.tmp 103), none, []⟩, 
     ⟨some 15, .mov (.tmp 104), none, []⟩] [103, 104])
    (.seq (.region [
     ⟨some 16, .mov (.const (.int .u8 0)), none, []⟩] [])
    (.seq (.block 5 (.seq (.region [
      ⟨some 107, .mov (.tmp 15), none, []⟩, 
      ⟨some 108, .bin .eql (.tmp 107) (.const (.int .u8 95)), none, []⟩, 
      ⟨some 109, .mov (.tmp 108), none, []⟩, 
      ⟨some 110, .mov (.tmp 8), (some (109, true)), []⟩, 
      ⟨some 111, .pick (.tmp 109) (.tmp 110) (.const (.bool false)), none, []⟩, 
      ⟨some 106, .mov (.tmp 111), none, []⟩] [107, 108, 109, 110, 111])
     (.cond (.tmp 106)
      (.seq (.region [
       ⟨some 12, .mov (.const (.bool true)), none, []⟩] [])
      (.exit 4))
      (.seq (.region [
       ⟨some 113, .mov (.tmp 15), none, []⟩, 
       ⟨some 114, .bin .leq (.const (.int .u8 48)) (.tmp 113), none, []⟩, 
       ⟨some 115, .mov (.tmp 114), none, []⟩, 
       ⟨some 116, .mov (.tmp 15), (some (115, true)), []⟩, 
       ⟨some 117, .bin .leq (.tmp 116) (.const (.int .u8 57)), (some (115, true)), []⟩, 
       ⟨some 118, .pick (.tmp 115) (.tmp 117) (.const (.bool false)), none, []⟩, 
       ⟨some 112, .mov (.tmp 118), none, []⟩] [113, 114, 115, 116, 117, 118])
      (.cond (.tmp 112)
       (.region [
        ⟨some 119, .mov (.tmp 15), none, []⟩, 
        ⟨some 120, .bin .sub (.tmp 119) (.const (.int .u8 48)), none, []⟩, 
        ⟨some 16, .mov (.tmp 120), none, []⟩] [119, 120])
       (.seq (.region [
        ⟨some 122, .mov (.tmp 15), none, []⟩, 
        ⟨some 123, .call 84 [(.tmp 122)], none, []⟩, 
        ⟨some 124, .bin .leq (.const (.int .u8 97)) (.tmp 123), none, []⟩, 
        ⟨some 125, .mov (.tmp 124), none, []⟩, 
        ⟨some 126, .mov (.tmp 15), (some (125, true)), []⟩, 
        ⟨some 127, .call 84 [(.tmp 126)], (some (125, true)), []⟩, 
        ⟨some 128, .bin .leq (.tmp 127) (.const (.int .u8 122)), (some (125, true)), []⟩, 
        ⟨some 129, .pick (.tmp 125) (.tmp 128) (.const (.bool false)), none, []⟩, 
        ⟨some 121, .mov (.tmp 129), none, []⟩] [122, 123, 124, 125, 126, 127, 128, 129])
       (.cond (.tmp 121)
        (.region [
         ⟨some 130, .mov (.tmp 15), none, []⟩, 
         ⟨some 131, .call 84 [(.tmp 130)], none, []⟩, 
         ⟨some 132, .bin .sub (.tmp 131) (.const (.int .u8 97)), none, []⟩, 
         ⟨some 133, .bin .add (.tmp 132) (.const (.int .u8 10)), none, []⟩, 
         ⟨some 16, .mov (.tmp 133), none, []⟩] [130, 131, 132, 133])
        (.seq (.region [
         ⟨some 105, .mkIface 106 (.const (.int .i64 2)), none, []⟩, 
         ⟨some 6, .mov (.const (.int .u64 0)), none, []⟩, 
         ⟨some 7, .mov (.tmp 105), none, []⟩] [105])
        (.ret)))))))))
    (.seq (.seq (.region [
     ⟨some 134, .mov (.tmp 16), none, []⟩, 
     ⟨some 135, .mov (.tmp 1), none, []⟩, 
     ⟨some 136, .conv .u8 (.tmp 135), none, []⟩, 
     ⟨some 137, .bin .geq (.tmp 134) (.tmp 136), none, []⟩] [134, 135, 136])
    (.cond (.tmp 137)
     (.seq (.region [
      ⟨some 138, .mkIface 106 (.const (.int .i64 2)), none, []⟩, 
      ⟨some 6, .mov (.const (.int .u64 0)), none, []⟩, 
      ⟨some 7, .mov (.tmp 138), none, []⟩] [138])
     (.ret))
     (.skip)))
    (.seq (.seq (.region [
     ⟨some 139, .mov (.tmp 13), none, []⟩, 
     ⟨some 140, .mov (.tmp 10), none, []⟩, 
     ⟨some 141, .bin .geq (.tmp 139) (.tmp 140), none, []⟩] [139, 140])
    (.cond (.tmp 141)
     (.seq (.region [
      ⟨some 142, .mov (.tmp 11), none, []⟩, 
      ⟨some 143, .mkIface 106 (.const (.int .i64 1)), none, []⟩, 
      ⟨some 6, .mov (.tmp 142), none, []⟩, 
      ⟨some 7, .mov (.tmp 143), none, []⟩] [142, 143])
     (.ret))
     (.skip)))
    (.seq (.region [
     ⟨some 144, .mov (.tmp 13), none, []⟩, 
     ⟨some 145, .mov (.tmp 1), none, []⟩, 
     ⟨some 146, .conv .u64 (.tmp 145), none, []⟩, 
     ⟨some 147, .bin .mul (.tmp 144) (.tmp 146), none, []⟩, 
     ⟨some 13, .mov (.tmp 147), none, []⟩] [144, 145, 146, 147])
    (.seq (.region [
     ⟨some 148, .mov (.tmp 13), none, []⟩, 
     ⟨some 149, .mov (.tmp 16), none, []⟩, 
     ⟨some 150, .conv .u64 (.tmp 149), none, []⟩, 
     ⟨some 151, .bin .add (.tmp 148) (.tmp 150), none, []⟩, 
     ⟨some 17, .mov (.tmp 151), none, []⟩] [148, 149, 150, 151])
    (.seq (.seq (.region [
     ⟨some 152, .mov (.tmp 17), none, []⟩, 
     ⟨some 153, .mov (.tmp 13), none, []⟩, 
     ⟨some 154, .bin .lss (.tmp 152) (.tmp 153), none, []⟩, 
     ⟨some 155, .mov (.tmp 154), none, []⟩, 
     ⟨some 156, .mov (.tmp 17), (some (155, false)), []⟩, 
     ⟨some 157, .mov (.tmp 11), (some (155, false)), []⟩, 
     ⟨some 158, .bin .gtr (.tmp 156) (.tmp 157), (some (155, false)), []⟩, 
     ⟨some 159, .pick (.tmp 155) (.const (.bool true)) (.tmp 158), none, []⟩] [152, 153, 154, 155, 156, 157, 158])
    (.cond (.tmp 159)
     (.seq (.region [
      ⟨some 160, .mov (.tmp 11), none, []⟩, 
      ⟨some 161, .mkIface 106 (.const (.int .i64 1)), none, []⟩, 
      ⟨some 6, .mov (.tmp 160), none, []⟩, 
      ⟨some 7, .mov (.tmp 161), none, []⟩] [160, 161])
     (.ret))
     (.skip)))
    (.region [
     ⟨some 162, .mov (.tmp 17), none, []⟩, 
     ⟨some 13, .mov (.tmp 162), none, []⟩] [162]))))))))))
   (.region [
    ⟨some 163, .bin .add (.tmp 101) (.const (.int .i64 1)), none, []⟩, 
    ⟨some 101, .mov (.tmp 163), none, []⟩] [163])))))))
 (.seq (.seq (.region [
  ⟨some 164, .mov (.tmp 12), none, []⟩, 
  ⟨some 165, .mov (.tmp 164), none, []⟩, 
  ⟨some 166, .mov (.tmp 9), (some (165, true)), []⟩, 
  ⟨some 167, .call 85 [(.tmp 166)], (some (165, true)), []⟩, 
  ⟨some 168, .un .not (.tmp 167), (some (165, true)), []⟩, 
  ⟨some 169, .pick (.tmp 165) (.tmp 168) (.const (.bool false)), none, []⟩] [164, 165, 166, 167, 168])
 (.cond (.tmp 169)
  (.seq (.region [
   ⟨some 170, .mkIface 106 (.const (.int .i64 2)), none, []⟩, 
   ⟨some 6, .mov (.const (.int .u64 0)), none, []⟩, 
   ⟨some 7, .mov (.tmp 170), none, []⟩] [170])
  (.ret))
  (.skip)))
 (.seq (.region [
  ⟨some 171, .mov (.tmp 13), none, []⟩, 
  ⟨some 6, .mov (.tmp 171), none, []⟩, 
  ⟨some 7, .mov (.const .nili), none, []⟩] [171])
 (.ret))))))))))))))
theorem ok67 : erase c67 = cCode Tryz.prog 172 ((Tryz.f67).body.getD .skip) := by kernel_rfl
theorem ord67 : ordsOk c67 = true := by kernel_rfl
theorem call67 {args : List SV} {h : Heap} {R : AEnd → Heap → Prop} (hn : Nat.ble args.length 172 = true) (hp : awp Tryz.prog c67 (finQ [.tmp 6, .tmp 7] R) (argEnv 0 args) h) : ACall Tryz.prog 67 args h R :=
  acall_of_awp mixed Tryz.func67 rfl ord67 ok67 (by kernel_rfl) hn hp
def t67 : Tab := ⟨172, c67, [.tmp 6, .tmp 7]⟩
theorem tab67 : TabOk Tryz.prog 67 t67 := tabOk Tryz.func67 rfl ord67 ok67 (by kernel_rfl) rfl

def c70r1 : List AOper := [
 ⟨some 3, .mov (.tmp 0), none, []⟩, 
 ⟨some 4, .indexAddr 1 (.tmp 3) (.const (.int .i64 0)), none, [0]⟩, 
 ⟨some 5, .loadS (.tmp 4), none, [1]⟩, 
 ⟨some 6, .conv .u64 (.tmp 5), none, [2]⟩, 
 ⟨some 7, .mov (.tmp 0), none, []⟩, 
 ⟨some 8, .indexAddr 1 (.tmp 7) (.const (.int .i64 1)), none, [4]⟩, 
 ⟨some 9, .loadS (.tmp 8), none, [5]⟩, 
 ⟨some 10, .conv .u64 (.tmp 9), none, [6]⟩, 
 ⟨some 11, .bin .shl (.tmp 10) (.const (.int .u64 8)), none, [7]⟩, 
 ⟨some 12, .bin .or (.tmp 6) (.tmp 11), none, [3, 8]⟩, 
 ⟨some 13, .mov (.tmp 0), none, []⟩, 
 ⟨some 14, .indexAddr 1 (.tmp 13) (.const (.int .i64 2)), none, [10]⟩, 
 ⟨some 15, .loadS (.tmp 14), none, [11]⟩, 
 ⟨some 16, .conv .u64 (.tmp 15), none, [12]⟩, 
 ⟨some 17, .bin .shl (.tmp 16) (.const (.int .u64 16)), none, [13]⟩, 
 ⟨some 18, .bin .or (.tmp 12) (.tmp 17), none, [9, 14]⟩, 
 ⟨some 19, .mov (.tmp 0), none, []⟩, 
 ⟨some 20, .indexAddr 1 (.tmp 19) (.const (.int .i64 3)), none, [16]⟩, 
 ⟨some 21, .loadS (.tmp 20), none, [17]⟩, 
 ⟨some 22, .conv .u64 (.tmp 21), none, [18]⟩, 
 ⟨some 23, .bin .shl (.tmp 22) (.const (.int .u64 24)), none, [19]⟩, 
 ⟨some 24, .bin .or (.tmp 18) (.tmp 23), none, [15, 20]⟩, 
 ⟨some 2, .mov (.tmp 24), none, [21, 0, 1, 2, 3, 4, 5, 6, 7, 8, 9, 10, 11, 12, 13, 14, 15, 16, 17, 18, 19, 20, 21]⟩]
def c70r2 : List AOper := (
 ⟨some 25, .mov (.tmp 0), none, []⟩ :: 
 ⟨some 26, .indexAddr 1 (.tmp 25) (.const (.int .i64 0)), none, [0]⟩ :: 
 ⟨some 27, .loadS (.tmp 26), none, [1]⟩ :: 
 ⟨some 28, .conv .u64 (.tmp 27), none, [2]⟩ :: 
 ⟨some 29, .mov (.tmp 0), none, []⟩ :: 
 ⟨some 30, .indexAddr 1 (.tmp 29) (.const (.int .i64 1)), none, [4]⟩ :: 
 ⟨some 31, .loadS (.tmp 30), none, [5]⟩ :: 
 ⟨some 32, .conv .u64 (.tmp 31), none, [6]⟩ :: 
 ⟨some 33, .bin .shl (.tmp 32) (.const (.int .u64 8)), none, [7]⟩ :: 
 ⟨some 34, .bin .or (.tmp 28) (.tmp 33), none, [3, 8]⟩ :: 
 ⟨some 35, .mov (.tmp 0), none, []⟩ :: 
 ⟨some 36, .indexAddr 1 (.tmp 35) (.const (.int .i64 2)), none, [10]⟩ :: 
 ⟨some 37, .loadS (.tmp 36), none, [11]⟩ :: 
 ⟨some 38, .conv .u64 (.tmp 37), none, [12]⟩ :: 
 ⟨some 39, .bin .shl (.tmp 38) (.const (.int .u64 16)), none, [13]⟩ :: 
 ⟨some 40, .bin .or (.tmp 34) (.tmp 39), none, [9, 14]⟩ :: 
 ⟨some 41, .mov (.tmp 0), none, []⟩ :: 
 ⟨some 42, .indexAddr 1 (.tmp 41) (.const (.int .i64 3)), none, [16]⟩ :: 
 ⟨some 43, .loadS (.tmp 42), none, [17]⟩ :: 
 ⟨some 44, .conv .u64 (.tmp 43), none, [18]⟩ :: 
 ⟨some 45, .bin .shl (.tmp 44) (.const (.int .u64 24)), none, [19]⟩ :: 
 ⟨some 46, .bin .or (.tmp 40) (.tmp 45), none, [15, 20]⟩ :: 
 ⟨some 47, .mov (.tmp 0), none, []⟩ :: 
 ⟨some 48, .indexAddr 1 (.tmp 47) (.const (.int .i64 4)), none, [22]⟩ :: 
 ⟨some 49, .loadS (.tmp 48), none, [23]⟩ :: 
 ⟨some 50, .conv .u64 (.tmp 49), none, [24]⟩ :: 
 ⟨some 51, .bin .shl (.tmp 50) (.const (.int .u64 32)), none, [25]⟩ :: 
 ⟨some 52, .bin .or (.tmp 46) (.tmp 51), none, [21, 26]⟩ :: 
 ⟨some 53, .mov (.tmp 0), none, []⟩ :: 
 ⟨some 54, .indexAddr 1 (.tmp 53) (.const (.int .i64 5)), none, [28]⟩ :: 
 ⟨some 55, .loadS (.tmp 54), none, [29]⟩ :: 
 ⟨some 56, .conv .u64 (.tmp 55), none, [30]⟩ :: 
 ⟨some 57, .bin .shl (.tmp 56) (.const (.int .u64 40)), none, [31]⟩ :: 
 ⟨some 58, .bin .or (.tmp 52) (.tmp 57), none, [27, 32]⟩ :: 
 ⟨some 59, .mov (.tmp 0), none, []⟩ :: 
 ⟨some 60, .indexAddr 1 (.tmp 59) (.const (.int .i64 6)), none, [34]⟩ :: 
 ⟨some 61, .loadS (.tmp 60), none, [35]⟩ :: 
 ⟨some 62, .conv .u64 (.tmp 61), none, [36]⟩ :: 
 ⟨some 63, .bin .shl (.tmp 62) (.const (.int .u64 48)), none, [37]⟩ :: 
 ⟨some 64, .bin .or (.tmp 58) (.tmp 63), none, [33, 38]⟩ :: 
 ⟨some 65, .mov (.tmp 0), none, []⟩ :: 
 ⟨some 66, .indexAddr 1 (.tmp 65) (.const (.int .i64 7)), none, [40]⟩ :: 
 ⟨some 67, .loadS (.tmp 66), none, [41]⟩ :: 
 ⟨some 68, .conv .u64 (.tmp 67), none, [42]⟩ :: 
 ⟨some 69, .bin .shl (.tmp 68) (.const (.int .u64 56)), none, [43]⟩ :: 
 ⟨some 70, .bin .or (.tmp 64) (.tmp 69), none, [39, 44]⟩ :: 
 ⟨some 2, .mov (.tmp 70), none, (45 :: 0 :: 1 :: 2 :: 3 :: 4 :: 5 :: 6 :: 7 :: 8 :: 9 :: 10 :: 11 :: 12 :: 13 :: 14 :: 15 :: 16 :: 17 :: 18 :: 19 :: 20 :: 21 :: 22 :: 23 :: 24 :: 25 :: 26 :: 27 :: 28 :: 29 :: 30 :: 31 :: 32 :: 33 :: 34 :: 35 :: 36 :: 37 :: 38 :: 39 :: 40 :: 41 :: 42 :: 43 :: 44 :: 45 :: [])⟩ :: [])
/-- unicode/utf8.word[[]byte] -/
def c70 : ACode :=
 .seq (.region [
  ⟨some 2, .mov (.const (.int .u64 0)), none, []⟩] [])
 (.seq (.cond (.const (.bool false))
  (.seq (.dregion c70r1 [(0, false, []), (1, false, []), (2, false, []), (3, false, []), (4, false, []), (5, false, []), (6, false, []), (7, false, []), (8, false, []), (9, false, []), (10, false, []), (11, false, []), (12, false, []), (13, false, []), (14, false, []), (15, false, []), (16, false, []), (17, false, []), (18, false, []), (19, false, []), (20, false, []), (21, false, []), (22, false, [])] [3, 4, 5, 6, 7, 8, 9, 10, 11, 12, 13, 14, 15, 16, 17, 18, 19, 20, 21, 22, 23, 24])
  (.ret))
  (.skip))
 (.seq (.dregion c70r2 ((0, false, []) :: (1, false, []) :: (2, false, []) :: (3, false, []) :: (4, false, []) :: (5, false, []) :: (6, false, []) :: (7, false, []) :: (8, false, []) :: (9, false, []) :: (10, false, []) :: (11, false, []) :: (12, false, []) :: (13, false, []) :: (14, false, []) :: (15, false, []) :: (16, false, []) :: (17, false, []) :: (18, false, []) :: (19, false, []) :: (20, false, []) :: (21, false, []) :: (22, false, []) :: (23, false, []) :: (24, false, []) :: (25, false, []) :: (26, false, []) :: (27, false, []) :: (28, false, []) :: (29, false, []) :: (30, false, []) :: (31, false, []) :: (32, false, []) :: (33, false, []) :: (34, false, []) :: (35, false, []) :: (36, false, []) :: (37, false, []) :: (38, false, []) :: (39, false, []) :: (40, false, []) :: (41, false, []) :: (42, false, []) :: (43, false, []) :: (44, false, []) :: (45, false, []) :: (46, false, []) :: []) (25 :: 26 :: 27 :: 28 :: 29 :: 30 :: 31 :: 32 :: 33 :: 34 :: 35 :: 36 :: 37 :: 38 :: 39 :: 40 :: 41 :: 42 :: 43 :: 44 :: 45 :: 46 :: 47 :: 48 :: 49 :: 50 :: 51 :: 52 :: 53 :: 54 :: 55 :: 56 :: 57 :: 58 :: 59 :: 60 :: 61 :: 62 :: 63 :: 64 :: 65 :: 66 :: 67 :: 68 :: 69 :: 70 :: []))
 (.ret)))
theorem ok70 : erase c70 = cCode Tryz.prog 71 ((Tryz.f70).body.getD .skip) := by kernel_rfl
theorem ord70 : ordsOk c70 = true := by kernel_rfl
theorem call70 {args : List SV} {h : Heap} {R : AEnd → Heap → Prop} (hn : Nat.ble args.length 71 = true) (hp : awp Tryz.prog c70 (finQ [.tmp 2] R) (argEnv 0 args) h) : ACall Tryz.prog 70 args h R :=
  acall_of_awp mixed Tryz.func70 rfl ord70 ok70 (by kernel_rfl) hn hp
def t70 : Tab := ⟨71, c70, [.tmp 2]⟩
theorem tab70 : TabOk Tryz.prog 70 t70 := tabOk Tryz.func70 rfl ord70 ok70 (by kernel_rfl) rfl

/-- internal/strconv.numDigits -/
def c72 : ACode :=
 .seq (.region [
  ⟨some 2, .mov (.const (.int .i64 0)), none, []⟩] [])
 (.seq (.region [
  ⟨some 4, .mov (.tmp 0), none, []⟩, 
  ⟨some 5, .call 91 [(.tmp 4)], none, []⟩, 
  ⟨some 6, .call 90 [(.tmp 5)], none, []⟩, 
  ⟨some 3, .mov (.tmp 6), none, []⟩] [4, 5, 6])
 (.seq (.region [
  ⟨some 7, .mov (.tmp 3), none, []⟩, 
  ⟨some 8, .mov (.tmp 0), none, []⟩, 
  ⟨some 9, .mov (.tmp 3), none, []⟩, 
  ⟨some 10, .indexArr 20 1 (.const (.glob 5)) (.tmp 9), none, []⟩, 
  ⟨some 11, .loadS (.tmp 10), none, []⟩, 
  ⟨some 12, .bin .geq (.tmp 8) (.tmp 11), none, []⟩, 
  ⟨some 13, .call 92 [(.tmp 12)], none, []⟩, 
  ⟨some 14, .bin .add (.tmp 7) (.tmp 13), none, []⟩, 
  ⟨some 2, .mov (.tmp 14), none, []⟩] [7, 8, 9, 10, 11, 12, 13, 14])
 (.ret)))
theorem ok72 : erase c72 = cCode Tryz.prog 15 ((Tryz.f72).body.getD .skip) := by kernel_rfl
theorem ord72 : ordsOk c72 = true := by kernel_rfl
theorem call72 {args : List SV} {h : Heap} {R : AEnd → Heap → Prop} (hn : Nat.ble args.length 15 = true) (hp : awp Tryz.prog c72 (finQ [.tmp 2] R) (argEnv 0 args) h) : ACall Tryz.prog 72 args h R :=
  acall_of_awp mixed Tryz.func72 rfl ord72 ok72 (by kernel_rfl) hn hp
def t72 : Tab := ⟨15, c72, [.tmp 2]⟩
theorem tab72 : TabOk Tryz.prog 72 t72 := tabOk Tryz.func72 rfl ord72 ok72 (by kernel_rfl) rfl

/-- strings.Count -/
def c75 : ACode :=
 .seq (.region [
  ⟨some 4, .mov (.const (.int .i64 0)), none, []⟩] [])
 (.seq (.seq (.region [
  ⟨some 7, .mov (.tmp 1), none, []⟩, 
  ⟨some 8, .len true (.tmp 7), none, []⟩, 
  ⟨some 9, .bin .eql (.tmp 8) (.const (.int .i64 0)), none, []⟩] [7, 8])
 (.cond (.tmp 9)
  (.seq (.region [
   ⟨some 10, .mov (.tmp 0), none, []⟩, 
   ⟨some 11, .call 95 [(.tmp 10)], none, []⟩, 
   ⟨some 12, .bin .add (.tmp 11) (.const (.int .i64 1)), none, []⟩, 
   ⟨some 4, .mov (.tmp 12), none, []⟩] [10, 11, 12])
  (.ret))
  (.skip)))
 (.seq (.seq (.region [
  ⟨some 13, .mov (.tmp 1), none, []⟩, 
  ⟨some 14, .len true (.tmp 13), none, []⟩, 
  ⟨some 15, .bin .eql (.tmp 14) (.const (.int .i64 1)), none, []⟩] [13, 14])
 (.cond (.tmp 15)
  (.seq (.region [
   ⟨some 16, .mov (.tmp 0), none, []⟩, 
   ⟨some 17, .mov (.tmp 1), none, []⟩, 
   ⟨some 18, .index (.tmp 17) (.const (.int .i64 0)), none, []⟩, 
   ⟨some 19, .ext1 0 (.tmp 16) (.tmp 18), none, []⟩, 
   ⟨some 4, .mov (.tmp 19), none, []⟩] [16, 17, 18, 19])
  (.ret))
  (.skip)))
 (.seq (.region [
  ⟨some 5, .mov (.const (.int .i64 0)), none, []⟩] [])
 (.block 0 (.loop (.block 1 (.seq (.region [
     ⟨some 20, .mov (.tmp 0), none, []⟩, 
     ⟨some 21, .mov (.tmp 1), none, []⟩, 
     ⟨some 22, .call 76 [(.tmp 20), (.tmp 21)], none, []⟩, 
     ⟨some 6, .mov (.tmp 22), none, []⟩] [20, 21, 22])
    (.seq (.seq (.region [
     ⟨some 23, .mov (.tmp 6), none, []⟩, 
     ⟨some 24, .bin .eql (.tmp 23) (.const (.int .i64 (-1))), none, []⟩] [23])
    (.cond (.tmp 24)
     (.seq (.region [
      ⟨some 25, .mov (.tmp 5), none, []⟩, 
      ⟨some 4, .mov (.tmp 25), none, []⟩] [25])
     (.ret))
     (.skip)))
    (.seq (.region [
     ⟨some 26, .mov (.tmp 5), none, []⟩, 
     ⟨some 27, .bin .add (.tmp 26) (.const (.int .i64 1)), none, []⟩, 
     ⟨some 5, .mov (.tmp 27), none, []⟩] [26, 27])
    (.region [
     ⟨some 28, .mov (.tmp 0), none, []⟩, 
     ⟨some 29, .mov (.tmp 6), none, []⟩, 
     ⟨some 30, .mov (.tmp 1), none, []⟩, 
     ⟨some 31, .len true (.tmp 30), none, []⟩, 
     ⟨some 32, .bin .add (.tmp 29) (.tmp 31), none, []⟩, 
     ⟨some 33, .sliceStr (.tmp 28) (some (.tmp 32)) none, none, []⟩, 
     ⟨some 0, .mov (.tmp 33), none, []⟩] [28, 29, 30, 31, 32, 33]))))))))))
theorem ok75 : erase c75 = cCode Tryz.prog 34 ((Tryz.f75).body.getD .skip) := by kernel_rfl
theorem ord75 : ordsOk c75 = true := by kernel_rfl
theorem call75 {args : List SV} {h : Heap} {R : AEnd → Heap → Prop} (hn : Nat.ble args.length 34 = true) (hp : awp Tryz.prog c75 (finQ [.tmp 4] R) (argEnv 0 args) h) : ACall Tryz.prog 75 args h R :=
  acall_of_awp mixed Tryz.func75 rfl ord75 ok75 (by kernel_rfl) hn hp
def t75 : Tab := ⟨34, c75, [.tmp 4]⟩
theorem tab75 : TabOk Tryz.prog 75 t75 := tabOk Tryz.func75 rfl ord75 ok75 (by kernel_rfl) rfl

/-- strings.Index -/
def c76 : ACode :=
 .seq (.region [
  ⟨some 4, .mov (.const (.int .i64 0)), none, []⟩] [])
 (.seq (.region [
  ⟨some 5, .mov (.tmp 0), none, []⟩, 
  ⟨some 6, .mov (.tmp 1), none, []⟩, 
  ⟨some 7, .call 97 [(.tmp 5), (.tmp 6)], none, []⟩, 
  ⟨some 4, .mov (.tmp 7), none, []⟩] [5, 6, 7])
 (.ret))
theorem ok76 : erase c76 = cCode Tryz.prog 8 ((Tryz.f76).body.getD .skip) := by kernel_rfl
theorem ord76 : ordsOk c76 = true := by kernel_rfl
theorem call76 {args : List SV} {h : Heap} {R : AEnd → Heap → Prop} (hn : Nat.ble args.length 8 = true) (hp : awp Tryz.prog c76 (finQ [.tmp 4] R) (argEnv 0 args) h) : ACall Tryz.prog 76 args h R :=
  acall_of_awp mixed Tryz.func76 rfl ord76 ok76 (by kernel_rfl) hn hp
def t76 : Tab := ⟨8, c76, [.tmp 4]⟩
theorem tab76 : TabOk Tryz.prog 76 t76 := tabOk Tryz.func76 rfl ord76 ok76 (by kernel_rfl) rfl

/-- internal/stringslite.Index -/
def c97 : ACode :=
 .seq (.region [
  ⟨some 4, .mov (.const (.int .i64 0)), none, []⟩] [])
 (.seq (.region [
  ⟨some 14, .mov (.tmp 1), none, []⟩, 
  ⟨some 15, .len true (.tmp 14), none, []⟩, 
  ⟨some 5, .mov (.tmp 15), none, []⟩] [14, 15])
 (.seq (.block 0 (.seq (.region [
   ⟨some 17, .mov (.tmp 5), none, []⟩, 
   ⟨some 18, .bin .eql (.tmp 17) (.const (.int .i64 0)), none, []⟩, 
   ⟨some 19, .mov (.tmp 18), none, []⟩, 
   ⟨some 20, .mov (.tmp 1), (some (19, false)), []⟩, 
   ⟨some 21, .mov (.tmp 0), (some (19, false)), []⟩, 
   ⟨some 22, .bin .eql (.tmp 20) (.tmp 21), (some (19, false)), []⟩, 
   ⟨some 23, .pick (.tmp 19) (.const (.bool true)) (.tmp 22), none, []⟩, 
   ⟨some 16, .mov (.tmp 23), none, []⟩] [17, 18, 19, 20, 21, 22, 23])
  (.cond (.tmp 16)
   (.seq (.region [
    ⟨some 4, .mov (.const (.int .i64 0)), none, []⟩] [])
   (.ret))
   (.seq (.region [
    ⟨some 25, .mov (.tmp 5), none, []⟩, 
    ⟨some 26, .bin .eql (.tmp 25) (.const (.int .i64 1)), none, []⟩, 
    ⟨some 24, .mov (.tmp 26), none, []⟩] [25, 26])
   (.cond (.tmp 24)
    (.seq (.region [
     ⟨some 27, .mov (.tmp 0), none, []⟩, 
     ⟨some 28, .mov (.tmp 1), none, []⟩, 
     ⟨some 29, .index (.tmp 28) (.const (.int .i64 0)), none, []⟩, 
     ⟨some 30, .call 24 [(.tmp 27), (.tmp 29)], none, []⟩, 
     ⟨some 4, .mov (.tmp 30), none, []⟩] [27, 28, 29, 30])
    (.ret))
    (.seq (.region [
     ⟨some 32, .mov (.tmp 5), none, []⟩, 
     ⟨some 33, .mov (.tmp 0), none, []⟩, 
     ⟨some 34, .len true (.tmp 33), none, []⟩, 
     ⟨some 35, .bin .geq (.tmp 32) (.tmp 34), none, []⟩, 
     ⟨some 31, .mov (.tmp 35), none, []⟩] [32, 33, 34, 35])
    (.cond (.tmp 31)
     (.seq (.region [
      ⟨some 4, .mov (.const (.int .i64 (-1))), none, []⟩] [])
     (.ret))
     (.seq (.region [
      ⟨some 37, .mov (.tmp 5), none, []⟩, 
      ⟨some 38, .loadS (.const (.glob 3)), none, []⟩, 
      ⟨some 39, .bin .leq (.tmp 37) (.tmp 38), none, []⟩, 
      ⟨some 40, .mov (.tmp 39), none, []⟩, 
      ⟨some 41, .mov (.tmp 0), (some (40, true)), []⟩, 
      ⟨some 42, .len true (.tmp 41), (some (40, true)), []⟩, 
      ⟨some 43, .bin .leq (.tmp 42) (.const (.int .i64 64)), (some (40, true)), []⟩, 
      ⟨some 44, .pick (.tmp 40) (.tmp 43) (.const (.bool false)), none, []⟩, 
      ⟨some 36, .mov (.tmp 44), none, []⟩] [37, 38, 39, 40, 41, 42, 43, 44])
     (.cond (.tmp 36)
      (.seq (.region [
       ⟨some 45, .mov (.tmp 0), none, []⟩, 
       ⟨some 46, .mov (.tmp 1), none, []⟩, 
       ⟨some 47, .bad, none, []⟩, 
       ⟨some 4, .mov (.tmp 47), none, []⟩] [45, 46, 47])
      (.ret))
      (.skip))))))))))
 (.seq (.region [
  ⟨some 48, .mov (.tmp 1), none, []⟩, 
  ⟨some 49, .index (.tmp 48) (.const (.int .i64 0)), none, []⟩, 
  ⟨some 6, .mov (.tmp 49), none, []⟩] [48, 49])
 (.seq (.region [
  ⟨some 50, .mov (.tmp 1), none, []⟩, 
  ⟨some 51, .index (.tmp 50) (.const (.int .i64 1)), none, []⟩, 
  ⟨some 7, .mov (.tmp 51), none, []⟩] [50, 51])
 (.seq (.region [
  ⟨some 8, .mov (.const (.int .i64 0)), none, []⟩] [])
 (.seq (.region [
  ⟨some 52, .mov (.tmp 0), none, []⟩, 
  ⟨some 53, .len true (.tmp 52), none, []⟩, 
  ⟨some 54, .mov (.tmp 5), none, []⟩, 
  ⟨some 55, .bin .sub (.tmp 53) (.tmp 54), none, []⟩, 
  ⟨some 56, .bin .add (.tmp 55) (.const (.int .i64 1)), none, []⟩, 
  ⟨some 9, .mov (.tmp 56), none, []⟩] [52, 53, 54, 55, 56])
 (.seq (.region [
  ⟨some 10, .mov (.const (.int .i64 0)), none, []⟩] [])
 (.seq (.block 1 (.loop (.seq (.seq (.region [
    ⟨some 57, .mov (.tmp 8), none, []⟩, 
    ⟨some 58, .mov (.tmp 9), none, []⟩, 
    ⟨some 59, .bin .lss (.tmp 57) (.tmp 58), none, []⟩] [57, 58])
   (.cond (.tmp 59)
    (.skip)
    (.exit 1)))
   (.block 2 (.seq (.seq (.region [
     ⟨some 60, .mov (.tmp 0), none, []⟩, 
     ⟨some 61, .mov (.tmp 8), none, []⟩, 
     ⟨some 62, .index (.tmp 60) (.tmp 61), none, []⟩, 
     ⟨some 63, .mov (.tmp 6), none, []⟩, 
     ⟨some 64, .bin .neq (.tmp 62) (.tmp 63), none, []⟩] [60, 61, 62, 63])
    (.cond (.tmp 64)
     (.seq (.region [
      ⟨some 65, .mov (.tmp 0), none, []⟩, 
      ⟨some 66, .mov (.tmp 8), none, []⟩, 
      ⟨some 67, .bin .add (.tmp 66) (.const (.int .i64 1)), none, []⟩, 
      ⟨some 68, .mov (.tmp 9), none, []⟩, 
      ⟨some 69, .sliceStr (.tmp 65) (some (.tmp 67)) (some (.tmp 68)), none, []⟩, 
      ⟨some 70, .mov (.tmp 6), none, []⟩, 
      ⟨some 71, .call 24 [(.tmp 69), (.tmp 70)], none, []⟩, 
      ⟨some 11, .mov (.tmp 71), none, []⟩] [65, 66, 67, 68, 69, 70, 71])
     (.seq (.seq (.region [
      ⟨some 72, .mov (.tmp 11), none, []⟩, 
      ⟨some 73, .bin .lss (.tmp 72) (.const (.int .i64 0)), none, []⟩] [72])
     (.cond (.tmp 73)
      (.seq (.region [
       ⟨some 4, .mov (.const (.int .i64 (-1))), none, []⟩] [])
      (.ret))
      (.skip)))
     (.region [
      ⟨some 74, .mov (.tmp 8), none, []⟩, 
      ⟨some 75, .mov (.tmp 11), none, []⟩, 
      ⟨some 76, .bin .add (.tmp 75) (.const (.int .i64 1)), none, []⟩, 
      ⟨some 77, .bin .add (.tmp 74) (.tmp 76), none, []⟩, 
      ⟨some 8, .mov (.tmp 77), none, []⟩] [74, 75, 76, 77])))
     (.skip)))
    (.seq (.seq (.region [
     ⟨some 78, .mov (.tmp 0), none, []⟩, 
     ⟨some 79, .mov (.tmp 8), none, []⟩, 
     ⟨some 80, .bin .add (.tmp 79) (.const (.int .i64 1)), none, []⟩, 
     ⟨some 81, .index (.tmp 78) (.tmp 80), none, []⟩, 
     ⟨some 82, .mov (.tmp 7), none, []⟩, 
     ⟨some 83, .bin .eql (.tmp 81) (.tmp 82), none, []⟩, 
     ⟨some 84, .mov (.tmp 83), none, []⟩, 
     ⟨some 85, .mov (.tmp 0), (some (84, true)), []⟩, 
     ⟨some 86, .mov (.tmp 8), (some (84, true)), []⟩, 
     ⟨some 87, .mov (.tmp 8), (some (84, true)), []⟩, 
     ⟨some 88, .mov (.tmp 5), (some (84, true)), []⟩, 
     ⟨some 89, .bin .add (.tmp 87) (.tmp 88), (some (84, true)), []⟩, 
     ⟨some 90, .sliceStr (.tmp 85) (some (.tmp 86)) (some (.tmp 89)), (some (84, true)), []⟩, 
     ⟨some 91, .mov (.tmp 1), (some (84, true)), []⟩, 
     ⟨some 92, .bin .eql (.tmp 90) (.tmp 91), (some (84, true)), []⟩, 
     ⟨some 93, .pick (.tmp 84) (.tmp 92) (.const (.bool false)), none, []⟩] [78, 79, 80, 81, 82, 83, 84, 85, 86, 87, 88, 89, 90, 91, 92])
    (.cond (.tmp 93)
     (.seq (.region [
      ⟨some 94, .mov (.tmp 8), none, []⟩, 
      ⟨some 4, .mov (.tmp 94), none, []⟩] [94])
     (.ret))
     (.skip)))
    (.seq (.region [
     ⟨some 95, .mov (.tmp 8), none, []⟩, 
     ⟨some 96, .bin .add (.tmp 95) (.const (.int .i64 1)), none, []⟩, 
     ⟨some 8, .mov (.tmp 96), none, []⟩] [95, 96])
    (.seq (.region [
     ⟨some 97, .mov (.tmp 10), none, []⟩, 
     ⟨some 98, .bin .add (.tmp 97) (.const (.int .i64 1)), none, []⟩, 
     ⟨some 10, .mov (.tmp 98), none, []⟩] [97, 98])
    (.seq (.region [
     ⟨some 99, .mov (.tmp 5), none, []⟩, 
     ⟨some 100, .loadS (.const (.glob 3)), none, []⟩, 
     ⟨some 101, .bin .leq (.tmp 99) (.tmp 100), none, []⟩, 
     ⟨some 102, .mov (.tmp 101), none, []⟩, 
     ⟨some 103, .mov (.tmp 10), (some (102, true)), []⟩, 
     ⟨some 104, .mov (.tmp 8), (some (102, true)), []⟩, 
     ⟨some 105, .call 108 [(.tmp 104)], (some (102, true)), []⟩, 
     ⟨some 106, .bin .gtr (.tmp 103) (.tmp 105), (some (102, true)), []⟩, 
     ⟨some 107, .pick (.tmp 102) (.tmp 106) (.const (.bool false)), none, []⟩] [99, 100, 101, 102, 103, 104, 105, 106])
    (.cond (.tmp 107)
     (.seq (.region [
      ⟨some 108, .mov (.tmp 0), none, []⟩, 
      ⟨some 109, .mov (.tmp 8), none, []⟩, 
      ⟨some 110, .sliceStr (.tmp 108) (some (.tmp 109)) none, none, []⟩, 
      ⟨some 111, .mov (.tmp 1), none, []⟩, 
      ⟨some 112, .bad, none, []⟩, 
      ⟨some 12, .mov (.tmp 112), none, []⟩] [108, 109, 110, 111, 112])
     (.seq (.seq (.region [
      ⟨some 113, .mov (.tmp 12), none, []⟩, 
      ⟨some 114, .bin .geq (.tmp 113) (.const (.int .i64 0)), none, []⟩] [113])
     (.cond (.tmp 114)
      (.seq (.region [
       ⟨some 115, .mov (.tmp 12), none, []⟩, 
       ⟨some 116, .mov (.tmp 8), none, []⟩, 
       ⟨some 117, .bin .add (.tmp 115) (.tmp 116), none, []⟩, 
       ⟨some 4, .mov (.tmp 117), none, []⟩] [115, 116, 117])
      (.ret))
      (.skip)))
     (.seq (.region [
      ⟨some 4, .mov (.const (.int .i64 (-1))), none, []⟩] [])
     (.ret))))
     (.seq (.region [
      ⟨some 118, .mov (.tmp 5), none, []⟩, 
      ⟨some 119, .loadS (.const (.glob 3)), none, []⟩, 
      ⟨some 120, .bin .gtr (.tmp 118) (.tmp 119), none, []⟩, 
      ⟨some 121, .mov (.tmp 120), none, []⟩, 
      ⟨some 122, .mov (.tmp 10), (some (121, true)), []⟩, 
      ⟨some 123, .mov (.tmp 8), (some (121, true)), []⟩, 
      ⟨some 124, .bin .shr (.tmp 123) (.const (.int .u64 4)), (some (121, true)), []⟩, 
      ⟨some 125, .bin .add (.const (.int .i64 4)) (.tmp 124), (some (121, true)), []⟩, 
      ⟨some 126, .bin .geq (.tmp 122) (.tmp 125), (some (121, true)), []⟩, 
      ⟨some 127, .pick (.tmp 121) (.tmp 126) (.const (.bool false)), none, []⟩, 
      ⟨some 128, .mov (.tmp 127), none, []⟩, 
      ⟨some 129, .mov (.tmp 8), (some (128, true)), []⟩, 
      ⟨some 130, .mov (.tmp 9), (some (128, true)), []⟩, 
      ⟨some 131, .bin .lss (.tmp 129) (.tmp 130), (some (128, true)), []⟩, 
      ⟨some 132, .pick (.tmp 128) (.tmp 131) (.const (.bool false)), none, []⟩] [118, 119, 120, 121, 122, 123, 124, 125, 126, 127, 128, 129, 130, 131])
     (.cond (.tmp 132)
      (.seq (.region [
       ⟨some 133, .mov (.tmp 0), none, []⟩, 
       ⟨some 134, .mov (.tmp 8), none, []⟩, 
       ⟨some 135, .sliceStr (.tmp 133) (some (.tmp 134)) none, none, []⟩, 
       ⟨some 136, .mov (.tmp 1), none, []⟩, 
       ⟨some 137, .call 109 [(.tmp 135), (.tmp 136)], none, []⟩, 
       ⟨some 13, .mov (.tmp 137), none, []⟩] [133, 134, 135, 136, 137])
      (.seq (.seq (.region [
       ⟨some 138, .mov (.tmp 13), none, []⟩, 
       ⟨some 139, .bin .lss (.tmp 138) (.const (.int .i64 0)), none, []⟩] [138])
      (.cond (.tmp 139)
       (.seq (.region [
        ⟨some 4, .mov (.const (.int .i64 (-1))), none, []⟩] [])
       (.ret))
       (.skip)))
      (.seq (.region [
       ⟨some 140, .mov (.tmp 8), none, []⟩, 
       ⟨some 141, .mov (.tmp 13), none, []⟩, 
       ⟨some 142, .bin .add (.tmp 140) (.tmp 141), none, []⟩, 
       ⟨some 4, .mov (.tmp 142), none, []⟩] [140, 141, 142])
      (.ret))))
      (.skip)))))))))))))
 (.seq (.region [
  ⟨some 4, .mov (.const (.int .i64 (-1))), none, []⟩] [])
 (.ret))))))))))
theorem ok97 : erase c97 = cCode Tryz.prog 143 ((Tryz.f97).body.getD .skip) := by kernel_rfl
theorem ord97 : ordsOk c97 = true := by kernel_rfl
theorem call97 {args : List SV} {h : Heap} {R : AEnd → Heap → Prop} (hn : Nat.ble args.length 143 = true) (hp : awp Tryz.prog c97 (finQ [.tmp 4] R) (argEnv 0 args) h) : ACall Tryz.prog 97 args h R :=
  acall_of_awp mixed Tryz.func97 rfl ord97 ok97 (by kernel_rfl) hn hp
def t97 : Tab := ⟨143, c97, [.tmp 4]⟩
theorem tab97 : TabOk Tryz.prog 97 t97 := tabOk Tryz.func97 rfl ord97 ok97 (by kernel_rfl) rfl

/-- math/bits.TrailingZeros32 -/
def c105 : ACode :=
 .seq (.region [
  ⟨some 2, .mov (.const (.int .i64 0)), none, []⟩] [])
 (.seq (.seq (.region [
  ⟨some 3, .mov (.tmp 0), none, []⟩, 
  ⟨some 4, .bin .eql (.tmp 3) (.const (.int .u32 0)), none, []⟩] [3])
 (.cond (.tmp 4)
  (.seq (.region [
   ⟨some 2, .mov (.const (.int .i64 32)), none, []⟩] [])
  (.ret))
  (.skip)))
 (.seq (.region [
  ⟨some 5, .mov (.tmp 0), none, []⟩, 
  ⟨some 6, .mov (.tmp 0), none, []⟩, 
  ⟨some 7, .un .neg (.tmp 6), none, []⟩, 
  ⟨some 8, .bin .and (.tmp 5) (.tmp 7), none, []⟩, 
  ⟨some 9, .bin .mul (.tmp 8) (.const (.int .u32 125613361)), none, []⟩, 
  ⟨some 10, .bin .shr (.tmp 9) (.const (.int .u64 27)), none, []⟩, 
  ⟨some 11, .indexArr 32 1 (.const (.glob 9)) (.tmp 10), none, []⟩, 
  ⟨some 12, .loadS (.tmp 11), none, []⟩, 
  ⟨some 13, .conv .i64 (.tmp 12), none, []⟩, 
  ⟨some 2, .mov (.tmp 13), none, []⟩] [5, 6, 7, 8, 9, 10, 11, 12, 13])
 (.ret)))
theorem ok105 : erase c105 = cCode Tryz.prog 14 ((Tryz.f105).body.getD .skip) := by kernel_rfl
theorem ord105 : ordsOk c105 = true := by kernel_rfl
theorem call105 {args : List SV} {h : Heap} {R : AEnd → Heap → Prop} (hn : Nat.ble args.length 14 = true) (hp : awp Tryz.prog c105 (finQ [.tmp 2] R) (argEnv 0 args) h) : ACall Tryz.prog 105 args h R :=
  acall_of_awp mixed Tryz.func105 rfl ord105 ok105 (by kernel_rfl) hn hp
def t105 : Tab := ⟨14, c105, [.tmp 2]⟩
theorem tab105 : TabOk Tryz.prog 105 t105 := tabOk Tryz.func105 rfl ord105 ok105 (by kernel_rfl) rfl

end Go.Proofs.YtlhpbcbkkbjhoaaGreatDoor
