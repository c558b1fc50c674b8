/- Parts of the proof of PLexBack, one behind the other. -/
import Derived.Test.YtlhpbcbkkbjhoaaDoorM9
import Derived.Test.YtlhpbcbkkbjhoaaDoorProg
import Derived.Test.YtlhpbcbkkbjhoaaDoorM8
import Derived.KernelRfl
namespace Go.Proofs.YtlhpbcbkkbjhoaaDoor
open Ab
set_option maxRecDepth 100000
theorem mixed : Tryd.prog.follows .mixedOrders = true := by kernel_rfl


/-- gosem.cut.init -/
def c2 : ACode :=
 .region [
  ⟨some 0, .bad, none, []⟩] [0]
theorem ok2 : erase c2 = cCode Tryd.prog 1 ((Tryd.f2).body.getD .skip) := by kernel_rfl
theorem ord2 : ordsOk c2 = true := by kernel_rfl
theorem call2 {args : List SV} {h : Heap} {R : AEnd → Heap → Prop} (hn : Nat.ble args.length 1 = true) (hp : awp Tryd.prog c2 (finQ [] R) (argEnv 0 args) h) : ACall Tryd.prog 2 args h R :=
  acall_of_awp mixed Tryd.func2 rfl ord2 ok2 (by kernel_rfl) hn hp
def t2 : Tab := ⟨1, c2, []⟩
theorem tab2 : TabOk Tryd.prog 2 t2 := tabOk Tryd.func2 rfl ord2 ok2 (by kernel_rfl) rfl

/-- stagepost/stagepostlaw13.LexBlanks -/
def c3 : ACode :=
 .seq (.region [
  ⟨some 4, .mov (.const (.bool false)), none, []⟩] [])
 (.seq (.seq (.region [
  ⟨some 13, .call 5 [], none, []⟩, 
  ⟨some 14, .un .not (.tmp 13), none, []⟩] [13])
 (.cond (.tmp 14)
  (.seq (.region [
   ⟨some 4, .mov (.const (.bool false)), none, []⟩] [])
  (.ret))
  (.skip)))
 (.seq (.seq (.region [
  ⟨some 15, .mov (.tmp 0), none, []⟩, 
  ⟨some 16, .len true (.tmp 15), none, []⟩, 
  ⟨some 17, .bin .gtr (.tmp 16) (.const (.int .i64 4000)), none, []⟩] [15, 16])
 (.cond (.tmp 17)
  (.seq (.region [
   ⟨some 4, .mov (.const (.bool true)), none, []⟩] [])
  (.ret))
  (.skip)))
 (.seq (.region [
  ⟨some 19, .mov (.tmp 0), none, []⟩, 
  ⟨some 20, .call 6 [(.tmp 19)], none, []⟩, 
  ⟨some 18, .mov (.tmp 20), none, []⟩, 
  ⟨some 21, .extract (.tmp 18) 0, none, []⟩, 
  ⟨some 22, .extract (.tmp 18) 1, none, []⟩, 
  ⟨some 6, .box 26 2 (.const (.agg [(.int .i64 0), (.int .i64 0)])), none, []⟩, 
  ⟨some 5, .mov (.tmp 21), none, []⟩, 
  ⟨none, .store 2 (.tmp 6) (.tmp 22), none, []⟩] [19, 20, 18, 21, 22])
 (.seq (.seq (.region [
  ⟨some 23, .loadA 2 (.tmp 6), none, []⟩, 
  ⟨some 24, .build [(.int .i64 0), (.int .i64 0)] [], none, []⟩, 
  ⟨some 25, .eqA true [.int, .int] (.tmp 23) (.tmp 24), none, []⟩] [23, 24])
 (.cond (.tmp 25)
  (.seq (.region [
   ⟨some 4, .mov (.const (.bool true)), none, []⟩] [])
  (.ret))
  (.skip)))
 (.seq (.region [
  ⟨some 7, .mov (.const (.str [])), none, []⟩] [])
 (.seq (.seq (.region [
  ⟨some 8, .mov (.const (.int .i64 0)), none, []⟩] [])
 (.block 0 (.loop (.seq (.seq (.region [
    ⟨some 26, .mov (.tmp 8), none, []⟩, 
    ⟨some 27, .mov (.tmp 5), none, []⟩, 
    ⟨some 28, .len false (.tmp 27), none, []⟩, 
    ⟨some 29, .bin .lss (.tmp 26) (.tmp 28), none, []⟩] [26, 27, 28])
   (.cond (.tmp 29)
    (.skip)
    (.exit 0)))
   (.seq (.block 1 (.seq (.region [
     ⟨some 32, .mov (.tmp 0), none, []⟩, 
     ⟨some 33, .len true (.tmp 32), none, []⟩, 
     ⟨some 9, .mov (.tmp 33), none, []⟩] [32, 33])
    (.seq (.seq (.region [
     ⟨some 34, .mov (.tmp 8), none, []⟩, 
     ⟨some 35, .bin .add (.tmp 34) (.const (.int .i64 1)), none, []⟩, 
     ⟨some 36, .mov (.tmp 5), none, []⟩, 
     ⟨some 37, .len false (.tmp 36), none, []⟩, 
     ⟨some 38, .bin .lss (.tmp 35) (.tmp 37), none, []⟩] [34, 35, 36, 37])
    (.cond (.tmp 38)
     (.region [
      ⟨some 39, .mov (.tmp 5), none, []⟩, 
      ⟨some 40, .mov (.tmp 8), none, []⟩, 
      ⟨some 41, .bin .add (.tmp 40) (.const (.int .i64 1)), none, []⟩, 
      ⟨some 42, .indexAddr 4 (.tmp 39) (.tmp 41), none, []⟩, 
      ⟨some 43, .fieldAddr 3 (.tmp 42), none, []⟩, 
      ⟨some 44, .loadS (.tmp 43), none, []⟩, 
      ⟨some 9, .mov (.tmp 44), none, []⟩] [39, 40, 41, 42, 43, 44])
     (.skip)))
    (.seq (.region [
     ⟨some 45, .mov (.tmp 0), none, []⟩, 
     ⟨some 46, .mov (.tmp 5), none, []⟩, 
     ⟨some 47, .mov (.tmp 8), none, []⟩, 
     ⟨some 48, .indexAddr 4 (.tmp 46) (.tmp 47), none, []⟩, 
     ⟨some 49, .fieldAddr 3 (.tmp 48), none, []⟩, 
     ⟨some 50, .loadS (.tmp 49), none, []⟩, 
     ⟨some 51, .mov (.tmp 9), none, []⟩, 
     ⟨some 52, .sliceStr (.tmp 45) (some (.tmp 50)) (some (.tmp 51)), none, []⟩, 
     ⟨some 10, .mov (.tmp 52), none, []⟩] [45, 46, 47, 48, 49, 50, 51, 52])
    (.seq (.seq (.region [
     ⟨some 53, .mov (.tmp 5), none, []⟩, 
     ⟨some 54, .mov (.tmp 8), none, []⟩, 
     ⟨some 55, .indexAddr 4 (.tmp 53) (.tmp 54), none, []⟩, 
     ⟨some 56, .fieldAddr 0 (.tmp 55), none, []⟩, 
     ⟨some 57, .loadS (.tmp 56), none, []⟩, 
     ⟨some 58, .bin .eql (.tmp 57) (.const (.int .u8 1)), none, []⟩] [53, 54, 55, 56, 57])
    (.cond (.tmp 58)
     (.region [
      ⟨some 59, .mov (.tmp 10), none, []⟩, 
      ⟨some 60, .call 7 [(.tmp 59)], none, []⟩, 
      ⟨some 10, .mov (.tmp 60), none, []⟩] [59, 60])
     (.skip)))
    (.region [
     ⟨some 61, .mov (.tmp 7), none, []⟩, 
     ⟨some 62, .mov (.tmp 10), none, []⟩, 
     ⟨some 63, .bin .add (.tmp 61) (.tmp 62), none, []⟩, 
     ⟨some 64, .buildSlice 5 1 (.int .u8 0) 4 [(0, (.const (.int .u8 9))), (1, (.const (.int .u8 10))), (2, (.const (.int .u8 13))), (3, (.const (.int .u8 32)))], none, []⟩, 
     ⟨some 65, .mov (.tmp 1), none, []⟩, 
     ⟨some 66, .bin .rem (.tmp 65) (.const (.int .i64 4)), none, []⟩, 
     ⟨some 67, .mov (.tmp 8), none, []⟩, 
     ⟨some 68, .bin .rem (.tmp 67) (.const (.int .i64 4)), none, []⟩, 
     ⟨some 69, .bin .add (.tmp 66) (.tmp 68), none, []⟩, 
     ⟨some 70, .bin .add (.tmp 69) (.const (.int .i64 4)), none, []⟩, 
     ⟨some 71, .bin .rem (.tmp 70) (.const (.int .i64 4)), none, []⟩, 
     ⟨some 72, .indexAddr 1 (.tmp 64) (.tmp 71), none, []⟩, 
     ⟨some 73, .loadS (.tmp 72), none, []⟩, 
     ⟨some 74, .buildSlice 5 1 (.int .u8 0) 1 [(0, (.tmp 73))], none, []⟩, 
     ⟨some 75, .toStr (.tmp 74), none, []⟩, 
     ⟨some 76, .bin .add (.tmp 63) (.tmp 75), none, []⟩, 
     ⟨some 7, .mov (.tmp 76), none, []⟩] [61, 62, 63, 64, 65, 66, 67, 68, 69, 70, 71, 72, 73, 74, 75, 76]))))))
   (.region [
    ⟨some 30, .mov (.tmp 8), none, []⟩, 
    ⟨some 31, .bin .add (.tmp 30) (.const (.int .i64 1)), none, []⟩, 
    ⟨some 8, .mov (.tmp 31), none, []⟩] [30, 31]))))))
 (.seq (.region [
  ⟨some 78, .mov (.tmp 7), none, []⟩, 
  ⟨some 79, .call 6 [(.tmp 78)], none, []⟩, 
  ⟨some 77, .mov (.tmp 79), none, []⟩, 
  ⟨some 80, .extract (.tmp 77) 0, none, []⟩, 
  ⟨some 81, .extract (.tmp 77) 1, none, []⟩, 
  ⟨some 12, .box 26 2 (.const (.agg [(.int .i64 0), (.int .i64 0)])), none, []⟩, 
  ⟨some 11, .mov (.tmp 80), none, []⟩, 
  ⟨none, .store 2 (.tmp 12) (.tmp 81), none, []⟩] [78, 79, 77, 80, 81])
 (.seq (.region [
  ⟨some 82, .loadA 2 (.tmp 12), none, []⟩, 
  ⟨some 83, .build [(.int .i64 0), (.int .i64 0)] [], none, []⟩, 
  ⟨some 84, .eqA false [.int, .int] (.tmp 82) (.tmp 83), none, []⟩, 
  ⟨some 85, .mov (.tmp 84), none, []⟩, 
  ⟨some 86, .mov (.tmp 5), (some (85, true)), []⟩, 
  ⟨some 87, .call 9 [(.tmp 86)], (some (85, true)), []⟩, 
  ⟨some 88, .mov (.tmp 11), (some (85, true)), []⟩, 
  ⟨some 89, .call 9 [(.tmp 88)], (some (85, true)), []⟩, 
  ⟨some 90, .call 8 [(.tmp 87), (.tmp 89)], (some (85, true)), []⟩, 
  ⟨some 91, .pick (.tmp 85) (.tmp 90) (.const (.bool false)), none, []⟩, 
  ⟨some 4, .mov (.tmp 91), none, []⟩] [82, 83, 84, 85, 86, 87, 88, 89, 90, 91])
 (.ret)))))))))
theorem ok3 : erase c3 = cCode Tryd.prog 92 ((Tryd.f3).body.getD .skip) := by kernel_rfl
theorem ord3 : ordsOk c3 = true := by kernel_rfl
theorem call3 {args : List SV} {h : Heap} {R : AEnd → Heap → Prop} (hn : Nat.ble args.length 92 = true) (hp : awp Tryd.prog c3 (finQ [.tmp 4] R) (argEnv 0 args) h) : ACall Tryd.prog 3 args h R :=
  acall_of_awp mixed Tryd.func3 rfl ord3 ok3 (by kernel_rfl) hn hp
def t3 : Tab := ⟨92, c3, [.tmp 4]⟩
theorem tab3 : TabOk Tryd.prog 3 t3 := tabOk Tryd.func3 rfl ord3 ok3 (by kernel_rfl) rfl

/-- stagepost/stagepostlaw13.LexBack -/
def c4 : ACode :=
 .seq (.region [
  ⟨some 4, .mov (.const (.bool false)), none, []⟩] [])
 (.seq (.seq (.region [
  ⟨some 14, .call 5 [], none, []⟩, 
  ⟨some 15, .un .not (.tmp 14), none, []⟩] [14])
 (.cond (.tmp 15)
  (.seq (.region [
   ⟨some 4, .mov (.const (.bool false)), none, []⟩] [])
  (.ret))
  (.skip)))
 (.seq (.seq (.region [
  ⟨some 16, .mov (.tmp 0), none, []⟩, 
  ⟨some 17, .len true (.tmp 16), none, []⟩, 
  ⟨some 18, .bin .gtr (.tmp 17) (.const (.int .i64 4000)), none, []⟩, 
  ⟨some 19, .mov (.tmp 18), none, []⟩, 
  ⟨some 20, .mov (.tmp 1), (some (19, false)), []⟩, 
  ⟨some 21, .len false (.tmp 20), (some (19, false)), []⟩, 
  ⟨some 22, .bin .gtr (.tmp 21) (.const (.int .i64 200)), (some (19, false)), []⟩, 
  ⟨some 23, .pick (.tmp 19) (.const (.bool true)) (.tmp 22), none, []⟩] [16, 17, 18, 19, 20, 21, 22])
 (.cond (.tmp 23)
  (.seq (.region [
   ⟨some 4, .mov (.const (.bool true)), none, []⟩] [])
  (.ret))
  (.skip)))
 (.seq (.region [
  ⟨some 25, .mov (.tmp 0), none, []⟩, 
  ⟨some 26, .call 6 [(.tmp 25)], none, []⟩, 
  ⟨some 24, .mov (.tmp 26), none, []⟩, 
  ⟨some 27, .extract (.tmp 24) 0, none, []⟩, 
  ⟨some 28, .extract (.tmp 24) 1, none, []⟩, 
  ⟨some 6, .box 26 2 (.const (.agg [(.int .i64 0), (.int .i64 0)])), none, []⟩, 
  ⟨some 5, .mov (.tmp 27), none, []⟩, 
  ⟨none, .store 2 (.tmp 6) (.tmp 28), none, []⟩] [25, 26, 24, 27, 28])
 (.seq (.seq (.region [
  ⟨some 29, .loadA 2 (.tmp 6), none, []⟩, 
  ⟨some 30, .build [(.int .i64 0), (.int .i64 0)] [], none, []⟩, 
  ⟨some 31, .eqA false [.int, .int] (.tmp 29) (.tmp 30), none, []⟩] [29, 30])
 (.cond (.tmp 31)
  (.seq (.region [
   ⟨some 33, .mov (.tmp 5), none, []⟩, 
   ⟨some 34, .call 9 [(.tmp 33)], none, []⟩, 
   ⟨some 35, .call 10 [(.tmp 34)], none, []⟩, 
   ⟨some 32, .mov (.tmp 35), none, []⟩, 
   ⟨some 36, .extract (.tmp 32) 0, none, []⟩, 
   ⟨some 37, .extract (.tmp 32) 1, none, []⟩, 
   ⟨some 8, .box 26 2 (.const (.agg [(.int .i64 0), (.int .i64 0)])), none, []⟩, 
   ⟨some 7, .mov (.tmp 36), none, []⟩, 
   ⟨none, .store 2 (.tmp 8) (.tmp 37), none, []⟩] [33, 34, 35, 32, 36, 37])
  (.seq (.region [
   ⟨some 39, .mov (.tmp 7), none, []⟩, 
   ⟨some 40, .call 6 [(.tmp 39)], none, []⟩, 
   ⟨some 38, .mov (.tmp 40), none, []⟩, 
   ⟨some 41, .extract (.tmp 38) 0, none, []⟩, 
   ⟨some 42, .extract (.tmp 38) 1, none, []⟩, 
   ⟨some 10, .box 26 2 (.const (.agg [(.int .i64 0), (.int .i64 0)])), none, []⟩, 
   ⟨some 9, .mov (.tmp 41), none, []⟩, 
   ⟨none, .store 2 (.tmp 10) (.tmp 42), none, []⟩] [39, 40, 38, 41, 42])
  (.seq (.region [
   ⟨some 43, .loadA 2 (.tmp 8), none, []⟩, 
   ⟨some 44, .build [(.int .i64 0), (.int .i64 0)] [], none, []⟩, 
   ⟨some 45, .eqA true [.int, .int] (.tmp 43) (.tmp 44), none, []⟩, 
   ⟨some 46, .mov (.tmp 45), none, []⟩, 
   ⟨some 47, .mov (.tmp 7), (some (46, false)), []⟩, 
   ⟨some 48, .len true (.tmp 47), (some (46, false)), []⟩, 
   ⟨some 49, .bin .leq (.tmp 48) (.const (.int .i64 65536)), (some (46, false)), []⟩, 
   ⟨some 50, .mov (.tmp 49), (some (46, false)), []⟩, 
   ⟨some 51, .loadA 2 (.tmp 10), (some (50, true)), []⟩, 
   ⟨some 52, .build [(.int .i64 0), (.int .i64 0)] [], (some (50, true)), []⟩, 
   ⟨some 53, .eqA true [.int, .int] (.tmp 51) (.tmp 52), (some (50, true)), []⟩, 
   ⟨some 54, .mov (.tmp 53), (some (50, true)), []⟩, 
   ⟨some 55, .mov (.tmp 5), (some (54, false)), []⟩, 
   ⟨some 56, .call 9 [(.tmp 55)], (some (54, false)), []⟩, 
   ⟨some 57, .mov (.tmp 9), (some (54, false)), []⟩, 
   ⟨some 58, .call 9 [(.tmp 57)], (some (54, false)), []⟩, 
   ⟨some 59, .call 8 [(.tmp 56), (.tmp 58)], (some (54, false)), []⟩, 
   ⟨some 60, .un .not (.tmp 59), (some (54, false)), []⟩, 
   ⟨some 61, .pick (.tmp 54) (.const (.bool true)) (.tmp 60), (some (50, true)), []⟩, 
   ⟨some 62, .pick (.tmp 50) (.tmp 61) (.const (.bool false)), (some (46, false)), []⟩, 
   ⟨some 63, .pick (.tmp 46) (.const (.bool true)) (.tmp 62), none, []⟩] [43, 44, 45, 46, 47, 48, 49, 50, 51, 52, 53, 54, 55, 56, 57, 58, 59, 60, 61, 62])
  (.cond (.tmp 63)
   (.seq (.region [
    ⟨some 4, .mov (.const (.bool false)), none, []⟩] [])
   (.ret))
   (.skip)))))
  (.skip)))
 (.seq (.region [
  ⟨some 65, .mov (.tmp 1), none, []⟩, 
  ⟨some 66, .call 10 [(.tmp 65)], none, []⟩, 
  ⟨some 64, .mov (.tmp 66), none, []⟩, 
  ⟨some 67, .extract (.tmp 64) 0, none, []⟩, 
  ⟨some 68, .extract (.tmp 64) 1, none, []⟩, 
  ⟨some 11, .mov (.tmp 67), none, []⟩, 
  ⟨none, .store 2 (.tmp 6) (.tmp 68), none, []⟩] [65, 66, 64, 67, 68])
 (.seq (.seq (.region [
  ⟨some 69, .loadA 2 (.tmp 6), none, []⟩, 
  ⟨some 70, .build [(.int .i64 0), (.int .i64 0)] [], none, []⟩, 
  ⟨some 71, .eqA true [.int, .int] (.tmp 69) (.tmp 70), none, []⟩] [69, 70])
 (.cond (.tmp 71)
  (.seq (.region [
   ⟨some 72, .mov (.tmp 11), none, []⟩, 
   ⟨some 73, .bin .eql (.tmp 72) (.const (.str [])), none, []⟩, 
   ⟨some 74, .mov (.tmp 73), none, []⟩, 
   ⟨some 75, .fieldAddr 1 (.tmp 6), (some (74, true)), []⟩, 
   ⟨some 76, .loadS (.tmp 75), (some (74, true)), []⟩, 
   ⟨some 77, .bin .geq (.tmp 76) (.const (.int .i64 0)), (some (74, true)), []⟩, 
   ⟨some 78, .pick (.tmp 74) (.tmp 77) (.const (.bool false)), none, []⟩, 
   ⟨some 79, .mov (.tmp 78), none, []⟩, 
   ⟨some 80, .fieldAddr 1 (.tmp 6), (some (79, true)), []⟩, 
   ⟨some 81, .loadS (.tmp 80), (some (79, true)), []⟩, 
   ⟨some 82, .mov (.tmp 1), (some (79, true)), []⟩, 
   ⟨some 83, .len false (.tmp 82), (some (79, true)), []⟩, 
   ⟨some 84, .bin .lss (.tmp 81) (.tmp 83), (some (79, true)), []⟩, 
   ⟨some 85, .pick (.tmp 79) (.tmp 84) (.const (.bool false)), none, []⟩, 
   ⟨some 4, .mov (.tmp 85), none, []⟩] [72, 73, 74, 75, 76, 77, 78, 79, 80, 81, 82, 83, 84, 85])
  (.ret))
  (.skip)))
 (.seq (.region [
  ⟨some 87, .mov (.tmp 11), none, []⟩, 
  ⟨some 88, .call 6 [(.tmp 87)], none, []⟩, 
  ⟨some 86, .mov (.tmp 88), none, []⟩, 
  ⟨some 89, .extract (.tmp 86) 0, none, []⟩, 
  ⟨some 90, .extract (.tmp 86) 1, none, []⟩, 
  ⟨some 13, .box 26 2 (.const (.agg [(.int .i64 0), (.int .i64 0)])), none, []⟩, 
  ⟨some 12, .mov (.tmp 89), none, []⟩, 
  ⟨none, .store 2 (.tmp 13) (.tmp 90), none, []⟩] [87, 88, 86, 89, 90])
 (.seq (.region [
  ⟨some 91, .mov (.tmp 11), none, []⟩, 
  ⟨some 92, .len true (.tmp 91), none, []⟩, 
  ⟨some 93, .bin .gtr (.tmp 92) (.const (.int .i64 65536)), none, []⟩, 
  ⟨some 94, .mov (.tmp 93), none, []⟩, 
  ⟨some 95, .loadA 2 (.tmp 13), (some (94, false)), []⟩, 
  ⟨some 96, .build [(.int .i64 0), (.int .i64 0)] [], (some (94, false)), []⟩, 
  ⟨some 97, .eqA false [.int, .int] (.tmp 95) (.tmp 96), (some (94, false)), []⟩, 
  ⟨some 98, .mov (.tmp 97), (some (94, false)), []⟩, 
  ⟨some 99, .mov (.tmp 12), (some (98, true)), []⟩, 
  ⟨some 100, .call 9 [(.tmp 99)], (some (98, true)), []⟩, 
  ⟨some 101, .mov (.tmp 1), (some (98, true)), []⟩, 
  ⟨some 102, .call 8 [(.tmp 100), (.tmp 101)], (some (98, true)), []⟩, 
  ⟨some 103, .pick (.tmp 98) (.tmp 102) (.const (.bool false)), (some (94, false)), []⟩, 
  ⟨some 104, .pick (.tmp 94) (.const (.bool true)) (.tmp 103), none, []⟩, 
  ⟨some 4, .mov (.tmp 104), none, []⟩] [91, 92, 93, 94, 95, 96, 97, 98, 99, 100, 101, 102, 103, 104])
 (.ret)))))))))
theorem ok4 : erase c4 = cCode Tryd.prog 105 ((Tryd.f4).body.getD .skip) := by kernel_rfl
theorem ord4 : ordsOk c4 = true := by kernel_rfl
theorem call4 {args : List SV} {h : Heap} {R : AEnd → Heap → Prop} (hn : Nat.ble args.length 105 = true) (hp : awp Tryd.prog c4 (finQ [.tmp 4] R) (argEnv 0 args) h) : ACall Tryd.prog 4 args h R :=
  acall_of_awp mixed Tryd.func4 rfl ord4 ok4 (by kernel_rfl) hn hp
def t4 : Tab := ⟨105, c4, [.tmp 4]⟩
theorem tab4 : TabOk Tryd.prog 4 t4 := tabOk Tryd.func4 rfl ord4 ok4 (by kernel_rfl) rfl

/-- stagepost/stagepostlaw13.lives -/
def c5 : ACode :=
 .seq (.region [
  ⟨some 0, .mov (.const (.bool false)), none, []⟩] [])
 (.seq (.region [
  ⟨some 4, .call 6 [(.const (.str [83, 69, 76, 69, 67, 84, 32, 97, 49, 44, 39, 105, 116, 39, 39, 115, 39]))], none, []⟩, 
  ⟨some 3, .mov (.tmp 4), none, []⟩, 
  ⟨some 5, .extract (.tmp 3) 0, none, []⟩, 
  ⟨some 6, .extract (.tmp 3) 1, none, []⟩, 
  ⟨some 2, .box 26 2 (.const (.agg [(.int .i64 0), (.int .i64 0)])), none, []⟩, 
  ⟨some 1, .mov (.tmp 5), none, []⟩, 
  ⟨none, .store 2 (.tmp 2) (.tmp 6), none, []⟩] [4, 3, 5, 6])
 (.seq (.region [
  ⟨some 7, .loadA 2 (.tmp 2), none, []⟩, 
  ⟨some 8, .build [(.int .i64 0), (.int .i64 0)] [], none, []⟩, 
  ⟨some 9, .eqA false [.int, .int] (.tmp 7) (.tmp 8), none, []⟩, 
  ⟨some 10, .mov (.tmp 9), none, []⟩, 
  ⟨some 11, .mov (.tmp 1), (some (10, true)), []⟩, 
  ⟨some 12, .build [(.int .u8 0), (.str []), (.int .u64 0), (.int .i64 0)] [(0, 1, (.const (.int .u8 1))), (1, 1, (.const (.str [115, 101, 108, 101, 99, 116])))], (some (10, true)), []⟩, 
  ⟨some 13, .build [(.int .u8 0), (.str []), (.int .u64 0), (.int .i64 0)] [(0, 1, (.const (.int .u8 1))), (1, 1, (.const (.str [97, 49]))), (3, 1, (.const (.int .i64 7)))], (some (10, true)), []⟩, 
  ⟨some 14, .build [(.int .u8 0), (.str []), (.int .u64 0), (.int .i64 0)] [(0, 1, (.const (.int .u8 4))), (1, 1, (.const (.str [44]))), (3, 1, (.const (.int .i64 9)))], (some (10, true)), []⟩, 
  ⟨some 15, .build [(.int .u8 0), (.str []), (.int .u64 0), (.int .i64 0)] [(0, 1, (.const (.int .u8 3))), (1, 1, (.const (.str [105, 116, 39, 115]))), (3, 1, (.const (.int .i64 10)))], (some (10, true)), []⟩, 
  ⟨some 16, .buildSlice 32 4 (.agg [(.int .u8 0), (.str []), (.int .u64 0), (.int .i64 0)]) 4 [(0, (.tmp 12)), (1, (.tmp 13)), (2, (.tmp 14)), (3, (.tmp 15))], (some (10, true)), []⟩, 
  ⟨some 17, .call 8 [(.tmp 11), (.tmp 16)], (some (10, true)), []⟩, 
  ⟨some 18, .pick (.tmp 10) (.tmp 17) (.const (.bool false)), none, []⟩, 
  ⟨some 0, .mov (.tmp 18), none, []⟩] [7, 8, 9, 10, 11, 12, 13, 14, 15, 16, 17, 18])
 (.ret)))
theorem ok5 : erase c5 = cCode Tryd.prog 19 ((Tryd.f5).body.getD .skip) := by kernel_rfl
theorem ord5 : ordsOk c5 = true := by kernel_rfl
theorem call5 {args : List SV} {h : Heap} {R : AEnd → Heap → Prop} (hn : Nat.ble args.length 19 = true) (hp : awp Tryd.prog c5 (finQ [.tmp 0] R) (argEnv 0 args) h) : ACall Tryd.prog 5 args h R :=
  acall_of_awp mixed Tryd.func5 rfl ord5 ok5 (by kernel_rfl) hn hp
def t5 : Tab := ⟨19, c5, [.tmp 0]⟩
theorem tab5 : TabOk Tryd.prog 5 t5 := tabOk Tryd.func5 rfl ord5 ok5 (by kernel_rfl) rfl

/-- stagepost/lexer.Lex -/
def c6 : ACode :=
 .seq (.region [
  ⟨some 2, .mov (.const .nils), none, []⟩, 
  ⟨some 3, .box 26 2 (.const (.agg [(.int .i64 0), (.int .i64 0)])), none, []⟩] [])
 (.seq (.seq (.region [
  ⟨some 9, .mov (.tmp 0), none, []⟩, 
  ⟨some 10, .len true (.tmp 9), none, []⟩, 
  ⟨some 11, .bin .gtr (.tmp 10) (.const (.int .i64 65536)), none, []⟩] [9, 10])
 (.cond (.tmp 11)
  (.seq (.region [
   ⟨some 12, .build [(.int .i64 0), (.int .i64 0)] [(0, 1, (.const (.int .i64 3))), (1, 1, (.const (.int .i64 (-1))))], none, []⟩, 
   ⟨some 2, .mov (.const .nils), none, []⟩, 
   ⟨none, .store 2 (.tmp 3) (.tmp 12), none, []⟩] [12])
  (.ret))
  (.skip)))
 (.seq (.region [
  ⟨some 4, .mov (.const .nils), none, []⟩] [])
 (.seq (.seq (.region [
  ⟨some 5, .mov (.const (.int .i64 0)), none, []⟩] [])
 (.block 0 (.loop (.seq (.seq (.region [
    ⟨some 13, .mov (.tmp 5), none, []⟩, 
    ⟨some 14, .mov (.tmp 0), none, []⟩, 
    ⟨some 15, .len true (.tmp 14), none, []⟩, 
    ⟨some 16, .bin .lss (.tmp 13) (.tmp 15), none, []⟩] [13, 14, 15])
   (.cond (.tmp 16)
    (.skip)
    (.exit 0)))
   (.block 1 (.seq (.seq (.region [
     ⟨some 17, .mov (.tmp 0), none, []⟩, 
     ⟨some 18, .mov (.tmp 5), none, []⟩, 
     ⟨some 19, .index (.tmp 17) (.tmp 18), none, []⟩, 
     ⟨some 20, .call 11 [(.const (.str [9, 10, 13, 32])), (.tmp 19)], none, []⟩, 
     ⟨some 21, .bin .geq (.tmp 20) (.const (.int .i64 0)), none, []⟩] [17, 18, 19, 20])
    (.cond (.tmp 21)
     (.seq (.region [
      ⟨some 22, .mov (.tmp 5), none, []⟩, 
      ⟨some 23, .bin .add (.tmp 22) (.const (.int .i64 1)), none, []⟩, 
      ⟨some 5, .mov (.tmp 23), none, []⟩] [22, 23])
     (.exit 1))
     (.skip)))
    (.seq (.region [
     ⟨some 25, .mov (.tmp 0), none, []⟩, 
     ⟨some 26, .mov (.tmp 5), none, []⟩, 
     ⟨some 27, .sliceStr (.tmp 25) (some (.tmp 26)) none, none, []⟩, 
     ⟨some 28, .call 12 [(.tmp 27)], none, []⟩, 
     ⟨some 24, .mov (.tmp 28), none, []⟩, 
     ⟨some 29, .extract (.tmp 24) 0, none, []⟩, 
     ⟨some 30, .extract (.tmp 24) 1, none, []⟩, 
     ⟨some 31, .extract (.tmp 24) 2, none, []⟩, 
     ⟨some 6, .box 32 4 (.const (.agg [(.int .u8 0), (.str []), (.int .u64 0), (.int .i64 0)])), none, []⟩, 
     ⟨none, .store 4 (.tmp 6) (.tmp 29), none, []⟩, 
     ⟨some 7, .mov (.tmp 30), none, []⟩, 
     ⟨some 8, .mov (.tmp 31), none, []⟩] [25, 26, 27, 28, 24, 29, 30, 31])
    (.seq (.seq (.region [
     ⟨some 32, .mov (.tmp 8), none, []⟩, 
     ⟨some 33, .bin .neq (.tmp 32) (.const (.int .i64 0)), none, []⟩] [32])
    (.cond (.tmp 33)
     (.seq (.region [
      ⟨some 34, .mov (.tmp 8), none, []⟩, 
      ⟨some 35, .mov (.tmp 5), none, []⟩, 
      ⟨some 36, .build [(.int .i64 0), (.int .i64 0)] [(0, 1, (.tmp 34)), (1, 1, (.tmp 35))], none, []⟩, 
      ⟨some 2, .mov (.const .nils), none, []⟩, 
      ⟨none, .store 2 (.tmp 3) (.tmp 36), none, []⟩] [34, 35, 36])
     (.ret))
     (.skip)))
    (.seq (.region [
     ⟨some 37, .mov (.tmp 5), none, []⟩, 
     ⟨some 38, .fieldAddr 3 (.tmp 6), none, []⟩, 
     ⟨none, .store 1 (.tmp 38) (.tmp 37), none, []⟩] [37, 38])
    (.region [
     ⟨some 39, .mov (.tmp 4), none, []⟩, 
     ⟨some 40, .loadA 4 (.tmp 6), none, []⟩, 
     ⟨some 41, .buildSlice 32 4 (.agg [(.int .u8 0), (.str []), (.int .u64 0), (.int .i64 0)]) 1 [(0, (.tmp 40))], none, []⟩, 
     ⟨some 42, .append 32 4 40 (.tmp 39) (.tmp 41), none, []⟩, 
     ⟨some 43, .mov (.tmp 5), none, []⟩, 
     ⟨some 44, .mov (.tmp 7), none, []⟩, 
     ⟨some 45, .bin .add (.tmp 43) (.tmp 44), none, []⟩, 
     ⟨some 4, .mov (.tmp 42), none, []⟩, 
     ⟨some 5, .mov (.tmp 45), none, []⟩] [39, 40, 41, 42, 43, 44, 45]))))))))))
 (.seq (.region [
  ⟨some 46, .mov (.tmp 4), none, []⟩, 
  ⟨some 47, .build [(.int .i64 0), (.int .i64 0)] [], none, []⟩, 
  ⟨some 2, .mov (.tmp 46), none, []⟩, 
  ⟨none, .store 2 (.tmp 3) (.tmp 47), none, []⟩] [46, 47])
 (.ret)))))
theorem ok6 : erase c6 = cCode Tryd.prog 48 ((Tryd.f6).body.getD .skip) := by kernel_rfl
theorem ord6 : ordsOk c6 = true := by kernel_rfl
theorem call6 {args : List SV} {h : Heap} {R : AEnd → Heap → Prop} (hn : Nat.ble args.length 48 = true) (hp : awp Tryd.prog c6 (finQ [.tmp 2, .cellA 3 2] R) (argEnv 0 args) h) : ACall Tryd.prog 6 args h R :=
  acall_of_awp mixed Tryd.func6 rfl ord6 ok6 (by kernel_rfl) hn hp
def t6 : Tab := ⟨48, c6, [.tmp 2, .cellA 3 2]⟩
theorem tab6 : TabOk Tryd.prog 6 t6 := tabOk Tryd.func6 rfl ord6 ok6 (by kernel_rfl) rfl

def c8r6 : List AOper := [
 ⟨some 17, .mov (.tmp 0), none, []⟩, 
 ⟨some 18, .mov (.tmp 5), none, []⟩, 
 ⟨some 19, .indexAddr 4 (.tmp 17) (.tmp 18), none, [0, 1]⟩, 
 ⟨some 20, .loadA 4 (.tmp 19), none, [2]⟩, 
 ⟨some 21, .mov (.tmp 1), none, []⟩, 
 ⟨some 22, .mov (.tmp 5), none, []⟩, 
 ⟨some 23, .indexAddr 4 (.tmp 21) (.tmp 22), none, [4, 5]⟩, 
 ⟨some 24, .loadA 4 (.tmp 23), none, [6]⟩, 
 ⟨some 25, .eqA true [.int, .str, .int, .int] (.tmp 20) (.tmp 24), none, [3, 7]⟩]
/-- stagepost/stagepostlaw13.same -/
def c8 : ACode :=
 .seq (.region [
  ⟨some 4, .mov (.const (.bool false)), none, []⟩] [])
 (.seq (.seq (.region [
  ⟨some 6, .mov (.tmp 0), none, []⟩, 
  ⟨some 7, .len false (.tmp 6), none, []⟩, 
  ⟨some 8, .mov (.tmp 1), none, []⟩, 
  ⟨some 9, .len false (.tmp 8), none, []⟩, 
  ⟨some 10, .bin .neq (.tmp 7) (.tmp 9), none, []⟩] [6, 7, 8, 9])
 (.cond (.tmp 10)
  (.seq (.region [
   ⟨some 4, .mov (.const (.bool false)), none, []⟩] [])
  (.ret))
  (.skip)))
 (.seq (.seq (.region [
  ⟨some 5, .mov (.const (.int .i64 0)), none, []⟩] [])
 (.block 0 (.loop (.seq (.seq (.region [
    ⟨some 11, .mov (.tmp 5), none, []⟩, 
    ⟨some 12, .mov (.tmp 0), none, []⟩, 
    ⟨some 13, .len false (.tmp 12), none, []⟩, 
    ⟨some 14, .bin .lss (.tmp 11) (.tmp 13), none, []⟩] [11, 12, 13])
   (.cond (.tmp 14)
    (.skip)
    (.exit 0)))
   (.seq (.block 1 (.seq (.dregion c8r6 [(0, false, []), (1, false, []), (2, false, []), (3, false, []), (4, false, []), (5, false, []), (6, false, []), (7, false, []), (8, false, [])] [17, 18, 19, 20, 21, 22, 23, 24])
    (.cond (.tmp 25)
     (.seq (.region [
      ⟨some 4, .mov (.const (.bool false)), none, []⟩] [])
     (.ret))
     (.skip))))
   (.region [
    ⟨some 15, .mov (.tmp 5), none, []⟩, 
    ⟨some 16, .bin .add (.tmp 15) (.const (.int .i64 1)), none, []⟩, 
    ⟨some 5, .mov (.tmp 16), none, []⟩] [15, 16]))))))
 (.seq (.region [
  ⟨some 4, .mov (.const (.bool true)), none, []⟩] [])
 (.ret))))
theorem ok8 : erase c8 = cCode Tryd.prog 26 ((Tryd.f8).body.getD .skip) := by kernel_rfl
theorem ord8 : ordsOk c8 = true := by kernel_rfl
theorem call8 {args : List SV} {h : Heap} {R : AEnd → Heap → Prop} (hn : Nat.ble args.length 26 = true) (hp : awp Tryd.prog c8 (finQ [.tmp 4] R) (argEnv 0 args) h) : ACall Tryd.prog 8 args h R :=
  acall_of_awp mixed Tryd.func8 rfl ord8 ok8 (by kernel_rfl) hn hp
def t8 : Tab := ⟨26, c8, [.tmp 4]⟩
theorem tab8 : TabOk Tryd.prog 8 t8 := tabOk Tryd.func8 rfl ord8 ok8 (by kernel_rfl) rfl

/-- stagepost/stagepostlaw13.placed -/
def c9 : ACode :=
 .seq (.region [
  ⟨some 2, .mov (.const .nils), none, []⟩] [])
 (.seq (.region [
  ⟨some 5, .buildSlice 32 4 (.agg [(.int .u8 0), (.str []), (.int .u64 0), (.int .i64 0)]) 0 [], none, []⟩, 
  ⟨some 6, .mov (.tmp 0), none, []⟩, 
  ⟨some 7, .append 32 4 40 (.tmp 5) (.tmp 6), none, []⟩, 
  ⟨some 3, .mov (.tmp 7), none, []⟩] [5, 6, 7])
 (.seq (.seq (.region [
  ⟨some 4, .mov (.const (.int .i64 0)), none, []⟩] [])
 (.block 0 (.loop (.seq (.seq (.region [
    ⟨some 8, .mov (.tmp 4), none, []⟩, 
    ⟨some 9, .mov (.tmp 3), none, []⟩, 
    ⟨some 10, .len false (.tmp 9), none, []⟩, 
    ⟨some 11, .bin .lss (.tmp 8) (.tmp 10), none, []⟩] [8, 9, 10])
   (.cond (.tmp 11)
    (.skip)
    (.exit 0)))
   (.seq (.block 1 (.region [
     ⟨some 14, .mov (.tmp 3), none, []⟩, 
     ⟨some 15, .mov (.tmp 4), none, []⟩, 
     ⟨some 16, .indexAddr 4 (.tmp 14) (.tmp 15), none, []⟩, 
     ⟨some 17, .fieldAddr 3 (.tmp 16), none, []⟩, 
     ⟨none, .store 1 (.tmp 17) (.const (.int .i64 0)), none, []⟩] [14, 15, 16, 17]))
   (.region [
    ⟨some 12, .mov (.tmp 4), none, []⟩, 
    ⟨some 13, .bin .add (.tmp 12) (.const (.int .i64 1)), none, []⟩, 
    ⟨some 4, .mov (.tmp 13), none, []⟩] [12, 13]))))))
 (.seq (.region [
  ⟨some 18, .mov (.tmp 3), none, []⟩, 
  ⟨some 2, .mov (.tmp 18), none, []⟩] [18])
 (.ret))))
theorem ok9 : erase c9 = cCode Tryd.prog 19 ((Tryd.f9).body.getD .skip) := by kernel_rfl
theorem ord9 : ordsOk c9 = true := by kernel_rfl
theorem call9 {args : List SV} {h : Heap} {R : AEnd → Heap → Prop} (hn : Nat.ble args.length 19 = true) (hp : awp Tryd.prog c9 (finQ [.tmp 2] R) (argEnv 0 args) h) : ACall Tryd.prog 9 args h R :=
  acall_of_awp mixed Tryd.func9 rfl ord9 ok9 (by kernel_rfl) hn hp
def t9 : Tab := ⟨19, c9, [.tmp 2]⟩
theorem tab9 : TabOk Tryd.prog 9 t9 := tabOk Tryd.func9 rfl ord9 ok9 (by kernel_rfl) rfl

/-- stagepost/lexer.Text -/
def c10 : ACode :=
 .seq (.region [
  ⟨some 2, .mov (.const (.str [])), none, []⟩, 
  ⟨some 3, .box 26 2 (.const (.agg [(.int .i64 0), (.int .i64 0)])), none, []⟩] [])
 (.seq (.region [
  ⟨some 7, .mov (.tmp 0), none, []⟩, 
  ⟨some 8, .len false (.tmp 7), none, []⟩, 
  ⟨some 9, .makeSlice 9 1 16 (.str []) (.tmp 8) (.tmp 8), none, []⟩, 
  ⟨some 4, .mov (.tmp 9), none, []⟩] [7, 8, 9])
 (.seq (.seq (.region [
  ⟨some 10, .mov (.tmp 0), none, []⟩, 
  ⟨some 11, .len false (.tmp 10), none, []⟩, 
  ⟨some 12, .mov (.const (.int .i64 0)), none, []⟩] [])
 (.block 0 (.loop (.seq (.region [
    ⟨some 13, .bin .lss (.tmp 12) (.tmp 11), none, []⟩] [])
   (.seq (.cond (.tmp 13)
    (.skip)
    (.exit 0))
   (.seq (.block 1 (.seq (.region [
     ⟨some 14, .mov (.tmp 12), none, []⟩, 
     ⟨some 15, .indexAddr 4 (.tmp 10) (.tmp 12), none, []⟩, 
     ⟨some 16, .loadA 4 (.tmp 15), none, []⟩, 
     ⟨some 6, .box 32 4 (.const (.agg [(.int .u8 0), (.str []), (.int .u64 0), (.int .i64 0)])), none, []⟩, 
     ⟨some 5, .mov (.tmp 14), none, []⟩, 
     ⟨none, .store 4 (.tmp 6) (.tmp 16), none, []⟩] [14, 15, 16])
    (.seq (.seq (.region [
     ⟨some 17, .loadA 4 (.tmp 6), none, []⟩, 
     ⟨some 18, .call 19 [(.tmp 17)], none, []⟩, 
     ⟨some 19, .un .not (.tmp 18), none, []⟩] [17, 18])
    (.cond (.tmp 19)
     (.seq (.region [
      ⟨some 20, .mov (.tmp 5), none, []⟩, 
      ⟨some 21, .build [(.int .i64 0), (.int .i64 0)] [(0, 1, (.const (.int .i64 2))), (1, 1, (.tmp 20))], none, []⟩, 
      ⟨some 2, .mov (.const (.str [])), none, []⟩, 
      ⟨none, .store 2 (.tmp 3) (.tmp 21), none, []⟩] [20, 21])
     (.ret))
     (.skip)))
    (.region [
     ⟨some 22, .mov (.tmp 4), none, []⟩, 
     ⟨some 23, .mov (.tmp 5), none, []⟩, 
     ⟨some 24, .loadA 4 (.tmp 6), none, []⟩, 
     ⟨some 25, .call 20 [(.tmp 24)], none, []⟩, 
     ⟨some 26, .indexAddr 1 (.tmp 22) (.tmp 23), none, []⟩, 
     ⟨none, .store 1 (.tmp 26) (.tmp 25), none, []⟩] [22, 23, 24, 25, 26]))))
   (.region [
    ⟨some 27, .bin .add (.tmp 12) (.const (.int .i64 1)), none, []⟩, 
    ⟨some 12, .mov (.tmp 27), none, []⟩] [27])))))))
 (.seq (.region [
  ⟨some 28, .mov (.tmp 4), none, []⟩, 
  ⟨some 29, .call 21 [(.tmp 28), (.const (.str [32]))], none, []⟩, 
  ⟨some 30, .build [(.int .i64 0), (.int .i64 0)] [], none, []⟩, 
  ⟨some 2, .mov (.tmp 29), none, []⟩, 
  ⟨none, .store 2 (.tmp 3) (.tmp 30), none, []⟩] [28, 29, 30])
 (.ret))))
theorem ok10 : erase c10 = cCode Tryd.prog 31 ((Tryd.f10).body.getD .skip) := by kernel_rfl
theorem ord10 : ordsOk c10 = true := by kernel_rfl
theorem call10 {args : List SV} {h : Heap} {R : AEnd → Heap → Prop} (hn : Nat.ble args.length 31 = true) (hp : awp Tryd.prog c10 (finQ [.tmp 2, .cellA 3 2] R) (argEnv 0 args) h) : ACall Tryd.prog 10 args h R :=
  acall_of_awp mixed Tryd.func10 rfl ord10 ok10 (by kernel_rfl) hn hp
def t10 : Tab := ⟨31, c10, [.tmp 2, .cellA 3 2]⟩
theorem tab10 : TabOk Tryd.prog 10 t10 := tabOk Tryd.func10 rfl ord10 ok10 (by kernel_rfl) rfl

/-- strings.IndexByte -/
def c11 : ACode :=
 .seq (.region [
  ⟨some 4, .mov (.const (.int .i64 0)), none, []⟩] [])
 (.seq (.region [
  ⟨some 5, .mov (.tmp 0), none, []⟩, 
  ⟨some 6, .mov (.tmp 1), none, []⟩, 
  ⟨some 7, .call 22 [(.tmp 5), (.tmp 6)], none, []⟩, 
  ⟨some 4, .mov (.tmp 7), none, []⟩] [5, 6, 7])
 (.ret))
theorem ok11 : erase c11 = cCode Tryd.prog 8 ((Tryd.f11).body.getD .skip) := by kernel_rfl
theorem ord11 : ordsOk c11 = true := by kernel_rfl
theorem call11 {args : List SV} {h : Heap} {R : AEnd → Heap → Prop} (hn : Nat.ble args.length 8 = true) (hp : awp Tryd.prog c11 (finQ [.tmp 4] R) (argEnv 0 args) h) : ACall Tryd.prog 11 args h R :=
  acall_of_awp mixed Tryd.func11 rfl ord11 ok11 (by kernel_rfl) hn hp
def t11 : Tab := ⟨8, c11, [.tmp 4]⟩
theorem tab11 : TabOk Tryd.prog 11 t11 := tabOk Tryd.func11 rfl ord11 ok11 (by kernel_rfl) rfl

/-- stagepost/lexer.one -/
def c12 : ACode :=
 .seq (.region [
  ⟨some 2, .box 32 4 (.const (.agg [(.int .u8 0), (.str []), (.int .u64 0), (.int .i64 0)])), none, []⟩, 
  ⟨some 3, .mov (.const (.int .i64 0)), none, []⟩, 
  ⟨some 4, .mov (.const (.int .i64 0)), none, []⟩] [])
 (.seq (.seq (.region [
  ⟨some 8, .mov (.tmp 0), none, []⟩, 
  ⟨some 9, .index (.tmp 8) (.const (.int .i64 0)), none, []⟩, 
  ⟨some 5, .mov (.tmp 9), none, []⟩] [8, 9])
 (.block 0 (.seq (.region [
   ⟨some 11, .mov (.tmp 5), none, []⟩, 
   ⟨some 12, .call 23 [(.tmp 11)], none, []⟩, 
   ⟨some 10, .mov (.tmp 12), none, []⟩] [11, 12])
  (.cond (.tmp 10)
   (.seq (.region [
    ⟨some 13, .mov (.tmp 0), none, []⟩, 
    ⟨some 14, .call 24 [(.tmp 13)], none, []⟩, 
    ⟨some 15, .extract (.tmp 14) 0, none, []⟩, 
    ⟨some 16, .extract (.tmp 14) 1, none, []⟩, 
    ⟨some 17, .extract (.tmp 14) 2, none, []⟩, 
    ⟨none, .store 4 (.tmp 2) (.tmp 15), none, []⟩, 
    ⟨some 3, .mov (.tmp 16), none, []⟩, 
    ⟨some 4, .mov (.tmp 17), none, []⟩] [13, 14, 15, 16, 17])
   (.ret))
   (.seq (.region [
    ⟨some 19, .mov (.tmp 5), none, []⟩, 
    ⟨some 20, .call 25 [(.tmp 19)], none, []⟩, 
    ⟨some 18, .mov (.tmp 20), none, []⟩] [19, 20])
   (.cond (.tmp 18)
    (.seq (.region [
     ⟨some 21, .mov (.tmp 0), none, []⟩, 
     ⟨some 22, .call 26 [(.tmp 21)], none, []⟩, 
     ⟨some 23, .extract (.tmp 22) 0, none, []⟩, 
     ⟨some 24, .extract (.tmp 22) 1, none, []⟩, 
     ⟨some 25, .extract (.tmp 22) 2, none, []⟩, 
     ⟨none, .store 4 (.tmp 2) (.tmp 23), none, []⟩, 
     ⟨some 3, .mov (.tmp 24), none, []⟩, 
     ⟨some 4, .mov (.tmp 25), none, []⟩] [21, 22, 23, 24, 25])
    (.ret))
    (.seq (.region [
     ⟨some 27, .mov (.tmp 5), none, []⟩, 
     ⟨some 28, .bin .eql (.tmp 27) (.const (.int .u8 39)), none, []⟩, 
     ⟨some 26, .mov (.tmp 28), none, []⟩] [27, 28])
    (.cond (.tmp 26)
     (.seq (.region [
      ⟨some 29, .mov (.tmp 0), none, []⟩, 
      ⟨some 30, .call 27 [(.tmp 29)], none, []⟩, 
      ⟨some 31, .extract (.tmp 30) 0, none, []⟩, 
      ⟨some 32, .extract (.tmp 30) 1, none, []⟩, 
      ⟨some 33, .extract (.tmp 30) 2, none, []⟩, 
      ⟨none, .store 4 (.tmp 2) (.tmp 31), none, []⟩, 
      ⟨some 3, .mov (.tmp 32), none, []⟩, 
      ⟨some 4, .mov (.tmp 33), none, []⟩] [29, 30, 31, 32, 33])
     (.ret))
     (.skip)))))))))
 (.seq (.seq (.region [
  ⟨some 34, .call 28 [], none, []⟩, 
  ⟨some 35, .len false (.tmp 34), none, []⟩, 
  ⟨some 36, .mov (.const (.int .i64 0)), none, []⟩] [])
 (.block 1 (.loop (.seq (.region [
    ⟨some 37, .bin .lss (.tmp 36) (.tmp 35), none, []⟩] [])
   (.seq (.cond (.tmp 37)
    (.skip)
    (.exit 1))
   (.seq (.block 2 (.seq (.region [
     ⟨some 38, .indexAddr 1 (.tmp 34) (.tmp 36), none, []⟩, 
     ⟨some 39, .loadS (.tmp 38), none, []⟩, 
     ⟨some 7, .mov (.tmp 39), none, []⟩] [38, 39])
    (.seq (.region [
     ⟨some 40, .mov (.tmp 0), none, []⟩, 
     ⟨some 41, .mov (.tmp 7), none, []⟩, 
     ⟨some 42, .call 29 [(.tmp 40), (.tmp 41)], none, []⟩] [40, 41])
    (.cond (.tmp 42)
     (.seq (.region [
      ⟨some 43, .mov (.tmp 7), none, []⟩, 
      ⟨some 44, .build [(.int .u8 0), (.str []), (.int .u64 0), (.int .i64 0)] [(0, 1, (.const (.int .u8 4))), (1, 1, (.tmp 43))], none, []⟩, 
      ⟨some 45, .mov (.tmp 7), none, []⟩, 
      ⟨some 46, .len true (.tmp 45), none, []⟩, 
      ⟨none, .store 4 (.tmp 2) (.tmp 44), none, []⟩, 
      ⟨some 3, .mov (.tmp 46), none, []⟩, 
      ⟨some 4, .mov (.const (.int .i64 0)), none, []⟩] [43, 44, 45, 46])
     (.ret))
     (.skip)))))
   (.region [
    ⟨some 47, .bin .add (.tmp 36) (.const (.int .i64 1)), none, []⟩, 
    ⟨some 36, .mov (.tmp 47), none, []⟩] [47])))))))
 (.seq (.region [
  ⟨some 48, .build [(.int .u8 0), (.str []), (.int .u64 0), (.int .i64 0)] [], none, []⟩, 
  ⟨none, .store 4 (.tmp 2) (.tmp 48), none, []⟩, 
  ⟨some 3, .mov (.const (.int .i64 0)), none, []⟩, 
  ⟨some 4, .mov (.const (.int .i64 230)), none, []⟩] [48])
 (.ret))))
theorem ok12 : erase c12 = cCode Tryd.prog 49 ((Tryd.f12).body.getD .skip) := by kernel_rfl
theorem ord12 : ordsOk c12 = true := by kernel_rfl
theorem call12 {args : List SV} {h : Heap} {R : AEnd → Heap → Prop} (hn : Nat.ble args.length 49 = true) (hp : awp Tryd.prog c12 (finQ [.cellA 2 4, .tmp 3, .tmp 4] R) (argEnv 0 args) h) : ACall Tryd.prog 12 args h R :=
  acall_of_awp mixed Tryd.func12 rfl ord12 ok12 (by kernel_rfl) hn hp
def t12 : Tab := ⟨49, c12, [.cellA 2 4, .tmp 3, .tmp 4]⟩
theorem tab12 : TabOk Tryd.prog 12 t12 := tabOk Tryd.func12 rfl ord12 ok12 (by kernel_rfl) rfl

def c13r3 : List AOper := [
 ⟨some 9, .mov (.tmp 0), none, []⟩, 
 ⟨some 10, .nilChk (.tmp 9), none, [0]⟩, 
 ⟨some 11, .fieldAddr 1 (.tmp 10), none, [1]⟩, 
 ⟨some 12, .loadS (.tmp 11), none, [2]⟩, 
 ⟨some 13, .capOf (.tmp 12), none, [3]⟩, 
 ⟨some 14, .mov (.tmp 0), none, []⟩, 
 ⟨some 15, .nilChk (.tmp 14), none, [5]⟩, 
 ⟨some 16, .fieldAddr 1 (.tmp 15), none, [6]⟩, 
 ⟨some 17, .loadS (.tmp 16), none, [7]⟩, 
 ⟨some 18, .len false (.tmp 17), none, [8]⟩, 
 ⟨some 19, .bin .sub (.tmp 13) (.tmp 18), none, [4, 9]⟩, 
 ⟨some 20, .mov (.tmp 1), none, []⟩, 
 ⟨some 21, .bin .lss (.tmp 19) (.tmp 20), none, [10, 11]⟩]
/-- (*strings.Builder).Grow -/
def c13 : ACode :=
 .seq (.region [
  ⟨some 4, .mov (.tmp 0), none, []⟩, 
  ⟨some 5, .call 30 [(.tmp 4)], none, []⟩] [4, 5])
 (.seq (.seq (.region [
  ⟨some 6, .mov (.tmp 1), none, []⟩, 
  ⟨some 7, .bin .lss (.tmp 6) (.const (.int .i64 0)), none, []⟩] [6])
 (.cond (.tmp 7)
  (.region [
   ⟨some 8, .mkIface 9 (.const (.str [115, 116, 114, 105, 110, 103, 115, 46, 66, 117, 105, 108, 100, 101, 114, 46, 71, 114, 111, 119, 58, 32, 110, 101, 103, 97, 116, 105, 118, 101, 32, 99, 111, 117, 110, 116])), none, []⟩, 
   ⟨none, .panic (.tmp 8), none, []⟩] [8])
  (.skip)))
 (.seq (.dregion c13r3 [(0, false, []), (1, false, []), (2, false, []), (3, false, []), (4, false, []), (5, false, []), (6, false, []), (7, false, []), (8, false, []), (9, false, []), (10, false, []), (11, false, []), (12, false, [])] [9, 10, 11, 12, 13, 14, 15, 16, 17, 18, 19, 20])
 (.cond (.tmp 21)
  (.region [
   ⟨some 22, .mov (.tmp 0), none, []⟩, 
   ⟨some 23, .mov (.tmp 1), none, []⟩, 
   ⟨some 24, .call 31 [(.tmp 22), (.tmp 23)], none, []⟩] [22, 23, 24])
  (.skip))))
theorem ok13 : erase c13 = cCode Tryd.prog 25 ((Tryd.f13).body.getD .skip) := by kernel_rfl
theorem ord13 : ordsOk c13 = true := by kernel_rfl
theorem call13 {args : List SV} {h : Heap} {R : AEnd → Heap → Prop} (hn : Nat.ble args.length 25 = true) (hp : awp Tryd.prog c13 (finQ [] R) (argEnv 0 args) h) : ACall Tryd.prog 13 args h R :=
  acall_of_awp mixed Tryd.func13 rfl ord13 ok13 (by kernel_rfl) hn hp
def t13 : Tab := ⟨25, c13, []⟩
theorem tab13 : TabOk Tryd.prog 13 t13 := tabOk Tryd.func13 rfl ord13 ok13 (by kernel_rfl) rfl

/-- (*strings.Builder).WriteString -/
def c14 : ACode :=
 .seq (.region [
  ⟨some 4, .mov (.const (.int .i64 0)), none, []⟩, 
  ⟨some 5, .mov (.const .nili), none, []⟩] [])
 (.seq (.region [
  ⟨some 6, .mov (.tmp 0), none, []⟩, 
  ⟨some 7, .call 30 [(.tmp 6)], none, []⟩] [6, 7])
 (.seq (.region [
  ⟨some 8, .mov (.tmp 0), none, []⟩, 
  ⟨some 9, .mov (.tmp 0), none, []⟩, 
  ⟨some 10, .nilChk (.tmp 9), none, []⟩, 
  ⟨some 11, .fieldAddr 1 (.tmp 10), none, []⟩, 
  ⟨some 12, .loadS (.tmp 11), none, []⟩, 
  ⟨some 13, .mov (.tmp 1), none, []⟩, 
  ⟨some 14, .append 5 1 1 (.tmp 12) (.tmp 13), none, []⟩, 
  ⟨some 15, .nilChk (.tmp 8), none, []⟩, 
  ⟨some 16, .fieldAddr 1 (.tmp 15), none, []⟩, 
  ⟨none, .store 1 (.tmp 16) (.tmp 14), none, []⟩] [8, 9, 10, 11, 12, 13, 14, 15, 16])
 (.seq (.region [
  ⟨some 17, .mov (.tmp 1), none, []⟩, 
  ⟨some 18, .len true (.tmp 17), none, []⟩, 
  ⟨some 4, .mov (.tmp 18), none, []⟩, 
  ⟨some 5, .mov (.const .nili), none, []⟩] [17, 18])
 (.ret))))
theorem ok14 : erase c14 = cCode Tryd.prog 19 ((Tryd.f14).body.getD .skip) := by kernel_rfl
theorem ord14 : ordsOk c14 = true := by kernel_rfl
theorem call14 {args : List SV} {h : Heap} {R : AEnd → Heap → Prop} (hn : Nat.ble args.length 19 = true) (hp : awp Tryd.prog c14 (finQ [.tmp 4, .tmp 5] R) (argEnv 0 args) h) : ACall Tryd.prog 14 args h R :=
  acall_of_awp mixed Tryd.func14 rfl ord14 ok14 (by kernel_rfl) hn hp
def t14 : Tab := ⟨19, c14, [.tmp 4, .tmp 5]⟩
theorem tab14 : TabOk Tryd.prog 14 t14 := tabOk Tryd.func14 rfl ord14 ok14 (by kernel_rfl) rfl

/-- (*strings.Builder).WriteByte -/
def c15 : ACode :=
 .seq (.region [
  ⟨some 4, .mov (.const .nili), none, []⟩] [])
 (.seq (.region [
  ⟨some 5, .mov (.tmp 0), none, []⟩, 
  ⟨some 6, .call 30 [(.tmp 5)], none, []⟩] [5, 6])
 (.seq (.region [
  ⟨some 7, .mov (.tmp 0), none, []⟩, 
  ⟨some 8, .mov (.tmp 0), none, []⟩, 
  ⟨some 9, .nilChk (.tmp 8), none, []⟩, 
  ⟨some 10, .fieldAddr 1 (.tmp 9), none, []⟩, 
  ⟨some 11, .loadS (.tmp 10), none, []⟩, 
  ⟨some 12, .mov (.tmp 1), none, []⟩, 
  ⟨some 13, .buildSlice 5 1 (.int .u8 0) 1 [(0, (.tmp 12))], none, []⟩, 
  ⟨some 14, .append 5 1 1 (.tmp 11) (.tmp 13), none, []⟩, 
  ⟨some 15, .nilChk (.tmp 7), none, []⟩, 
  ⟨some 16, .fieldAddr 1 (.tmp 15), none, []⟩, 
  ⟨none, .store 1 (.tmp 16) (.tmp 14), none, []⟩] [7, 8, 9, 10, 11, 12, 13, 14, 15, 16])
 (.seq (.region [
  ⟨some 4, .mov (.const .nili), none, []⟩] [])
 (.ret))))
theorem ok15 : erase c15 = cCode Tryd.prog 17 ((Tryd.f15).body.getD .skip) := by kernel_rfl
theorem ord15 : ordsOk c15 = true := by kernel_rfl
theorem call15 {args : List SV} {h : Heap} {R : AEnd → Heap → Prop} (hn : Nat.ble args.length 17 = true) (hp : awp Tryd.prog c15 (finQ [.tmp 4] R) (argEnv 0 args) h) : ACall Tryd.prog 15 args h R :=
  acall_of_awp mixed Tryd.func15 rfl ord15 ok15 (by kernel_rfl) hn hp
def t15 : Tab := ⟨17, c15, [.tmp 4]⟩
theorem tab15 : TabOk Tryd.prog 15 t15 := tabOk Tryd.func15 rfl ord15 ok15 (by kernel_rfl) rfl

def c16r1 : List AOper := [
 ⟨some 3, .mov (.tmp 0), none, []⟩, 
 ⟨some 4, .nilChk (.tmp 3), none, [0]⟩, 
 ⟨some 5, .fieldAddr 1 (.tmp 4), none, [1]⟩, 
 ⟨some 6, .loadS (.tmp 5), none, [2]⟩, 
 ⟨some 7, .sliceData (.tmp 6), none, [3]⟩, 
 ⟨some 8, .mov (.tmp 0), none, []⟩, 
 ⟨some 9, .nilChk (.tmp 8), none, [5]⟩, 
 ⟨some 10, .fieldAddr 1 (.tmp 9), none, [6]⟩, 
 ⟨some 11, .loadS (.tmp 10), none, [7]⟩, 
 ⟨some 12, .len false (.tmp 11), none, [8]⟩, 
 ⟨some 13, .unsStr 5 (.tmp 7) (.tmp 12), none, [4, 9]⟩, 
 ⟨some 2, .mov (.tmp 13), none, [10, 0, 1, 2, 3, 4, 5, 6, 7, 8, 9, 10]⟩]
/-- (*strings.Builder).String -/
def c16 : ACode :=
 .seq (.region [
  ⟨some 2, .mov (.const (.str [])), none, []⟩] [])
 (.seq (.dregion c16r1 [(0, false, []), (1, false, []), (2, false, []), (3, false, []), (4, false, []), (5, false, []), (6, false, []), (7, false, []), (8, false, []), (9, false, []), (10, true, []), (11, false, [])] [3, 4, 5, 6, 7, 8, 9, 10, 11, 12, 13])
 (.ret))
theorem ok16 : erase c16 = cCode Tryd.prog 14 ((Tryd.f16).body.getD .skip) := by kernel_rfl
theorem ord16 : ordsOk c16 = true := by kernel_rfl
theorem call16 {args : List SV} {h : Heap} {R : AEnd → Heap → Prop} (hn : Nat.ble args.length 14 = true) (hp : awp Tryd.prog c16 (finQ [.tmp 2] R) (argEnv 0 args) h) : ACall Tryd.prog 16 args h R :=
  acall_of_awp mixed Tryd.func16 rfl ord16 ok16 (by kernel_rfl) hn hp
def t16 : Tab := ⟨14, c16, [.tmp 2]⟩
theorem tab16 : TabOk Tryd.prog 16 t16 := tabOk Tryd.func16 rfl ord16 ok16 (by kernel_rfl) rfl

def c19r8 : List AOper := [
 ⟨some 60, .loadA 2 (.tmp 4), none, []⟩, 
 ⟨some 61, .build [(.int .i64 0), (.int .i64 0)] [], none, []⟩, 
 ⟨some 62, .eqA false [.int, .int] (.tmp 60) (.tmp 61), none, [0, 1]⟩, 
 ⟨some 63, .mov (.tmp 62), none, [2]⟩, 
 ⟨some 64, .mov (.tmp 3), (some (63, true)), [3]⟩, 
 ⟨some 65, .len false (.tmp 64), (some (63, true)), [4, 3]⟩, 
 ⟨some 66, .bin .eql (.tmp 65) (.const (.int .i64 1)), (some (63, true)), [5, 3]⟩, 
 ⟨some 67, .pick (.tmp 63) (.tmp 66) (.const (.bool false)), none, [3, 6]⟩, 
 ⟨some 68, .mov (.tmp 67), none, [7, 3]⟩, 
 ⟨some 69, .mov (.tmp 3), (some (68, true)), [8]⟩, 
 ⟨some 70, .indexAddr 4 (.tmp 69) (.const (.int .i64 0)), (some (68, true)), [9, 8]⟩, 
 ⟨some 71, .loadA 4 (.tmp 70), (some (68, true)), [10, 8]⟩, 
 ⟨some 72, .loadA 4 (.tmp 1), (some (68, true)), [8]⟩, 
 ⟨some 73, .eqA false [.int, .str, .int, .int] (.tmp 71) (.tmp 72), (some (68, true)), [11, 12, 8]⟩, 
 ⟨some 74, .pick (.tmp 68) (.tmp 73) (.const (.bool false)), none, [8, 13]⟩, 
 ⟨some 2, .mov (.tmp 74), none, [14, 8, 0, 1, 2, 3, 4, 5, 6, 7, 8, 9, 10, 11, 12, 13, 14]⟩]
/-- stagepost/lexer.fine -/
def c19 : ACode :=
 .seq (.region [
  ⟨some 1, .box 32 4 (.tmp 0), none, []⟩, 
  ⟨some 2, .mov (.const (.bool false)), none, []⟩] [])
 (.seq (.seq (.region [
  ⟨some 5, .fieldAddr 3 (.tmp 1), none, []⟩, 
  ⟨some 6, .loadS (.tmp 5), none, []⟩, 
  ⟨some 7, .bin .neq (.tmp 6) (.const (.int .i64 0)), none, []⟩, 
  ⟨some 8, .mov (.tmp 7), none, []⟩, 
  ⟨some 9, .fieldAddr 0 (.tmp 1), (some (8, false)), []⟩, 
  ⟨some 10, .loadS (.tmp 9), (some (8, false)), []⟩, 
  ⟨some 11, .bin .neq (.tmp 10) (.const (.int .u8 2)), (some (8, false)), []⟩, 
  ⟨some 12, .mov (.tmp 11), (some (8, false)), []⟩, 
  ⟨some 13, .fieldAddr 2 (.tmp 1), (some (12, true)), []⟩, 
  ⟨some 14, .loadS (.tmp 13), (some (12, true)), []⟩, 
  ⟨some 15, .bin .neq (.tmp 14) (.const (.int .u64 0)), (some (12, true)), []⟩, 
  ⟨some 16, .pick (.tmp 12) (.tmp 15) (.const (.bool false)), (some (8, false)), []⟩, 
  ⟨some 17, .pick (.tmp 8) (.const (.bool true)) (.tmp 16), none, []⟩, 
  ⟨some 18, .mov (.tmp 17), none, []⟩, 
  ⟨some 19, .fieldAddr 0 (.tmp 1), (some (18, false)), []⟩, 
  ⟨some 20, .loadS (.tmp 19), (some (18, false)), []⟩, 
  ⟨some 21, .bin .eql (.tmp 20) (.const (.int .u8 0)), (some (18, false)), []⟩, 
  ⟨some 22, .pick (.tmp 18) (.const (.bool true)) (.tmp 21), none, []⟩, 
  ⟨some 23, .mov (.tmp 22), none, []⟩, 
  ⟨some 24, .fieldAddr 0 (.tmp 1), (some (23, false)), []⟩, 
  ⟨some 25, .loadS (.tmp 24), (some (23, false)), []⟩, 
  ⟨some 26, .bin .gtr (.tmp 25) (.const (.int .u8 4)), (some (23, false)), []⟩, 
  ⟨some 27, .pick (.tmp 23) (.const (.bool true)) (.tmp 26), none, []⟩] [5, 6, 7, 8, 9, 10, 11, 12, 13, 14, 15, 16, 17, 18, 19, 20, 21, 22, 23, 24, 25, 26])
 (.cond (.tmp 27)
  (.seq (.region [
   ⟨some 2, .mov (.const (.bool false)), none, []⟩] [])
  (.ret))
  (.skip)))
 (.seq (.seq (.region [
  ⟨some 28, .fieldAddr 0 (.tmp 1), none, []⟩, 
  ⟨some 29, .loadS (.tmp 28), none, []⟩, 
  ⟨some 30, .bin .eql (.tmp 29) (.const (.int .u8 2)), none, []⟩] [28, 29])
 (.cond (.tmp 30)
  (.seq (.region [
   ⟨some 31, .fieldAddr 1 (.tmp 1), none, []⟩, 
   ⟨some 32, .loadS (.tmp 31), none, []⟩, 
   ⟨some 33, .bin .eql (.tmp 32) (.const (.str [])), none, []⟩, 
   ⟨some 34, .mov (.tmp 33), none, []⟩, 
   ⟨some 35, .fieldAddr 2 (.tmp 1), (some (34, true)), []⟩, 
   ⟨some 36, .loadS (.tmp 35), (some (34, true)), []⟩, 
   ⟨some 37, .bin .leq (.tmp 36) (.const (.int .u64 9223372036854775808)), (some (34, true)), []⟩, 
   ⟨some 38, .pick (.tmp 34) (.tmp 37) (.const (.bool false)), none, []⟩, 
   ⟨some 2, .mov (.tmp 38), none, []⟩] [31, 32, 33, 34, 35, 36, 37, 38])
  (.ret))
  (.skip)))
 (.seq (.seq (.region [
  ⟨some 39, .fieldAddr 0 (.tmp 1), none, []⟩, 
  ⟨some 40, .loadS (.tmp 39), none, []⟩, 
  ⟨some 41, .bin .eql (.tmp 40) (.const (.int .u8 3)), none, []⟩, 
  ⟨some 42, .mov (.tmp 41), none, []⟩, 
  ⟨some 43, .fieldAddr 1 (.tmp 1), (some (42, true)), []⟩, 
  ⟨some 44, .loadS (.tmp 43), (some (42, true)), []⟩, 
  ⟨some 45, .len true (.tmp 44), (some (42, true)), []⟩, 
  ⟨some 46, .bin .gtr (.tmp 45) (.const (.int .i64 64)), (some (42, true)), []⟩, 
  ⟨some 47, .mov (.tmp 46), (some (42, true)), []⟩, 
  ⟨some 48, .fieldAddr 1 (.tmp 1), (some (47, false)), []⟩, 
  ⟨some 49, .loadS (.tmp 48), (some (47, false)), []⟩, 
  ⟨some 50, .call 37 [(.tmp 49)], (some (47, false)), []⟩, 
  ⟨some 51, .un .not (.tmp 50), (some (47, false)), []⟩, 
  ⟨some 52, .pick (.tmp 47) (.const (.bool true)) (.tmp 51), (some (42, true)), []⟩, 
  ⟨some 53, .pick (.tmp 42) (.tmp 52) (.const (.bool false)), none, []⟩] [39, 40, 41, 42, 43, 44, 45, 46, 47, 48, 49, 50, 51, 52])
 (.cond (.tmp 53)
  (.seq (.region [
   ⟨some 2, .mov (.const (.bool false)), none, []⟩] [])
  (.ret))
  (.skip)))
 (.seq (.region [
  ⟨some 55, .loadA 4 (.tmp 1), none, []⟩, 
  ⟨some 56, .call 20 [(.tmp 55)], none, []⟩, 
  ⟨some 57, .call 6 [(.tmp 56)], none, []⟩, 
  ⟨some 54, .mov (.tmp 57), none, []⟩, 
  ⟨some 58, .extract (.tmp 54) 0, none, []⟩, 
  ⟨some 59, .extract (.tmp 54) 1, none, []⟩, 
  ⟨some 4, .box 26 2 (.const (.agg [(.int .i64 0), (.int .i64 0)])), none, []⟩, 
  ⟨some 3, .mov (.tmp 58), none, []⟩, 
  ⟨none, .store 2 (.tmp 4) (.tmp 59), none, []⟩] [55, 56, 57, 54, 58, 59])
 (.seq (.dregion c19r8 [(0, false, []), (1, false, []), (2, false, []), (3, false, []), (4, false, []), (5, false, []), (6, false, []), (7, false, []), (8, false, []), (9, false, []), (10, false, []), (11, false, []), (12, false, []), (13, false, []), (14, false, []), (15, false, [])] [60, 61, 62, 63, 64, 65, 66, 67, 68, 69, 70, 71, 72, 73, 74])
 (.ret))))))
theorem ok19 : erase c19 = cCode Tryd.prog 75 ((Tryd.f19).body.getD .skip) := by kernel_rfl
theorem ord19 : ordsOk c19 = true := by kernel_rfl
theorem call19 {args : List SV} {h : Heap} {R : AEnd → Heap → Prop} (hn : Nat.ble args.length 75 = true) (hp : awp Tryd.prog c19 (finQ [.tmp 2] R) (argEnv 0 args) h) : ACall Tryd.prog 19 args h R :=
  acall_of_awp mixed Tryd.func19 rfl ord19 ok19 (by kernel_rfl) hn hp
def t19 : Tab := ⟨75, c19, [.tmp 2]⟩
theorem tab19 : TabOk Tryd.prog 19 t19 := tabOk Tryd.func19 rfl ord19 ok19 (by kernel_rfl) rfl

/-- stagepost/lexer.said -/
def c20 : ACode :=
 .seq (.region [
  ⟨some 1, .box 32 4 (.tmp 0), none, []⟩, 
  ⟨some 2, .mov (.const (.str [])), none, []⟩] [])
 (.seq (.seq (.region [
  ⟨some 3, .fieldAddr 0 (.tmp 1), none, []⟩, 
  ⟨some 4, .loadS (.tmp 3), none, []⟩] [3])
 (.block 0 (.seq (.region [
   ⟨some 6, .bin .eql (.tmp 4) (.const (.int .u8 2)), none, []⟩, 
   ⟨some 5, .mov (.tmp 6), none, []⟩] [6])
  (.cond (.tmp 5)
   (.seq (.region [
    ⟨some 7, .fieldAddr 2 (.tmp 1), none, []⟩, 
    ⟨some 8, .loadS (.tmp 7), none, []⟩, 
    ⟨some 9, .call 38 [(.tmp 8), (.const (.int .i64 10))], none, []⟩, 
    ⟨some 2, .mov (.tmp 9), none, []⟩] [7, 8, 9])
   (.ret))
   (.seq (.region [
    ⟨some 11, .bin .eql (.tmp 4) (.const (.int .u8 3)), none, []⟩, 
    ⟨some 10, .mov (.tmp 11), none, []⟩] [11])
   (.cond (.tmp 10)
    (.seq (.region [
     ⟨some 12, .fieldAddr 1 (.tmp 1), none, []⟩, 
     ⟨some 13, .loadS (.tmp 12), none, []⟩, 
     ⟨some 14, .call 39 [(.tmp 13), (.const (.str [39])), (.const (.str [39, 39]))], none, []⟩, 
     ⟨some 15, .bin .add (.const (.str [39])) (.tmp 14), none, []⟩, 
     ⟨some 16, .bin .add (.tmp 15) (.const (.str [39])), none, []⟩, 
     ⟨some 2, .mov (.tmp 16), none, []⟩] [12, 13, 14, 15, 16])
    (.ret))
    (.skip)))))))
 (.seq (.region [
  ⟨some 17, .fieldAddr 1 (.tmp 1), none, []⟩, 
  ⟨some 18, .loadS (.tmp 17), none, []⟩, 
  ⟨some 2, .mov (.tmp 18), none, []⟩] [17, 18])
 (.ret)))
theorem ok20 : erase c20 = cCode Tryd.prog 19 ((Tryd.f20).body.getD .skip) := by kernel_rfl
theorem ord20 : ordsOk c20 = true := by kernel_rfl
theorem call20 {args : List SV} {h : Heap} {R : AEnd → Heap → Prop} (hn : Nat.ble args.length 19 = true) (hp : awp Tryd.prog c20 (finQ [.tmp 2] R) (argEnv 0 args) h) : ACall Tryd.prog 20 args h R :=
  acall_of_awp mixed Tryd.func20 rfl ord20 ok20 (by kernel_rfl) hn hp
def t20 : Tab := ⟨19, c20, [.tmp 2]⟩
theorem tab20 : TabOk Tryd.prog 20 t20 := tabOk Tryd.func20 rfl ord20 ok20 (by kernel_rfl) rfl

/-- strings.Join -/
def c21 : ACode :=
 .seq (.region [
  ⟨some 4, .mov (.const (.str [])), none, []⟩] [])
 (.seq (.seq (.region [
  ⟨some 11, .mov (.tmp 0), none, []⟩, 
  ⟨some 12, .len false (.tmp 11), none, []⟩] [11])
 (.block 0 (.seq (.region [
   ⟨some 14, .bin .eql (.tmp 12) (.const (.int .i64 0)), none, []⟩, 
   ⟨some 13, .mov (.tmp 14), none, []⟩] [14])
  (.cond (.tmp 13)
   (.seq (.region [
    ⟨some 4, .mov (.const (.str [])), none, []⟩] [])
   (.ret))
   (.seq (.region [
    ⟨some 16, .bin .eql (.tmp 12) (.const (.int .i64 1)), none, []⟩, 
    ⟨some 15, .mov (.tmp 16), none, []⟩] [16])
   (.cond (.tmp 15)
    (.seq (.region [
     ⟨some 17, .mov (.tmp 0), none, []⟩, 
     ⟨some 18, .indexAddr 1 (.tmp 17) (.const (.int .i64 0)), none, []⟩, 
     ⟨some 19, .loadS (.tmp 18), none, []⟩, 
     ⟨some 4, .mov (.tmp 19), none, []⟩] [17, 18, 19])
    (.ret))
    (.skip)))))))
 (.seq (.region [
  ⟨some 5, .mov (.const (.int .i64 0)), none, []⟩] [])
 (.seq (.seq (.region [
  ⟨some 20, .mov (.tmp 1), none, []⟩, 
  ⟨some 21, .len true (.tmp 20), none, []⟩, 
  ⟨some 22, .bin .gtr (.tmp 21) (.const (.int .i64 0)), none, []⟩] [20, 21])
 (.cond (.tmp 22)
  (.seq (.seq (.region [
   ⟨some 23, .mov (.tmp 1), none, []⟩, 
   ⟨some 24, .len true (.tmp 23), none, []⟩, 
   ⟨some 25, .mov (.tmp 0), none, []⟩, 
   ⟨some 26, .len false (.tmp 25), none, []⟩, 
   ⟨some 27, .bin .sub (.tmp 26) (.const (.int .i64 1)), none, []⟩, 
   ⟨some 28, .bin .quo (.const (.int .i64 9223372036854775807)) (.tmp 27), none, []⟩, 
   ⟨some 29, .bin .geq (.tmp 24) (.tmp 28), none, []⟩] [23, 24, 25, 26, 27, 28])
  (.cond (.tmp 29)
   (.region [
    ⟨some 30, .mkIface 9 (.const (.str [115, 116, 114, 105, 110, 103, 115, 58, 32, 74, 111, 105, 110, 32, 111, 117, 116, 112, 117, 116, 32, 108, 101, 110, 103, 116, 104, 32, 111, 118, 101, 114, 102, 108, 111, 119])), none, []⟩, 
    ⟨none, .panic (.tmp 30), none, []⟩] [30])
   (.skip)))
  (.region [
   ⟨some 31, .mov (.tmp 5), none, []⟩, 
   ⟨some 32, .mov (.tmp 1), none, []⟩, 
   ⟨some 33, .len true (.tmp 32), none, []⟩, 
   ⟨some 34, .mov (.tmp 0), none, []⟩, 
   ⟨some 35, .len false (.tmp 34), none, []⟩, 
   ⟨some 36, .bin .sub (.tmp 35) (.const (.int .i64 1)), none, []⟩, 
   ⟨some 37, .bin .mul (.tmp 33) (.tmp 36), none, []⟩, 
   ⟨some 38, .bin .add (.tmp 31) (.tmp 37), none, []⟩, 
   ⟨some 5, .mov (.tmp 38), none, []⟩] [31, 32, 33, 34, 35, 36, 37, 38]))
  (.skip)))
 (.seq (.seq (.region [
  ⟨some 39, .mov (.tmp 0), none, []⟩, 
  ⟨some 40, .len false (.tmp 39), none, []⟩, 
  ⟨some 41, .mov (.const (.int .i64 0)), none, []⟩] [])
 (.block 1 (.loop (.seq (.region [
    ⟨some 42, .bin .lss (.tmp 41) (.tmp 40), none, []⟩] [])
   (.seq (.cond (.tmp 42)
    (.skip)
    (.exit 1))
   (.seq (.block 2 (.seq (.region [
     ⟨some 43, .indexAddr 1 (.tmp 39) (.tmp 41), none, []⟩, 
     ⟨some 44, .loadS (.tmp 43), none, []⟩, 
     ⟨some 7, .mov (.tmp 44), none, []⟩] [43, 44])
    (.seq (.seq (.region [
     ⟨some 45, .mov (.tmp 7), none, []⟩, 
     ⟨some 46, .len true (.tmp 45), none, []⟩, 
     ⟨some 47, .mov (.tmp 5), none, []⟩, 
     ⟨some 48, .bin .sub (.const (.int .i64 9223372036854775807)) (.tmp 47), none, []⟩, 
     ⟨some 49, .bin .gtr (.tmp 46) (.tmp 48), none, []⟩] [45, 46, 47, 48])
    (.cond (.tmp 49)
     (.region [
      ⟨some 50, .mkIface 9 (.const (.str [115, 116, 114, 105, 110, 103, 115, 58, 32, 74, 111, 105, 110, 32, 111, 117, 116, 112, 117, 116, 32, 108, 101, 110, 103, 116, 104, 32, 111, 118, 101, 114, 102, 108, 111, 119])), none, []⟩, 
      ⟨none, .panic (.tmp 50), none, []⟩] [50])
     (.skip)))
    (.region [
     ⟨some 51, .mov (.tmp 5), none, []⟩, 
     ⟨some 52, .mov (.tmp 7), none, []⟩, 
     ⟨some 53, .len true (.tmp 52), none, []⟩, 
     ⟨some 54, .bin .add (.tmp 51) (.tmp 53), none, []⟩, 
     ⟨some 5, .mov (.tmp 54), none, []⟩] [51, 52, 53, 54]))))
   (.region [
    ⟨some 55, .bin .add (.tmp 41) (.const (.int .i64 1)), none, []⟩, 
    ⟨some 41, .mov (.tmp 55), none, []⟩] [55])))))))
 (.seq (.region [
  ⟨some 8, .box 46 2 (.const (.agg [.nilp, .nils])), none, []⟩] [])
 (.seq (.region [
  ⟨some 56, .mov (.tmp 5), none, []⟩, 
  ⟨some 57, .call 13 [(.tmp 8), (.tmp 56)], none, []⟩] [56, 57])
 (.seq (.region [
  ⟨some 58, .mov (.tmp 0), none, []⟩, 
  ⟨some 59, .indexAddr 1 (.tmp 58) (.const (.int .i64 0)), none, []⟩, 
  ⟨some 60, .loadS (.tmp 59), none, []⟩, 
  ⟨some 61, .call 14 [(.tmp 8), (.tmp 60)], none, []⟩] [58, 59, 60, 61])
 (.seq (.seq (.region [
  ⟨some 62, .mov (.tmp 0), none, []⟩, 
  ⟨some 63, .slice 1 (.tmp 62) (some (.const (.int .i64 1))) none, none, []⟩, 
  ⟨some 64, .len false (.tmp 63), none, []⟩, 
  ⟨some 65, .mov (.const (.int .i64 0)), none, []⟩] [62])
 (.block 3 (.loop (.seq (.region [
    ⟨some 66, .bin .lss (.tmp 65) (.tmp 64), none, []⟩] [])
   (.seq (.cond (.tmp 66)
    (.skip)
    (.exit 3))
   (.seq (.block 4 (.seq (.region [
     ⟨some 67, .indexAddr 1 (.tmp 63) (.tmp 65), none, []⟩, 
     ⟨some 68, .loadS (.tmp 67), none, []⟩, 
     ⟨some 10, .mov (.tmp 68), none, []⟩] [67, 68])
    (.seq (.region [
     ⟨some 69, .mov (.tmp 1), none, []⟩, 
     ⟨some 70, .call 14 [(.tmp 8), (.tmp 69)], none, []⟩] [69, 70])
    (.region [
     ⟨some 71, .mov (.tmp 10), none, []⟩, 
     ⟨some 72, .call 14 [(.tmp 8), (.tmp 71)], none, []⟩] [71, 72]))))
   (.region [
    ⟨some 73, .bin .add (.tmp 65) (.const (.int .i64 1)), none, []⟩, 
    ⟨some 65, .mov (.tmp 73), none, []⟩] [73])))))))
 (.seq (.region [
  ⟨some 74, .call 16 [(.tmp 8)], none, []⟩, 
  ⟨some 4, .mov (.tmp 74), none, []⟩] [74])
 (.ret))))))))))
theorem ok21 : erase c21 = cCode Tryd.prog 75 ((Tryd.f21).body.getD .skip) := by kernel_rfl
theorem ord21 : ordsOk c21 = true := by kernel_rfl
theorem call21 {args : List SV} {h : Heap} {R : AEnd → Heap → Prop} (hn : Nat.ble args.length 75 = true) (hp : awp Tryd.prog c21 (finQ [.tmp 4] R) (argEnv 0 args) h) : ACall Tryd.prog 21 args h R :=
  acall_of_awp mixed Tryd.func21 rfl ord21 ok21 (by kernel_rfl) hn hp
def t21 : Tab := ⟨75, c21, [.tmp 4]⟩
theorem tab21 : TabOk Tryd.prog 21 t21 := tabOk Tryd.func21 rfl ord21 ok21 (by kernel_rfl) rfl

/-- internal/stringslite.IndexByte -/
def c22 : ACode :=
 .seq (.region [
  ⟨some 4, .mov (.const (.int .i64 0)), none, []⟩] [])
 (.seq (.region [
  ⟨some 5, .mov (.tmp 0), none, []⟩, 
  ⟨some 6, .mov (.tmp 1), none, []⟩, 
  ⟨some 7, .ext1 1 (.tmp 5) (.tmp 6), none, []⟩, 
  ⟨some 4, .mov (.tmp 7), none, []⟩] [5, 6, 7])
 (.ret))
theorem ok22 : erase c22 = cCode Tryd.prog 8 ((Tryd.f22).body.getD .skip) := by kernel_rfl
theorem ord22 : ordsOk c22 = true := by kernel_rfl
theorem call22 {args : List SV} {h : Heap} {R : AEnd → Heap → Prop} (hn : Nat.ble args.length 8 = true) (hp : awp Tryd.prog c22 (finQ [.tmp 4] R) (argEnv 0 args) h) : ACall Tryd.prog 22 args h R :=
  acall_of_awp mixed Tryd.func22 rfl ord22 ok22 (by kernel_rfl) hn hp
def t22 : Tab := ⟨8, c22, [.tmp 4]⟩
theorem tab22 : TabOk Tryd.prog 22 t22 := tabOk Tryd.func22 rfl ord22 ok22 (by kernel_rfl) rfl

/-- stagepost/lexer.letter -/
def c23 : ACode :=
 .seq (.region [
  ⟨some 2, .mov (.const (.bool false)), none, []⟩] [])
 (.seq (.region [
  ⟨some 3, .mov (.tmp 0), none, []⟩, 
  ⟨some 4, .bin .or (.tmp 3) (.const (.int .u8 32)), none, []⟩, 
  ⟨some 5, .bin .geq (.tmp 4) (.const (.int .u8 97)), none, []⟩, 
  ⟨some 6, .mov (.tmp 5), none, []⟩, 
  ⟨some 7, .mov (.tmp 0), (some (6, true)), []⟩, 
  ⟨some 8, .bin .or (.tmp 7) (.const (.int .u8 32)), (some (6, true)), []⟩, 
  ⟨some 9, .bin .leq (.tmp 8) (.const (.int .u8 122)), (some (6, true)), []⟩, 
  ⟨some 10, .pick (.tmp 6) (.tmp 9) (.const (.bool false)), none, []⟩, 
  ⟨some 11, .mov (.tmp 10), none, []⟩, 
  ⟨some 12, .mov (.tmp 0), (some (11, false)), []⟩, 
  ⟨some 13, .bin .eql (.tmp 12) (.const (.int .u8 95)), (some (11, false)), []⟩, 
  ⟨some 14, .pick (.tmp 11) (.const (.bool true)) (.tmp 13), none, []⟩, 
  ⟨some 2, .mov (.tmp 14), none, []⟩] [3, 4, 5, 6, 7, 8, 9, 10, 11, 12, 13, 14])
 (.ret))
theorem ok23 : erase c23 = cCode Tryd.prog 15 ((Tryd.f23).body.getD .skip) := by kernel_rfl
theorem ord23 : ordsOk c23 = true := by kernel_rfl
theorem call23 {args : List SV} {h : Heap} {R : AEnd → Heap → Prop} (hn : Nat.ble args.length 15 = true) (hp : awp Tryd.prog c23 (finQ [.tmp 2] R) (argEnv 0 args) h) : ACall Tryd.prog 23 args h R :=
  acall_of_awp mixed Tryd.func23 rfl ord23 ok23 (by kernel_rfl) hn hp
def t23 : Tab := ⟨15, c23, [.tmp 2]⟩
theorem tab23 : TabOk Tryd.prog 23 t23 := tabOk Tryd.func23 rfl ord23 ok23 (by kernel_rfl) rfl

/-- stagepost/lexer.word -/
def c24 : ACode :=
 .seq (.region [
  ⟨some 2, .box 32 4 (.const (.agg [(.int .u8 0), (.str []), (.int .u64 0), (.int .i64 0)])), none, []⟩, 
  ⟨some 3, .mov (.const (.int .i64 0)), none, []⟩, 
  ⟨some 4, .mov (.const (.int .i64 0)), none, []⟩] [])
 (.seq (.region [
  ⟨some 5, .mov (.const (.int .i64 0)), none, []⟩] [])
 (.seq (.block 0 (.loop (.seq (.seq (.region [
    ⟨some 6, .mov (.tmp 5), none, []⟩, 
    ⟨some 7, .mov (.tmp 0), none, []⟩, 
    ⟨some 8, .len true (.tmp 7), none, []⟩, 
    ⟨some 9, .bin .lss (.tmp 6) (.tmp 8), none, []⟩, 
    ⟨some 10, .mov (.tmp 9), none, []⟩, 
    ⟨some 11, .mov (.tmp 0), (some (10, true)), []⟩, 
    ⟨some 12, .mov (.tmp 5), (some (10, true)), []⟩, 
    ⟨some 13, .index (.tmp 11) (.tmp 12), (some (10, true)), []⟩, 
    ⟨some 14, .call 23 [(.tmp 13)], (some (10, true)), []⟩, 
    ⟨some 15, .mov (.tmp 14), (some (10, true)), []⟩, 
    ⟨some 16, .mov (.tmp 0), (some (15, false)), []⟩, 
    ⟨some 17, .mov (.tmp 5), (some (15, false)), []⟩, 
    ⟨some 18, .index (.tmp 16) (.tmp 17), (some (15, false)), []⟩, 
    ⟨some 19, .call 25 [(.tmp 18)], (some (15, false)), []⟩, 
    ⟨some 20, .pick (.tmp 15) (.const (.bool true)) (.tmp 19), (some (10, true)), []⟩, 
    ⟨some 21, .pick (.tmp 10) (.tmp 20) (.const (.bool false)), none, []⟩] [6, 7, 8, 9, 10, 11, 12, 13, 14, 15, 16, 17, 18, 19, 20])
   (.cond (.tmp 21)
    (.skip)
    (.exit 0)))
   (.block 1 (.region [
     ⟨some 22, .mov (.tmp 5), none, []⟩, 
     ⟨some 23, .bin .add (.tmp 22) (.const (.int .i64 1)), none, []⟩, 
     ⟨some 5, .mov (.tmp 23), none, []⟩] [22, 23])))))
 (.seq (.seq (.region [
  ⟨some 24, .mov (.tmp 5), none, []⟩, 
  ⟨some 25, .bin .gtr (.tmp 24) (.const (.int .i64 32)), none, []⟩] [24])
 (.cond (.tmp 25)
  (.seq (.region [
   ⟨some 26, .build [(.int .u8 0), (.str []), (.int .u64 0), (.int .i64 0)] [], none, []⟩, 
   ⟨none, .store 4 (.tmp 2) (.tmp 26), none, []⟩, 
   ⟨some 3, .mov (.const (.int .i64 0)), none, []⟩, 
   ⟨some 4, .mov (.const (.int .i64 3)), none, []⟩] [26])
  (.ret))
  (.skip)))
 (.seq (.region [
  ⟨some 27, .mov (.tmp 0), none, []⟩, 
  ⟨some 28, .mov (.tmp 5), none, []⟩, 
  ⟨some 29, .sliceStr (.tmp 27) none (some (.tmp 28)), none, []⟩, 
  ⟨some 30, .call 41 [(.tmp 29)], none, []⟩, 
  ⟨some 31, .build [(.int .u8 0), (.str []), (.int .u64 0), (.int .i64 0)] [(0, 1, (.const (.int .u8 1))), (1, 1, (.tmp 30))], none, []⟩, 
  ⟨some 32, .mov (.tmp 5), none, []⟩, 
  ⟨none, .store 4 (.tmp 2) (.tmp 31), none, []⟩, 
  ⟨some 3, .mov (.tmp 32), none, []⟩, 
  ⟨some 4, .mov (.const (.int .i64 0)), none, []⟩] [27, 28, 29, 30, 31, 32])
 (.ret)))))
theorem ok24 : erase c24 = cCode Tryd.prog 33 ((Tryd.f24).body.getD .skip) := by kernel_rfl
theorem ord24 : ordsOk c24 = true := by kernel_rfl
theorem call24 {args : List SV} {h : Heap} {R : AEnd → Heap → Prop} (hn : Nat.ble args.length 33 = true) (hp : awp Tryd.prog c24 (finQ [.cellA 2 4, .tmp 3, .tmp 4] R) (argEnv 0 args) h) : ACall Tryd.prog 24 args h R :=
  acall_of_awp mixed Tryd.func24 rfl ord24 ok24 (by kernel_rfl) hn hp
def t24 : Tab := ⟨33, c24, [.cellA 2 4, .tmp 3, .tmp 4]⟩
theorem tab24 : TabOk Tryd.prog 24 t24 := tabOk Tryd.func24 rfl ord24 ok24 (by kernel_rfl) rfl

/-- stagepost/lexer.digit -/
def c25 : ACode :=
 .seq (.region [
  ⟨some 2, .mov (.const (.bool false)), none, []⟩] [])
 (.seq (.region [
  ⟨some 3, .mov (.tmp 0), none, []⟩, 
  ⟨some 4, .bin .geq (.tmp 3) (.const (.int .u8 48)), none, []⟩, 
  ⟨some 5, .mov (.tmp 4), none, []⟩, 
  ⟨some 6, .mov (.tmp 0), (some (5, true)), []⟩, 
  ⟨some 7, .bin .leq (.tmp 6) (.const (.int .u8 57)), (some (5, true)), []⟩, 
  ⟨some 8, .pick (.tmp 5) (.tmp 7) (.const (.bool false)), none, []⟩, 
  ⟨some 2, .mov (.tmp 8), none, []⟩] [3, 4, 5, 6, 7, 8])
 (.ret))
theorem ok25 : erase c25 = cCode Tryd.prog 9 ((Tryd.f25).body.getD .skip) := by kernel_rfl
theorem ord25 : ordsOk c25 = true := by kernel_rfl
theorem call25 {args : List SV} {h : Heap} {R : AEnd → Heap → Prop} (hn : Nat.ble args.length 9 = true) (hp : awp Tryd.prog c25 (finQ [.tmp 2] R) (argEnv 0 args) h) : ACall Tryd.prog 25 args h R :=
  acall_of_awp mixed Tryd.func25 rfl ord25 ok25 (by kernel_rfl) hn hp
def t25 : Tab := ⟨9, c25, [.tmp 2]⟩
theorem tab25 : TabOk Tryd.prog 25 t25 := tabOk Tryd.func25 rfl ord25 ok25 (by kernel_rfl) rfl

/-- stagepost/lexer.number -/
def c26 : ACode :=
 .seq (.region [
  ⟨some 2, .box 32 4 (.const (.agg [(.int .u8 0), (.str []), (.int .u64 0), (.int .i64 0)])), none, []⟩, 
  ⟨some 3, .mov (.const (.int .i64 0)), none, []⟩, 
  ⟨some 4, .mov (.const (.int .i64 0)), none, []⟩] [])
 (.seq (.region [
  ⟨some 5, .mov (.const (.int .i64 0)), none, []⟩] [])
 (.seq (.block 0 (.loop (.seq (.seq (.region [
    ⟨some 8, .mov (.tmp 5), none, []⟩, 
    ⟨some 9, .mov (.tmp 0), none, []⟩, 
    ⟨some 10, .len true (.tmp 9), none, []⟩, 
    ⟨some 11, .bin .lss (.tmp 8) (.tmp 10), none, []⟩, 
    ⟨some 12, .mov (.tmp 11), none, []⟩, 
    ⟨some 13, .mov (.tmp 0), (some (12, true)), []⟩, 
    ⟨some 14, .mov (.tmp 5), (some (12, true)), []⟩, 
    ⟨some 15, .index (.tmp 13) (.tmp 14), (some (12, true)), []⟩, 
    ⟨some 16, .call 25 [(.tmp 15)], (some (12, true)), []⟩, 
    ⟨some 17, .pick (.tmp 12) (.tmp 16) (.const (.bool false)), none, []⟩] [8, 9, 10, 11, 12, 13, 14, 15, 16])
   (.cond (.tmp 17)
    (.skip)
    (.exit 0)))
   (.block 1 (.region [
     ⟨some 18, .mov (.tmp 5), none, []⟩, 
     ⟨some 19, .bin .add (.tmp 18) (.const (.int .i64 1)), none, []⟩, 
     ⟨some 5, .mov (.tmp 19), none, []⟩] [18, 19])))))
 (.seq (.region [
  ⟨some 21, .mov (.tmp 0), none, []⟩, 
  ⟨some 22, .mov (.tmp 5), none, []⟩, 
  ⟨some 23, .sliceStr (.tmp 21) none (some (.tmp 22)), none, []⟩, 
  ⟨some 24, .call 42 [(.tmp 23), (.const (.int .i64 10)), (.const (.int .i64 64))], none, []⟩, 
  ⟨some 20, .mov (.tmp 24), none, []⟩, 
  ⟨some 25, .extract (.tmp 20) 0, none, []⟩, 
  ⟨some 26, .extract (.tmp 20) 1, none, []⟩, 
  ⟨some 6, .mov (.tmp 25), none, []⟩, 
  ⟨some 7, .mov (.tmp 26), none, []⟩] [21, 22, 23, 24, 20, 25, 26])
 (.seq (.seq (.region [
  ⟨some 27, .mov (.tmp 7), none, []⟩, 
  ⟨some 28, .eqI true (.tmp 27) (.const .nili), none, []⟩, 
  ⟨some 29, .mov (.tmp 28), none, []⟩, 
  ⟨some 30, .mov (.tmp 6), (some (29, false)), []⟩, 
  ⟨some 31, .bin .gtr (.tmp 30) (.const (.int .u64 9223372036854775808)), (some (29, false)), []⟩, 
  ⟨some 32, .pick (.tmp 29) (.const (.bool true)) (.tmp 31), none, []⟩] [27, 28, 29, 30, 31])
 (.cond (.tmp 32)
  (.seq (.region [
   ⟨some 33, .build [(.int .u8 0), (.str []), (.int .u64 0), (.int .i64 0)] [], none, []⟩, 
   ⟨none, .store 4 (.tmp 2) (.tmp 33), none, []⟩, 
   ⟨some 3, .mov (.const (.int .i64 0)), none, []⟩, 
   ⟨some 4, .mov (.const (.int .i64 233)), none, []⟩] [33])
  (.ret))
  (.skip)))
 (.seq (.region [
  ⟨some 34, .mov (.tmp 6), none, []⟩, 
  ⟨some 35, .build [(.int .u8 0), (.str []), (.int .u64 0), (.int .i64 0)] [(0, 1, (.const (.int .u8 2))), (2, 1, (.tmp 34))], none, []⟩, 
  ⟨some 36, .mov (.tmp 5), none, []⟩, 
  ⟨none, .store 4 (.tmp 2) (.tmp 35), none, []⟩, 
  ⟨some 3, .mov (.tmp 36), none, []⟩, 
  ⟨some 4, .mov (.const (.int .i64 0)), none, []⟩] [34, 35, 36])
 (.ret))))))
theorem ok26 : erase c26 = cCode Tryd.prog 37 ((Tryd.f26).body.getD .skip) := by kernel_rfl
theorem ord26 : ordsOk c26 = true := by kernel_rfl
theorem call26 {args : List SV} {h : Heap} {R : AEnd → Heap → Prop} (hn : Nat.ble args.length 37 = true) (hp : awp Tryd.prog c26 (finQ [.cellA 2 4, .tmp 3, .tmp 4] R) (argEnv 0 args) h) : ACall Tryd.prog 26 args h R :=
  acall_of_awp mixed Tryd.func26 rfl ord26 ok26 (by kernel_rfl) hn hp
def t26 : Tab := ⟨37, c26, [.cellA 2 4, .tmp 3, .tmp 4]⟩
theorem tab26 : TabOk Tryd.prog 26 t26 := tabOk Tryd.func26 rfl ord26 ok26 (by kernel_rfl) rfl

/-- stagepost/lexer.text -/
def c27 : ACode :=
 .seq (.region [
  ⟨some 2, .box 32 4 (.const (.agg [(.int .u8 0), (.str []), (.int .u64 0), (.int .i64 0)])), none, []⟩, 
  ⟨some 3, .mov (.const (.int .i64 0)), none, []⟩, 
  ⟨some 4, .mov (.const (.int .i64 0)), none, []⟩] [])
 (.seq (.region [
  ⟨some 5, .box 46 2 (.const (.agg [.nilp, .nils])), none, []⟩] [])
 (.seq (.region [
  ⟨some 6, .mov (.const (.bool false)), none, []⟩, 
  ⟨some 7, .mov (.const (.bool false)), none, []⟩] [])
 (.seq (.seq (.region [
  ⟨some 12, .mov (.tmp 0), none, []⟩, 
  ⟨some 13, .rangeS (.tmp 12), none, []⟩] [12])
 (.block 0 (.loop (.seq (.region [
    ⟨some 14, .nextS (.tmp 13), none, []⟩, 
    ⟨some 15, .extract (.tmp 14) 0, none, []⟩] [])
   (.seq (.cond (.tmp 15)
    (.skip)
    (.exit 0))
   (.block 1 (.seq (.region [
     ⟨some 16, .extract (.tmp 14) 1, none, []⟩, 
     ⟨some 17, .extract (.tmp 14) 2, none, []⟩, 
     ⟨some 8, .mov (.tmp 16), none, []⟩, 
     ⟨some 9, .mov (.tmp 17), none, []⟩] [16, 17])
    (.block 2 (.seq (.region [
      ⟨some 23, .mov (.tmp 8), none, []⟩, 
      ⟨some 24, .bin .eql (.tmp 23) (.const (.int .i64 0)), none, []⟩, 
      ⟨some 22, .mov (.tmp 24), none, []⟩] [23, 24])
     (.cond (.tmp 22)
      (.skip)
      (.seq (.region [
       ⟨some 26, .mov (.tmp 7), none, []⟩, 
       ⟨some 25, .mov (.tmp 26), none, []⟩] [26])
      (.cond (.tmp 25)
       (.region [
        ⟨some 7, .mov (.const (.bool false)), none, []⟩] [])
       (.seq (.region [
        ⟨some 28, .mov (.tmp 9), none, []⟩, 
        ⟨some 29, .bin .neq (.tmp 28) (.const (.int .i32 39)), none, []⟩, 
        ⟨some 27, .mov (.tmp 29), none, []⟩] [28, 29])
       (.cond (.tmp 27)
        (.seq (.region [
         ⟨some 31, .mov (.tmp 0), none, []⟩, 
         ⟨some 32, .mov (.tmp 8), none, []⟩, 
         ⟨some 33, .sliceStr (.tmp 31) (some (.tmp 32)) none, none, []⟩, 
         ⟨some 34, .call 32 [(.tmp 33)], none, []⟩, 
         ⟨some 30, .mov (.tmp 34), none, []⟩, 
         ⟨some 35, .extract (.tmp 30) 0, none, []⟩, 
         ⟨some 36, .extract (.tmp 30) 1, none, []⟩, 
         ⟨some 10, .mov (.tmp 35), none, []⟩, 
         ⟨some 11, .mov (.tmp 36), none, []⟩] [31, 32, 33, 34, 30, 35, 36, 10])
        (.seq (.region [
         ⟨some 37, .mov (.tmp 6), none, []⟩, 
         ⟨some 38, .mov (.tmp 37), none, []⟩, 
         ⟨some 39, .mov (.tmp 9), (some (38, false)), []⟩, 
         ⟨some 40, .bin .eql (.tmp 39) (.const (.int .i32 65533)), (some (38, false)), []⟩, 
         ⟨some 41, .mov (.tmp 40), (some (38, false)), []⟩, 
         ⟨some 42, .mov (.tmp 11), (some (41, true)), []⟩, 
         ⟨some 43, .bin .eql (.tmp 42) (.const (.int .i64 1)), (some (41, true)), []⟩, 
         ⟨some 44, .pick (.tmp 41) (.tmp 43) (.const (.bool false)), (some (38, false)), []⟩, 
         ⟨some 45, .pick (.tmp 38) (.const (.bool true)) (.tmp 44), none, []⟩, 
         ⟨some 6, .mov (.tmp 45), none, []⟩] [37, 38, 39, 40, 41, 42, 43, 44, 45])
        (.region [
         ⟨some 46, .mov (.tmp 0), none, []⟩, 
         ⟨some 47, .mov (.tmp 8), none, []⟩, 
         ⟨some 48, .mov (.tmp 8), none, []⟩, 
         ⟨some 49, .mov (.tmp 11), none, []⟩, 
         ⟨some 50, .bin .add (.tmp 48) (.tmp 49), none, []⟩, 
         ⟨some 51, .sliceStr (.tmp 46) (some (.tmp 47)) (some (.tmp 50)), none, []⟩, 
         ⟨some 52, .call 14 [(.tmp 5), (.tmp 51)], none, []⟩] [46, 47, 48, 49, 50, 51, 52])))
        (.seq (.region [
         ⟨some 54, .mov (.tmp 0), none, []⟩, 
         ⟨some 55, .mov (.tmp 8), none, []⟩, 
         ⟨some 56, .sliceStr (.tmp 54) (some (.tmp 55)) none, none, []⟩, 
         ⟨some 57, .call 29 [(.tmp 56), (.const (.str [39, 39]))], none, []⟩, 
         ⟨some 53, .mov (.tmp 57), none, []⟩] [54, 55, 56, 57])
        (.cond (.tmp 53)
         (.seq (.region [
          ⟨some 58, .call 15 [(.tmp 5), (.const (.int .u8 39))], none, []⟩] [58])
         (.region [
          ⟨some 7, .mov (.const (.bool true)), none, []⟩] []))
         (.seq (.region [
          ⟨some 60, .mov (.tmp 6), none, []⟩, 
          ⟨some 59, .mov (.tmp 60), none, []⟩] [60])
         (.cond (.tmp 59)
          (.seq (.region [
           ⟨some 61, .build [(.int .u8 0), (.str []), (.int .u64 0), (.int .i64 0)] [], none, []⟩, 
           ⟨none, .store 4 (.tmp 2) (.tmp 61), none, []⟩, 
           ⟨some 3, .mov (.const (.int .i64 0)), none, []⟩, 
           ⟨some 4, .mov (.const (.int .i64 232)), none, []⟩] [61])
          (.ret))
          (.seq (.region [
           ⟨some 63, .call 43 [(.tmp 5)], none, []⟩, 
           ⟨some 64, .bin .gtr (.tmp 63) (.const (.int .i64 64)), none, []⟩, 
           ⟨some 62, .mov (.tmp 64), none, []⟩] [63, 64])
          (.cond (.tmp 62)
           (.seq (.region [
            ⟨some 65, .build [(.int .u8 0), (.str []), (.int .u64 0), (.int .i64 0)] [], none, []⟩, 
            ⟨none, .store 4 (.tmp 2) (.tmp 65), none, []⟩, 
            ⟨some 3, .mov (.const (.int .i64 0)), none, []⟩, 
            ⟨some 4, .mov (.const (.int .i64 3)), none, []⟩] [65])
           (.ret))
           (.seq (.region [
            ⟨some 18, .call 16 [(.tmp 5)], none, []⟩, 
            ⟨some 19, .build [(.int .u8 0), (.str []), (.int .u64 0), (.int .i64 0)] [(0, 1, (.const (.int .u8 3))), (1, 1, (.tmp 18))], none, []⟩, 
            ⟨some 20, .mov (.tmp 8), none, []⟩, 
            ⟨some 21, .bin .add (.tmp 20) (.const (.int .i64 1)), none, []⟩, 
            ⟨none, .store 4 (.tmp 2) (.tmp 19), none, []⟩, 
            ⟨some 3, .mov (.tmp 21), none, []⟩, 
            ⟨some 4, .mov (.const (.int .i64 0)), none, []⟩] [18, 19, 20, 21])
           (.ret))))))))))))))))))))))
 (.seq (.region [
  ⟨some 66, .build [(.int .u8 0), (.str []), (.int .u64 0), (.int .i64 0)] [], none, []⟩, 
  ⟨none, .store 4 (.tmp 2) (.tmp 66), none, []⟩, 
  ⟨some 3, .mov (.const (.int .i64 0)), none, []⟩, 
  ⟨some 4, .mov (.const (.int .i64 231)), none, []⟩] [66])
 (.ret)))))
theorem ok27 : erase c27 = cCode Tryd.prog 67 ((Tryd.f27).body.getD .skip) := by kernel_rfl
theorem ord27 : ordsOk c27 = true := by kernel_rfl
theorem call27 {args : List SV} {h : Heap} {R : AEnd → Heap → Prop} (hn : Nat.ble args.length 67 = true) (hp : awp Tryd.prog c27 (finQ [.cellA 2 4, .tmp 3, .tmp 4] R) (argEnv 0 args) h) : ACall Tryd.prog 27 args h R :=
  acall_of_awp mixed Tryd.func27 rfl ord27 ok27 (by kernel_rfl) hn hp
def t27 : Tab := ⟨67, c27, [.cellA 2 4, .tmp 3, .tmp 4]⟩
theorem tab27 : TabOk Tryd.prog 27 t27 := tabOk Tryd.func27 rfl ord27 ok27 (by kernel_rfl) rfl

/-- stagepost/lexer.signs -/
def c28 : ACode :=
 .seq (.region [
  ⟨some 0, .mov (.const .nils), none, []⟩] [])
 (.seq (.region [
  ⟨some 1, .call 44 [(.const (.str [60, 62, 32, 60, 61, 32, 62, 61, 32, 124, 124, 32, 40, 32, 41, 32, 44, 32, 59, 32, 46, 32, 42, 32, 43, 32, 45, 32, 47, 32, 37, 32, 61, 32, 60, 32, 62]))], none, []⟩, 
  ⟨some 0, .mov (.tmp 1), none, []⟩] [1])
 (.ret))
theorem ok28 : erase c28 = cCode Tryd.prog 2 ((Tryd.f28).body.getD .skip) := by kernel_rfl
theorem ord28 : ordsOk c28 = true := by kernel_rfl
theorem call28 {args : List SV} {h : Heap} {R : AEnd → Heap → Prop} (hn : Nat.ble args.length 2 = true) (hp : awp Tryd.prog c28 (finQ [.tmp 0] R) (argEnv 0 args) h) : ACall Tryd.prog 28 args h R :=
  acall_of_awp mixed Tryd.func28 rfl ord28 ok28 (by kernel_rfl) hn hp
def t28 : Tab := ⟨2, c28, [.tmp 0]⟩
theorem tab28 : TabOk Tryd.prog 28 t28 := tabOk Tryd.func28 rfl ord28 ok28 (by kernel_rfl) rfl

/-- strings.HasPrefix -/
def c29 : ACode :=
 .seq (.region [
  ⟨some 4, .mov (.const (.bool false)), none, []⟩] [])
 (.seq (.region [
  ⟨some 5, .mov (.tmp 0), none, []⟩, 
  ⟨some 6, .mov (.tmp 1), none, []⟩, 
  ⟨some 7, .call 45 [(.tmp 5), (.tmp 6)], none, []⟩, 
  ⟨some 4, .mov (.tmp 7), none, []⟩] [5, 6, 7])
 (.ret))
theorem ok29 : erase c29 = cCode Tryd.prog 8 ((Tryd.f29).body.getD .skip) := by kernel_rfl
theorem ord29 : ordsOk c29 = true := by kernel_rfl
theorem call29 {args : List SV} {h : Heap} {R : AEnd → Heap → Prop} (hn : Nat.ble args.length 8 = true) (hp : awp Tryd.prog c29 (finQ [.tmp 4] R) (argEnv 0 args) h) : ACall Tryd.prog 29 args h R :=
  acall_of_awp mixed Tryd.func29 rfl ord29 ok29 (by kernel_rfl) hn hp
def t29 : Tab := ⟨8, c29, [.tmp 4]⟩
theorem tab29 : TabOk Tryd.prog 29 t29 := tabOk Tryd.func29 rfl ord29 ok29 (by kernel_rfl) rfl

/-- (*strings.Builder).copyCheck -/
def c30 : ACode :=
 .seq (.region [
  ⟨some 2, .mov (.tmp 0), none, []⟩, 
  ⟨some 3, .nilChk (.tmp 2), none, []⟩, 
  ⟨some 4, .fieldAddr 0 (.tmp 3), none, []⟩, 
  ⟨some 5, .loadS (.tmp 4), none, []⟩, 
  ⟨some 6, .eqP false (.tmp 5) (.const .nilp), none, []⟩] [2, 3, 4, 5])
 (.cond (.tmp 6)
  (.region [
   ⟨some 7, .mov (.tmp 0), none, []⟩, 
   ⟨some 8, .mov (.tmp 0), none, []⟩, 
   ⟨some 9, .toUns (.tmp 8), none, []⟩, 
   ⟨some 10, .noEsc (.tmp 9), none, []⟩, 
   ⟨some 11, .fromUns 46 2 (.tmp 10), none, []⟩, 
   ⟨some 12, .nilChk (.tmp 7), none, []⟩, 
   ⟨some 13, .fieldAddr 0 (.tmp 12), none, []⟩, 
   ⟨none, .store 1 (.tmp 13) (.tmp 11), none, []⟩] [7, 8, 9, 10, 11, 12, 13])
  (.seq (.region [
   ⟨some 14, .mov (.tmp 0), none, []⟩, 
   ⟨some 15, .nilChk (.tmp 14), none, []⟩, 
   ⟨some 16, .fieldAddr 0 (.tmp 15), none, []⟩, 
   ⟨some 17, .loadS (.tmp 16), none, []⟩, 
   ⟨some 18, .mov (.tmp 0), none, []⟩, 
   ⟨some 19, .eqP true (.tmp 17) (.tmp 18), none, []⟩] [14, 15, 16, 17, 18])
  (.cond (.tmp 19)
   (.bad)
   (.skip))))
theorem ok30 : erase c30 = cCode Tryd.prog 20 ((Tryd.f30).body.getD .skip) := by kernel_rfl
theorem ord30 : ordsOk c30 = true := by kernel_rfl
theorem call30 {args : List SV} {h : Heap} {R : AEnd → Heap → Prop} (hn : Nat.ble args.length 20 = true) (hp : awp Tryd.prog c30 (finQ [] R) (argEnv 0 args) h) : ACall Tryd.prog 30 args h R :=
  acall_of_awp mixed Tryd.func30 rfl ord30 ok30 (by kernel_rfl) hn hp
def t30 : Tab := ⟨20, c30, []⟩
theorem tab30 : TabOk Tryd.prog 30 t30 := tabOk Tryd.func30 rfl ord30 ok30 (by kernel_rfl) rfl

def c31r0 : List AOper := [
 ⟨some 5, .mov (.tmp 0), none, []⟩, 
 ⟨some 6, .nilChk (.tmp 5), none, [0]⟩, 
 ⟨some 7, .fieldAddr 1 (.tmp 6), none, [1]⟩, 
 ⟨some 8, .loadS (.tmp 7), none, [2]⟩, 
 ⟨some 9, .capOf (.tmp 8), none, [3]⟩, 
 ⟨some 10, .bin .mul (.const (.int .i64 2)) (.tmp 9), none, [4]⟩, 
 ⟨some 11, .mov (.tmp 1), none, []⟩, 
 ⟨some 12, .bin .add (.tmp 10) (.tmp 11), none, [5, 6]⟩, 
 ⟨some 13, .mkNoZero 5 (.tmp 12), none, [7]⟩, 
 ⟨some 14, .mov (.tmp 0), none, []⟩, 
 ⟨some 15, .nilChk (.tmp 14), none, [9]⟩, 
 ⟨some 16, .fieldAddr 1 (.tmp 15), none, [10]⟩, 
 ⟨some 17, .loadS (.tmp 16), none, [11]⟩, 
 ⟨some 18, .len false (.tmp 17), none, [12]⟩, 
 ⟨some 19, .slice 1 (.tmp 13) none (some (.tmp 18)), none, [8, 13]⟩, 
 ⟨some 4, .mov (.tmp 19), none, [14, 8, 0, 1, 2, 3, 4, 5, 6, 7, 8, 9, 10, 11, 12, 13, 14]⟩]
/-- (*strings.Builder).grow -/
def c31 : ACode :=
 .seq (.dregion c31r0 [(0, false, []), (1, false, []), (2, false, []), (3, false, []), (4, false, []), (5, false, []), (6, false, []), (7, false, []), (9, false, []), (10, false, []), (11, false, []), (12, false, []), (13, false, []), (8, true, [10, 11, 12, 13]), (14, false, []), (15, false, [])] [5, 6, 7, 8, 9, 10, 11, 12, 13, 14, 15, 16, 17, 18, 19])
 (.seq (.region [
  ⟨some 20, .mov (.tmp 4), none, []⟩, 
  ⟨some 21, .mov (.tmp 0), none, []⟩, 
  ⟨some 22, .nilChk (.tmp 21), none, []⟩, 
  ⟨some 23, .fieldAddr 1 (.tmp 22), none, []⟩, 
  ⟨some 24, .loadS (.tmp 23), none, []⟩, 
  ⟨some 25, .copyZ (.tmp 20) (.tmp 24), none, []⟩] [20, 21, 22, 23, 24, 25])
 (.region [
  ⟨some 26, .mov (.tmp 0), none, []⟩, 
  ⟨some 27, .mov (.tmp 4), none, []⟩, 
  ⟨some 28, .nilChk (.tmp 26), none, []⟩, 
  ⟨some 29, .fieldAddr 1 (.tmp 28), none, []⟩, 
  ⟨none, .store 1 (.tmp 29) (.tmp 27), none, []⟩] [26, 27, 28, 29]))
theorem ok31 : erase c31 = cCode Tryd.prog 30 ((Tryd.f31).body.getD .skip) := by kernel_rfl
theorem ord31 : ordsOk c31 = true := by kernel_rfl
theorem call31 {args : List SV} {h : Heap} {R : AEnd → Heap → Prop} (hn : Nat.ble args.length 30 = true) (hp : awp Tryd.prog c31 (finQ [] R) (argEnv 0 args) h) : ACall Tryd.prog 31 args h R :=
  acall_of_awp mixed Tryd.func31 rfl ord31 ok31 (by kernel_rfl) hn hp
def t31 : Tab := ⟨30, c31, []⟩
theorem tab31 : TabOk Tryd.prog 31 t31 := tabOk Tryd.func31 rfl ord31 ok31 (by kernel_rfl) rfl

/-- (*strings.Builder).WriteRune -/
def c34 : ACode :=
 .seq (.region [
  ⟨some 4, .mov (.const (.int .i64 0)), none, []⟩, 
  ⟨some 5, .mov (.const .nili), none, []⟩] [])
 (.seq (.region [
  ⟨some 7, .mov (.tmp 0), none, []⟩, 
  ⟨some 8, .call 30 [(.tmp 7)], none, []⟩] [7, 8])
 (.seq (.region [
  ⟨some 9, .mov (.tmp 0), none, []⟩, 
  ⟨some 10, .nilChk (.tmp 9), none, []⟩, 
  ⟨some 11, .fieldAddr 1 (.tmp 10), none, []⟩, 
  ⟨some 12, .loadS (.tmp 11), none, []⟩, 
  ⟨some 13, .len false (.tmp 12), none, []⟩, 
  ⟨some 6, .mov (.tmp 13), none, []⟩] [9, 10, 11, 12, 13])
 (.seq (.region [
  ⟨some 14, .mov (.tmp 0), none, []⟩, 
  ⟨some 15, .mov (.tmp 0), none, []⟩, 
  ⟨some 16, .nilChk (.tmp 15), none, []⟩, 
  ⟨some 17, .fieldAddr 1 (.tmp 16), none, []⟩, 
  ⟨some 18, .loadS (.tmp 17), none, []⟩, 
  ⟨some 19, .mov (.tmp 1), none, []⟩, 
  ⟨some 20, .call 49 [(.tmp 18), (.tmp 19)], none, []⟩, 
  ⟨some 21, .nilChk (.tmp 14), none, []⟩, 
  ⟨some 22, .fieldAddr 1 (.tmp 21), none, []⟩, 
  ⟨none, .store 1 (.tmp 22) (.tmp 20), none, []⟩] [14, 15, 16, 17, 18, 19, 20, 21, 22])
 (.seq (.region [
  ⟨some 23, .mov (.tmp 0), none, []⟩, 
  ⟨some 24, .nilChk (.tmp 23), none, []⟩, 
  ⟨some 25, .fieldAddr 1 (.tmp 24), none, []⟩, 
  ⟨some 26, .loadS (.tmp 25), none, []⟩, 
  ⟨some 27, .len false (.tmp 26), none, []⟩, 
  ⟨some 28, .mov (.tmp 6), none, []⟩, 
  ⟨some 29, .bin .sub (.tmp 27) (.tmp 28), none, []⟩, 
  ⟨some 4, .mov (.tmp 29), none, []⟩, 
  ⟨some 5, .mov (.const .nili), none, []⟩] [23, 24, 25, 26, 27, 28, 29])
 (.ret)))))
theorem ok34 : erase c34 = cCode Tryd.prog 30 ((Tryd.f34).body.getD .skip) := by kernel_rfl
theorem ord34 : ordsOk c34 = true := by kernel_rfl
theorem call34 {args : List SV} {h : Heap} {R : AEnd → Heap → Prop} (hn : Nat.ble args.length 30 = true) (hp : awp Tryd.prog c34 (finQ [.tmp 4, .tmp 5] R) (argEnv 0 args) h) : ACall Tryd.prog 34 args h R :=
  acall_of_awp mixed Tryd.func34 rfl ord34 ok34 (by kernel_rfl) hn hp
def t34 : Tab := ⟨30, c34, [.tmp 4, .tmp 5]⟩
theorem tab34 : TabOk Tryd.prog 34 t34 := tabOk Tryd.func34 rfl ord34 ok34 (by kernel_rfl) rfl

/-- unicode.To -/
def c36 : ACode :=
 .seq (.region [
  ⟨some 4, .mov (.const (.int .i32 0)), none, []⟩] [])
 (.seq (.region [
  ⟨some 6, .mov (.tmp 0), none, []⟩, 
  ⟨some 7, .mov (.tmp 1), none, []⟩, 
  ⟨some 8, .loadS (.const (.glob 0)), none, []⟩, 
  ⟨some 9, .call 50 [(.tmp 6), (.tmp 7), (.tmp 8)], none, []⟩, 
  ⟨some 5, .mov (.tmp 9), none, []⟩, 
  ⟨some 10, .extract (.tmp 5) 0, none, []⟩, 
  ⟨some 11, .extract (.tmp 5) 1, none, []⟩, 
  ⟨some 1, .mov (.tmp 10), none, []⟩] [6, 7, 8, 9, 5, 10, 11])
 (.seq (.region [
  ⟨some 12, .mov (.tmp 1), none, []⟩, 
  ⟨some 4, .mov (.tmp 12), none, []⟩] [12])
 (.ret)))
theorem ok36 : erase c36 = cCode Tryd.prog 13 ((Tryd.f36).body.getD .skip) := by kernel_rfl
theorem ord36 : ordsOk c36 = true := by kernel_rfl
theorem call36 {args : List SV} {h : Heap} {R : AEnd → Heap → Prop} (hn : Nat.ble args.length 13 = true) (hp : awp Tryd.prog c36 (finQ [.tmp 4] R) (argEnv 0 args) h) : ACall Tryd.prog 36 args h R :=
  acall_of_awp mixed Tryd.func36 rfl ord36 ok36 (by kernel_rfl) hn hp
def t36 : Tab := ⟨13, c36, [.tmp 4]⟩
theorem tab36 : TabOk Tryd.prog 36 t36 := tabOk Tryd.func36 rfl ord36 ok36 (by kernel_rfl) rfl

def c37r7 : List AOper := [
 ⟨some 27, .mov (.tmp 0), none, []⟩, 
 ⟨some 28, .len true (.tmp 27), none, [0]⟩, 
 ⟨some 29, .bin .gtr (.tmp 28) (.const (.int .i64 16)), none, [1]⟩, 
 ⟨some 30, .mov (.tmp 29), none, [2]⟩, 
 ⟨some 31, .mov (.tmp 0), (some (30, true)), [3]⟩, 
 ⟨some 32, .call 51 [(.tmp 31)], (some (30, true)), [4, 3, 3]⟩, 
 ⟨some 33, .mov (.tmp 0), (some (30, true)), [3]⟩, 
 ⟨some 34, .sliceStr (.tmp 33) (some (.const (.int .i64 8))) none, (some (30, true)), [6, 3]⟩, 
 ⟨some 35, .call 51 [(.tmp 34)], (some (30, true)), [7, 5, 3]⟩, 
 ⟨some 36, .bin .or (.tmp 32) (.tmp 35), (some (30, true)), [5, 8, 3]⟩, 
 ⟨some 37, .bin .and (.tmp 36) (.const (.int .u64 9259542123273814144)), (some (30, true)), [9, 3]⟩, 
 ⟨some 38, .bin .eql (.tmp 37) (.const (.int .u64 0)), (some (30, true)), [10, 3]⟩, 
 ⟨some 39, .pick (.tmp 30) (.tmp 38) (.const (.bool false)), none, [3, 11]⟩]
def c37r9 : List AOper := [
 ⟨some 42, .mov (.tmp 0), none, []⟩, 
 ⟨some 43, .len true (.tmp 42), none, [0]⟩, 
 ⟨some 44, .bin .gtr (.tmp 43) (.const (.int .i64 32)), none, [1]⟩, 
 ⟨some 45, .mov (.tmp 44), none, [2]⟩, 
 ⟨some 46, .mov (.tmp 0), (some (45, true)), [3]⟩, 
 ⟨some 47, .call 51 [(.tmp 46)], (some (45, true)), [4, 3, 3]⟩, 
 ⟨some 48, .mov (.tmp 0), (some (45, true)), [3]⟩, 
 ⟨some 49, .sliceStr (.tmp 48) (some (.const (.int .i64 8))) none, (some (45, true)), [6, 3]⟩, 
 ⟨some 50, .call 51 [(.tmp 49)], (some (45, true)), [7, 5, 3]⟩, 
 ⟨some 51, .bin .or (.tmp 47) (.tmp 50), (some (45, true)), [5, 8, 3]⟩, 
 ⟨some 52, .mov (.tmp 0), (some (45, true)), [3]⟩, 
 ⟨some 53, .sliceStr (.tmp 52) (some (.const (.int .i64 16))) none, (some (45, true)), [10, 3]⟩, 
 ⟨some 54, .call 51 [(.tmp 53)], (some (45, true)), [11, 8, 3]⟩, 
 ⟨some 55, .mov (.tmp 0), (some (45, true)), [3]⟩, 
 ⟨some 56, .sliceStr (.tmp 55) (some (.const (.int .i64 24))) none, (some (45, true)), [13, 3]⟩, 
 ⟨some 57, .call 51 [(.tmp 56)], (some (45, true)), [14, 12, 3]⟩, 
 ⟨some 58, .bin .or (.tmp 54) (.tmp 57), (some (45, true)), [12, 15, 3]⟩, 
 ⟨some 59, .bin .or (.tmp 51) (.tmp 58), (some (45, true)), [9, 16, 3]⟩, 
 ⟨some 60, .bin .and (.tmp 59) (.const (.int .u64 9259542123273814144)), (some (45, true)), [17, 3]⟩, 
 ⟨some 61, .bin .eql (.tmp 60) (.const (.int .u64 0)), (some (45, true)), [18, 3]⟩, 
 ⟨some 62, .pick (.tmp 45) (.tmp 61) (.const (.bool false)), none, [3, 19]⟩]
def c37r17 : List AOper := [
 ⟨some 78, .mov (.tmp 0), none, []⟩, 
 ⟨some 79, .len true (.tmp 78), none, [0]⟩, 
 ⟨some 80, .bin .lss (.tmp 79) (.const (.int .i64 2)), none, [1]⟩, 
 ⟨some 81, .mov (.tmp 80), none, [2]⟩, 
 ⟨some 82, .mov (.tmp 0), (some (81, false)), [3]⟩, 
 ⟨some 83, .index (.tmp 82) (.const (.int .i64 1)), (some (81, false)), [4, 3]⟩, 
 ⟨some 84, .fieldAddr 0 (.tmp 6), (some (81, false)), [3]⟩, 
 ⟨some 85, .loadS (.tmp 84), (some (81, false)), [6, 3]⟩, 
 ⟨some 86, .bin .lss (.tmp 83) (.tmp 85), (some (81, false)), [5, 7, 3]⟩, 
 ⟨some 87, .pick (.tmp 81) (.const (.bool true)) (.tmp 86), none, [3, 8]⟩, 
 ⟨some 88, .mov (.tmp 87), none, [9, 3]⟩, 
 ⟨some 89, .fieldAddr 1 (.tmp 6), (some (88, false)), [10]⟩, 
 ⟨some 90, .loadS (.tmp 89), (some (88, false)), [11, 10]⟩, 
 ⟨some 91, .mov (.tmp 0), (some (88, false)), [10]⟩, 
 ⟨some 92, .index (.tmp 91) (.const (.int .i64 1)), (some (88, false)), [13, 10]⟩, 
 ⟨some 93, .bin .lss (.tmp 90) (.tmp 92), (some (88, false)), [12, 14, 10]⟩, 
 ⟨some 94, .pick (.tmp 88) (.const (.bool true)) (.tmp 93), none, [10, 15]⟩]
def c37r21 : List AOper := [
 ⟨some 99, .mov (.tmp 0), none, []⟩, 
 ⟨some 100, .len true (.tmp 99), none, [0]⟩, 
 ⟨some 101, .bin .lss (.tmp 100) (.const (.int .i64 3)), none, [1]⟩, 
 ⟨some 102, .mov (.tmp 101), none, [2]⟩, 
 ⟨some 103, .mov (.tmp 0), (some (102, false)), [3]⟩, 
 ⟨some 104, .index (.tmp 103) (.const (.int .i64 1)), (some (102, false)), [4, 3]⟩, 
 ⟨some 105, .fieldAddr 0 (.tmp 6), (some (102, false)), [3]⟩, 
 ⟨some 106, .loadS (.tmp 105), (some (102, false)), [6, 3]⟩, 
 ⟨some 107, .bin .lss (.tmp 104) (.tmp 106), (some (102, false)), [5, 7, 3]⟩, 
 ⟨some 108, .pick (.tmp 102) (.const (.bool true)) (.tmp 107), none, [3, 8]⟩, 
 ⟨some 109, .mov (.tmp 108), none, [9, 3]⟩, 
 ⟨some 110, .fieldAddr 1 (.tmp 6), (some (109, false)), [10]⟩, 
 ⟨some 111, .loadS (.tmp 110), (some (109, false)), [11, 10]⟩, 
 ⟨some 112, .mov (.tmp 0), (some (109, false)), [10]⟩, 
 ⟨some 113, .index (.tmp 112) (.const (.int .i64 1)), (some (109, false)), [13, 10]⟩, 
 ⟨some 114, .bin .lss (.tmp 111) (.tmp 113), (some (109, false)), [12, 14, 10]⟩, 
 ⟨some 115, .pick (.tmp 109) (.const (.bool true)) (.tmp 114), none, [10, 15]⟩, 
 ⟨some 116, .mov (.tmp 115), none, [16, 10]⟩, 
 ⟨some 117, .mov (.tmp 0), (some (116, false)), [17]⟩, 
 ⟨some 118, .index (.tmp 117) (.const (.int .i64 2)), (some (116, false)), [18, 17]⟩, 
 ⟨some 119, .bin .lss (.tmp 118) (.const (.int .u8 128)), (some (116, false)), [19, 17]⟩, 
 ⟨some 120, .pick (.tmp 116) (.const (.bool true)) (.tmp 119), none, [17, 20]⟩, 
 ⟨some 121, .mov (.tmp 120), none, [21, 17]⟩, 
 ⟨some 122, .mov (.tmp 0), (some (121, false)), [22]⟩, 
 ⟨some 123, .index (.tmp 122) (.const (.int .i64 2)), (some (121, false)), [23, 22]⟩, 
 ⟨some 124, .bin .lss (.const (.int .u8 191)) (.tmp 123), (some (121, false)), [24, 22]⟩, 
 ⟨some 125, .pick (.tmp 121) (.const (.bool true)) (.tmp 124), none, [22, 25]⟩]
def c37r25 : List AOper := (
 ⟨some 130, .mov (.tmp 0), none, []⟩ :: 
 ⟨some 131, .len true (.tmp 130), none, [0]⟩ :: 
 ⟨some 132, .bin .lss (.tmp 131) (.const (.int .i64 4)), none, [1]⟩ :: 
 ⟨some 133, .mov (.tmp 132), none, [2]⟩ :: 
 ⟨some 134, .mov (.tmp 0), (some (133, false)), [3]⟩ :: 
 ⟨some 135, .index (.tmp 134) (.const (.int .i64 1)), (some (133, false)), [4, 3]⟩ :: 
 ⟨some 136, .fieldAddr 0 (.tmp 6), (some (133, false)), [3]⟩ :: 
 ⟨some 137, .loadS (.tmp 136), (some (133, false)), [6, 3]⟩ :: 
 ⟨some 138, .bin .lss (.tmp 135) (.tmp 137), (some (133, false)), [5, 7, 3]⟩ :: 
 ⟨some 139, .pick (.tmp 133) (.const (.bool true)) (.tmp 138), none, [3, 8]⟩ :: 
 ⟨some 140, .mov (.tmp 139), none, [9, 3]⟩ :: 
 ⟨some 141, .fieldAddr 1 (.tmp 6), (some (140, false)), [10]⟩ :: 
 ⟨some 142, .loadS (.tmp 141), (some (140, false)), [11, 10]⟩ :: 
 ⟨some 143, .mov (.tmp 0), (some (140, false)), [10]⟩ :: 
 ⟨some 144, .index (.tmp 143) (.const (.int .i64 1)), (some (140, false)), [13, 10]⟩ :: 
 ⟨some 145, .bin .lss (.tmp 142) (.tmp 144), (some (140, false)), [12, 14, 10]⟩ :: 
 ⟨some 146, .pick (.tmp 140) (.const (.bool true)) (.tmp 145), none, [10, 15]⟩ :: 
 ⟨some 147, .mov (.tmp 146), none, [16, 10]⟩ :: 
 ⟨some 148, .mov (.tmp 0), (some (147, false)), [17]⟩ :: 
 ⟨some 149, .index (.tmp 148) (.const (.int .i64 2)), (some (147, false)), [18, 17]⟩ :: 
 ⟨some 150, .bin .lss (.tmp 149) (.const (.int .u8 128)), (some (147, false)), [19, 17]⟩ :: 
 ⟨some 151, .pick (.tmp 147) (.const (.bool true)) (.tmp 150), none, [17, 20]⟩ :: 
 ⟨some 152, .mov (.tmp 151), none, [21, 17]⟩ :: 
 ⟨some 153, .mov (.tmp 0), (some (152, false)), [22]⟩ :: 
 ⟨some 154, .index (.tmp 153) (.const (.int .i64 2)), (some (152, false)), [23, 22]⟩ :: 
 ⟨some 155, .bin .lss (.const (.int .u8 191)) (.tmp 154), (some (152, false)), [24, 22]⟩ :: 
 ⟨some 156, .pick (.tmp 152) (.const (.bool true)) (.tmp 155), none, [22, 25]⟩ :: 
 ⟨some 157, .mov (.tmp 156), none, [26, 22]⟩ :: 
 ⟨some 158, .mov (.tmp 0), (some (157, false)), [27]⟩ :: 
 ⟨some 159, .index (.tmp 158) (.const (.int .i64 3)), (some (157, false)), [28, 27]⟩ :: 
 ⟨some 160, .bin .lss (.tmp 159) (.const (.int .u8 128)), (some (157, false)), [29, 27]⟩ :: 
 ⟨some 161, .pick (.tmp 157) (.const (.bool true)) (.tmp 160), none, [27, 30]⟩ :: 
 ⟨some 162, .mov (.tmp 161), none, [31, 27]⟩ :: 
 ⟨some 163, .mov (.tmp 0), (some (162, false)), [32]⟩ :: 
 ⟨some 164, .index (.tmp 163) (.const (.int .i64 3)), (some (162, false)), [33, 32]⟩ :: 
 ⟨some 165, .bin .lss (.const (.int .u8 191)) (.tmp 164), (some (162, false)), [34, 32]⟩ :: 
 ⟨some 166, .pick (.tmp 162) (.const (.bool true)) (.tmp 165), none, [32, 35]⟩ :: [])
/-- unicode/utf8.ValidString -/
def c37 : ACode :=
 .seq (.region [
  ⟨some 2, .mov (.const (.bool false)), none, []⟩] [])
 (.seq (.block 0 (.loop (.seq (.seq (.region [
    ⟨some 7, .mov (.tmp 0), none, []⟩, 
    ⟨some 8, .len true (.tmp 7), none, []⟩, 
    ⟨some 9, .bin .gtr (.tmp 8) (.const (.int .i64 0)), none, []⟩] [7, 8])
   (.cond (.tmp 9)
    (.skip)
    (.exit 0)))
   (.block 1 (.seq (.region [
     ⟨some 10, .mov (.tmp 0), none, []⟩, 
     ⟨some 11, .index (.tmp 10) (.const (.int .i64 0)), none, []⟩, 
     ⟨some 3, .mov (.tmp 11), none, []⟩] [10, 11])
    (.seq (.seq (.region [
     ⟨some 12, .mov (.tmp 3), none, []⟩, 
     ⟨some 13, .bin .lss (.tmp 12) (.const (.int .u8 128)), none, []⟩] [12])
    (.cond (.tmp 13)
     (.seq (.region [
      ⟨some 14, .mov (.tmp 0), none, []⟩, 
      ⟨some 15, .sliceStr (.tmp 14) (some (.const (.int .i64 1))) none, none, []⟩, 
      ⟨some 0, .mov (.tmp 15), none, []⟩] [14, 15])
     (.seq (.seq (.region [
      ⟨some 16, .mov (.tmp 0), none, []⟩, 
      ⟨some 17, .len true (.tmp 16), none, []⟩, 
      ⟨some 18, .bin .gtr (.tmp 17) (.const (.int .i64 8)), none, []⟩, 
      ⟨some 19, .mov (.tmp 18), none, []⟩, 
      ⟨some 20, .mov (.tmp 0), (some (19, true)), []⟩, 
      ⟨some 21, .call 51 [(.tmp 20)], (some (19, true)), []⟩, 
      ⟨some 22, .bin .and (.tmp 21) (.const (.int .u64 9259542123273814144)), (some (19, true)), []⟩, 
      ⟨some 23, .bin .eql (.tmp 22) (.const (.int .u64 0)), (some (19, true)), []⟩, 
      ⟨some 24, .pick (.tmp 19) (.tmp 23) (.const (.bool false)), none, []⟩] [16, 17, 18, 19, 20, 21, 22, 23])
     (.cond (.tmp 24)
      (.seq (.region [
       ⟨some 25, .mov (.tmp 0), none, []⟩, 
       ⟨some 26, .sliceStr (.tmp 25) (some (.const (.int .i64 8))) none, none, []⟩, 
       ⟨some 0, .mov (.tmp 26), none, []⟩] [25, 26])
      (.seq (.dregion c37r7 [(0, false, []), (1, false, []), (2, false, []), (3, false, []), (4, false, []), (6, false, []), (7, false, []), (5, true, []), (8, true, []), (9, false, []), (10, false, []), (11, false, []), (12, false, [])] [27, 28, 29, 30, 31, 32, 33, 34, 35, 36, 37, 38])
      (.cond (.tmp 39)
       (.seq (.region [
        ⟨some 40, .mov (.tmp 0), none, []⟩, 
        ⟨some 41, .sliceStr (.tmp 40) (some (.const (.int .i64 16))) none, none, []⟩, 
        ⟨some 0, .mov (.tmp 41), none, []⟩] [40, 41])
       (.block 2 (.loop (.seq (.seq (.dregion c37r9 [(0, false, []), (1, false, []), (2, false, []), (3, false, []), (4, false, []), (6, false, []), (7, false, []), (10, false, []), (11, false, []), (13, false, []), (14, false, []), (5, true, []), (8, true, []), (9, false, []), (12, true, []), (15, true, []), (16, false, []), (17, false, []), (18, false, []), (19, false, []), (20, false, [])] [42, 43, 44, 45, 46, 47, 48, 49, 50, 51, 52, 53, 54, 55, 56, 57, 58, 59, 60, 61])
         (.cond (.tmp 62)
          (.skip)
          (.exit 2)))
         (.block 3 (.region [
           ⟨some 63, .mov (.tmp 0), none, []⟩, 
           ⟨some 64, .sliceStr (.tmp 63) (some (.const (.int .i64 32))) none, none, []⟩, 
           ⟨some 0, .mov (.tmp 64), none, []⟩] [63, 64]))))))
       (.skip))))
      (.skip)))
     (.exit 1)))
     (.skip)))
    (.seq (.region [
     ⟨some 65, .mov (.tmp 3), none, []⟩, 
     ⟨some 66, .indexArr 256 1 (.const (.glob 1)) (.tmp 65), none, []⟩, 
     ⟨some 67, .loadS (.tmp 66), none, []⟩, 
     ⟨some 4, .mov (.tmp 67), none, []⟩] [65, 66, 67])
    (.seq (.region [
     ⟨some 68, .mov (.tmp 4), none, []⟩, 
     ⟨some 69, .bin .and (.tmp 68) (.const (.int .u8 7)), none, []⟩, 
     ⟨some 70, .conv .i64 (.tmp 69), none, []⟩, 
     ⟨some 5, .mov (.tmp 70), none, []⟩] [68, 69, 70])
    (.seq (.region [
     ⟨some 71, .mov (.tmp 4), none, []⟩, 
     ⟨some 72, .bin .shr (.tmp 71) (.const (.int .u64 4)), none, []⟩, 
     ⟨some 73, .indexArr 16 2 (.const (.glob 2)) (.tmp 72), none, []⟩, 
     ⟨some 74, .loadA 2 (.tmp 73), none, []⟩, 
     ⟨some 6, .box 86 2 (.const (.agg [(.int .u8 0), (.int .u8 0)])), none, []⟩, 
     ⟨none, .store 2 (.tmp 6) (.tmp 74), none, []⟩] [71, 72, 73, 74])
    (.seq (.region [
     ⟨some 75, .mov (.tmp 5), none, []⟩] [])
    (.block 4 (.seq (.region [
      ⟨some 77, .bin .eql (.tmp 75) (.const (.int .i64 2)), none, []⟩, 
      ⟨some 76, .mov (.tmp 77), none, []⟩] [77])
     (.cond (.tmp 76)
      (.seq (.seq (.dregion c37r17 [(0, false, []), (1, false, []), (2, false, []), (3, false, []), (4, false, []), (5, false, []), (6, false, []), (7, false, []), (8, false, []), (9, false, []), (10, false, []), (11, false, []), (12, false, []), (13, false, []), (14, false, []), (15, false, []), (16, false, [])] [78, 79, 80, 81, 82, 83, 84, 85, 86, 87, 88, 89, 90, 91, 92, 93])
      (.cond (.tmp 94)
       (.seq (.region [
        ⟨some 2, .mov (.const (.bool false)), none, []⟩] [])
       (.ret))
       (.skip)))
      (.region [
       ⟨some 95, .mov (.tmp 0), none, []⟩, 
       ⟨some 96, .sliceStr (.tmp 95) (some (.const (.int .i64 2))) none, none, []⟩, 
       ⟨some 0, .mov (.tmp 96), none, []⟩] [95, 96]))
      (.seq (.region [
       ⟨some 98, .bin .eql (.tmp 75) (.const (.int .i64 3)), none, []⟩, 
       ⟨some 97, .mov (.tmp 98), none, []⟩] [98])
      (.cond (.tmp 97)
       (.seq (.seq (.dregion c37r21 [(0, false, []), (1, false, []), (2, false, []), (3, false, []), (4, false, []), (5, false, []), (6, false, []), (7, false, []), (8, false, []), (9, false, []), (10, false, []), (11, false, []), (12, false, []), (13, false, []), (14, false, []), (15, false, []), (16, false, []), (17, false, []), (18, false, []), (19, false, []), (20, false, []), (21, false, []), (22, false, []), (23, false, []), (24, false, []), (25, false, []), (26, false, [])] [99, 100, 101, 102, 103, 104, 105, 106, 107, 108, 109, 110, 111, 112, 113, 114, 115, 116, 117, 118, 119, 120, 121, 122, 123, 124])
       (.cond (.tmp 125)
        (.seq (.region [
         ⟨some 2, .mov (.const (.bool false)), none, []⟩] [])
        (.ret))
        (.skip)))
       (.region [
        ⟨some 126, .mov (.tmp 0), none, []⟩, 
        ⟨some 127, .sliceStr (.tmp 126) (some (.const (.int .i64 3))) none, none, []⟩, 
        ⟨some 0, .mov (.tmp 127), none, []⟩] [126, 127]))
       (.seq (.region [
        ⟨some 129, .bin .eql (.tmp 75) (.const (.int .i64 4)), none, []⟩, 
        ⟨some 128, .mov (.tmp 129), none, []⟩] [129])
       (.cond (.tmp 128)
        (.seq (.seq (.dregion c37r25 ((0, false, []) :: (1, false, []) :: (2, false, []) :: (3, false, []) :: (4, false, []) :: (5, false, []) :: (6, false, []) :: (7, false, []) :: (8, false, []) :: (9, false, []) :: (10, false, []) :: (11, false, []) :: (12, false, []) :: (13, false, []) :: (14, false, []) :: (15, false, []) :: (16, false, []) :: (17, false, []) :: (18, false, []) :: (19, false, []) :: (20, false, []) :: (21, false, []) :: (22, false, []) :: (23, false, []) :: (24, false, []) :: (25, false, []) :: (26, false, []) :: (27, false, []) :: (28, false, []) :: (29, false, []) :: (30, false, []) :: (31, false, []) :: (32, false, []) :: (33, false, []) :: (34, false, []) :: (35, false, []) :: (36, false, []) :: []) (130 :: 131 :: 132 :: 133 :: 134 :: 135 :: 136 :: 137 :: 138 :: 139 :: 140 :: 141 :: 142 :: 143 :: 144 :: 145 :: 146 :: 147 :: 148 :: 149 :: 150 :: 151 :: 152 :: 153 :: 154 :: 155 :: 156 :: 157 :: 158 :: 159 :: 160 :: 161 :: 162 :: 163 :: 164 :: 165 :: []))
        (.cond (.tmp 166)
         (.seq (.region [
          ⟨some 2, .mov (.const (.bool false)), none, []⟩] [])
         (.ret))
         (.skip)))
        (.region [
         ⟨some 167, .mov (.tmp 0), none, []⟩, 
         ⟨some 168, .sliceStr (.tmp 167) (some (.const (.int .i64 4))) none, none, []⟩, 
         ⟨some 0, .mov (.tmp 168), none, []⟩] [167, 168]))
        (.seq (.region [
         ⟨some 2, .mov (.const (.bool false)), none, []⟩] [])
        (.ret)))))))))))))))))))
 (.seq (.region [
  ⟨some 2, .mov (.const (.bool true)), none, []⟩] [])
 (.ret)))
theorem ok37 : erase c37 = cCode Tryd.prog 169 ((Tryd.f37).body.getD .skip) := by kernel_rfl
theorem ord37 : ordsOk c37 = true := by kernel_rfl
theorem call37 {args : List SV} {h : Heap} {R : AEnd → Heap → Prop} (hn : Nat.ble args.length 169 = true) (hp : awp Tryd.prog c37 (finQ [.tmp 2] R) (argEnv 0 args) h) : ACall Tryd.prog 37 args h R :=
  acall_of_awp mixed Tryd.func37 rfl ord37 ok37 (by kernel_rfl) hn hp
def t37 : Tab := ⟨169, c37, [.tmp 2]⟩
theorem tab37 : TabOk Tryd.prog 37 t37 := tabOk Tryd.func37 rfl ord37 ok37 (by kernel_rfl) rfl

/-- strconv.FormatUint -/
def c38 : ACode :=
 .seq (.region [
  ⟨some 4, .mov (.const (.str [])), none, []⟩] [])
 (.seq (.region [
  ⟨some 5, .mov (.tmp 0), none, []⟩, 
  ⟨some 6, .mov (.tmp 1), none, []⟩, 
  ⟨some 7, .call 52 [(.tmp 5), (.tmp 6)], none, []⟩, 
  ⟨some 4, .mov (.tmp 7), none, []⟩] [5, 6, 7])
 (.ret))
theorem ok38 : erase c38 = cCode Tryd.prog 8 ((Tryd.f38).body.getD .skip) := by kernel_rfl
theorem ord38 : ordsOk c38 = true := by kernel_rfl
theorem call38 {args : List SV} {h : Heap} {R : AEnd → Heap → Prop} (hn : Nat.ble args.length 8 = true) (hp : awp Tryd.prog c38 (finQ [.tmp 4] R) (argEnv 0 args) h) : ACall Tryd.prog 38 args h R :=
  acall_of_awp mixed Tryd.func38 rfl ord38 ok38 (by kernel_rfl) hn hp
def t38 : Tab := ⟨8, c38, [.tmp 4]⟩
theorem tab38 : TabOk Tryd.prog 38 t38 := tabOk Tryd.func38 rfl ord38 ok38 (by kernel_rfl) rfl

/-- strings.ReplaceAll -/
def c39 : ACode :=
 .seq (.region [
  ⟨some 6, .mov (.const (.str [])), none, []⟩] [])
 (.seq (.region [
  ⟨some 7, .mov (.tmp 0), none, []⟩, 
  ⟨some 8, .mov (.tmp 1), none, []⟩, 
  ⟨some 9, .mov (.tmp 2), none, []⟩, 
  ⟨some 10, .call 53 [(.tmp 7), (.tmp 8), (.tmp 9), (.const (.int .i64 (-1)))], none, []⟩, 
  ⟨some 6, .mov (.tmp 10), none, []⟩] [7, 8, 9, 10])
 (.ret))
theorem ok39 : erase c39 = cCode Tryd.prog 11 ((Tryd.f39).body.getD .skip) := by kernel_rfl
theorem ord39 : ordsOk c39 = true := by kernel_rfl
theorem call39 {args : List SV} {h : Heap} {R : AEnd → Heap → Prop} (hn : Nat.ble args.length 11 = true) (hp : awp Tryd.prog c39 (finQ [.tmp 6] R) (argEnv 0 args) h) : ACall Tryd.prog 39 args h R :=
  acall_of_awp mixed Tryd.func39 rfl ord39 ok39 (by kernel_rfl) hn hp
def t39 : Tab := ⟨11, c39, [.tmp 6]⟩
theorem tab39 : TabOk Tryd.prog 39 t39 := tabOk Tryd.func39 rfl ord39 ok39 (by kernel_rfl) rfl

/-- (*strings.Builder).Len -/
def c43 : ACode :=
 .seq (.region [
  ⟨some 2, .mov (.const (.int .i64 0)), none, []⟩] [])
 (.seq (.region [
  ⟨some 3, .mov (.tmp 0), none, []⟩, 
  ⟨some 4, .nilChk (.tmp 3), none, []⟩, 
  ⟨some 5, .fieldAddr 1 (.tmp 4), none, []⟩, 
  ⟨some 6, .loadS (.tmp 5), none, []⟩, 
  ⟨some 7, .len false (.tmp 6), none, []⟩, 
  ⟨some 2, .mov (.tmp 7), none, []⟩] [3, 4, 5, 6, 7])
 (.ret))
theorem ok43 : erase c43 = cCode Tryd.prog 8 ((Tryd.f43).body.getD .skip) := by kernel_rfl
theorem ord43 : ordsOk c43 = true := by kernel_rfl
theorem call43 {args : List SV} {h : Heap} {R : AEnd → Heap → Prop} (hn : Nat.ble args.length 8 = true) (hp : awp Tryd.prog c43 (finQ [.tmp 2] R) (argEnv 0 args) h) : ACall Tryd.prog 43 args h R :=
  acall_of_awp mixed Tryd.func43 rfl ord43 ok43 (by kernel_rfl) hn hp
def t43 : Tab := ⟨8, c43, [.tmp 2]⟩
theorem tab43 : TabOk Tryd.prog 43 t43 := tabOk Tryd.func43 rfl ord43 ok43 (by kernel_rfl) rfl

/-- strings.Fields -/
def c44 : ACode :=
 .seq (.region [
  ⟨some 2, .mov (.const .nils), none, []⟩] [])
 (.seq (.region [
  ⟨some 3, .mov (.const (.int .i64 0)), none, []⟩] [])
 (.seq (.region [
  ⟨some 4, .mov (.const (.int .i64 1)), none, []⟩] [])
 (.seq (.region [
  ⟨some 5, .mov (.const (.int .u8 0)), none, []⟩] [])
 (.seq (.seq (.region [
  ⟨some 6, .mov (.const (.int .i64 0)), none, []⟩] [])
 (.block 0 (.loop (.seq (.seq (.region [
    ⟨some 13, .mov (.tmp 6), none, []⟩, 
    ⟨some 14, .mov (.tmp 0), none, []⟩, 
    ⟨some 15, .len true (.tmp 14), none, []⟩, 
    ⟨some 16, .bin .lss (.tmp 13) (.tmp 15), none, []⟩] [13, 14, 15])
   (.cond (.tmp 16)
    (.skip)
    (.exit 0)))
   (.seq (.block 1 (.seq (.region [
     ⟨some 19, .mov (.tmp 0), none, []⟩, 
     ⟨some 20, .mov (.tmp 6), none, []⟩, 
     ⟨some 21, .index (.tmp 19) (.tmp 20), none, []⟩, 
     ⟨some 7, .mov (.tmp 21), none, []⟩] [19, 20, 21])
    (.seq (.region [
     ⟨some 22, .mov (.tmp 5), none, []⟩, 
     ⟨some 23, .mov (.tmp 7), none, []⟩, 
     ⟨some 24, .bin .or (.tmp 22) (.tmp 23), none, []⟩, 
     ⟨some 5, .mov (.tmp 24), none, []⟩] [22, 23, 24])
    (.seq (.region [
     ⟨some 25, .mov (.tmp 7), none, []⟩, 
     ⟨some 26, .indexArr 256 1 (.const (.glob 4)) (.tmp 25), none, []⟩, 
     ⟨some 27, .loadS (.tmp 26), none, []⟩, 
     ⟨some 28, .conv .i64 (.tmp 27), none, []⟩, 
     ⟨some 8, .mov (.tmp 28), none, []⟩] [25, 26, 27, 28])
    (.seq (.region [
     ⟨some 29, .mov (.tmp 3), none, []⟩, 
     ⟨some 30, .mov (.tmp 4), none, []⟩, 
     ⟨some 31, .mov (.tmp 8), none, []⟩, 
     ⟨some 32, .un .xor (.tmp 31), none, []⟩, 
     ⟨some 33, .bin .and (.tmp 30) (.tmp 32), none, []⟩, 
     ⟨some 34, .bin .add (.tmp 29) (.tmp 33), none, []⟩, 
     ⟨some 3, .mov (.tmp 34), none, []⟩] [29, 30, 31, 32, 33, 34])
    (.region [
     ⟨some 35, .mov (.tmp 8), none, []⟩, 
     ⟨some 4, .mov (.tmp 35), none, []⟩] [35]))))))
   (.region [
    ⟨some 17, .mov (.tmp 6), none, []⟩, 
    ⟨some 18, .bin .add (.tmp 17) (.const (.int .i64 1)), none, []⟩, 
    ⟨some 6, .mov (.tmp 18), none, []⟩] [17, 18]))))))
 (.seq (.seq (.region [
  ⟨some 36, .mov (.tmp 5), none, []⟩, 
  ⟨some 37, .bin .geq (.tmp 36) (.const (.int .u8 128)), none, []⟩] [36])
 (.cond (.tmp 37)
  (.seq (.region [
   ⟨some 38, .mov (.tmp 0), none, []⟩, 
   ⟨some 39, .call 57 [(.tmp 38), (.const (.func (.func 58) [] []))], none, []⟩, 
   ⟨some 2, .mov (.tmp 39), none, []⟩] [38, 39])
  (.ret))
  (.skip)))
 (.seq (.region [
  ⟨some 40, .mov (.tmp 3), none, []⟩, 
  ⟨some 41, .makeSlice 9 1 16 (.str []) (.tmp 40) (.tmp 40), none, []⟩, 
  ⟨some 9, .mov (.tmp 41), none, []⟩] [40, 41])
 (.seq (.region [
  ⟨some 10, .mov (.const (.int .i64 0)), none, []⟩] [])
 (.seq (.region [
  ⟨some 11, .mov (.const (.int .i64 0)), none, []⟩] [])
 (.seq (.region [
  ⟨some 12, .mov (.const (.int .i64 0)), none, []⟩] [])
 (.seq (.block 2 (.loop (.seq (.seq (.region [
    ⟨some 42, .mov (.tmp 12), none, []⟩, 
    ⟨some 43, .mov (.tmp 0), none, []⟩, 
    ⟨some 44, .len true (.tmp 43), none, []⟩, 
    ⟨some 45, .bin .lss (.tmp 42) (.tmp 44), none, []⟩, 
    ⟨some 46, .mov (.tmp 45), none, []⟩, 
    ⟨some 47, .mov (.tmp 0), (some (46, true)), []⟩, 
    ⟨some 48, .mov (.tmp 12), (some (46, true)), []⟩, 
    ⟨some 49, .index (.tmp 47) (.tmp 48), (some (46, true)), []⟩, 
    ⟨some 50, .indexArr 256 1 (.const (.glob 4)) (.tmp 49), (some (46, true)), []⟩, 
    ⟨some 51, .loadS (.tmp 50), (some (46, true)), []⟩, 
    ⟨some 52, .bin .neq (.tmp 51) (.const (.int .u8 0)), (some (46, true)), []⟩, 
    ⟨some 53, .pick (.tmp 46) (.tmp 52) (.const (.bool false)), none, []⟩] [42, 43, 44, 45, 46, 47, 48, 49, 50, 51, 52])
   (.cond (.tmp 53)
    (.skip)
    (.exit 2)))
   (.block 3 (.region [
     ⟨some 54, .mov (.tmp 12), none, []⟩, 
     ⟨some 55, .bin .add (.tmp 54) (.const (.int .i64 1)), none, []⟩, 
     ⟨some 12, .mov (.tmp 55), none, []⟩] [54, 55])))))
 (.seq (.region [
  ⟨some 56, .mov (.tmp 12), none, []⟩, 
  ⟨some 11, .mov (.tmp 56), none, []⟩] [56])
 (.seq (.block 4 (.loop (.seq (.seq (.region [
    ⟨some 57, .mov (.tmp 12), none, []⟩, 
    ⟨some 58, .mov (.tmp 0), none, []⟩, 
    ⟨some 59, .len true (.tmp 58), none, []⟩, 
    ⟨some 60, .bin .lss (.tmp 57) (.tmp 59), none, []⟩] [57, 58, 59])
   (.cond (.tmp 60)
    (.skip)
    (.exit 4)))
   (.block 5 (.seq (.seq (.region [
     ⟨some 61, .mov (.tmp 0), none, []⟩, 
     ⟨some 62, .mov (.tmp 12), none, []⟩, 
     ⟨some 63, .index (.tmp 61) (.tmp 62), none, []⟩, 
     ⟨some 64, .indexArr 256 1 (.const (.glob 4)) (.tmp 63), none, []⟩, 
     ⟨some 65, .loadS (.tmp 64), none, []⟩, 
     ⟨some 66, .bin .eql (.tmp 65) (.const (.int .u8 0)), none, []⟩] [61, 62, 63, 64, 65])
    (.cond (.tmp 66)
     (.seq (.region [
      ⟨some 67, .mov (.tmp 12), none, []⟩, 
      ⟨some 68, .bin .add (.tmp 67) (.const (.int .i64 1)), none, []⟩, 
      ⟨some 12, .mov (.tmp 68), none, []⟩] [67, 68])
     (.exit 5))
     (.skip)))
    (.seq (.region [
     ⟨some 69, .mov (.tmp 9), none, []⟩, 
     ⟨some 70, .mov (.tmp 10), none, []⟩, 
     ⟨some 71, .mov (.tmp 0), none, []⟩, 
     ⟨some 72, .mov (.tmp 11), none, []⟩, 
     ⟨some 73, .mov (.tmp 12), none, []⟩, 
     ⟨some 74, .sliceStr (.tmp 71) (some (.tmp 72)) (some (.tmp 73)), none, []⟩, 
     ⟨some 75, .indexAddr 1 (.tmp 69) (.tmp 70), none, []⟩, 
     ⟨none, .store 1 (.tmp 75) (.tmp 74), none, []⟩] [69, 70, 71, 72, 73, 74, 75])
    (.seq (.region [
     ⟨some 76, .mov (.tmp 10), none, []⟩, 
     ⟨some 77, .bin .add (.tmp 76) (.const (.int .i64 1)), none, []⟩, 
     ⟨some 10, .mov (.tmp 77), none, []⟩] [76, 77])
    (.seq (.region [
     ⟨some 78, .mov (.tmp 12), none, []⟩, 
     ⟨some 79, .bin .add (.tmp 78) (.const (.int .i64 1)), none, []⟩, 
     ⟨some 12, .mov (.tmp 79), none, []⟩] [78, 79])
    (.seq (.block 6 (.loop (.seq (.seq (.region [
       ⟨some 80, .mov (.tmp 12), none, []⟩, 
       ⟨some 81, .mov (.tmp 0), none, []⟩, 
       ⟨some 82, .len true (.tmp 81), none, []⟩, 
       ⟨some 83, .bin .lss (.tmp 80) (.tmp 82), none, []⟩, 
       ⟨some 84, .mov (.tmp 83), none, []⟩, 
       ⟨some 85, .mov (.tmp 0), (some (84, true)), []⟩, 
       ⟨some 86, .mov (.tmp 12), (some (84, true)), []⟩, 
       ⟨some 87, .index (.tmp 85) (.tmp 86), (some (84, true)), []⟩, 
       ⟨some 88, .indexArr 256 1 (.const (.glob 4)) (.tmp 87), (some (84, true)), []⟩, 
       ⟨some 89, .loadS (.tmp 88), (some (84, true)), []⟩, 
       ⟨some 90, .bin .neq (.tmp 89) (.const (.int .u8 0)), (some (84, true)), []⟩, 
       ⟨some 91, .pick (.tmp 84) (.tmp 90) (.const (.bool false)), none, []⟩] [80, 81, 82, 83, 84, 85, 86, 87, 88, 89, 90])
      (.cond (.tmp 91)
       (.skip)
       (.exit 6)))
      (.block 7 (.region [
        ⟨some 92, .mov (.tmp 12), none, []⟩, 
        ⟨some 93, .bin .add (.tmp 92) (.const (.int .i64 1)), none, []⟩, 
        ⟨some 12, .mov (.tmp 93), none, []⟩] [92, 93])))))
    (.region [
     ⟨some 94, .mov (.tmp 12), none, []⟩, 
     ⟨some 11, .mov (.tmp 94), none, []⟩] [94]))))))))))
 (.seq (.seq (.region [
  ⟨some 95, .mov (.tmp 11), none, []⟩, 
  ⟨some 96, .mov (.tmp 0), none, []⟩, 
  ⟨some 97, .len true (.tmp 96), none, []⟩, 
  ⟨some 98, .bin .lss (.tmp 95) (.tmp 97), none, []⟩] [95, 96, 97])
 (.cond (.tmp 98)
  (.region [
   ⟨some 99, .mov (.tmp 9), none, []⟩, 
   ⟨some 100, .mov (.tmp 10), none, []⟩, 
   ⟨some 101, .mov (.tmp 0), none, []⟩, 
   ⟨some 102, .mov (.tmp 11), none, []⟩, 
   ⟨some 103, .sliceStr (.tmp 101) (some (.tmp 102)) none, none, []⟩, 
   ⟨some 104, .indexAddr 1 (.tmp 99) (.tmp 100), none, []⟩, 
   ⟨none, .store 1 (.tmp 104) (.tmp 103), none, []⟩] [99, 100, 101, 102, 103, 104])
  (.skip)))
 (.seq (.region [
  ⟨some 105, .mov (.tmp 9), none, []⟩, 
  ⟨some 2, .mov (.tmp 105), none, []⟩] [105])
 (.ret)))))))))))))))
theorem ok44 : erase c44 = cCode Tryd.prog 106 ((Tryd.f44).body.getD .skip) := by kernel_rfl
theorem ord44 : ordsOk c44 = true := by kernel_rfl
theorem call44 {args : List SV} {h : Heap} {R : AEnd → Heap → Prop} (hn : Nat.ble args.length 106 = true) (hp : awp Tryd.prog c44 (finQ [.tmp 2] R) (argEnv 0 args) h) : ACall Tryd.prog 44 args h R :=
  acall_of_awp mixed Tryd.func44 rfl ord44 ok44 (by kernel_rfl) hn hp
def t44 : Tab := ⟨106, c44, [.tmp 2]⟩
theorem tab44 : TabOk Tryd.prog 44 t44 := tabOk Tryd.func44 rfl ord44 ok44 (by kernel_rfl) rfl

/-- internal/stringslite.HasPrefix -/
def c45 : ACode :=
 .seq (.region [
  ⟨some 4, .mov (.const (.bool false)), none, []⟩] [])
 (.seq (.region [
  ⟨some 5, .mov (.tmp 0), none, []⟩, 
  ⟨some 6, .len true (.tmp 5), none, []⟩, 
  ⟨some 7, .mov (.tmp 1), none, []⟩, 
  ⟨some 8, .len true (.tmp 7), none, []⟩, 
  ⟨some 9, .bin .geq (.tmp 6) (.tmp 8), none, []⟩, 
  ⟨some 10, .mov (.tmp 9), none, []⟩, 
  ⟨some 11, .mov (.tmp 0), (some (10, true)), []⟩, 
  ⟨some 12, .mov (.tmp 1), (some (10, true)), []⟩, 
  ⟨some 13, .len true (.tmp 12), (some (10, true)), []⟩, 
  ⟨some 14, .sliceStr (.tmp 11) none (some (.tmp 13)), (some (10, true)), []⟩, 
  ⟨some 15, .mov (.tmp 1), (some (10, true)), []⟩, 
  ⟨some 16, .bin .eql (.tmp 14) (.tmp 15), (some (10, true)), []⟩, 
  ⟨some 17, .pick (.tmp 10) (.tmp 16) (.const (.bool false)), none, []⟩, 
  ⟨some 4, .mov (.tmp 17), none, []⟩] [5, 6, 7, 8, 9, 10, 11, 12, 13, 14, 15, 16, 17])
 (.ret))
theorem ok45 : erase c45 = cCode Tryd.prog 18 ((Tryd.f45).body.getD .skip) := by kernel_rfl
theorem ord45 : ordsOk c45 = true := by kernel_rfl
theorem call45 {args : List SV} {h : Heap} {R : AEnd → Heap → Prop} (hn : Nat.ble args.length 18 = true) (hp : awp Tryd.prog c45 (finQ [.tmp 4] R) (argEnv 0 args) h) : ACall Tryd.prog 45 args h R :=
  acall_of_awp mixed Tryd.func45 rfl ord45 ok45 (by kernel_rfl) hn hp
def t45 : Tab := ⟨18, c45, [.tmp 4]⟩
theorem tab45 : TabOk Tryd.prog 45 t45 := tabOk Tryd.func45 rfl ord45 ok45 (by kernel_rfl) rfl

/-- unicode/utf8.decodeRuneInStringSlow -/
def c48 : ACode :=
 .seq (.region [
  ⟨some 2, .mov (.const (.int .i32 0)), none, []⟩, 
  ⟨some 3, .mov (.const (.int .i64 0)), none, []⟩] [])
 (.seq (.region [
  ⟨some 13, .mov (.tmp 0), none, []⟩, 
  ⟨some 14, .len true (.tmp 13), none, []⟩, 
  ⟨some 4, .mov (.tmp 14), none, []⟩] [13, 14])
 (.seq (.seq (.region [
  ⟨some 15, .mov (.tmp 4), none, []⟩, 
  ⟨some 16, .bin .lss (.tmp 15) (.const (.int .i64 1)), none, []⟩] [15])
 (.cond (.tmp 16)
  (.seq (.region [
   ⟨some 2, .mov (.const (.int .i32 65533)), none, []⟩, 
   ⟨some 3, .mov (.const (.int .i64 0)), none, []⟩] [])
  (.ret))
  (.skip)))
 (.seq (.region [
  ⟨some 17, .mov (.tmp 0), none, []⟩, 
  ⟨some 18, .index (.tmp 17) (.const (.int .i64 0)), none, []⟩, 
  ⟨some 5, .mov (.tmp 18), none, []⟩] [17, 18])
 (.seq (.region [
  ⟨some 19, .mov (.tmp 5), none, []⟩, 
  ⟨some 20, .indexArr 256 1 (.const (.glob 1)) (.tmp 19), none, []⟩, 
  ⟨some 21, .loadS (.tmp 20), none, []⟩, 
  ⟨some 6, .mov (.tmp 21), none, []⟩] [19, 20, 21])
 (.seq (.seq (.region [
  ⟨some 22, .mov (.tmp 6), none, []⟩, 
  ⟨some 23, .bin .geq (.tmp 22) (.const (.int .u8 240)), none, []⟩] [22])
 (.cond (.tmp 23)
  (.seq (.region [
   ⟨some 24, .mov (.tmp 6), none, []⟩, 
   ⟨some 25, .conv .i32 (.tmp 24), none, []⟩, 
   ⟨some 26, .bin .shl (.tmp 25) (.const (.int .u64 31)), none, []⟩, 
   ⟨some 27, .bin .shr (.tmp 26) (.const (.int .u64 31)), none, []⟩, 
   ⟨some 7, .mov (.tmp 27), none, []⟩] [24, 25, 26, 27])
  (.seq (.region [
   ⟨some 28, .mov (.tmp 0), none, []⟩, 
   ⟨some 29, .index (.tmp 28) (.const (.int .i64 0)), none, []⟩, 
   ⟨some 30, .conv .i32 (.tmp 29), none, []⟩, 
   ⟨some 31, .mov (.tmp 7), none, []⟩, 
   ⟨some 32, .bin .andNot (.tmp 30) (.tmp 31), none, []⟩, 
   ⟨some 33, .mov (.tmp 7), none, []⟩, 
   ⟨some 34, .bin .and (.const (.int .i32 65533)) (.tmp 33), none, []⟩, 
   ⟨some 35, .bin .or (.tmp 32) (.tmp 34), none, []⟩, 
   ⟨some 2, .mov (.tmp 35), none, []⟩, 
   ⟨some 3, .mov (.const (.int .i64 1)), none, []⟩] [28, 29, 30, 31, 32, 33, 34, 35])
  (.ret)))
  (.skip)))
 (.seq (.region [
  ⟨some 36, .mov (.tmp 6), none, []⟩, 
  ⟨some 37, .bin .and (.tmp 36) (.const (.int .u8 7)), none, []⟩, 
  ⟨some 38, .conv .i64 (.tmp 37), none, []⟩, 
  ⟨some 8, .mov (.tmp 38), none, []⟩] [36, 37, 38])
 (.seq (.region [
  ⟨some 39, .mov (.tmp 6), none, []⟩, 
  ⟨some 40, .bin .shr (.tmp 39) (.const (.int .u64 4)), none, []⟩, 
  ⟨some 41, .indexArr 16 2 (.const (.glob 2)) (.tmp 40), none, []⟩, 
  ⟨some 42, .loadA 2 (.tmp 41), none, []⟩, 
  ⟨some 9, .box 86 2 (.const (.agg [(.int .u8 0), (.int .u8 0)])), none, []⟩, 
  ⟨none, .store 2 (.tmp 9) (.tmp 42), none, []⟩] [39, 40, 41, 42])
 (.seq (.seq (.region [
  ⟨some 43, .mov (.tmp 4), none, []⟩, 
  ⟨some 44, .mov (.tmp 8), none, []⟩, 
  ⟨some 45, .bin .lss (.tmp 43) (.tmp 44), none, []⟩] [43, 44])
 (.cond (.tmp 45)
  (.seq (.region [
   ⟨some 2, .mov (.const (.int .i32 65533)), none, []⟩, 
   ⟨some 3, .mov (.const (.int .i64 1)), none, []⟩] [])
  (.ret))
  (.skip)))
 (.seq (.region [
  ⟨some 46, .mov (.tmp 0), none, []⟩, 
  ⟨some 47, .index (.tmp 46) (.const (.int .i64 1)), none, []⟩, 
  ⟨some 10, .mov (.tmp 47), none, []⟩] [46, 47])
 (.seq (.seq (.region [
  ⟨some 48, .mov (.tmp 10), none, []⟩, 
  ⟨some 49, .fieldAddr 0 (.tmp 9), none, []⟩, 
  ⟨some 50, .loadS (.tmp 49), none, []⟩, 
  ⟨some 51, .bin .lss (.tmp 48) (.tmp 50), none, []⟩, 
  ⟨some 52, .mov (.tmp 51), none, []⟩, 
  ⟨some 53, .fieldAddr 1 (.tmp 9), (some (52, false)), []⟩, 
  ⟨some 54, .loadS (.tmp 53), (some (52, false)), []⟩, 
  ⟨some 55, .mov (.tmp 10), (some (52, false)), []⟩, 
  ⟨some 56, .bin .lss (.tmp 54) (.tmp 55), (some (52, false)), []⟩, 
  ⟨some 57, .pick (.tmp 52) (.const (.bool true)) (.tmp 56), none, []⟩] [48, 49, 50, 51, 52, 53, 54, 55, 56])
 (.cond (.tmp 57)
  (.seq (.region [
   ⟨some 2, .mov (.const (.int .i32 65533)), none, []⟩, 
   ⟨some 3, .mov (.const (.int .i64 1)), none, []⟩] [])
  (.ret))
  (.skip)))
 (.seq (.seq (.region [
  ⟨some 58, .mov (.tmp 8), none, []⟩, 
  ⟨some 59, .bin .leq (.tmp 58) (.const (.int .i64 2)), none, []⟩] [58])
 (.cond (.tmp 59)
  (.seq (.region [
   ⟨some 60, .mov (.tmp 5), none, []⟩, 
   ⟨some 61, .bin .and (.tmp 60) (.const (.int .u8 31)), none, []⟩, 
   ⟨some 62, .conv .i32 (.tmp 61), none, []⟩, 
   ⟨some 63, .bin .shl (.tmp 62) (.const (.int .u64 6)), none, []⟩, 
   ⟨some 64, .mov (.tmp 10), none, []⟩, 
   ⟨some 65, .bin .and (.tmp 64) (.const (.int .u8 63)), none, []⟩, 
   ⟨some 66, .conv .i32 (.tmp 65), none, []⟩, 
   ⟨some 67, .bin .or (.tmp 63) (.tmp 66), none, []⟩, 
   ⟨some 2, .mov (.tmp 67), none, []⟩, 
   ⟨some 3, .mov (.const (.int .i64 2)), none, []⟩] [60, 61, 62, 63, 64, 65, 66, 67])
  (.ret))
  (.skip)))
 (.seq (.region [
  ⟨some 68, .mov (.tmp 0), none, []⟩, 
  ⟨some 69, .index (.tmp 68) (.const (.int .i64 2)), none, []⟩, 
  ⟨some 11, .mov (.tmp 69), none, []⟩] [68, 69])
 (.seq (.seq (.region [
  ⟨some 70, .mov (.tmp 11), none, []⟩, 
  ⟨some 71, .bin .lss (.tmp 70) (.const (.int .u8 128)), none, []⟩, 
  ⟨some 72, .mov (.tmp 71), none, []⟩, 
  ⟨some 73, .mov (.tmp 11), (some (72, false)), []⟩, 
  ⟨some 74, .bin .lss (.const (.int .u8 191)) (.tmp 73), (some (72, false)), []⟩, 
  ⟨some 75, .pick (.tmp 72) (.const (.bool true)) (.tmp 74), none, []⟩] [70, 71, 72, 73, 74])
 (.cond (.tmp 75)
  (.seq (.region [
   ⟨some 2, .mov (.const (.int .i32 65533)), none, []⟩, 
   ⟨some 3, .mov (.const (.int .i64 1)), none, []⟩] [])
  (.ret))
  (.skip)))
 (.seq (.seq (.region [
  ⟨some 76, .mov (.tmp 8), none, []⟩, 
  ⟨some 77, .bin .leq (.tmp 76) (.const (.int .i64 3)), none, []⟩] [76])
 (.cond (.tmp 77)
  (.seq (.region [
   ⟨some 78, .mov (.tmp 5), none, []⟩, 
   ⟨some 79, .bin .and (.tmp 78) (.const (.int .u8 15)), none, []⟩, 
   ⟨some 80, .conv .i32 (.tmp 79), none, []⟩, 
   ⟨some 81, .bin .shl (.tmp 80) (.const (.int .u64 12)), none, []⟩, 
   ⟨some 82, .mov (.tmp 10), none, []⟩, 
   ⟨some 83, .bin .and (.tmp 82) (.const (.int .u8 63)), none, []⟩, 
   ⟨some 84, .conv .i32 (.tmp 83), none, []⟩, 
   ⟨some 85, .bin .shl (.tmp 84) (.const (.int .u64 6)), none, []⟩, 
   ⟨some 86, .bin .or (.tmp 81) (.tmp 85), none, []⟩, 
   ⟨some 87, .mov (.tmp 11), none, []⟩, 
   ⟨some 88, .bin .and (.tmp 87) (.const (.int .u8 63)), none, []⟩, 
   ⟨some 89, .conv .i32 (.tmp 88), none, []⟩, 
   ⟨some 90, .bin .or (.tmp 86) (.tmp 89), none, []⟩, 
   ⟨some 2, .mov (.tmp 90), none, []⟩, 
   ⟨some 3, .mov (.const (.int .i64 3)), none, []⟩] [78, 79, 80, 81, 82, 83, 84, 85, 86, 87, 88, 89, 90])
  (.ret))
  (.skip)))
 (.seq (.region [
  ⟨some 91, .mov (.tmp 0), none, []⟩, 
  ⟨some 92, .index (.tmp 91) (.const (.int .i64 3)), none, []⟩, 
  ⟨some 12, .mov (.tmp 92), none, []⟩] [91, 92])
 (.seq (.seq (.region [
  ⟨some 93, .mov (.tmp 12), none, []⟩, 
  ⟨some 94, .bin .lss (.tmp 93) (.const (.int .u8 128)), none, []⟩, 
  ⟨some 95, .mov (.tmp 94), none, []⟩, 
  ⟨some 96, .mov (.tmp 12), (some (95, false)), []⟩, 
  ⟨some 97, .bin .lss (.const (.int .u8 191)) (.tmp 96), (some (95, false)), []⟩, 
  ⟨some 98, .pick (.tmp 95) (.const (.bool true)) (.tmp 97), none, []⟩] [93, 94, 95, 96, 97])
 (.cond (.tmp 98)
  (.seq (.region [
   ⟨some 2, .mov (.const (.int .i32 65533)), none, []⟩, 
   ⟨some 3, .mov (.const (.int .i64 1)), none, []⟩] [])
  (.ret))
  (.skip)))
 (.seq (.region [
  ⟨some 99, .mov (.tmp 5), none, []⟩, 
  ⟨some 100, .bin .and (.tmp 99) (.const (.int .u8 7)), none, []⟩, 
  ⟨some 101, .conv .i32 (.tmp 100), none, []⟩, 
  ⟨some 102, .bin .shl (.tmp 101) (.const (.int .u64 18)), none, []⟩, 
  ⟨some 103, .mov (.tmp 10), none, []⟩, 
  ⟨some 104, .bin .and (.tmp 103) (.const (.int .u8 63)), none, []⟩, 
  ⟨some 105, .conv .i32 (.tmp 104), none, []⟩, 
  ⟨some 106, .bin .shl (.tmp 105) (.const (.int .u64 12)), none, []⟩, 
  ⟨some 107, .bin .or (.tmp 102) (.tmp 106), none, []⟩, 
  ⟨some 108, .mov (.tmp 11), none, []⟩, 
  ⟨some 109, .bin .and (.tmp 108) (.const (.int .u8 63)), none, []⟩, 
  ⟨some 110, .conv .i32 (.tmp 109), none, []⟩, 
  ⟨some 111, .bin .shl (.tmp 110) (.const (.int .u64 6)), none, []⟩, 
  ⟨some 112, .bin .or (.tmp 107) (.tmp 111), none, []⟩, 
  ⟨some 113, .mov (.tmp 12), none, []⟩, 
  ⟨some 114, .bin .and (.tmp 113) (.const (.int .u8 63)), none, []⟩, 
  ⟨some 115, .conv .i32 (.tmp 114), none, []⟩, 
  ⟨some 116, .bin .or (.tmp 112) (.tmp 115), none, []⟩, 
  ⟨some 2, .mov (.tmp 116), none, []⟩, 
  ⟨some 3, .mov (.const (.int .i64 4)), none, []⟩] [99, 100, 101, 102, 103, 104, 105, 106, 107, 108, 109, 110, 111, 112, 113, 114, 115, 116])
 (.ret))))))))))))))))))
theorem ok48 : erase c48 = cCode Tryd.prog 117 ((Tryd.f48).body.getD .skip) := by kernel_rfl
theorem ord48 : ordsOk c48 = true := by kernel_rfl
theorem call48 {args : List SV} {h : Heap} {R : AEnd → Heap → Prop} (hn : Nat.ble args.length 117 = true) (hp : awp Tryd.prog c48 (finQ [.tmp 2, .tmp 3] R) (argEnv 0 args) h) : ACall Tryd.prog 48 args h R :=
  acall_of_awp mixed Tryd.func48 rfl ord48 ok48 (by kernel_rfl) hn hp
def t48 : Tab := ⟨117, c48, [.tmp 2, .tmp 3]⟩
theorem tab48 : TabOk Tryd.prog 48 t48 := tabOk Tryd.func48 rfl ord48 ok48 (by kernel_rfl) rfl

/-- unicode.to -/
def c50 : ACode :=
 .seq (.region [
  ⟨some 6, .mov (.const (.int .i32 0)), none, []⟩, 
  ⟨some 7, .mov (.const (.bool false)), none, []⟩] [])
 (.seq (.seq (.region [
  ⟨some 9, .mov (.tmp 0), none, []⟩, 
  ⟨some 10, .bin .lss (.tmp 9) (.const (.int .i64 0)), none, []⟩, 
  ⟨some 11, .mov (.tmp 10), none, []⟩, 
  ⟨some 12, .mov (.tmp 0), (some (11, false)), []⟩, 
  ⟨some 13, .bin .leq (.const (.int .i64 3)) (.tmp 12), (some (11, false)), []⟩, 
  ⟨some 14, .pick (.tmp 11) (.const (.bool true)) (.tmp 13), none, []⟩] [9, 10, 11, 12, 13])
 (.cond (.tmp 14)
  (.seq (.region [
   ⟨some 6, .mov (.const (.int .i32 65533)), none, []⟩, 
   ⟨some 7, .mov (.const (.bool false)), none, []⟩] [])
  (.ret))
  (.skip)))
 (.seq (.seq (.region [
  ⟨some 15, .mov (.tmp 1), none, []⟩, 
  ⟨some 16, .mov (.tmp 2), none, []⟩, 
  ⟨some 17, .call 60 [(.tmp 15), (.tmp 16)], none, []⟩, 
  ⟨some 8, .mov (.tmp 17), none, []⟩] [15, 16, 17])
 (.seq (.region [
  ⟨some 18, .mov (.tmp 8), none, []⟩, 
  ⟨some 19, .eqP true (.tmp 18) (.const .nilp), none, []⟩] [18])
 (.cond (.tmp 19)
  (.seq (.region [
   ⟨some 20, .mov (.tmp 0), none, []⟩, 
   ⟨some 21, .mov (.tmp 1), none, []⟩, 
   ⟨some 22, .mov (.tmp 8), none, []⟩, 
   ⟨some 23, .call 61 [(.tmp 20), (.tmp 21), (.tmp 22)], none, []⟩, 
   ⟨some 6, .mov (.tmp 23), none, []⟩, 
   ⟨some 7, .mov (.const (.bool true)), none, []⟩] [20, 21, 22, 23])
  (.ret))
  (.skip))))
 (.seq (.region [
  ⟨some 24, .mov (.tmp 1), none, []⟩, 
  ⟨some 6, .mov (.tmp 24), none, []⟩, 
  ⟨some 7, .mov (.const (.bool false)), none, []⟩] [24])
 (.ret))))
theorem ok50 : erase c50 = cCode Tryd.prog 25 ((Tryd.f50).body.getD .skip) := by kernel_rfl
theorem ord50 : ordsOk c50 = true := by kernel_rfl
theorem call50 {args : List SV} {h : Heap} {R : AEnd → Heap → Prop} (hn : Nat.ble args.length 25 = true) (hp : awp Tryd.prog c50 (finQ [.tmp 6, .tmp 7] R) (argEnv 0 args) h) : ACall Tryd.prog 50 args h R :=
  acall_of_awp mixed Tryd.func50 rfl ord50 ok50 (by kernel_rfl) hn hp
def t50 : Tab := ⟨25, c50, [.tmp 6, .tmp 7]⟩
theorem tab50 : TabOk Tryd.prog 50 t50 := tabOk Tryd.func50 rfl ord50 ok50 (by kernel_rfl) rfl

def c51r1 : List AOper := [
 ⟨some 3, .mov (.tmp 0), none, []⟩, 
 ⟨some 4, .index (.tmp 3) (.const (.int .i64 0)), none, [0]⟩, 
 ⟨some 5, .conv .u64 (.tmp 4), none, [1]⟩, 
 ⟨some 6, .mov (.tmp 0), none, []⟩, 
 ⟨some 7, .index (.tmp 6) (.const (.int .i64 1)), none, [3]⟩, 
 ⟨some 8, .conv .u64 (.tmp 7), none, [4]⟩, 
 ⟨some 9, .bin .shl (.tmp 8) (.const (.int .u64 8)), none, [5]⟩, 
 ⟨some 10, .bin .or (.tmp 5) (.tmp 9), none, [2, 6]⟩, 
 ⟨some 11, .mov (.tmp 0), none, []⟩, 
 ⟨some 12, .index (.tmp 11) (.const (.int .i64 2)), none, [8]⟩, 
 ⟨some 13, .conv .u64 (.tmp 12), none, [9]⟩, 
 ⟨some 14, .bin .shl (.tmp 13) (.const (.int .u64 16)), none, [10]⟩, 
 ⟨some 15, .bin .or (.tmp 10) (.tmp 14), none, [7, 11]⟩, 
 ⟨some 16, .mov (.tmp 0), none, []⟩, 
 ⟨some 17, .index (.tmp 16) (.const (.int .i64 3)), none, [13]⟩, 
 ⟨some 18, .conv .u64 (.tmp 17), none, [14]⟩, 
 ⟨some 19, .bin .shl (.tmp 18) (.const (.int .u64 24)), none, [15]⟩, 
 ⟨some 20, .bin .or (.tmp 15) (.tmp 19), none, [12, 16]⟩, 
 ⟨some 2, .mov (.tmp 20), none, [17, 0, 1, 2, 3, 4, 5, 6, 7, 8, 9, 10, 11, 12, 13, 14, 15, 16, 17]⟩]
def c51r2 : List AOper := (
 ⟨some 21, .mov (.tmp 0), none, []⟩ :: 
 ⟨some 22, .index (.tmp 21) (.const (.int .i64 0)), none, [0]⟩ :: 
 ⟨some 23, .conv .u64 (.tmp 22), none, [1]⟩ :: 
 ⟨some 24, .mov (.tmp 0), none, []⟩ :: 
 ⟨some 25, .index (.tmp 24) (.const (.int .i64 1)), none, [3]⟩ :: 
 ⟨some 26, .conv .u64 (.tmp 25), none, [4]⟩ :: 
 ⟨some 27, .bin .shl (.tmp 26) (.const (.int .u64 8)), none, [5]⟩ :: 
 ⟨some 28, .bin .or (.tmp 23) (.tmp 27), none, [2, 6]⟩ :: 
 ⟨some 29, .mov (.tmp 0), none, []⟩ :: 
 ⟨some 30, .index (.tmp 29) (.const (.int .i64 2)), none, [8]⟩ :: 
 ⟨some 31, .conv .u64 (.tmp 30), none, [9]⟩ :: 
 ⟨some 32, .bin .shl (.tmp 31) (.const (.int .u64 16)), none, [10]⟩ :: 
 ⟨some 33, .bin .or (.tmp 28) (.tmp 32), none, [7, 11]⟩ :: 
 ⟨some 34, .mov (.tmp 0), none, []⟩ :: 
 ⟨some 35, .index (.tmp 34) (.const (.int .i64 3)), none, [13]⟩ :: 
 ⟨some 36, .conv .u64 (.tmp 35), none, [14]⟩ :: 
 ⟨some 37, .bin .shl (.tmp 36) (.const (.int .u64 24)), none, [15]⟩ :: 
 ⟨some 38, .bin .or (.tmp 33) (.tmp 37), none, [12, 16]⟩ :: 
 ⟨some 39, .mov (.tmp 0), none, []⟩ :: 
 ⟨some 40, .index (.tmp 39) (.const (.int .i64 4)), none, [18]⟩ :: 
 ⟨some 41, .conv .u64 (.tmp 40), none, [19]⟩ :: 
 ⟨some 42, .bin .shl (.tmp 41) (.const (.int .u64 32)), none, [20]⟩ :: 
 ⟨some 43, .bin .or (.tmp 38) (.tmp 42), none, [17, 21]⟩ :: 
 ⟨some 44, .mov (.tmp 0), none, []⟩ :: 
 ⟨some 45, .index (.tmp 44) (.const (.int .i64 5)), none, [23]⟩ :: 
 ⟨some 46, .conv .u64 (.tmp 45), none, [24]⟩ :: 
 ⟨some 47, .bin .shl (.tmp 46) (.const (.int .u64 40)), none, [25]⟩ :: 
 ⟨some 48, .bin .or (.tmp 43) (.tmp 47), none, [22, 26]⟩ :: 
 ⟨some 49, .mov (.tmp 0), none, []⟩ :: 
 ⟨some 50, .index (.tmp 49) (.const (.int .i64 6)), none, [28]⟩ :: 
 ⟨some 51, .conv .u64 (.tmp 50), none, [29]⟩ :: 
 ⟨some 52, .bin .shl (.tmp 51) (.const (.int .u64 48)), none, [30]⟩ :: 
 ⟨some 53, .bin .or (.tmp 48) (.tmp 52), none, [27, 31]⟩ :: 
 ⟨some 54, .mov (.tmp 0), none, []⟩ :: 
 ⟨some 55, .index (.tmp 54) (.const (.int .i64 7)), none, [33]⟩ :: 
 ⟨some 56, .conv .u64 (.tmp 55), none, [34]⟩ :: 
 ⟨some 57, .bin .shl (.tmp 56) (.const (.int .u64 56)), none, [35]⟩ :: 
 ⟨some 58, .bin .or (.tmp 53) (.tmp 57), none, [32, 36]⟩ :: 
 ⟨some 2, .mov (.tmp 58), none, (37 :: 0 :: 1 :: 2 :: 3 :: 4 :: 5 :: 6 :: 7 :: 8 :: 9 :: 10 :: 11 :: 12 :: 13 :: 14 :: 15 :: 16 :: 17 :: 18 :: 19 :: 20 :: 21 :: 22 :: 23 :: 24 :: 25 :: 26 :: 27 :: 28 :: 29 :: 30 :: 31 :: 32 :: 33 :: 34 :: 35 :: 36 :: 37 :: [])⟩ :: [])
/-- unicode/utf8.word[string] -/
def c51 : ACode :=
 .seq (.region [
  ⟨some 2, .mov (.const (.int .u64 0)), none, []⟩] [])
 (.seq (.cond (.const (.bool false))
  (.seq (.dregion c51r1 [(0, false, []), (1, false, []), (2, false, []), (3, false, []), (4, false, []), (5, false, []), (6, false, []), (7, false, []), (8, false, []), (9, false, []), (10, false, []), (11, false, []), (12, false, []), (13, false, []), (14, false, []), (15, false, []), (16, false, []), (17, false, []), (18, false, [])] [3, 4, 5, 6, 7, 8, 9, 10, 11, 12, 13, 14, 15, 16, 17, 18, 19, 20])
  (.ret))
  (.skip))
 (.seq (.dregion c51r2 ((0, false, []) :: (1, false, []) :: (2, false, []) :: (3, false, []) :: (4, false, []) :: (5, false, []) :: (6, false, []) :: (7, false, []) :: (8, false, []) :: (9, false, []) :: (10, false, []) :: (11, false, []) :: (12, false, []) :: (13, false, []) :: (14, false, []) :: (15, false, []) :: (16, false, []) :: (17, false, []) :: (18, false, []) :: (19, false, []) :: (20, false, []) :: (21, false, []) :: (22, false, []) :: (23, false, []) :: (24, false, []) :: (25, false, []) :: (26, false, []) :: (27, false, []) :: (28, false, []) :: (29, false, []) :: (30, false, []) :: (31, false, []) :: (32, false, []) :: (33, false, []) :: (34, false, []) :: (35, false, []) :: (36, false, []) :: (37, false, []) :: (38, false, []) :: []) (21 :: 22 :: 23 :: 24 :: 25 :: 26 :: 27 :: 28 :: 29 :: 30 :: 31 :: 32 :: 33 :: 34 :: 35 :: 36 :: 37 :: 38 :: 39 :: 40 :: 41 :: 42 :: 43 :: 44 :: 45 :: 46 :: 47 :: 48 :: 49 :: 50 :: 51 :: 52 :: 53 :: 54 :: 55 :: 56 :: 57 :: 58 :: []))
 (.ret)))
theorem ok51 : erase c51 = cCode Tryd.prog 59 ((Tryd.f51).body.getD .skip) := by kernel_rfl
theorem ord51 : ordsOk c51 = true := by kernel_rfl
theorem call51 {args : List SV} {h : Heap} {R : AEnd → Heap → Prop} (hn : Nat.ble args.length 59 = true) (hp : awp Tryd.prog c51 (finQ [.tmp 2] R) (argEnv 0 args) h) : ACall Tryd.prog 51 args h R :=
  acall_of_awp mixed Tryd.func51 rfl ord51 ok51 (by kernel_rfl) hn hp
def t51 : Tab := ⟨59, c51, [.tmp 2]⟩
theorem tab51 : TabOk Tryd.prog 51 t51 := tabOk Tryd.func51 rfl ord51 ok51 (by kernel_rfl) rfl

/-- internal/strconv.FormatUint -/
def c52 : ACode :=
 .seq (.region [
  ⟨some 4, .mov (.const (.str [])), none, []⟩] [])
 (.seq (.seq (.region [
  ⟨some 9, .mov (.tmp 1), none, []⟩, 
  ⟨some 10, .bin .eql (.tmp 9) (.const (.int .i64 10)), none, []⟩] [9])
 (.cond (.tmp 10)
  (.seq (.seq (.region [
   ⟨some 11, .mov (.tmp 0), none, []⟩, 
   ⟨some 12, .bin .lss (.tmp 11) (.const (.int .u64 100)), none, []⟩] [11])
  (.cond (.tmp 12)
   (.seq (.region [
    ⟨some 13, .mov (.tmp 0), none, []⟩, 
    ⟨some 14, .conv .i64 (.tmp 13), none, []⟩, 
    ⟨some 15, .call 62 [(.tmp 14)], none, []⟩, 
    ⟨some 4, .mov (.tmp 15), none, []⟩] [13, 14, 15])
   (.ret))
   (.skip)))
  (.seq (.region [
   ⟨some 5, .boxR 98 24 (.const (.agg [(.int .u8 0), (.int .u8 0), (.int .u8 0), (.int .u8 0), (.int .u8 0), (.int .u8 0), (.int .u8 0), (.int .u8 0), (.int .u8 0), (.int .u8 0), (.int .u8 0), (.int .u8 0), (.int .u8 0), (.int .u8 0), (.int .u8 0), (.int .u8 0), (.int .u8 0), (.int .u8 0), (.int .u8 0), (.int .u8 0), (.int .u8 0), (.int .u8 0), (.int .u8 0), (.int .u8 0)])), none, []⟩] [])
  (.seq (.region [
   ⟨some 16, .mov (.tmp 0), none, []⟩, 
   ⟨some 17, .call 63 [(.tmp 16)], none, []⟩, 
   ⟨some 6, .mov (.tmp 17), none, []⟩] [16, 17])
  (.seq (.region [
   ⟨some 18, .mov (.tmp 6), none, []⟩, 
   ⟨some 19, .sliceArr 24 (.tmp 5) none (some (.tmp 18)), none, []⟩, 
   ⟨some 20, .mov (.tmp 0), none, []⟩, 
   ⟨some 21, .call 64 [(.tmp 19), (.tmp 20)], none, []⟩] [18, 19, 20, 21])
  (.seq (.region [
   ⟨some 22, .mov (.tmp 6), none, []⟩, 
   ⟨some 23, .sliceArr 24 (.tmp 5) none (some (.tmp 22)), none, []⟩, 
   ⟨some 24, .toStr (.tmp 23), none, []⟩, 
   ⟨some 4, .mov (.tmp 24), none, []⟩] [22, 23, 24])
  (.ret))))))
  (.skip)))
 (.seq (.region [
  ⟨some 26, .mov (.tmp 0), none, []⟩, 
  ⟨some 27, .mov (.tmp 1), none, []⟩, 
  ⟨some 28, .call 65 [(.const .nils), (.tmp 26), (.tmp 27), (.const (.bool false)), (.const (.bool false))], none, []⟩, 
  ⟨some 25, .mov (.tmp 28), none, []⟩, 
  ⟨some 29, .extract (.tmp 25) 0, none, []⟩, 
  ⟨some 30, .extract (.tmp 25) 1, none, []⟩, 
  ⟨some 7, .mov (.tmp 29), none, []⟩, 
  ⟨some 8, .mov (.tmp 30), none, []⟩] [26, 27, 28, 25, 29, 30, 7])
 (.seq (.region [
  ⟨some 31, .mov (.tmp 8), none, []⟩, 
  ⟨some 4, .mov (.tmp 31), none, []⟩] [31])
 (.ret))))
theorem ok52 : erase c52 = cCode Tryd.prog 32 ((Tryd.f52).body.getD .skip) := by kernel_rfl
theorem ord52 : ordsOk c52 = true := by kernel_rfl
theorem call52 {args : List SV} {h : Heap} {R : AEnd → Heap → Prop} (hn : Nat.ble args.length 32 = true) (hp : awp Tryd.prog c52 (finQ [.tmp 4] R) (argEnv 0 args) h) : ACall Tryd.prog 52 args h R :=
  acall_of_awp mixed Tryd.func52 rfl ord52 ok52 (by kernel_rfl) hn hp
def t52 : Tab := ⟨32, c52, [.tmp 4]⟩
theorem tab52 : TabOk Tryd.prog 52 t52 := tabOk Tryd.func52 rfl ord52 ok52 (by kernel_rfl) rfl

/-- strings.Replace -/
def c53 : ACode :=
 .seq (.region [
  ⟨some 8, .mov (.const (.str [])), none, []⟩] [])
 (.seq (.seq (.region [
  ⟨some 16, .mov (.tmp 1), none, []⟩, 
  ⟨some 17, .mov (.tmp 2), none, []⟩, 
  ⟨some 18, .bin .eql (.tmp 16) (.tmp 17), none, []⟩, 
  ⟨some 19, .mov (.tmp 18), none, []⟩, 
  ⟨some 20, .mov (.tmp 3), (some (19, false)), []⟩, 
  ⟨some 21, .bin .eql (.tmp 20) (.const (.int .i64 0)), (some (19, false)), []⟩, 
  ⟨some 22, .pick (.tmp 19) (.const (.bool true)) (.tmp 21), none, []⟩] [16, 17, 18, 19, 20, 21])
 (.cond (.tmp 22)
  (.seq (.region [
   ⟨some 23, .mov (.tmp 0), none, []⟩, 
   ⟨some 8, .mov (.tmp 23), none, []⟩] [23])
  (.ret))
  (.skip)))
 (.seq (.seq (.region [
  ⟨some 24, .mov (.tmp 0), none, []⟩, 
  ⟨some 25, .mov (.tmp 1), none, []⟩, 
  ⟨some 26, .call 66 [(.tmp 24), (.tmp 25)], none, []⟩, 
  ⟨some 9, .mov (.tmp 26), none, []⟩] [24, 25, 26])
 (.seq (.region [
  ⟨some 27, .mov (.tmp 9), none, []⟩, 
  ⟨some 28, .bin .eql (.tmp 27) (.const (.int .i64 0)), none, []⟩] [27])
 (.cond (.tmp 28)
  (.seq (.region [
   ⟨some 29, .mov (.tmp 0), none, []⟩, 
   ⟨some 8, .mov (.tmp 29), none, []⟩] [29])
  (.ret))
  (.seq (.region [
   ⟨some 30, .mov (.tmp 3), none, []⟩, 
   ⟨some 31, .bin .lss (.tmp 30) (.const (.int .i64 0)), none, []⟩, 
   ⟨some 32, .mov (.tmp 31), none, []⟩, 
   ⟨some 33, .mov (.tmp 9), (some (32, false)), []⟩, 
   ⟨some 34, .mov (.tmp 3), (some (32, false)), []⟩, 
   ⟨some 35, .bin .lss (.tmp 33) (.tmp 34), (some (32, false)), []⟩, 
   ⟨some 36, .pick (.tmp 32) (.const (.bool true)) (.tmp 35), none, []⟩] [30, 31, 32, 33, 34, 35])
  (.cond (.tmp 36)
   (.region [
    ⟨some 37, .mov (.tmp 9), none, []⟩, 
    ⟨some 3, .mov (.tmp 37), none, []⟩] [37])
   (.skip))))))
 (.seq (.region [
  ⟨some 10, .box 46 2 (.const (.agg [.nilp, .nils])), none, []⟩] [])
 (.seq (.region [
  ⟨some 38, .mov (.tmp 0), none, []⟩, 
  ⟨some 39, .len true (.tmp 38), none, []⟩, 
  ⟨some 40, .mov (.tmp 3), none, []⟩, 
  ⟨some 41, .mov (.tmp 2), none, []⟩, 
  ⟨some 42, .len true (.tmp 41), none, []⟩, 
  ⟨some 43, .mov (.tmp 1), none, []⟩, 
  ⟨some 44, .len true (.tmp 43), none, []⟩, 
  ⟨some 45, .bin .sub (.tmp 42) (.tmp 44), none, []⟩, 
  ⟨some 46, .bin .mul (.tmp 40) (.tmp 45), none, []⟩, 
  ⟨some 47, .bin .add (.tmp 39) (.tmp 46), none, []⟩, 
  ⟨some 48, .call 13 [(.tmp 10), (.tmp 47)], none, []⟩] [38, 39, 40, 41, 42, 43, 44, 45, 46, 47, 48])
 (.seq (.region [
  ⟨some 11, .mov (.const (.int .i64 0)), none, []⟩] [])
 (.seq (.seq (.region [
  ⟨some 49, .mov (.tmp 1), none, []⟩, 
  ⟨some 50, .len true (.tmp 49), none, []⟩, 
  ⟨some 51, .bin .gtr (.tmp 50) (.const (.int .i64 0)), none, []⟩] [49, 50])
 (.cond (.tmp 51)
  (.seq (.region [
   ⟨some 52, .mov (.tmp 3), none, []⟩, 
   ⟨some 53, .mov (.const (.int .i64 0)), none, []⟩] [])
  (.block 0 (.loop (.seq (.region [
     ⟨some 54, .bin .lss (.tmp 53) (.tmp 52), none, []⟩] [])
    (.seq (.cond (.tmp 54)
     (.skip)
     (.exit 0))
    (.seq (.block 1 (.seq (.region [
      ⟨some 55, .mov (.tmp 11), none, []⟩, 
      ⟨some 56, .mov (.tmp 0), none, []⟩, 
      ⟨some 57, .mov (.tmp 11), none, []⟩, 
      ⟨some 58, .sliceStr (.tmp 56) (some (.tmp 57)) none, none, []⟩, 
      ⟨some 59, .mov (.tmp 1), none, []⟩, 
      ⟨some 60, .call 67 [(.tmp 58), (.tmp 59)], none, []⟩, 
      ⟨some 61, .bin .add (.tmp 55) (.tmp 60), none, []⟩, 
      ⟨some 12, .mov (.tmp 61), none, []⟩] [55, 56, 57, 58, 59, 60, 61])
     (.seq (.region [
      ⟨some 62, .mov (.tmp 0), none, []⟩, 
      ⟨some 63, .mov (.tmp 11), none, []⟩, 
      ⟨some 64, .mov (.tmp 12), none, []⟩, 
      ⟨some 65, .sliceStr (.tmp 62) (some (.tmp 63)) (some (.tmp 64)), none, []⟩, 
      ⟨some 66, .call 14 [(.tmp 10), (.tmp 65)], none, []⟩] [62, 63, 64, 65, 66])
     (.seq (.region [
      ⟨some 67, .mov (.tmp 2), none, []⟩, 
      ⟨some 68, .call 14 [(.tmp 10), (.tmp 67)], none, []⟩] [67, 68])
     (.region [
      ⟨some 69, .mov (.tmp 12), none, []⟩, 
      ⟨some 70, .mov (.tmp 1), none, []⟩, 
      ⟨some 71, .len true (.tmp 70), none, []⟩, 
      ⟨some 72, .bin .add (.tmp 69) (.tmp 71), none, []⟩, 
      ⟨some 11, .mov (.tmp 72), none, []⟩] [69, 70, 71, 72])))))
    (.region [
     ⟨some 73, .bin .add (.tmp 53) (.const (.int .i64 1)), none, []⟩, 
     ⟨some 53, .mov (.tmp 73), none, []⟩] [73])))))))
  (.seq (.region [
   ⟨some 74, .mov (.tmp 2), none, []⟩, 
   ⟨some 75, .call 14 [(.tmp 10), (.tmp 74)], none, []⟩] [74, 75])
  (.seq (.region [
   ⟨some 76, .mov (.tmp 3), none, []⟩, 
   ⟨some 77, .bin .sub (.tmp 76) (.const (.int .i64 1)), none, []⟩, 
   ⟨some 78, .mov (.const (.int .i64 0)), none, []⟩] [76])
  (.block 2 (.loop (.seq (.region [
     ⟨some 79, .bin .lss (.tmp 78) (.tmp 77), none, []⟩] [])
    (.seq (.cond (.tmp 79)
     (.skip)
     (.exit 2))
    (.seq (.block 3 (.seq (.region [
      ⟨some 81, .mov (.tmp 0), none, []⟩, 
      ⟨some 82, .mov (.tmp 11), none, []⟩, 
      ⟨some 83, .sliceStr (.tmp 81) (some (.tmp 82)) none, none, []⟩, 
      ⟨some 84, .call 32 [(.tmp 83)], none, []⟩, 
      ⟨some 80, .mov (.tmp 84), none, []⟩, 
      ⟨some 85, .extract (.tmp 80) 0, none, []⟩, 
      ⟨some 86, .extract (.tmp 80) 1, none, []⟩, 
      ⟨some 13, .mov (.tmp 85), none, []⟩, 
      ⟨some 14, .mov (.tmp 86), none, []⟩] [81, 82, 83, 84, 80, 85, 86, 13])
     (.seq (.region [
      ⟨some 87, .mov (.tmp 11), none, []⟩, 
      ⟨some 88, .mov (.tmp 14), none, []⟩, 
      ⟨some 89, .bin .add (.tmp 87) (.tmp 88), none, []⟩, 
      ⟨some 15, .mov (.tmp 89), none, []⟩] [87, 88, 89])
     (.seq (.region [
      ⟨some 90, .mov (.tmp 0), none, []⟩, 
      ⟨some 91, .mov (.tmp 11), none, []⟩, 
      ⟨some 92, .mov (.tmp 15), none, []⟩, 
      ⟨some 93, .sliceStr (.tmp 90) (some (.tmp 91)) (some (.tmp 92)), none, []⟩, 
      ⟨some 94, .call 14 [(.tmp 10), (.tmp 93)], none, []⟩] [90, 91, 92, 93, 94])
     (.seq (.region [
      ⟨some 95, .mov (.tmp 2), none, []⟩, 
      ⟨some 96, .call 14 [(.tmp 10), (.tmp 95)], none, []⟩] [95, 96])
     (.region [
      ⟨some 97, .mov (.tmp 15), none, []⟩, 
      ⟨some 11, .mov (.tmp 97), none, []⟩] [97]))))))
    (.region [
     ⟨some 98, .bin .add (.tmp 78) (.const (.int .i64 1)), none, []⟩, 
     ⟨some 78, .mov (.tmp 98), none, []⟩] [98]))))))))))
 (.seq (.region [
  ⟨some 99, .mov (.tmp 0), none, []⟩, 
  ⟨some 100, .mov (.tmp 11), none, []⟩, 
  ⟨some 101, .sliceStr (.tmp 99) (some (.tmp 100)) none, none, []⟩, 
  ⟨some 102, .call 14 [(.tmp 10), (.tmp 101)], none, []⟩] [99, 100, 101, 102])
 (.seq (.region [
  ⟨some 103, .call 16 [(.tmp 10)], none, []⟩, 
  ⟨some 8, .mov (.tmp 103), none, []⟩] [103])
 (.ret)))))))))
theorem ok53 : erase c53 = cCode Tryd.prog 104 ((Tryd.f53).body.getD .skip) := by kernel_rfl
theorem ord53 : ordsOk c53 = true := by kernel_rfl
theorem call53 {args : List SV} {h : Heap} {R : AEnd → Heap → Prop} (hn : Nat.ble args.length 104 = true) (hp : awp Tryd.prog c53 (finQ [.tmp 8] R) (argEnv 0 args) h) : ACall Tryd.prog 53 args h R :=
  acall_of_awp mixed Tryd.func53 rfl ord53 ok53 (by kernel_rfl) hn hp
def t53 : Tab := ⟨104, c53, [.tmp 8]⟩
theorem tab53 : TabOk Tryd.prog 53 t53 := tabOk Tryd.func53 rfl ord53 ok53 (by kernel_rfl) rfl

/-- internal/strconv.ParseUint -/
def c55 : ACode :=
 .seq (.region [
  ⟨some 6, .mov (.const (.int .u64 0)), none, []⟩, 
  ⟨some 7, .mov (.const .nili), none, []⟩] [])
 (.seq (.seq (.region [
  ⟨some 18, .mov (.tmp 0), none, []⟩, 
  ⟨some 19, .bin .eql (.tmp 18) (.const (.str [])), none, []⟩] [18])
 (.cond (.tmp 19)
  (.seq (.region [
   ⟨some 20, .mkIface 104 (.const (.int .i64 2)), none, []⟩, 
   ⟨some 6, .mov (.const (.int .u64 0)), none, []⟩, 
   ⟨some 7, .mov (.tmp 20), none, []⟩] [20])
  (.ret))
  (.skip)))
 (.seq (.region [
  ⟨some 21, .mov (.tmp 1), none, []⟩, 
  ⟨some 22, .bin .eql (.tmp 21) (.const (.int .i64 0)), none, []⟩, 
  ⟨some 8, .mov (.tmp 22), none, []⟩] [21, 22])
 (.seq (.region [
  ⟨some 23, .mov (.tmp 0), none, []⟩, 
  ⟨some 9, .mov (.tmp 23), none, []⟩] [23])
 (.seq (.block 0 (.seq (.region [
   ⟨some 26, .mov (.tmp 1), none, []⟩, 
   ⟨some 27, .bin .leq (.const (.int .i64 2)) (.tmp 26), none, []⟩, 
   ⟨some 28, .mov (.tmp 27), none, []⟩, 
   ⟨some 29, .mov (.tmp 1), (some (28, true)), []⟩, 
   ⟨some 30, .bin .leq (.tmp 29) (.const (.int .i64 36)), (some (28, true)), []⟩, 
   ⟨some 31, .pick (.tmp 28) (.tmp 30) (.const (.bool false)), none, []⟩, 
   ⟨some 25, .mov (.tmp 31), none, []⟩] [26, 27, 28, 29, 30, 31])
  (.cond (.tmp 25)
   (.skip)
   (.seq (.region [
    ⟨some 33, .mov (.tmp 1), none, []⟩, 
    ⟨some 34, .bin .eql (.tmp 33) (.const (.int .i64 0)), none, []⟩, 
    ⟨some 32, .mov (.tmp 34), none, []⟩] [33, 34])
   (.cond (.tmp 32)
    (.seq (.region [
     ⟨some 1, .mov (.const (.int .i64 10)), none, []⟩] [])
    (.seq (.region [
     ⟨some 35, .mov (.tmp 0), none, []⟩, 
     ⟨some 36, .index (.tmp 35) (.const (.int .i64 0)), none, []⟩, 
     ⟨some 37, .bin .eql (.tmp 36) (.const (.int .u8 48)), none, []⟩] [35, 36])
    (.cond (.tmp 37)
     (.block 1 (.seq (.region [
       ⟨some 41, .mov (.tmp 0), none, []⟩, 
       ⟨some 42, .len true (.tmp 41), none, []⟩, 
       ⟨some 43, .bin .geq (.tmp 42) (.const (.int .i64 3)), none, []⟩, 
       ⟨some 44, .mov (.tmp 43), none, []⟩, 
       ⟨some 45, .mov (.tmp 0), (some (44, true)), []⟩, 
       ⟨some 46, .index (.tmp 45) (.const (.int .i64 1)), (some (44, true)), []⟩, 
       ⟨some 47, .call 68 [(.tmp 46)], (some (44, true)), []⟩, 
       ⟨some 48, .bin .eql (.tmp 47) (.const (.int .u8 98)), (some (44, true)), []⟩, 
       ⟨some 49, .pick (.tmp 44) (.tmp 48) (.const (.bool false)), none, []⟩, 
       ⟨some 40, .mov (.tmp 49), none, []⟩] [41, 42, 43, 44, 45, 46, 47, 48, 49])
      (.cond (.tmp 40)
       (.seq (.region [
        ⟨some 1, .mov (.const (.int .i64 2)), none, []⟩] [])
       (.region [
        ⟨some 50, .mov (.tmp 0), none, []⟩, 
        ⟨some 51, .sliceStr (.tmp 50) (some (.const (.int .i64 2))) none, none, []⟩, 
        ⟨some 0, .mov (.tmp 51), none, []⟩] [50, 51]))
       (.seq (.region [
        ⟨some 53, .mov (.tmp 0), none, []⟩, 
        ⟨some 54, .len true (.tmp 53), none, []⟩, 
        ⟨some 55, .bin .geq (.tmp 54) (.const (.int .i64 3)), none, []⟩, 
        ⟨some 56, .mov (.tmp 55), none, []⟩, 
        ⟨some 57, .mov (.tmp 0), (some (56, true)), []⟩, 
        ⟨some 58, .index (.tmp 57) (.const (.int .i64 1)), (some (56, true)), []⟩, 
        ⟨some 59, .call 68 [(.tmp 58)], (some (56, true)), []⟩, 
        ⟨some 60, .bin .eql (.tmp 59) (.const (.int .u8 111)), (some (56, true)), []⟩, 
        ⟨some 61, .pick (.tmp 56) (.tmp 60) (.const (.bool false)), none, []⟩, 
        ⟨some 52, .mov (.tmp 61), none, []⟩] [53, 54, 55, 56, 57, 58, 59, 60, 61])
       (.cond (.tmp 52)
        (.seq (.region [
         ⟨some 1, .mov (.const (.int .i64 8)), none, []⟩] [])
        (.region [
         ⟨some 62, .mov (.tmp 0), none, []⟩, 
         ⟨some 63, .sliceStr (.tmp 62) (some (.const (.int .i64 2))) none, none, []⟩, 
         ⟨some 0, .mov (.tmp 63), none, []⟩] [62, 63]))
        (.seq (.region [
         ⟨some 65, .mov (.tmp 0), none, []⟩, 
         ⟨some 66, .len true (.tmp 65), none, []⟩, 
         ⟨some 67, .bin .geq (.tmp 66) (.const (.int .i64 3)), none, []⟩, 
         ⟨some 68, .mov (.tmp 67), none, []⟩, 
         ⟨some 69, .mov (.tmp 0), (some (68, true)), []⟩, 
         ⟨some 70, .index (.tmp 69) (.const (.int .i64 1)), (some (68, true)), []⟩, 
         ⟨some 71, .call 68 [(.tmp 70)], (some (68, true)), []⟩, 
         ⟨some 72, .bin .eql (.tmp 71) (.const (.int .u8 120)), (some (68, true)), []⟩, 
         ⟨some 73, .pick (.tmp 68) (.tmp 72) (.const (.bool false)), none, []⟩, 
         ⟨some 64, .mov (.tmp 73), none, []⟩] [65, 66, 67, 68, 69, 70, 71, 72, 73])
        (.cond (.tmp 64)
         (.seq (.region [
          ⟨some 1, .mov (.const (.int .i64 16)), none, []⟩] [])
         (.region [
          ⟨some 74, .mov (.tmp 0), none, []⟩, 
          ⟨some 75, .sliceStr (.tmp 74) (some (.const (.int .i64 2))) none, none, []⟩, 
          ⟨some 0, .mov (.tmp 75), none, []⟩] [74, 75]))
         (.seq (.region [
          ⟨some 1, .mov (.const (.int .i64 8)), none, []⟩] [])
         (.region [
          ⟨some 38, .mov (.tmp 0), none, []⟩, 
          ⟨some 39, .sliceStr (.tmp 38) (some (.const (.int .i64 1))) none, none, []⟩, 
          ⟨some 0, .mov (.tmp 39), none, []⟩] [38, 39])))))))))
     (.skip))))
    (.seq (.region [
     ⟨some 24, .mkIface 104 (.const (.int .i64 3)), none, []⟩, 
     ⟨some 6, .mov (.const (.int .u64 0)), none, []⟩, 
     ⟨some 7, .mov (.tmp 24), none, []⟩] [24])
    (.ret)))))))
 (.seq (.seq (.region [
  ⟨some 76, .mov (.tmp 2), none, []⟩, 
  ⟨some 77, .bin .eql (.tmp 76) (.const (.int .i64 0)), none, []⟩] [76])
 (.cond (.tmp 77)
  (.region [
   ⟨some 2, .mov (.const (.int .i64 64)), none, []⟩] [])
  (.seq (.region [
   ⟨some 78, .mov (.tmp 2), none, []⟩, 
   ⟨some 79, .bin .lss (.tmp 78) (.const (.int .i64 0)), none, []⟩, 
   ⟨some 80, .mov (.tmp 79), none, []⟩, 
   ⟨some 81, .mov (.tmp 2), (some (80, false)), []⟩, 
   ⟨some 82, .bin .gtr (.tmp 81) (.const (.int .i64 64)), (some (80, false)), []⟩, 
   ⟨some 83, .pick (.tmp 80) (.const (.bool true)) (.tmp 82), none, []⟩] [78, 79, 80, 81, 82])
  (.cond (.tmp 83)
   (.seq (.region [
    ⟨some 84, .mkIface 104 (.const (.int .i64 4)), none, []⟩, 
    ⟨some 6, .mov (.const (.int .u64 0)), none, []⟩, 
    ⟨some 7, .mov (.tmp 84), none, []⟩] [84])
   (.ret))
   (.skip)))))
 (.seq (.region [
  ⟨some 10, .mov (.const (.int .u64 0)), none, []⟩] [])
 (.seq (.seq (.region [
  ⟨some 85, .mov (.tmp 1), none, []⟩] [])
 (.block 2 (.seq (.region [
   ⟨some 91, .bin .eql (.tmp 85) (.const (.int .i64 10)), none, []⟩, 
   ⟨some 90, .mov (.tmp 91), none, []⟩] [91])
  (.cond (.tmp 90)
   (.region [
    ⟨some 10, .mov (.const (.int .u64 1844674407370955162)), none, []⟩] [])
   (.seq (.region [
    ⟨some 93, .bin .eql (.tmp 85) (.const (.int .i64 16)), none, []⟩, 
    ⟨some 92, .mov (.tmp 93), none, []⟩] [93])
   (.cond (.tmp 92)
    (.region [
     ⟨some 10, .mov (.const (.int .u64 1152921504606846976)), none, []⟩] [])
    (.region [
     ⟨some 86, .mov (.tmp 1), none, []⟩, 
     ⟨some 87, .conv .u64 (.tmp 86), none, []⟩, 
     ⟨some 88, .bin .quo (.const (.int .u64 18446744073709551615)) (.tmp 87), none, []⟩, 
     ⟨some 89, .bin .add (.tmp 88) (.const (.int .u64 1)), none, []⟩, 
     ⟨some 10, .mov (.tmp 89), none, []⟩] [86, 87, 88, 89])))))))
 (.seq (.region [
  ⟨some 94, .mov (.tmp 2), none, []⟩, 
  ⟨some 95, .conv .u64 (.tmp 94), none, []⟩, 
  ⟨some 96, .bin .shl (.const (.int .u64 1)) (.tmp 95), none, []⟩, 
  ⟨some 97, .bin .sub (.tmp 96) (.const (.int .u64 1)), none, []⟩, 
  ⟨some 11, .mov (.tmp 97), none, []⟩] [94, 95, 96, 97])
 (.seq (.region [
  ⟨some 12, .mov (.const (.bool false)), none, []⟩] [])
 (.seq (.region [
  ⟨some 13, .mov (.const (.int .u64 0)), none, []⟩] [])
 (.seq (.seq (.region [
  ⟨some 98, .mov (.tmp 0), none, []⟩, 
  ⟨some 99, .toBytes 5 (.tmp 98), none, []⟩, 
  ⟨some 100, .len false (.tmp 99), none, []⟩, 
  ⟨some 101, .mov (.const (.int .i64 0)), none, []⟩] [98])
 (.block 3 (.loop (.seq (.region [
    ⟨some 102, .bin .lss (.tmp 101) (.tmp 100), none, []⟩] [])
   (.seq (.cond (.tmp 102)
    (.skip)
    (.exit 3))
   (.seq (.block 4 (.seq (.region [
     ⟨some 103, .indexAddr 1 (.tmp 99) (.tmp 101), none, []⟩, 
     ⟨some 104, .loadS (.tmp 103), none, []⟩, 
     ⟨some 15, .mov (.tmp 104), none, []⟩] [103, 104])
    (.seq (.region [
     ⟨some 16, .mov (.const (.int .u8 0)), none, []⟩] [])
    (.seq (.block 5 (.seq (.region [
      ⟨some 107, .mov (.tmp 15), none, []⟩, 
      ⟨some 108, .bin .eql (.tmp 107) (.const (.int .u8 95)), none, []⟩, 
      ⟨some 109, .mov (.tmp 108), none, []⟩, 
      ⟨some 110, .mov (.tmp 8), (some (109, true)), []⟩, 
      ⟨some 111, .pick (.tmp 109) (.tmp 110) (.const (.bool false)), none, []⟩, 
      ⟨some 106, .mov (.tmp 111), none, []⟩] [107, 108, 109, 110, 111])
     (.cond (.tmp 106)
      (.seq (.region [
       ⟨some 12, .mov (.const (.bool true)), none, []⟩] [])
      (.exit 4))
      (.seq (.region [
       ⟨some 113, .mov (.tmp 15), none, []⟩, 
       ⟨some 114, .bin .leq (.const (.int .u8 48)) (.tmp 113), none, []⟩, 
       ⟨some 115, .mov (.tmp 114), none, []⟩, 
       ⟨some 116, .mov (.tmp 15), (some (115, true)), []⟩, 
       ⟨some 117, .bin .leq (.tmp 116) (.const (.int .u8 57)), (some (115, true)), []⟩, 
       ⟨some 118, .pick (.tmp 115) (.tmp 117) (.const (.bool false)), none, []⟩, 
       ⟨some 112, .mov (.tmp 118), none, []⟩] [113, 114, 115, 116, 117, 118])
      (.cond (.tmp 112)
       (.region [
        ⟨some 119, .mov (.tmp 15), none, []⟩, 
        ⟨some 120, .bin .sub (.tmp 119) (.const (.int .u8 48)), none, []⟩, 
        ⟨some 16, .mov (.tmp 120), none, []⟩] [119, 120])
       (.seq (.region [
        ⟨some 122, .mov (.tmp 15), none, []⟩, 
        ⟨some 123, .call 68 [(.tmp 122)], none, []⟩, 
        ⟨some 124, .bin .leq (.const (.int .u8 97)) (.tmp 123), none, []⟩, 
        ⟨some 125, .mov (.tmp 124), none, []⟩, 
        ⟨some 126, .mov (.tmp 15), (some (125, true)), []⟩, 
        ⟨some 127, .call 68 [(.tmp 126)], (some (125, true)), []⟩, 
        ⟨some 128, .bin .leq (.tmp 127) (.const (.int .u8 122)), (some (125, true)), []⟩, 
        ⟨some 129, .pick (.tmp 125) (.tmp 128) (.const (.bool false)), none, []⟩, 
        ⟨some 121, .mov (.tmp 129), none, []⟩] [122, 123, 124, 125, 126, 127, 128, 129])
       (.cond (.tmp 121)
        (.region [
         ⟨some 130, .mov (.tmp 15), none, []⟩, 
         ⟨some 131, .call 68 [(.tmp 130)], none, []⟩, 
         ⟨some 132, .bin .sub (.tmp 131) (.const (.int .u8 97)), none, []⟩, 
         ⟨some 133, .bin .add (.tmp 132) (.const (.int .u8 10)), none, []⟩, 
         ⟨some 16, .mov (.tmp 133), none, []⟩] [130, 131, 132, 133])
        (.seq (.region [
         ⟨some 105, .mkIface 104 (.const (.int .i64 2)), none, []⟩, 
         ⟨some 6, .mov (.const (.int .u64 0)), none, []⟩, 
         ⟨some 7, .mov (.tmp 105), none, []⟩] [105])
        (.ret)))))))))
    (.seq (.seq (.region [
     ⟨some 134, .mov (.tmp 16), none, []⟩, 
     ⟨some 135, .mov (.tmp 1), none, []⟩, 
     ⟨some 136, .conv .u8 (.tmp 135), none, []⟩, 
     ⟨some 137, .bin .geq (.tmp 134) (.tmp 136), none, []⟩] [134, 135, 136])
    (.cond (.tmp 137)
     (.seq (.region [
      ⟨some 138, .mkIface 104 (.const (.int .i64 2)), none, []⟩, 
      ⟨some 6, .mov (.const (.int .u64 0)), none, []⟩, 
      ⟨some 7, .mov (.tmp 138), none, []⟩] [138])
     (.ret))
     (.skip)))
    (.seq (.seq (.region [
     ⟨some 139, .mov (.tmp 13), none, []⟩, 
     ⟨some 140, .mov (.tmp 10), none, []⟩, 
     ⟨some 141, .bin .geq (.tmp 139) (.tmp 140), none, []⟩] [139, 140])
    (.cond (.tmp 141)
     (.seq (.region [
      ⟨some 142, .mov (.tmp 11), none, []⟩, 
      ⟨some 143, .mkIface 104 (.const (.int .i64 1)), none, []⟩, 
      ⟨some 6, .mov (.tmp 142), none, []⟩, 
      ⟨some 7, .mov (.tmp 143), none, []⟩] [142, 143])
     (.ret))
     (.skip)))
    (.seq (.region [
     ⟨some 144, .mov (.tmp 13), none, []⟩, 
     ⟨some 145, .mov (.tmp 1), none, []⟩, 
     ⟨some 146, .conv .u64 (.tmp 145), none, []⟩, 
     ⟨some 147, .bin .mul (.tmp 144) (.tmp 146), none, []⟩, 
     ⟨some 13, .mov (.tmp 147), none, []⟩] [144, 145, 146, 147])
    (.seq (.region [
     ⟨some 148, .mov (.tmp 13), none, []⟩, 
     ⟨some 149, .mov (.tmp 16), none, []⟩, 
     ⟨some 150, .conv .u64 (.tmp 149), none, []⟩, 
     ⟨some 151, .bin .add (.tmp 148) (.tmp 150), none, []⟩, 
     ⟨some 17, .mov (.tmp 151), none, []⟩] [148, 149, 150, 151])
    (.seq (.seq (.region [
     ⟨some 152, .mov (.tmp 17), none, []⟩, 
     ⟨some 153, .mov (.tmp 13), none, []⟩, 
     ⟨some 154, .bin .lss (.tmp 152) (.tmp 153), none, []⟩, 
     ⟨some 155, .mov (.tmp 154), none, []⟩, 
     ⟨some 156, .mov (.tmp 17), (some (155, false)), []⟩, 
     ⟨some 157, .mov (.tmp 11), (some (155, false)), []⟩, 
     ⟨some 158, .bin .gtr (.tmp 156) (.tmp 157), (some (155, false)), []⟩, 
     ⟨some 159, .pick (.tmp 155) (.const (.bool true)) (.tmp 158), none, []⟩] [152, 153, 154, 155, 156, 157, 158])
    (.cond (.tmp 159)
     (.seq (.region [
      ⟨some 160, .mov (.tmp 11), none, []⟩, 
      ⟨some 161, .mkIface 104 (.const (.int .i64 1)), none, []⟩, 
      ⟨some 6, .mov (.tmp 160), none, []⟩, 
      ⟨some 7, .mov (.tmp 161), none, []⟩] [160, 161])
     (.ret))
     (.skip)))
    (.region [
     ⟨some 162, .mov (.tmp 17), none, []⟩, 
     ⟨some 13, .mov (.tmp 162), none, []⟩] [162]))))))))))
   (.region [
    ⟨some 163, .bin .add (.tmp 101) (.const (.int .i64 1)), none, []⟩, 
    ⟨some 101, .mov (.tmp 163), none, []⟩] [163])))))))
 (.seq (.seq (.region [
  ⟨some 164, .mov (.tmp 12), none, []⟩, 
  ⟨some 165, .mov (.tmp 164), none, []⟩, 
  ⟨some 166, .mov (.tmp 9), (some (165, true)), []⟩, 
  ⟨some 167, .call 69 [(.tmp 166)], (some (165, true)), []⟩, 
  ⟨some 168, .un .not (.tmp 167), (some (165, true)), []⟩, 
  ⟨some 169, .pick (.tmp 165) (.tmp 168) (.const (.bool false)), none, []⟩] [164, 165, 166, 167, 168])
 (.cond (.tmp 169)
  (.seq (.region [
   ⟨some 170, .mkIface 104 (.const (.int .i64 2)), none, []⟩, 
   ⟨some 6, .mov (.const (.int .u64 0)), none, []⟩, 
   ⟨some 7, .mov (.tmp 170), none, []⟩] [170])
  (.ret))
  (.skip)))
 (.seq (.region [
  ⟨some 171, .mov (.tmp 13), none, []⟩, 
  ⟨some 6, .mov (.tmp 171), none, []⟩, 
  ⟨some 7, .mov (.const .nili), none, []⟩] [171])
 (.ret))))))))))))))
theorem ok55 : erase c55 = cCode Tryd.prog 172 ((Tryd.f55).body.getD .skip) := by kernel_rfl
theorem ord55 : ordsOk c55 = true := by kernel_rfl
theorem call55 {args : List SV} {h : Heap} {R : AEnd → Heap → Prop} (hn : Nat.ble args.length 172 = true) (hp : awp Tryd.prog c55 (finQ [.tmp 6, .tmp 7] R) (argEnv 0 args) h) : ACall Tryd.prog 55 args h R :=
  acall_of_awp mixed Tryd.func55 rfl ord55 ok55 (by kernel_rfl) hn hp
def t55 : Tab := ⟨172, c55, [.tmp 6, .tmp 7]⟩
theorem tab55 : TabOk Tryd.prog 55 t55 := tabOk Tryd.func55 rfl ord55 ok55 (by kernel_rfl) rfl

/-- unicode/utf8.appendRuneNonASCII -/
def c59 : ACode :=
 .seq (.region [
  ⟨some 4, .mov (.const .nils), none, []⟩] [])
 (.seq (.region [
  ⟨some 6, .mov (.tmp 1), none, []⟩, 
  ⟨some 7, .conv .u32 (.tmp 6), none, []⟩, 
  ⟨some 5, .mov (.tmp 7), none, []⟩] [6, 7])
 (.block 0 (.seq (.region [
   ⟨some 12, .mov (.tmp 5), none, []⟩, 
   ⟨some 13, .bin .leq (.tmp 12) (.const (.int .u32 2047)), none, []⟩, 
   ⟨some 11, .mov (.tmp 13), none, []⟩] [12, 13])
  (.cond (.tmp 11)
   (.seq (.region [
    ⟨some 14, .mov (.tmp 0), none, []⟩, 
    ⟨some 15, .mov (.tmp 1), none, []⟩, 
    ⟨some 16, .bin .shr (.tmp 15) (.const (.int .u64 6)), none, []⟩, 
    ⟨some 17, .conv .u8 (.tmp 16), none, []⟩, 
    ⟨some 18, .bin .or (.const (.int .u8 192)) (.tmp 17), none, []⟩, 
    ⟨some 19, .mov (.tmp 1), none, []⟩, 
    ⟨some 20, .conv .u8 (.tmp 19), none, []⟩, 
    ⟨some 21, .bin .and (.tmp 20) (.const (.int .u8 63)), none, []⟩, 
    ⟨some 22, .bin .or (.const (.int .u8 128)) (.tmp 21), none, []⟩, 
    ⟨some 23, .buildSlice 5 1 (.int .u8 0) 2 [(0, (.tmp 18)), (1, (.tmp 22))], none, []⟩, 
    ⟨some 24, .append 5 1 1 (.tmp 14) (.tmp 23), none, []⟩, 
    ⟨some 4, .mov (.tmp 24), none, []⟩] [14, 15, 16, 17, 18, 19, 20, 21, 22, 23, 24])
   (.ret))
   (.seq (.seq (.region [
    ⟨some 26, .mov (.tmp 5), none, []⟩, 
    ⟨some 27, .bin .lss (.tmp 26) (.const (.int .u32 55296)), none, []⟩, 
    ⟨some 25, .mov (.tmp 27), none, []⟩] [26, 27])
   (.cond (.tmp 25)
    (.skip)
    (.region [
     ⟨some 28, .mov (.tmp 5), none, []⟩, 
     ⟨some 29, .bin .lss (.const (.int .u32 57343)) (.tmp 28), none, []⟩, 
     ⟨some 30, .mov (.tmp 29), none, []⟩, 
     ⟨some 31, .mov (.tmp 5), (some (30, true)), []⟩, 
     ⟨some 32, .bin .leq (.tmp 31) (.const (.int .u32 65535)), (some (30, true)), []⟩, 
     ⟨some 33, .pick (.tmp 30) (.tmp 32) (.const (.bool false)), none, []⟩, 
     ⟨some 25, .mov (.tmp 33), none, []⟩] [28, 29, 30, 31, 32, 33])))
   (.cond (.tmp 25)
    (.seq (.region [
     ⟨some 34, .mov (.tmp 0), none, []⟩, 
     ⟨some 35, .mov (.tmp 1), none, []⟩, 
     ⟨some 36, .bin .shr (.tmp 35) (.const (.int .u64 12)), none, []⟩, 
     ⟨some 37, .conv .u8 (.tmp 36), none, []⟩, 
     ⟨some 38, .bin .or (.const (.int .u8 224)) (.tmp 37), none, []⟩, 
     ⟨some 39, .mov (.tmp 1), none, []⟩, 
     ⟨some 40, .bin .shr (.tmp 39) (.const (.int .u64 6)), none, []⟩, 
     ⟨some 41, .conv .u8 (.tmp 40), none, []⟩, 
     ⟨some 42, .bin .and (.tmp 41) (.const (.int .u8 63)), none, []⟩, 
     ⟨some 43, .bin .or (.const (.int .u8 128)) (.tmp 42), none, []⟩, 
     ⟨some 44, .mov (.tmp 1), none, []⟩, 
     ⟨some 45, .conv .u8 (.tmp 44), none, []⟩, 
     ⟨some 46, .bin .and (.tmp 45) (.const (.int .u8 63)), none, []⟩, 
     ⟨some 47, .bin .or (.const (.int .u8 128)) (.tmp 46), none, []⟩, 
     ⟨some 48, .buildSlice 5 1 (.int .u8 0) 3 [(0, (.tmp 38)), (1, (.tmp 43)), (2, (.tmp 47))], none, []⟩, 
     ⟨some 49, .append 5 1 1 (.tmp 34) (.tmp 48), none, []⟩, 
     ⟨some 4, .mov (.tmp 49), none, []⟩] [34, 35, 36, 37, 38, 39, 40, 41, 42, 43, 44, 45, 46, 47, 48, 49])
    (.ret))
    (.seq (.region [
     ⟨some 51, .mov (.tmp 5), none, []⟩, 
     ⟨some 52, .bin .gtr (.tmp 51) (.const (.int .u32 65535)), none, []⟩, 
     ⟨some 53, .mov (.tmp 52), none, []⟩, 
     ⟨some 54, .mov (.tmp 5), (some (53, true)), []⟩, 
     ⟨some 55, .bin .leq (.tmp 54) (.const (.int .u32 1114111)), (some (53, true)), []⟩, 
     ⟨some 56, .pick (.tmp 53) (.tmp 55) (.const (.bool false)), none, []⟩, 
     ⟨some 50, .mov (.tmp 56), none, []⟩] [51, 52, 53, 54, 55, 56])
    (.cond (.tmp 50)
     (.seq (.region [
      ⟨some 57, .mov (.tmp 0), none, []⟩, 
      ⟨some 58, .mov (.tmp 1), none, []⟩, 
      ⟨some 59, .bin .shr (.tmp 58) (.const (.int .u64 18)), none, []⟩, 
      ⟨some 60, .conv .u8 (.tmp 59), none, []⟩, 
      ⟨some 61, .bin .or (.const (.int .u8 240)) (.tmp 60), none, []⟩, 
      ⟨some 62, .mov (.tmp 1), none, []⟩, 
      ⟨some 63, .bin .shr (.tmp 62) (.const (.int .u64 12)), none, []⟩, 
      ⟨some 64, .conv .u8 (.tmp 63), none, []⟩, 
      ⟨some 65, .bin .and (.tmp 64) (.const (.int .u8 63)), none, []⟩, 
      ⟨some 66, .bin .or (.const (.int .u8 128)) (.tmp 65), none, []⟩, 
      ⟨some 67, .mov (.tmp 1), none, []⟩, 
      ⟨some 68, .bin .shr (.tmp 67) (.const (.int .u64 6)), none, []⟩, 
      ⟨some 69, .conv .u8 (.tmp 68), none, []⟩, 
      ⟨some 70, .bin .and (.tmp 69) (.const (.int .u8 63)), none, []⟩, 
      ⟨some 71, .bin .or (.const (.int .u8 128)) (.tmp 70), none, []⟩, 
      ⟨some 72, .mov (.tmp 1), none, []⟩, 
      ⟨some 73, .conv .u8 (.tmp 72), none, []⟩, 
      ⟨some 74, .bin .and (.tmp 73) (.const (.int .u8 63)), none, []⟩, 
      ⟨some 75, .bin .or (.const (.int .u8 128)) (.tmp 74), none, []⟩, 
      ⟨some 76, .buildSlice 5 1 (.int .u8 0) 4 [(0, (.tmp 61)), (1, (.tmp 66)), (2, (.tmp 71)), (3, (.tmp 75))], none, []⟩, 
      ⟨some 77, .append 5 1 1 (.tmp 57) (.tmp 76), none, []⟩, 
      ⟨some 4, .mov (.tmp 77), none, []⟩] [57, 58, 59, 60, 61, 62, 63, 64, 65, 66, 67, 68, 69, 70, 71, 72, 73, 74, 75, 76, 77])
     (.ret))
     (.seq (.region [
      ⟨some 8, .mov (.tmp 0), none, []⟩, 
      ⟨some 9, .buildSlice 5 1 (.int .u8 0) 3 [(0, (.const (.int .u8 239))), (1, (.const (.int .u8 191))), (2, (.const (.int .u8 189)))], none, []⟩, 
      ⟨some 10, .append 5 1 1 (.tmp 8) (.tmp 9), none, []⟩, 
      ⟨some 4, .mov (.tmp 10), none, []⟩] [8, 9, 10])
     (.ret))))))))))
theorem ok59 : erase c59 = cCode Tryd.prog 78 ((Tryd.f59).body.getD .skip) := by kernel_rfl
theorem ord59 : ordsOk c59 = true := by kernel_rfl
theorem call59 {args : List SV} {h : Heap} {R : AEnd → Heap → Prop} (hn : Nat.ble args.length 78 = true) (hp : awp Tryd.prog c59 (finQ [.tmp 4] R) (argEnv 0 args) h) : ACall Tryd.prog 59 args h R :=
  acall_of_awp mixed Tryd.func59 rfl ord59 ok59 (by kernel_rfl) hn hp
def t59 : Tab := ⟨78, c59, [.tmp 4]⟩
theorem tab59 : TabOk Tryd.prog 59 t59 := tabOk Tryd.func59 rfl ord59 ok59 (by kernel_rfl) rfl

/-- unicode.lookupCaseRange -/
def c60 : ACode :=
 .seq (.region [
  ⟨some 4, .mov (.const .nilp), none, []⟩] [])
 (.seq (.region [
  ⟨some 5, .mov (.const (.int .i64 0)), none, []⟩] [])
 (.seq (.region [
  ⟨some 9, .mov (.tmp 1), none, []⟩, 
  ⟨some 10, .len false (.tmp 9), none, []⟩, 
  ⟨some 6, .mov (.tmp 10), none, []⟩] [9, 10])
 (.seq (.block 0 (.loop (.seq (.seq (.region [
    ⟨some 11, .mov (.tmp 5), none, []⟩, 
    ⟨some 12, .mov (.tmp 6), none, []⟩, 
    ⟨some 13, .bin .lss (.tmp 11) (.tmp 12), none, []⟩] [11, 12])
   (.cond (.tmp 13)
    (.skip)
    (.exit 0)))
   (.block 1 (.seq (.region [
     ⟨some 14, .mov (.tmp 5), none, []⟩, 
     ⟨some 15, .mov (.tmp 6), none, []⟩, 
     ⟨some 16, .bin .add (.tmp 14) (.tmp 15), none, []⟩, 
     ⟨some 17, .conv .u64 (.tmp 16), none, []⟩, 
     ⟨some 18, .bin .shr (.tmp 17) (.const (.int .u64 1)), none, []⟩, 
     ⟨some 19, .conv .i64 (.tmp 18), none, []⟩, 
     ⟨some 7, .mov (.tmp 19), none, []⟩] [14, 15, 16, 17, 18, 19])
    (.seq (.region [
     ⟨some 20, .mov (.tmp 1), none, []⟩, 
     ⟨some 21, .mov (.tmp 7), none, []⟩, 
     ⟨some 22, .indexAddr 5 (.tmp 20) (.tmp 21), none, []⟩, 
     ⟨some 8, .mov (.tmp 22), none, []⟩] [20, 21, 22])
    (.seq (.seq (.region [
     ⟨some 23, .mov (.tmp 8), none, []⟩, 
     ⟨some 24, .nilChk (.tmp 23), none, []⟩, 
     ⟨some 25, .fieldAddr 0 (.tmp 24), none, []⟩, 
     ⟨some 26, .loadS (.tmp 25), none, []⟩, 
     ⟨some 27, .conv .i32 (.tmp 26), none, []⟩, 
     ⟨some 28, .mov (.tmp 0), none, []⟩, 
     ⟨some 29, .bin .leq (.tmp 27) (.tmp 28), none, []⟩, 
     ⟨some 30, .mov (.tmp 29), none, []⟩, 
     ⟨some 31, .mov (.tmp 0), (some (30, true)), []⟩, 
     ⟨some 32, .mov (.tmp 8), (some (30, true)), []⟩, 
     ⟨some 33, .nilChk (.tmp 32), (some (30, true)), []⟩, 
     ⟨some 34, .fieldAddr 1 (.tmp 33), (some (30, true)), []⟩, 
     ⟨some 35, .loadS (.tmp 34), (some (30, true)), []⟩, 
     ⟨some 36, .conv .i32 (.tmp 35), (some (30, true)), []⟩, 
     ⟨some 37, .bin .leq (.tmp 31) (.tmp 36), (some (30, true)), []⟩, 
     ⟨some 38, .pick (.tmp 30) (.tmp 37) (.const (.bool false)), none, []⟩] [23, 24, 25, 26, 27, 28, 29, 30, 31, 32, 33, 34, 35, 36, 37])
    (.cond (.tmp 38)
     (.seq (.region [
      ⟨some 39, .mov (.tmp 8), none, []⟩, 
      ⟨some 4, .mov (.tmp 39), none, []⟩] [39])
     (.ret))
     (.skip)))
    (.seq (.region [
     ⟨some 40, .mov (.tmp 0), none, []⟩, 
     ⟨some 41, .mov (.tmp 8), none, []⟩, 
     ⟨some 42, .nilChk (.tmp 41), none, []⟩, 
     ⟨some 43, .fieldAddr 0 (.tmp 42), none, []⟩, 
     ⟨some 44, .loadS (.tmp 43), none, []⟩, 
     ⟨some 45, .conv .i32 (.tmp 44), none, []⟩, 
     ⟨some 46, .bin .lss (.tmp 40) (.tmp 45), none, []⟩] [40, 41, 42, 43, 44, 45])
    (.cond (.tmp 46)
     (.region [
      ⟨some 47, .mov (.tmp 7), none, []⟩, 
      ⟨some 6, .mov (.tmp 47), none, []⟩] [47])
     (.region [
      ⟨some 48, .mov (.tmp 7), none, []⟩, 
      ⟨some 49, .bin .add (.tmp 48) (.const (.int .i64 1)), none, []⟩, 
      ⟨some 5, .mov (.tmp 49), none, []⟩] [48, 49]))))))))))
 (.seq (.region [
  ⟨some 4, .mov (.const .nilp), none, []⟩] [])
 (.ret)))))
theorem ok60 : erase c60 = cCode Tryd.prog 50 ((Tryd.f60).body.getD .skip) := by kernel_rfl
theorem ord60 : ordsOk c60 = true := by kernel_rfl
theorem call60 {args : List SV} {h : Heap} {R : AEnd → Heap → Prop} (hn : Nat.ble args.length 50 = true) (hp : awp Tryd.prog c60 (finQ [.tmp 4] R) (argEnv 0 args) h) : ACall Tryd.prog 60 args h R :=
  acall_of_awp mixed Tryd.func60 rfl ord60 ok60 (by kernel_rfl) hn hp
def t60 : Tab := ⟨50, c60, [.tmp 4]⟩
theorem tab60 : TabOk Tryd.prog 60 t60 := tabOk Tryd.func60 rfl ord60 ok60 (by kernel_rfl) rfl

def c61r3 : List AOper := [
 ⟨some 16, .mov (.tmp 2), none, []⟩, 
 ⟨some 17, .nilChk (.tmp 16), none, [0]⟩, 
 ⟨some 18, .fieldAddr 0 (.tmp 17), none, [1]⟩, 
 ⟨some 19, .loadS (.tmp 18), none, [2]⟩, 
 ⟨some 20, .conv .i32 (.tmp 19), none, [3]⟩, 
 ⟨some 21, .mov (.tmp 1), none, []⟩, 
 ⟨some 22, .mov (.tmp 2), none, []⟩, 
 ⟨some 23, .nilChk (.tmp 22), none, [6]⟩, 
 ⟨some 24, .fieldAddr 0 (.tmp 23), none, [7]⟩, 
 ⟨some 25, .loadS (.tmp 24), none, [8]⟩, 
 ⟨some 26, .conv .i32 (.tmp 25), none, [9]⟩, 
 ⟨some 27, .bin .sub (.tmp 21) (.tmp 26), none, [5, 10]⟩, 
 ⟨some 28, .bin .andNot (.tmp 27) (.const (.int .i32 1)), none, [11]⟩, 
 ⟨some 29, .mov (.tmp 0), none, []⟩, 
 ⟨some 30, .bin .and (.tmp 29) (.const (.int .i64 1)), none, [13]⟩, 
 ⟨some 31, .conv .i32 (.tmp 30), none, [14]⟩, 
 ⟨some 32, .bin .or (.tmp 28) (.tmp 31), none, [12, 15]⟩, 
 ⟨some 33, .bin .add (.tmp 20) (.tmp 32), none, [4, 16]⟩, 
 ⟨some 6, .mov (.tmp 33), none, [17, 0, 1, 2, 3, 4, 5, 6, 7, 8, 9, 10, 11, 12, 13, 14, 15, 16, 17]⟩]
/-- unicode.convertCase -/
def c61 : ACode :=
 .seq (.region [
  ⟨some 6, .mov (.const (.int .i32 0)), none, []⟩] [])
 (.seq (.region [
  ⟨some 8, .mov (.tmp 2), none, []⟩, 
  ⟨some 9, .mov (.tmp 0), none, []⟩, 
  ⟨some 10, .nilChk (.tmp 8), none, []⟩, 
  ⟨some 11, .fieldAddr 2 (.tmp 10), none, []⟩, 
  ⟨some 12, .indexArr 3 1 (.tmp 11) (.tmp 9), none, []⟩, 
  ⟨some 13, .loadS (.tmp 12), none, []⟩, 
  ⟨some 7, .mov (.tmp 13), none, []⟩] [8, 9, 10, 11, 12, 13])
 (.seq (.seq (.region [
  ⟨some 14, .mov (.tmp 7), none, []⟩, 
  ⟨some 15, .bin .gtr (.tmp 14) (.const (.int .i32 1114111)), none, []⟩] [14])
 (.cond (.tmp 15)
  (.seq (.dregion c61r3 [(0, false, []), (1, false, []), (2, false, []), (3, false, []), (4, false, []), (5, false, []), (6, false, []), (7, false, []), (8, false, []), (9, false, []), (10, false, []), (11, false, []), (12, false, []), (13, false, []), (14, false, []), (15, false, []), (16, false, []), (17, false, []), (18, false, [])] [16, 17, 18, 19, 20, 21, 22, 23, 24, 25, 26, 27, 28, 29, 30, 31, 32, 33])
  (.ret))
  (.skip)))
 (.seq (.region [
  ⟨some 34, .mov (.tmp 1), none, []⟩, 
  ⟨some 35, .mov (.tmp 7), none, []⟩, 
  ⟨some 36, .bin .add (.tmp 34) (.tmp 35), none, []⟩, 
  ⟨some 6, .mov (.tmp 36), none, []⟩] [34, 35, 36])
 (.ret))))
theorem ok61 : erase c61 = cCode Tryd.prog 37 ((Tryd.f61).body.getD .skip) := by kernel_rfl
theorem ord61 : ordsOk c61 = true := by kernel_rfl
theorem call61 {args : List SV} {h : Heap} {R : AEnd → Heap → Prop} (hn : Nat.ble args.length 37 = true) (hp : awp Tryd.prog c61 (finQ [.tmp 6] R) (argEnv 0 args) h) : ACall Tryd.prog 61 args h R :=
  acall_of_awp mixed Tryd.func61 rfl ord61 ok61 (by kernel_rfl) hn hp
def t61 : Tab := ⟨37, c61, [.tmp 6]⟩
theorem tab61 : TabOk Tryd.prog 61 t61 := tabOk Tryd.func61 rfl ord61 ok61 (by kernel_rfl) rfl

/-- internal/strconv.formatBits -/
def c65 : ACode :=
 .seq (.region [
  ⟨some 10, .mov (.const .nils), none, []⟩, 
  ⟨some 11, .mov (.const (.str [])), none, []⟩] [])
 (.seq (.seq (.region [
  ⟨some 19, .mov (.tmp 2), none, []⟩, 
  ⟨some 20, .bin .lss (.tmp 19) (.const (.int .i64 2)), none, []⟩, 
  ⟨some 21, .mov (.tmp 20), none, []⟩, 
  ⟨some 22, .mov (.tmp 2), (some (21, false)), []⟩, 
  ⟨some 23, .bin .eql (.tmp 22) (.const (.int .i64 10)), (some (21, false)), []⟩, 
  ⟨some 24, .pick (.tmp 21) (.const (.bool true)) (.tmp 23), none, []⟩, 
  ⟨some 25, .mov (.tmp 24), none, []⟩, 
  ⟨some 26, .mov (.tmp 2), (some (25, false)), []⟩, 
  ⟨some 27, .bin .gtr (.tmp 26) (.const (.int .i64 36)), (some (25, false)), []⟩, 
  ⟨some 28, .pick (.tmp 25) (.const (.bool true)) (.tmp 27), none, []⟩] [19, 20, 21, 22, 23, 24, 25, 26, 27])
 (.cond (.tmp 28)
  (.region [
   ⟨some 29, .mkIface 9 (.const (.str [115, 116, 114, 99, 111, 110, 118, 58, 32, 105, 108, 108, 101, 103, 97, 108, 32, 65, 112, 112, 101, 110, 100, 73, 110, 116, 47, 70, 111, 114, 109, 97, 116, 73, 110, 116, 32, 98, 97, 115, 101])), none, []⟩, 
   ⟨none, .panic (.tmp 29), none, []⟩] [29])
  (.skip)))
 (.seq (.region [
  ⟨some 12, .boxR 121 65 (.const (.agg [(.int .u8 0), (.int .u8 0), (.int .u8 0), (.int .u8 0), (.int .u8 0), (.int .u8 0), (.int .u8 0), (.int .u8 0), (.int .u8 0), (.int .u8 0), (.int .u8 0), (.int .u8 0), (.int .u8 0), (.int .u8 0), (.int .u8 0), (.int .u8 0), (.int .u8 0), (.int .u8 0), (.int .u8 0), (.int .u8 0), (.int .u8 0), (.int .u8 0), (.int .u8 0), (.int .u8 0), (.int .u8 0), (.int .u8 0), (.int .u8 0), (.int .u8 0), (.int .u8 0), (.int .u8 0), (.int .u8 0), (.int .u8 0), (.int .u8 0), (.int .u8 0), (.int .u8 0), (.int .u8 0), (.int .u8 0), (.int .u8 0), (.int .u8 0), (.int .u8 0), (.int .u8 0), (.int .u8 0), (.int .u8 0), (.int .u8 0), (.int .u8 0), (.int .u8 0), (.int .u8 0), (.int .u8 0), (.int .u8 0), (.int .u8 0), (.int .u8 0), (.int .u8 0), (.int .u8 0), (.int .u8 0), (.int .u8 0), (.int .u8 0), (.int .u8 0), (.int .u8 0), (.int .u8 0), (.int .u8 0), (.int .u8 0), (.int .u8 0), (.int .u8 0), (.int .u8 0), (.int .u8 0)])), none, []⟩] [])
 (.seq (.region [
  ⟨some 13, .mov (.const (.int .i64 65)), none, []⟩] [])
 (.seq (.seq (.region [
  ⟨some 30, .mov (.tmp 3), none, []⟩] [])
 (.cond (.tmp 30)
  (.region [
   ⟨some 31, .mov (.tmp 1), none, []⟩, 
   ⟨some 32, .un .neg (.tmp 31), none, []⟩, 
   ⟨some 1, .mov (.tmp 32), none, []⟩] [31, 32])
  (.skip)))
 (.seq (.seq (.region [
  ⟨some 33, .mov (.tmp 2), none, []⟩, 
  ⟨some 34, .call 78 [(.tmp 33)], none, []⟩] [33])
 (.cond (.tmp 34)
  (.seq (.region [
   ⟨some 35, .mov (.tmp 2), none, []⟩, 
   ⟨some 36, .conv .u64 (.tmp 35), none, []⟩, 
   ⟨some 37, .call 79 [(.tmp 36)], none, []⟩, 
   ⟨some 38, .conv .u64 (.tmp 37), none, []⟩, 
   ⟨some 14, .mov (.tmp 38), none, []⟩] [35, 36, 37, 38])
  (.seq (.region [
   ⟨some 39, .mov (.tmp 2), none, []⟩, 
   ⟨some 40, .conv .u64 (.tmp 39), none, []⟩, 
   ⟨some 15, .mov (.tmp 40), none, []⟩] [39, 40])
  (.seq (.region [
   ⟨some 41, .mov (.tmp 2), none, []⟩, 
   ⟨some 42, .conv .u64 (.tmp 41), none, []⟩, 
   ⟨some 43, .bin .sub (.tmp 42) (.const (.int .u64 1)), none, []⟩, 
   ⟨some 16, .mov (.tmp 43), none, []⟩] [41, 42, 43])
  (.seq (.block 0 (.loop (.seq (.seq (.region [
     ⟨some 44, .mov (.tmp 1), none, []⟩, 
     ⟨some 45, .mov (.tmp 15), none, []⟩, 
     ⟨some 46, .bin .geq (.tmp 44) (.tmp 45), none, []⟩] [44, 45])
    (.cond (.tmp 46)
     (.skip)
     (.exit 0)))
    (.block 1 (.seq (.region [
      ⟨some 47, .mov (.tmp 13), none, []⟩, 
      ⟨some 48, .bin .sub (.tmp 47) (.const (.int .i64 1)), none, []⟩, 
      ⟨some 13, .mov (.tmp 48), none, []⟩] [47, 48])
     (.seq (.region [
      ⟨some 49, .mov (.tmp 13), none, []⟩, 
      ⟨some 50, .mov (.tmp 1), none, []⟩, 
      ⟨some 51, .mov (.tmp 16), none, []⟩, 
      ⟨some 52, .bin .and (.tmp 50) (.tmp 51), none, []⟩, 
      ⟨some 53, .index (.const (.str [48, 49, 50, 51, 52, 53, 54, 55, 56, 57, 97, 98, 99, 100, 101, 102, 103, 104, 105, 106, 107, 108, 109, 110, 111, 112, 113, 114, 115, 116, 117, 118, 119, 120, 121, 122])) (.tmp 52), none, []⟩, 
      ⟨some 54, .indexArr 65 1 (.tmp 12) (.tmp 49), none, []⟩, 
      ⟨none, .store 1 (.tmp 54) (.tmp 53), none, []⟩] [49, 50, 51, 52, 53, 54])
     (.region [
      ⟨some 55, .mov (.tmp 1), none, []⟩, 
      ⟨some 56, .mov (.tmp 14), none, []⟩, 
      ⟨some 57, .bin .shr (.tmp 55) (.tmp 56), none, []⟩, 
      ⟨some 1, .mov (.tmp 57), none, []⟩] [55, 56, 57])))))))
  (.seq (.region [
   ⟨some 58, .mov (.tmp 13), none, []⟩, 
   ⟨some 59, .bin .sub (.tmp 58) (.const (.int .i64 1)), none, []⟩, 
   ⟨some 13, .mov (.tmp 59), none, []⟩] [58, 59])
  (.region [
   ⟨some 60, .mov (.tmp 13), none, []⟩, 
   ⟨some 61, .mov (.tmp 1), none, []⟩, 
   ⟨some 62, .index (.const (.str [48, 49, 50, 51, 52, 53, 54, 55, 56, 57, 97, 98, 99, 100, 101, 102, 103, 104, 105, 106, 107, 108, 109, 110, 111, 112, 113, 114, 115, 116, 117, 118, 119, 120, 121, 122])) (.tmp 61), none, []⟩, 
   ⟨some 63, .indexArr 65 1 (.tmp 12) (.tmp 60), none, []⟩, 
   ⟨none, .store 1 (.tmp 63) (.tmp 62), none, []⟩] [60, 61, 62, 63]))))))
  (.seq (.region [
   ⟨some 64, .mov (.tmp 2), none, []⟩, 
   ⟨some 65, .conv .u64 (.tmp 64), none, []⟩, 
   ⟨some 17, .mov (.tmp 65), none, []⟩] [64, 65])
  (.seq (.block 2 (.loop (.seq (.seq (.region [
     ⟨some 66, .mov (.tmp 1), none, []⟩, 
     ⟨some 67, .mov (.tmp 17), none, []⟩, 
     ⟨some 68, .bin .geq (.tmp 66) (.tmp 67), none, []⟩] [66, 67])
    (.cond (.tmp 68)
     (.skip)
     (.exit 2)))
    (.block 3 (.seq (.region [
      ⟨some 69, .mov (.tmp 13), none, []⟩, 
      ⟨some 70, .bin .sub (.tmp 69) (.const (.int .i64 1)), none, []⟩, 
      ⟨some 13, .mov (.tmp 70), none, []⟩] [69, 70])
     (.seq (.region [
      ⟨some 71, .mov (.tmp 1), none, []⟩, 
      ⟨some 72, .mov (.tmp 17), none, []⟩, 
      ⟨some 73, .bin .quo (.tmp 71) (.tmp 72), none, []⟩, 
      ⟨some 18, .mov (.tmp 73), none, []⟩] [71, 72, 73])
     (.seq (.region [
      ⟨some 74, .mov (.tmp 13), none, []⟩, 
      ⟨some 75, .mov (.tmp 1), none, []⟩, 
      ⟨some 76, .mov (.tmp 18), none, []⟩, 
      ⟨some 77, .mov (.tmp 17), none, []⟩, 
      ⟨some 78, .bin .mul (.tmp 76) (.tmp 77), none, []⟩, 
      ⟨some 79, .bin .sub (.tmp 75) (.tmp 78), none, []⟩, 
      ⟨some 80, .index (.const (.str [48, 49, 50, 51, 52, 53, 54, 55, 56, 57, 97, 98, 99, 100, 101, 102, 103, 104, 105, 106, 107, 108, 109, 110, 111, 112, 113, 114, 115, 116, 117, 118, 119, 120, 121, 122])) (.tmp 79), none, []⟩, 
      ⟨some 81, .indexArr 65 1 (.tmp 12) (.tmp 74), none, []⟩, 
      ⟨none, .store 1 (.tmp 81) (.tmp 80), none, []⟩] [74, 75, 76, 77, 78, 79, 80, 81])
     (.region [
      ⟨some 82, .mov (.tmp 18), none, []⟩, 
      ⟨some 1, .mov (.tmp 82), none, []⟩] [82]))))))))
  (.seq (.region [
   ⟨some 83, .mov (.tmp 13), none, []⟩, 
   ⟨some 84, .bin .sub (.tmp 83) (.const (.int .i64 1)), none, []⟩, 
   ⟨some 13, .mov (.tmp 84), none, []⟩] [83, 84])
  (.region [
   ⟨some 85, .mov (.tmp 13), none, []⟩, 
   ⟨some 86, .mov (.tmp 1), none, []⟩, 
   ⟨some 87, .index (.const (.str [48, 49, 50, 51, 52, 53, 54, 55, 56, 57, 97, 98, 99, 100, 101, 102, 103, 104, 105, 106, 107, 108, 109, 110, 111, 112, 113, 114, 115, 116, 117, 118, 119, 120, 121, 122])) (.tmp 86), none, []⟩, 
   ⟨some 88, .indexArr 65 1 (.tmp 12) (.tmp 85), none, []⟩, 
   ⟨none, .store 1 (.tmp 88) (.tmp 87), none, []⟩] [85, 86, 87, 88]))))))
 (.seq (.seq (.region [
  ⟨some 89, .mov (.tmp 3), none, []⟩] [])
 (.cond (.tmp 89)
  (.seq (.region [
   ⟨some 90, .mov (.tmp 13), none, []⟩, 
   ⟨some 91, .bin .sub (.tmp 90) (.const (.int .i64 1)), none, []⟩, 
   ⟨some 13, .mov (.tmp 91), none, []⟩] [90, 91])
  (.region [
   ⟨some 92, .mov (.tmp 13), none, []⟩, 
   ⟨some 93, .indexArr 65 1 (.tmp 12) (.tmp 92), none, []⟩, 
   ⟨none, .store 1 (.tmp 93) (.const (.int .u8 45)), none, []⟩] [92, 93]))
  (.skip)))
 (.seq (.seq (.region [
  ⟨some 94, .mov (.tmp 4), none, []⟩] [])
 (.cond (.tmp 94)
  (.seq (.region [
   ⟨some 95, .mov (.tmp 0), none, []⟩, 
   ⟨some 96, .mov (.tmp 13), none, []⟩, 
   ⟨some 97, .sliceArr 65 (.tmp 12) (some (.tmp 96)) none, none, []⟩, 
   ⟨some 98, .append 5 1 1 (.tmp 95) (.tmp 97), none, []⟩, 
   ⟨some 10, .mov (.tmp 98), none, []⟩] [95, 96, 97, 98])
  (.ret))
  (.skip)))
 (.seq (.region [
  ⟨some 99, .mov (.tmp 13), none, []⟩, 
  ⟨some 100, .sliceArr 65 (.tmp 12) (some (.tmp 99)) none, none, []⟩, 
  ⟨some 101, .toStr (.tmp 100), none, []⟩, 
  ⟨some 11, .mov (.tmp 101), none, []⟩] [99, 100, 101])
 (.ret)))))))))
theorem ok65 : erase c65 = cCode Tryd.prog 102 ((Tryd.f65).body.getD .skip) := by kernel_rfl
theorem ord65 : ordsOk c65 = true := by kernel_rfl
theorem call65 {args : List SV} {h : Heap} {R : AEnd → Heap → Prop} (hn : Nat.ble args.length 102 = true) (hp : awp Tryd.prog c65 (finQ [.tmp 10, .tmp 11] R) (argEnv 0 args) h) : ACall Tryd.prog 65 args h R :=
  acall_of_awp mixed Tryd.func65 rfl ord65 ok65 (by kernel_rfl) hn hp
def t65 : Tab := ⟨102, c65, [.tmp 10, .tmp 11]⟩
theorem tab65 : TabOk Tryd.prog 65 t65 := tabOk Tryd.func65 rfl ord65 ok65 (by kernel_rfl) rfl

/-- strings.Count -/
def c66 : ACode :=
 .seq (.region [
  ⟨some 4, .mov (.const (.int .i64 0)), none, []⟩] [])
 (.seq (.seq (.region [
  ⟨some 7, .mov (.tmp 1), none, []⟩, 
  ⟨some 8, .len true (.tmp 7), none, []⟩, 
  ⟨some 9, .bin .eql (.tmp 8) (.const (.int .i64 0)), none, []⟩] [7, 8])
 (.cond (.tmp 9)
  (.seq (.region [
   ⟨some 10, .mov (.tmp 0), none, []⟩, 
   ⟨some 11, .call 80 [(.tmp 10)], none, []⟩, 
   ⟨some 12, .bin .add (.tmp 11) (.const (.int .i64 1)), none, []⟩, 
   ⟨some 4, .mov (.tmp 12), none, []⟩] [10, 11, 12])
  (.ret))
  (.skip)))
 (.seq (.seq (.region [
  ⟨some 13, .mov (.tmp 1), none, []⟩, 
  ⟨some 14, .len true (.tmp 13), none, []⟩, 
  ⟨some 15, .bin .eql (.tmp 14) (.const (.int .i64 1)), none, []⟩] [13, 14])
 (.cond (.tmp 15)
  (.seq (.region [
   ⟨some 16, .mov (.tmp 0), none, []⟩, 
   ⟨some 17, .mov (.tmp 1), none, []⟩, 
   ⟨some 18, .index (.tmp 17) (.const (.int .i64 0)), none, []⟩, 
   ⟨some 19, .ext1 0 (.tmp 16) (.tmp 18), none, []⟩, 
   ⟨some 4, .mov (.tmp 19), none, []⟩] [16, 17, 18, 19])
  (.ret))
  (.skip)))
 (.seq (.region [
  ⟨some 5, .mov (.const (.int .i64 0)), none, []⟩] [])
 (.block 0 (.loop (.block 1 (.seq (.region [
     ⟨some 20, .mov (.tmp 0), none, []⟩, 
     ⟨some 21, .mov (.tmp 1), none, []⟩, 
     ⟨some 22, .call 67 [(.tmp 20), (.tmp 21)], none, []⟩, 
     ⟨some 6, .mov (.tmp 22), none, []⟩] [20, 21, 22])
    (.seq (.seq (.region [
     ⟨some 23, .mov (.tmp 6), none, []⟩, 
     ⟨some 24, .bin .eql (.tmp 23) (.const (.int .i64 (-1))), none, []⟩] [23])
    (.cond (.tmp 24)
     (.seq (.region [
      ⟨some 25, .mov (.tmp 5), none, []⟩, 
      ⟨some 4, .mov (.tmp 25), none, []⟩] [25])
     (.ret))
     (.skip)))
    (.seq (.region [
     ⟨some 26, .mov (.tmp 5), none, []⟩, 
     ⟨some 27, .bin .add (.tmp 26) (.const (.int .i64 1)), none, []⟩, 
     ⟨some 5, .mov (.tmp 27), none, []⟩] [26, 27])
    (.region [
     ⟨some 28, .mov (.tmp 0), none, []⟩, 
     ⟨some 29, .mov (.tmp 6), none, []⟩, 
     ⟨some 30, .mov (.tmp 1), none, []⟩, 
     ⟨some 31, .len true (.tmp 30), none, []⟩, 
     ⟨some 32, .bin .add (.tmp 29) (.tmp 31), none, []⟩, 
     ⟨some 33, .sliceStr (.tmp 28) (some (.tmp 32)) none, none, []⟩, 
     ⟨some 0, .mov (.tmp 33), none, []⟩] [28, 29, 30, 31, 32, 33]))))))))))
theorem ok66 : erase c66 = cCode Tryd.prog 34 ((Tryd.f66).body.getD .skip) := by kernel_rfl
theorem ord66 : ordsOk c66 = true := by kernel_rfl
theorem call66 {args : List SV} {h : Heap} {R : AEnd → Heap → Prop} (hn : Nat.ble args.length 34 = true) (hp : awp Tryd.prog c66 (finQ [.tmp 4] R) (argEnv 0 args) h) : ACall Tryd.prog 66 args h R :=
  acall_of_awp mixed Tryd.func66 rfl ord66 ok66 (by kernel_rfl) hn hp
def t66 : Tab := ⟨34, c66, [.tmp 4]⟩
theorem tab66 : TabOk Tryd.prog 66 t66 := tabOk Tryd.func66 rfl ord66 ok66 (by kernel_rfl) rfl

/-- strings.Index -/
def c67 : ACode :=
 .seq (.region [
  ⟨some 4, .mov (.const (.int .i64 0)), none, []⟩] [])
 (.seq (.region [
  ⟨some 5, .mov (.tmp 0), none, []⟩, 
  ⟨some 6, .mov (.tmp 1), none, []⟩, 
  ⟨some 7, .call 82 [(.tmp 5), (.tmp 6)], none, []⟩, 
  ⟨some 4, .mov (.tmp 7), none, []⟩] [5, 6, 7])
 (.ret))
theorem ok67 : erase c67 = cCode Tryd.prog 8 ((Tryd.f67).body.getD .skip) := by kernel_rfl
theorem ord67 : ordsOk c67 = true := by kernel_rfl
theorem call67 {args : List SV} {h : Heap} {R : AEnd → Heap → Prop} (hn : Nat.ble args.length 8 = true) (hp : awp Tryd.prog c67 (finQ [.tmp 4] R) (argEnv 0 args) h) : ACall Tryd.prog 67 args h R :=
  acall_of_awp mixed Tryd.func67 rfl ord67 ok67 (by kernel_rfl) hn hp
def t67 : Tab := ⟨8, c67, [.tmp 4]⟩
theorem tab67 : TabOk Tryd.prog 67 t67 := tabOk Tryd.func67 rfl ord67 ok67 (by kernel_rfl) rfl

def c70r1 : List AOper := [
 ⟨some 5, .mov (.tmp 0), none, []⟩, 
 ⟨some 6, .mov (.tmp 1), none, []⟩, 
 ⟨some 7, .call 83 [(.tmp 6)], none, [1]⟩, 
 ⟨some 8, .loadS (.const (.glob 7)), none, []⟩, 
 ⟨some 9, .build [(.str []), (.str []), .nili] [(0, 1, (.tmp 5)), (1, 1, (.tmp 7)), (2, 1, (.tmp 8))], none, [0, 2, 3]⟩, 
 ⟨some 10, .box 126 3 (.tmp 9), none, [4]⟩, 
 ⟨some 4, .mov (.tmp 10), none, [5, 2, 0, 1, 2, 3, 4, 5]⟩]
/-- strconv.syntaxError -/
def c70 : ACode :=
 .seq (.region [
  ⟨some 4, .mov (.const .nilp), none, []⟩] [])
 (.seq (.dregion c70r1 [(0, false, []), (1, false, []), (3, false, []), (2, true, [3]), (4, false, []), (5, true, []), (6, false, [])] [5, 6, 7, 8, 9, 10])
 (.ret))
theorem ok70 : erase c70 = cCode Tryd.prog 11 ((Tryd.f70).body.getD .skip) := by kernel_rfl
theorem ord70 : ordsOk c70 = true := by kernel_rfl
theorem call70 {args : List SV} {h : Heap} {R : AEnd → Heap → Prop} (hn : Nat.ble args.length 11 = true) (hp : awp Tryd.prog c70 (finQ [.tmp 4] R) (argEnv 0 args) h) : ACall Tryd.prog 70 args h R :=
  acall_of_awp mixed Tryd.func70 rfl ord70 ok70 (by kernel_rfl) hn hp
def t70 : Tab := ⟨11, c70, [.tmp 4]⟩
theorem tab70 : TabOk Tryd.prog 70 t70 := tabOk Tryd.func70 rfl ord70 ok70 (by kernel_rfl) rfl

/-- strconv.baseError -/
def c72 : ACode :=
 .seq (.region [
  ⟨some 6, .mov (.const .nilp), none, []⟩] [])
 (.seq (.region [
  ⟨some 7, .mov (.tmp 0), none, []⟩, 
  ⟨some 8, .mov (.tmp 1), none, []⟩, 
  ⟨some 9, .call 83 [(.tmp 8)], none, []⟩, 
  ⟨some 10, .mov (.tmp 2), none, []⟩, 
  ⟨some 11, .call 85 [(.tmp 10)], none, []⟩, 
  ⟨some 12, .bin .add (.const (.str [105, 110, 118, 97, 108, 105, 100, 32, 98, 97, 115, 101, 32])) (.tmp 11), none, []⟩, 
  ⟨some 13, .call 84 [(.tmp 12)], none, []⟩, 
  ⟨some 14, .build [(.str []), (.str []), .nili] [(0, 1, (.tmp 7)), (1, 1, (.tmp 9)), (2, 1, (.tmp 13))], none, []⟩, 
  ⟨some 15, .box 126 3 (.tmp 14), none, []⟩, 
  ⟨some 6, .mov (.tmp 15), none, []⟩] [7, 8, 9, 10, 11, 12, 13, 14, 15])
 (.ret))
theorem ok72 : erase c72 = cCode Tryd.prog 16 ((Tryd.f72).body.getD .skip) := by kernel_rfl
theorem ord72 : ordsOk c72 = true := by kernel_rfl
theorem call72 {args : List SV} {h : Heap} {R : AEnd → Heap → Prop} (hn : Nat.ble args.length 16 = true) (hp : awp Tryd.prog c72 (finQ [.tmp 6] R) (argEnv 0 args) h) : ACall Tryd.prog 72 args h R :=
  acall_of_awp mixed Tryd.func72 rfl ord72 ok72 (by kernel_rfl) hn hp
def t72 : Tab := ⟨16, c72, [.tmp 6]⟩
theorem tab72 : TabOk Tryd.prog 72 t72 := tabOk Tryd.func72 rfl ord72 ok72 (by kernel_rfl) rfl

/-- internal/strconv.log10Pow2 -/
def c75 : ACode :=
 .seq (.region [
  ⟨some 2, .mov (.const (.int .i64 0)), none, []⟩] [])
 (.seq (.region [
  ⟨some 3, .mov (.tmp 0), none, []⟩, 
  ⟨some 4, .bin .mul (.tmp 3) (.const (.int .i64 78913)), none, []⟩, 
  ⟨some 5, .bin .shr (.tmp 4) (.const (.int .u64 18)), none, []⟩, 
  ⟨some 2, .mov (.tmp 5), none, []⟩] [3, 4, 5])
 (.ret))
theorem ok75 : erase c75 = cCode Tryd.prog 6 ((Tryd.f75).body.getD .skip) := by kernel_rfl
theorem ord75 : ordsOk c75 = true := by kernel_rfl
theorem call75 {args : List SV} {h : Heap} {R : AEnd → Heap → Prop} (hn : Nat.ble args.length 6 = true) (hp : awp Tryd.prog c75 (finQ [.tmp 2] R) (argEnv 0 args) h) : ACall Tryd.prog 75 args h R :=
  acall_of_awp mixed Tryd.func75 rfl ord75 ok75 (by kernel_rfl) hn hp
def t75 : Tab := ⟨6, c75, [.tmp 2]⟩
theorem tab75 : TabOk Tryd.prog 75 t75 := tabOk Tryd.func75 rfl ord75 ok75 (by kernel_rfl) rfl

/-- math/bits.Len64 -/
def c76 : ACode :=
 .seq (.region [
  ⟨some 2, .mov (.const (.int .i64 0)), none, []⟩] [])
 (.seq (.seq (.region [
  ⟨some 3, .mov (.tmp 0), none, []⟩, 
  ⟨some 4, .bin .geq (.tmp 3) (.const (.int .u64 4294967296)), none, []⟩] [3])
 (.cond (.tmp 4)
  (.seq (.region [
   ⟨some 5, .mov (.tmp 0), none, []⟩, 
   ⟨some 6, .bin .shr (.tmp 5) (.const (.int .u64 32)), none, []⟩, 
   ⟨some 0, .mov (.tmp 6), none, []⟩] [5, 6])
  (.region [
   ⟨some 2, .mov (.const (.int .i64 32)), none, []⟩] []))
  (.skip)))
 (.seq (.seq (.region [
  ⟨some 7, .mov (.tmp 0), none, []⟩, 
  ⟨some 8, .bin .geq (.tmp 7) (.const (.int .u64 65536)), none, []⟩] [7])
 (.cond (.tmp 8)
  (.seq (.region [
   ⟨some 9, .mov (.tmp 0), none, []⟩, 
   ⟨some 10, .bin .shr (.tmp 9) (.const (.int .u64 16)), none, []⟩, 
   ⟨some 0, .mov (.tmp 10), none, []⟩] [9, 10])
  (.region [
   ⟨some 11, .mov (.tmp 2), none, []⟩, 
   ⟨some 12, .bin .add (.tmp 11) (.const (.int .i64 16)), none, []⟩, 
   ⟨some 2, .mov (.tmp 12), none, []⟩] [11, 12]))
  (.skip)))
 (.seq (.seq (.region [
  ⟨some 13, .mov (.tmp 0), none, []⟩, 
  ⟨some 14, .bin .geq (.tmp 13) (.const (.int .u64 256)), none, []⟩] [13])
 (.cond (.tmp 14)
  (.seq (.region [
   ⟨some 15, .mov (.tmp 0), none, []⟩, 
   ⟨some 16, .bin .shr (.tmp 15) (.const (.int .u64 8)), none, []⟩, 
   ⟨some 0, .mov (.tmp 16), none, []⟩] [15, 16])
  (.region [
   ⟨some 17, .mov (.tmp 2), none, []⟩, 
   ⟨some 18, .bin .add (.tmp 17) (.const (.int .i64 8)), none, []⟩, 
   ⟨some 2, .mov (.tmp 18), none, []⟩] [17, 18]))
  (.skip)))
 (.seq (.region [
  ⟨some 19, .mov (.tmp 2), none, []⟩, 
  ⟨some 20, .mov (.tmp 0), none, []⟩, 
  ⟨some 21, .conv .u8 (.tmp 20), none, []⟩, 
  ⟨some 22, .index (.const (.str [0, 1, 2, 2, 3, 3, 3, 3, 4, 4, 4, 4, 4, 4, 4, 4, 5, 5, 5, 5, 5, 5, 5, 5, 5, 5, 5, 5, 5, 5, 5, 5, 6, 6, 6, 6, 6, 6, 6, 6, 6, 6, 6, 6, 6, 6, 6, 6, 6, 6, 6, 6, 6, 6, 6, 6, 6, 6, 6, 6, 6, 6, 6, 6, 7, 7, 7, 7, 7, 7, 7, 7, 7, 7, 7, 7, 7, 7, 7, 7, 7, 7, 7, 7, 7, 7, 7, 7, 7, 7, 7, 7, 7, 7, 7, 7, 7, 7, 7, 7, 7, 7, 7, 7, 7, 7, 7, 7, 7, 7, 7, 7, 7, 7, 7, 7, 7, 7, 7, 7, 7, 7, 7, 7, 7, 7, 7, 7, 8, 8, 8, 8, 8, 8, 8, 8, 8, 8, 8, 8, 8, 8, 8, 8, 8, 8, 8, 8, 8, 8, 8, 8, 8, 8, 8, 8, 8, 8, 8, 8, 8, 8, 8, 8, 8, 8, 8, 8, 8, 8, 8, 8, 8, 8, 8, 8, 8, 8, 8, 8, 8, 8, 8, 8, 8, 8, 8, 8, 8, 8, 8, 8, 8, 8, 8, 8, 8, 8, 8, 8, 8, 8, 8, 8, 8, 8, 8, 8, 8, 8, 8, 8, 8, 8, 8, 8, 8, 8, 8, 8, 8, 8, 8, 8, 8, 8, 8, 8, 8, 8, 8, 8, 8, 8, 8, 8, 8, 8, 8, 8, 8, 8, 8, 8, 8, 8, 8, 8, 8, 8, 8, 8, 8, 8, 8, 8])) (.tmp 21), none, []⟩, 
  ⟨some 23, .conv .i64 (.tmp 22), none, []⟩, 
  ⟨some 24, .bin .add (.tmp 19) (.tmp 23), none, []⟩, 
  ⟨some 2, .mov (.tmp 24), none, []⟩] [19, 20, 21, 22, 23, 24])
 (.ret)))))
theorem ok76 : erase c76 = cCode Tryd.prog 25 ((Tryd.f76).body.getD .skip) := by kernel_rfl
theorem ord76 : ordsOk c76 = true := by kernel_rfl
theorem call76 {args : List SV} {h : Heap} {R : AEnd → Heap → Prop} (hn : Nat.ble args.length 25 = true) (hp : awp Tryd.prog c76 (finQ [.tmp 2] R) (argEnv 0 args) h) : ACall Tryd.prog 76 args h R :=
  acall_of_awp mixed Tryd.func76 rfl ord76 ok76 (by kernel_rfl) hn hp
def t76 : Tab := ⟨25, c76, [.tmp 2]⟩
theorem tab76 : TabOk Tryd.prog 76 t76 := tabOk Tryd.func76 rfl ord76 ok76 (by kernel_rfl) rfl

/-- internal/stringslite.Index -/
def c82 : ACode :=
 .seq (.region [
  ⟨some 4, .mov (.const (.int .i64 0)), none, []⟩] [])
 (.seq (.region [
  ⟨some 14, .mov (.tmp 1), none, []⟩, 
  ⟨some 15, .len true (.tmp 14), none, []⟩, 
  ⟨some 5, .mov (.tmp 15), none, []⟩] [14, 15])
 (.seq (.block 0 (.seq (.region [
   ⟨some 17, .mov (.tmp 5), none, []⟩, 
   ⟨some 18, .bin .eql (.tmp 17) (.const (.int .i64 0)), none, []⟩, 
   ⟨some 19, .mov (.tmp 18), none, []⟩, 
   ⟨some 20, .mov (.tmp 1), (some (19, false)), []⟩, 
   ⟨some 21, .mov (.tmp 0), (some (19, false)), []⟩, 
   ⟨some 22, .bin .eql (.tmp 20) (.tmp 21), (some (19, false)), []⟩, 
   ⟨some 23, .pick (.tmp 19) (.const (.bool true)) (.tmp 22), none, []⟩, 
   ⟨some 16, .mov (.tmp 23), none, []⟩] [17, 18, 19, 20, 21, 22, 23])
  (.cond (.tmp 16)
   (.seq (.region [
    ⟨some 4, .mov (.const (.int .i64 0)), none, []⟩] [])
   (.ret))
   (.seq (.region [
    ⟨some 25, .mov (.tmp 5), none, []⟩, 
    ⟨some 26, .bin .eql (.tmp 25) (.const (.int .i64 1)), none, []⟩, 
    ⟨some 24, .mov (.tmp 26), none, []⟩] [25, 26])
   (.cond (.tmp 24)
    (.seq (.region [
     ⟨some 27, .mov (.tmp 0), none, []⟩, 
     ⟨some 28, .mov (.tmp 1), none, []⟩, 
     ⟨some 29, .index (.tmp 28) (.const (.int .i64 0)), none, []⟩, 
     ⟨some 30, .call 22 [(.tmp 27), (.tmp 29)], none, []⟩, 
     ⟨some 4, .mov (.tmp 30), none, []⟩] [27, 28, 29, 30])
    (.ret))
    (.seq (.region [
     ⟨some 32, .mov (.tmp 5), none, []⟩, 
     ⟨some 33, .mov (.tmp 0), none, []⟩, 
     ⟨some 34, .len true (.tmp 33), none, []⟩, 
     ⟨some 35, .bin .geq (.tmp 32) (.tmp 34), none, []⟩, 
     ⟨some 31, .mov (.tmp 35), none, []⟩] [32, 33, 34, 35])
    (.cond (.tmp 31)
     (.seq (.region [
      ⟨some 4, .mov (.const (.int .i64 (-1))), none, []⟩] [])
     (.ret))
     (.seq (.region [
      ⟨some 37, .mov (.tmp 5), none, []⟩, 
      ⟨some 38, .loadS (.const (.glob 3)), none, []⟩, 
      ⟨some 39, .bin .leq (.tmp 37) (.tmp 38), none, []⟩, 
      ⟨some 40, .mov (.tmp 39), none, []⟩, 
      ⟨some 41, .mov (.tmp 0), (some (40, true)), []⟩, 
      ⟨some 42, .len true (.tmp 41), (some (40, true)), []⟩, 
      ⟨some 43, .bin .leq (.tmp 42) (.const (.int .i64 64)), (some (40, true)), []⟩, 
      ⟨some 44, .pick (.tmp 40) (.tmp 43) (.const (.bool false)), none, []⟩, 
      ⟨some 36, .mov (.tmp 44), none, []⟩] [37, 38, 39, 40, 41, 42, 43, 44])
     (.cond (.tmp 36)
      (.seq (.region [
       ⟨some 45, .mov (.tmp 0), none, []⟩, 
       ⟨some 46, .mov (.tmp 1), none, []⟩, 
       ⟨some 47, .bad, none, []⟩, 
       ⟨some 4, .mov (.tmp 47), none, []⟩] [45, 46, 47])
      (.ret))
      (.skip))))))))))
 (.seq (.region [
  ⟨some 48, .mov (.tmp 1), none, []⟩, 
  ⟨some 49, .index (.tmp 48) (.const (.int .i64 0)), none, []⟩, 
  ⟨some 6, .mov (.tmp 49), none, []⟩] [48, 49])
 (.seq (.region [
  ⟨some 50, .mov (.tmp 1), none, []⟩, 
  ⟨some 51, .index (.tmp 50) (.const (.int .i64 1)), none, []⟩, 
  ⟨some 7, .mov (.tmp 51), none, []⟩] [50, 51])
 (.seq (.region [
  ⟨some 8, .mov (.const (.int .i64 0)), none, []⟩] [])
 (.seq (.region [
  ⟨some 52, .mov (.tmp 0), none, []⟩, 
  ⟨some 53, .len true (.tmp 52), none, []⟩, 
  ⟨some 54, .mov (.tmp 5), none, []⟩, 
  ⟨some 55, .bin .sub (.tmp 53) (.tmp 54), none, []⟩, 
  ⟨some 56, .bin .add (.tmp 55) (.const (.int .i64 1)), none, []⟩, 
  ⟨some 9, .mov (.tmp 56), none, []⟩] [52, 53, 54, 55, 56])
 (.seq (.region [
  ⟨some 10, .mov (.const (.int .i64 0)), none, []⟩] [])
 (.seq (.block 1 (.loop (.seq (.seq (.region [
    ⟨some 57, .mov (.tmp 8), none, []⟩, 
    ⟨some 58, .mov (.tmp 9), none, []⟩, 
    ⟨some 59, .bin .lss (.tmp 57) (.tmp 58), none, []⟩] [57, 58])
   (.cond (.tmp 59)
    (.skip)
    (.exit 1)))
   (.block 2 (.seq (.seq (.region [
     ⟨some 60, .mov (.tmp 0), none, []⟩, 
     ⟨some 61, .mov (.tmp 8), none, []⟩, 
     ⟨some 62, .index (.tmp 60) (.tmp 61), none, []⟩, 
     ⟨some 63, .mov (.tmp 6), none, []⟩, 
     ⟨some 64, .bin .neq (.tmp 62) (.tmp 63), none, []⟩] [60, 61, 62, 63])
    (.cond (.tmp 64)
     (.seq (.region [
      ⟨some 65, .mov (.tmp 0), none, []⟩, 
      ⟨some 66, .mov (.tmp 8), none, []⟩, 
      ⟨some 67, .bin .add (.tmp 66) (.const (.int .i64 1)), none, []⟩, 
      ⟨some 68, .mov (.tmp 9), none, []⟩, 
      ⟨some 69, .sliceStr (.tmp 65) (some (.tmp 67)) (some (.tmp 68)), none, []⟩, 
      ⟨some 70, .mov (.tmp 6), none, []⟩, 
      ⟨some 71, .call 22 [(.tmp 69), (.tmp 70)], none, []⟩, 
      ⟨some 11, .mov (.tmp 71), none, []⟩] [65, 66, 67, 68, 69, 70, 71])
     (.seq (.seq (.region [
      ⟨some 72, .mov (.tmp 11), none, []⟩, 
      ⟨some 73, .bin .lss (.tmp 72) (.const (.int .i64 0)), none, []⟩] [72])
     (.cond (.tmp 73)
      (.seq (.region [
       ⟨some 4, .mov (.const (.int .i64 (-1))), none, []⟩] [])
      (.ret))
      (.skip)))
     (.region [
      ⟨some 74, .mov (.tmp 8), none, []⟩, 
      ⟨some 75, .mov (.tmp 11), none, []⟩, 
      ⟨some 76, .bin .add (.tmp 75) (.const (.int .i64 1)), none, []⟩, 
      ⟨some 77, .bin .add (.tmp 74) (.tmp 76), none, []⟩, 
      ⟨some 8, .mov (.tmp 77), none, []⟩] [74, 75, 76, 77])))
     (.skip)))
    (.seq (.seq (.region [
     ⟨some 78, .mov (.tmp 0), none, []⟩, 
     ⟨some 79, .mov (.tmp 8), none, []⟩, 
     ⟨some 80, .bin .add (.tmp 79) (.const (.int .i64 1)), none, []⟩, 
     ⟨some 81, .index (.tmp 78) (.tmp 80), none, []⟩, 
     ⟨some 82, .mov (.tmp 7), none, []⟩, 
     ⟨some 83, .bin .eql (.tmp 81) (.tmp 82), none, []⟩, 
     ⟨some 84, .mov (.tmp 83), none, []⟩, 
     ⟨some 85, .mov (.tmp 0), (some (84, true)), []⟩, 
     ⟨some 86, .mov (.tmp 8), (some (84, true)), []⟩, 
     ⟨some 87, .mov (.tmp 8), (some (84, true)), []⟩, 
     ⟨some 88, .mov (.tmp 5), (some (84, true)), []⟩, 
     ⟨some 89, .bin .add (.tmp 87) (.tmp 88), (some (84, true)), []⟩, 
     ⟨some 90, .sliceStr (.tmp 85) (some (.tmp 86)) (some (.tmp 89)), (some (84, true)), []⟩, 
     ⟨some 91, .mov (.tmp 1), (some (84, true)), []⟩, 
     ⟨some 92, .bin .eql (.tmp 90) (.tmp 91), (some (84, true)), []⟩, 
     ⟨some 93, .pick (.tmp 84) (.tmp 92) (.const (.bool false)), none, []⟩] [78, 79, 80, 81, 82, 83, 84, 85, 86, 87, 88, 89, 90, 91, 92])
    (.cond (.tmp 93)
     (.seq (.region [
      ⟨some 94, .mov (.tmp 8), none, []⟩, 
      ⟨some 4, .mov (.tmp 94), none, []⟩] [94])
     (.ret))
     (.skip)))
    (.seq (.region [
     ⟨some 95, .mov (.tmp 8), none, []⟩, 
     ⟨some 96, .bin .add (.tmp 95) (.const (.int .i64 1)), none, []⟩, 
     ⟨some 8, .mov (.tmp 96), none, []⟩] [95, 96])
    (.seq (.region [
     ⟨some 97, .mov (.tmp 10), none, []⟩, 
     ⟨some 98, .bin .add (.tmp 97) (.const (.int .i64 1)), none, []⟩, 
     ⟨some 10, .mov (.tmp 98), none, []⟩] [97, 98])
    (.seq (.region [
     ⟨some 99, .mov (.tmp 5), none, []⟩, 
     ⟨some 100, .loadS (.const (.glob 3)), none, []⟩, 
     ⟨some 101, .bin .leq (.tmp 99) (.tmp 100), none, []⟩, 
     ⟨some 102, .mov (.tmp 101), none, []⟩, 
     ⟨some 103, .mov (.tmp 10), (some (102, true)), []⟩, 
     ⟨some 104, .mov (.tmp 8), (some (102, true)), []⟩, 
     ⟨some 105, .call 91 [(.tmp 104)], (some (102, true)), []⟩, 
     ⟨some 106, .bin .gtr (.tmp 103) (.tmp 105), (some (102, true)), []⟩, 
     ⟨some 107, .pick (.tmp 102) (.tmp 106) (.const (.bool false)), none, []⟩] [99, 100, 101, 102, 103, 104, 105, 106])
    (.cond (.tmp 107)
     (.seq (.region [
      ⟨some 108, .mov (.tmp 0), none, []⟩, 
      ⟨some 109, .mov (.tmp 8), none, []⟩, 
      ⟨some 110, .sliceStr (.tmp 108) (some (.tmp 109)) none, none, []⟩, 
      ⟨some 111, .mov (.tmp 1), none, []⟩, 
      ⟨some 112, .bad, none, []⟩, 
      ⟨some 12, .mov (.tmp 112), none, []⟩] [108, 109, 110, 111, 112])
     (.seq (.seq (.region [
      ⟨some 113, .mov (.tmp 12), none, []⟩, 
      ⟨some 114, .bin .geq (.tmp 113) (.const (.int .i64 0)), none, []⟩] [113])
     (.cond (.tmp 114)
      (.seq (.region [
       ⟨some 115, .mov (.tmp 12), none, []⟩, 
       ⟨some 116, .mov (.tmp 8), none, []⟩, 
       ⟨some 117, .bin .add (.tmp 115) (.tmp 116), none, []⟩, 
       ⟨some 4, .mov (.tmp 117), none, []⟩] [115, 116, 117])
      (.ret))
      (.skip)))
     (.seq (.region [
      ⟨some 4, .mov (.const (.int .i64 (-1))), none, []⟩] [])
     (.ret))))
     (.seq (.region [
      ⟨some 118, .mov (.tmp 5), none, []⟩, 
      ⟨some 119, .loadS (.const (.glob 3)), none, []⟩, 
      ⟨some 120, .bin .gtr (.tmp 118) (.tmp 119), none, []⟩, 
      ⟨some 121, .mov (.tmp 120), none, []⟩, 
      ⟨some 122, .mov (.tmp 10), (some (121, true)), []⟩, 
      ⟨some 123, .mov (.tmp 8), (some (121, true)), []⟩, 
      ⟨some 124, .bin .shr (.tmp 123) (.const (.int .u64 4)), (some (121, true)), []⟩, 
      ⟨some 125, .bin .add (.const (.int .i64 4)) (.tmp 124), (some (121, true)), []⟩, 
      ⟨some 126, .bin .geq (.tmp 122) (.tmp 125), (some (121, true)), []⟩, 
      ⟨some 127, .pick (.tmp 121) (.tmp 126) (.const (.bool false)), none, []⟩, 
      ⟨some 128, .mov (.tmp 127), none, []⟩, 
      ⟨some 129, .mov (.tmp 8), (some (128, true)), []⟩, 
      ⟨some 130, .mov (.tmp 9), (some (128, true)), []⟩, 
      ⟨some 131, .bin .lss (.tmp 129) (.tmp 130), (some (128, true)), []⟩, 
      ⟨some 132, .pick (.tmp 128) (.tmp 131) (.const (.bool false)), none, []⟩] [118, 119, 120, 121, 122, 123, 124, 125, 126, 127, 128, 129, 130, 131])
     (.cond (.tmp 132)
      (.seq (.region [
       ⟨some 133, .mov (.tmp 0), none, []⟩, 
       ⟨some 134, .mov (.tmp 8), none, []⟩, 
       ⟨some 135, .sliceStr (.tmp 133) (some (.tmp 134)) none, none, []⟩, 
       ⟨some 136, .mov (.tmp 1), none, []⟩, 
       ⟨some 137, .call 92 [(.tmp 135), (.tmp 136)], none, []⟩, 
       ⟨some 13, .mov (.tmp 137), none, []⟩] [133, 134, 135, 136, 137])
      (.seq (.seq (.region [
       ⟨some 138, .mov (.tmp 13), none, []⟩, 
       ⟨some 139, .bin .lss (.tmp 138) (.const (.int .i64 0)), none, []⟩] [138])
      (.cond (.tmp 139)
       (.seq (.region [
        ⟨some 4, .mov (.const (.int .i64 (-1))), none, []⟩] [])
       (.ret))
       (.skip)))
      (.seq (.region [
       ⟨some 140, .mov (.tmp 8), none, []⟩, 
       ⟨some 141, .mov (.tmp 13), none, []⟩, 
       ⟨some 142, .bin .add (.tmp 140) (.tmp 141), none, []⟩, 
       ⟨some 4, .mov (.tmp 142), none, []⟩] [140, 141, 142])
      (.ret))))
      (.skip)))))))))))))
 (.seq (.region [
  ⟨some 4, .mov (.const (.int .i64 (-1))), none, []⟩] [])
 (.ret))))))))))
theorem ok82 : erase c82 = cCode Tryd.prog 143 ((Tryd.f82).body.getD .skip) := by kernel_rfl
theorem ord82 : ordsOk c82 = true := by kernel_rfl
theorem call82 {args : List SV} {h : Heap} {R : AEnd → Heap → Prop} (hn : Nat.ble args.length 143 = true) (hp : awp Tryd.prog c82 (finQ [.tmp 4] R) (argEnv 0 args) h) : ACall Tryd.prog 82 args h R :=
  acall_of_awp mixed Tryd.func82 rfl ord82 ok82 (by kernel_rfl) hn hp
def t82 : Tab := ⟨143, c82, [.tmp 4]⟩
theorem tab82 : TabOk Tryd.prog 82 t82 := tabOk Tryd.func82 rfl ord82 ok82 (by kernel_rfl) rfl

end Go.Proofs.YtlhpbcbkkbjhoaaDoor
