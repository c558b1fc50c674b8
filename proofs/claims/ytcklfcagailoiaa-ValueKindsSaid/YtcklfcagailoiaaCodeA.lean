/- The symbolic code of functions, by a program of ours; the kernel holds it against the program's code. -/
import Derived.Test.YtcklfcagailoiaaProg
import Derived.Test.YtcklfcagailoiaaAbH
import Derived.KernelRfl
namespace Go.Proofs.Ytcklfcagailoiaa
open Ab
set_option maxRecDepth 100000
theorem mixed : Try.prog.follows .mixedOrders = true := by kernel_rfl
/-- stagepost/value.truth -/
def c18 : ACode :=
 .seq (.region [
  ⟨some 2, .box 3 (.const (.agg [(.int .u8 0), (.int .i64 0), (.str [])])), none, []⟩] [])
 (.seq (.seq (.region [
  ⟨some 3, .mov (.tmp 0), none, []⟩] [])
 (.cond (.tmp 3)
  (.seq (.region [
   ⟨some 4, .build [(.int .u8 0), (.int .i64 0), (.str [])] [(0, 1, (.const (.int .u8 1))), (1, 1, (.const (.int .i64 1)))], none, []⟩, 
   ⟨none, .store 3 (.tmp 2) (.tmp 4), none, []⟩] [4])
  (.ret))
  (.skip)))
 (.seq (.region [
  ⟨some 5, .build [(.int .u8 0), (.int .i64 0), (.str [])] [(0, 1, (.const (.int .u8 1)))], none, []⟩, 
  ⟨none, .store 3 (.tmp 2) (.tmp 5), none, []⟩] [5])
 (.ret)))
theorem ok18 : erase c18 = cCode Try.prog 6 ((Try.f18).body.getD .skip) := by kernel_rfl
theorem ord18 : ordsOk c18 = true := by kernel_rfl
theorem call18 {args : List SV} {h : Heap} {R : AEnd → Heap → Prop} (hn : Nat.ble args.length 6 = true) (hp : awp Try.prog c18 (finQ [.cellA 2 3] R) (argEnv 0 args) h) : ACall Try.prog 18 args h R :=
  acall_of_awp mixed Try.func18 rfl ord18 ok18 (by kernel_rfl) hn hp

/-- stagepost/enc.Check -/
def c11 : ACode :=
 .seq (.region [
  ⟨some 1, .box 3 (.tmp 0), none, []⟩, 
  ⟨some 2, .mov (.const (.int .i64 0)), none, []⟩] [])
 (.seq (.region [
  ⟨some 3, .mov (.const (.bool false)), none, []⟩] [])
 (.seq (.seq (.region [
  ⟨some 4, .fieldAddr 0 (.tmp 1), none, []⟩, 
  ⟨some 5, .loadS (.tmp 4), none, []⟩] [4])
 (.block 0 (.seq (.region [
   ⟨some 7, .bin .eql (.tmp 5) (.const (.int .u8 0)), none, []⟩, 
   ⟨some 6, .mov (.tmp 7), none, []⟩] [7])
  (.cond (.tmp 6)
   (.region [
    ⟨some 8, .fieldAddr 1 (.tmp 1), none, []⟩, 
    ⟨some 9, .loadS (.tmp 8), none, []⟩, 
    ⟨some 10, .bin .eql (.tmp 9) (.const (.int .i64 0)), none, []⟩, 
    ⟨some 11, .mov (.tmp 10), none, []⟩, 
    ⟨some 12, .fieldAddr 2 (.tmp 1), (some (11, true)), []⟩, 
    ⟨some 13, .loadS (.tmp 12), (some (11, true)), []⟩, 
    ⟨some 14, .bin .eql (.tmp 13) (.const (.str [])), (some (11, true)), []⟩, 
    ⟨some 15, .pick (.tmp 11) (.tmp 14) (.const (.bool false)), none, []⟩, 
    ⟨some 3, .mov (.tmp 15), none, []⟩] [8, 9, 10, 11, 12, 13, 14, 15])
   (.seq (.region [
    ⟨some 17, .bin .eql (.tmp 5) (.const (.int .u8 1)), none, []⟩, 
    ⟨some 16, .mov (.tmp 17), none, []⟩] [17])
   (.cond (.tmp 16)
    (.region [
     ⟨some 18, .fieldAddr 1 (.tmp 1), none, []⟩, 
     ⟨some 19, .loadS (.tmp 18), none, []⟩, 
     ⟨some 20, .bin .eql (.tmp 19) (.const (.int .i64 0)), none, []⟩, 
     ⟨some 21, .mov (.tmp 20), none, []⟩, 
     ⟨some 22, .fieldAddr 1 (.tmp 1), (some (21, false)), []⟩, 
     ⟨some 23, .loadS (.tmp 22), (some (21, false)), []⟩, 
     ⟨some 24, .bin .eql (.tmp 23) (.const (.int .i64 1)), (some (21, false)), []⟩, 
     ⟨some 25, .pick (.tmp 21) (.const (.bool true)) (.tmp 24), none, []⟩, 
     ⟨some 26, .mov (.tmp 25), none, []⟩, 
     ⟨some 27, .fieldAddr 2 (.tmp 1), (some (26, true)), []⟩, 
     ⟨some 28, .loadS (.tmp 27), (some (26, true)), []⟩, 
     ⟨some 29, .bin .eql (.tmp 28) (.const (.str [])), (some (26, true)), []⟩, 
     ⟨some 30, .pick (.tmp 26) (.tmp 29) (.const (.bool false)), none, []⟩, 
     ⟨some 3, .mov (.tmp 30), none, []⟩] [18, 19, 20, 21, 22, 23, 24, 25, 26, 27, 28, 29, 30])
    (.seq (.region [
     ⟨some 32, .bin .eql (.tmp 5) (.const (.int .u8 2)), none, []⟩, 
     ⟨some 31, .mov (.tmp 32), none, []⟩] [32])
    (.cond (.tmp 31)
     (.region [
      ⟨some 33, .fieldAddr 2 (.tmp 1), none, []⟩, 
      ⟨some 34, .loadS (.tmp 33), none, []⟩, 
      ⟨some 35, .bin .eql (.tmp 34) (.const (.str [])), none, []⟩, 
      ⟨some 3, .mov (.tmp 35), none, []⟩] [33, 34, 35])
     (.seq (.region [
      ⟨some 37, .bin .eql (.tmp 5) (.const (.int .u8 3)), none, []⟩, 
      ⟨some 36, .mov (.tmp 37), none, []⟩] [37])
     (.cond (.tmp 36)
      (.region [
       ⟨some 38, .fieldAddr 1 (.tmp 1), none, []⟩, 
       ⟨some 39, .loadS (.tmp 38), none, []⟩, 
       ⟨some 40, .bin .eql (.tmp 39) (.const (.int .i64 0)), none, []⟩, 
       ⟨some 41, .mov (.tmp 40), none, []⟩, 
       ⟨some 42, .fieldAddr 2 (.tmp 1), (some (41, true)), []⟩, 
       ⟨some 43, .loadS (.tmp 42), (some (41, true)), []⟩, 
       ⟨some 44, .len true (.tmp 43), (some (41, true)), []⟩, 
       ⟨some 45, .bin .leq (.tmp 44) (.const (.int .i64 64)), (some (41, true)), []⟩, 
       ⟨some 46, .pick (.tmp 41) (.tmp 45) (.const (.bool false)), none, []⟩, 
       ⟨some 3, .mov (.tmp 46), none, []⟩] [38, 39, 40, 41, 42, 43, 44, 45, 46])
      (.skip)))))))))))
 (.seq (.seq (.region [
  ⟨some 47, .mov (.tmp 3), none, []⟩, 
  ⟨some 48, .un .not (.tmp 47), none, []⟩] [47])
 (.cond (.tmp 48)
  (.seq (.region [
   ⟨some 2, .mov (.const (.int .i64 2)), none, []⟩] [])
  (.ret))
  (.skip)))
 (.seq (.region [
  ⟨some 2, .mov (.const (.int .i64 0)), none, []⟩] [])
 (.ret)))))
theorem ok11 : erase c11 = cCode Try.prog 49 ((Try.f11).body.getD .skip) := by kernel_rfl
theorem ord11 : ordsOk c11 = true := by kernel_rfl
theorem call11 {args : List SV} {h : Heap} {R : AEnd → Heap → Prop} (hn : Nat.ble args.length 49 = true) (hp : awp Try.prog c11 (finQ [.tmp 2] R) (argEnv 0 args) h) : ACall Try.prog 11 args h R :=
  acall_of_awp mixed Try.func11 rfl ord11 ok11 (by kernel_rfl) hn hp

/-- stagepost/value.Takes -/
def c17 : ACode :=
 .seq (.region [
  ⟨some 2, .mov (.const (.int .i64 0)), none, []⟩] [])
 (.seq (.seq (.region [
  ⟨some 3, .mov (.tmp 0), none, []⟩] [])
 (.block 0 (.seq (.seq (.region [
   ⟨some 5, .bin .eql (.tmp 3) (.const (.int .u8 3)), none, []⟩, 
   ⟨some 4, .mov (.tmp 5), none, []⟩] [5])
  (.cond (.tmp 4)
   (.skip)
   (.seq (.region [
    ⟨some 6, .bin .eql (.tmp 3) (.const (.int .u8 4)), none, []⟩, 
    ⟨some 4, .mov (.tmp 6), none, []⟩] [6])
   (.cond (.tmp 4)
    (.skip)
    (.seq (.region [
     ⟨some 7, .bin .eql (.tmp 3) (.const (.int .u8 5)), none, []⟩, 
     ⟨some 4, .mov (.tmp 7), none, []⟩] [7])
    (.cond (.tmp 4)
     (.skip)
     (.seq (.region [
      ⟨some 8, .bin .eql (.tmp 3) (.const (.int .u8 6)), none, []⟩, 
      ⟨some 4, .mov (.tmp 8), none, []⟩] [8])
     (.cond (.tmp 4)
      (.skip)
      (.seq (.region [
       ⟨some 9, .bin .eql (.tmp 3) (.const (.int .u8 7)), none, []⟩, 
       ⟨some 4, .mov (.tmp 9), none, []⟩] [9])
      (.cond (.tmp 4)
       (.skip)
       (.seq (.region [
        ⟨some 10, .bin .eql (.tmp 3) (.const (.int .u8 8)), none, []⟩, 
        ⟨some 4, .mov (.tmp 10), none, []⟩] [10])
       (.cond (.tmp 4)
        (.skip)
        (.seq (.region [
         ⟨some 11, .bin .eql (.tmp 3) (.const (.int .u8 9)), none, []⟩, 
         ⟨some 4, .mov (.tmp 11), none, []⟩] [11])
        (.cond (.tmp 4)
         (.skip)
         (.seq (.region [
          ⟨some 12, .bin .eql (.tmp 3) (.const (.int .u8 10)), none, []⟩, 
          ⟨some 4, .mov (.tmp 12), none, []⟩] [12])
         (.cond (.tmp 4)
          (.skip)
          (.seq (.region [
           ⟨some 13, .bin .eql (.tmp 3) (.const (.int .u8 11)), none, []⟩, 
           ⟨some 4, .mov (.tmp 13), none, []⟩] [13])
          (.cond (.tmp 4)
           (.skip)
           (.seq (.region [
            ⟨some 14, .bin .eql (.tmp 3) (.const (.int .u8 12)), none, []⟩, 
            ⟨some 4, .mov (.tmp 14), none, []⟩] [14])
           (.cond (.tmp 4)
            (.skip)
            (.seq (.region [
             ⟨some 15, .bin .eql (.tmp 3) (.const (.int .u8 13)), none, []⟩, 
             ⟨some 4, .mov (.tmp 15), none, []⟩] [15])
            (.cond (.tmp 4)
             (.skip)
             (.seq (.region [
              ⟨some 16, .bin .eql (.tmp 3) (.const (.int .u8 14)), none, []⟩, 
              ⟨some 4, .mov (.tmp 16), none, []⟩] [16])
             (.cond (.tmp 4)
              (.skip)
              (.seq (.region [
               ⟨some 17, .bin .eql (.tmp 3) (.const (.int .u8 15)), none, []⟩, 
               ⟨some 4, .mov (.tmp 17), none, []⟩] [17])
              (.cond (.tmp 4)
               (.skip)
               (.region [
                ⟨some 18, .bin .eql (.tmp 3) (.const (.int .u8 16)), none, []⟩, 
                ⟨some 4, .mov (.tmp 18), none, []⟩] [18])))))))))))))))))))))))))))
  (.cond (.tmp 4)
   (.seq (.region [
    ⟨some 2, .mov (.const (.int .i64 2)), none, []⟩] [])
   (.ret))
   (.seq (.seq (.region [
    ⟨some 20, .bin .eql (.tmp 3) (.const (.int .u8 17)), none, []⟩, 
    ⟨some 19, .mov (.tmp 20), none, []⟩] [20])
   (.cond (.tmp 19)
    (.skip)
    (.seq (.region [
     ⟨some 21, .bin .eql (.tmp 3) (.const (.int .u8 18)), none, []⟩, 
     ⟨some 19, .mov (.tmp 21), none, []⟩] [21])
    (.cond (.tmp 19)
     (.skip)
     (.seq (.region [
      ⟨some 22, .bin .eql (.tmp 3) (.const (.int .u8 19)), none, []⟩, 
      ⟨some 19, .mov (.tmp 22), none, []⟩] [22])
     (.cond (.tmp 19)
      (.skip)
      (.region [
       ⟨some 23, .bin .eql (.tmp 3) (.const (.int .u8 20)), none, []⟩, 
       ⟨some 19, .mov (.tmp 23), none, []⟩] [23])))))))
   (.cond (.tmp 19)
    (.seq (.region [
     ⟨some 2, .mov (.const (.int .i64 1)), none, []⟩] [])
    (.ret))
    (.skip)))))))
 (.seq (.region [
  ⟨some 2, .mov (.const (.int .i64 0)), none, []⟩] [])
 (.ret)))
theorem ok17 : erase c17 = cCode Try.prog 24 ((Try.f17).body.getD .skip) := by kernel_rfl
theorem ord17 : ordsOk c17 = true := by kernel_rfl
theorem call17 {args : List SV} {h : Heap} {R : AEnd → Heap → Prop} (hn : Nat.ble args.length 24 = true) (hp : awp Try.prog c17 (finQ [.tmp 2] R) (argEnv 0 args) h) : ACall Try.prog 17 args h R :=
  acall_of_awp mixed Try.func17 rfl ord17 ok17 (by kernel_rfl) hn hp

/-- stagepost/value.holds -/
def c22 : ACode :=
 .seq (.region [
  ⟨some 4, .mov (.const (.bool false)), none, []⟩] [])
 (.seq (.seq (.region [
  ⟨some 5, .mov (.tmp 0), none, []⟩] [])
 (.block 0 (.seq (.region [
   ⟨some 7, .bin .eql (.tmp 5) (.const (.int .u8 9)), none, []⟩, 
   ⟨some 6, .mov (.tmp 7), none, []⟩] [7])
  (.cond (.tmp 6)
   (.seq (.region [
    ⟨some 8, .mov (.tmp 1), none, []⟩, 
    ⟨some 9, .bin .eql (.tmp 8) (.const (.int .i64 0)), none, []⟩, 
    ⟨some 4, .mov (.tmp 9), none, []⟩] [8, 9])
   (.ret))
   (.seq (.region [
    ⟨some 11, .bin .eql (.tmp 5) (.const (.int .u8 10)), none, []⟩, 
    ⟨some 10, .mov (.tmp 11), none, []⟩] [11])
   (.cond (.tmp 10)
    (.seq (.region [
     ⟨some 12, .mov (.tmp 1), none, []⟩, 
     ⟨some 13, .bin .neq (.tmp 12) (.const (.int .i64 0)), none, []⟩, 
     ⟨some 4, .mov (.tmp 13), none, []⟩] [12, 13])
    (.ret))
    (.seq (.region [
     ⟨some 15, .bin .eql (.tmp 5) (.const (.int .u8 11)), none, []⟩, 
     ⟨some 14, .mov (.tmp 15), none, []⟩] [15])
    (.cond (.tmp 14)
     (.seq (.region [
      ⟨some 16, .mov (.tmp 1), none, []⟩, 
      ⟨some 17, .bin .lss (.tmp 16) (.const (.int .i64 0)), none, []⟩, 
      ⟨some 4, .mov (.tmp 17), none, []⟩] [16, 17])
     (.ret))
     (.seq (.region [
      ⟨some 19, .bin .eql (.tmp 5) (.const (.int .u8 12)), none, []⟩, 
      ⟨some 18, .mov (.tmp 19), none, []⟩] [19])
     (.cond (.tmp 18)
      (.seq (.region [
       ⟨some 20, .mov (.tmp 1), none, []⟩, 
       ⟨some 21, .bin .leq (.tmp 20) (.const (.int .i64 0)), none, []⟩, 
       ⟨some 4, .mov (.tmp 21), none, []⟩] [20, 21])
      (.ret))
      (.seq (.region [
       ⟨some 23, .bin .eql (.tmp 5) (.const (.int .u8 13)), none, []⟩, 
       ⟨some 22, .mov (.tmp 23), none, []⟩] [23])
      (.cond (.tmp 22)
       (.seq (.region [
        ⟨some 24, .mov (.tmp 1), none, []⟩, 
        ⟨some 25, .bin .gtr (.tmp 24) (.const (.int .i64 0)), none, []⟩, 
        ⟨some 4, .mov (.tmp 25), none, []⟩] [24, 25])
       (.ret))
       (.skip)))))))))))))
 (.seq (.region [
  ⟨some 26, .mov (.tmp 1), none, []⟩, 
  ⟨some 27, .bin .geq (.tmp 26) (.const (.int .i64 0)), none, []⟩, 
  ⟨some 4, .mov (.tmp 27), none, []⟩] [26, 27])
 (.ret)))
theorem ok22 : erase c22 = cCode Try.prog 28 ((Try.f22).body.getD .skip) := by kernel_rfl
theorem ord22 : ordsOk c22 = true := by kernel_rfl
theorem call22 {args : List SV} {h : Heap} {R : AEnd → Heap → Prop} (hn : Nat.ble args.length 28 = true) (hp : awp Try.prog c22 (finQ [.tmp 4] R) (argEnv 0 args) h) : ACall Try.prog 22 args h R :=
  acall_of_awp mixed Try.func22 rfl ord22 ok22 (by kernel_rfl) hn hp

/-- stagepost/value.number -/
def c21 : ACode :=
 .seq (.region [
  ⟨some 6, .box 3 (.const (.agg [(.int .u8 0), (.int .i64 0), (.str [])])), none, []⟩, 
  ⟨some 7, .mov (.const (.int .i64 0)), none, []⟩] [])
 (.seq (.region [
  ⟨some 8, .mov (.const (.int .i64 0)), none, []⟩, 
  ⟨some 9, .mov (.const (.bool true)), none, []⟩] [])
 (.seq (.seq (.region [
  ⟨some 10, .mov (.tmp 0), none, []⟩] [])
 (.block 0 (.seq (.region [
   ⟨some 32, .bin .eql (.tmp 10) (.const (.int .u8 3)), none, []⟩, 
   ⟨some 31, .mov (.tmp 32), none, []⟩] [32])
  (.cond (.tmp 31)
   (.seq (.region [
    ⟨some 33, .mov (.tmp 1), none, []⟩, 
    ⟨some 34, .mov (.tmp 2), none, []⟩, 
    ⟨some 35, .bin .add (.tmp 33) (.tmp 34), none, []⟩, 
    ⟨some 8, .mov (.tmp 35), none, []⟩] [33, 34, 35])
   (.region [
    ⟨some 36, .mov (.tmp 8), none, []⟩, 
    ⟨some 37, .mov (.tmp 1), none, []⟩, 
    ⟨some 38, .bin .gtr (.tmp 36) (.tmp 37), none, []⟩, 
    ⟨some 39, .mov (.tmp 2), none, []⟩, 
    ⟨some 40, .bin .gtr (.tmp 39) (.const (.int .i64 0)), none, []⟩, 
    ⟨some 41, .eqB false (.tmp 38) (.tmp 40), none, []⟩, 
    ⟨some 9, .mov (.tmp 41), none, []⟩] [36, 37, 38, 39, 40, 41]))
   (.seq (.seq (.region [
    ⟨some 43, .bin .eql (.tmp 10) (.const (.int .u8 4)), none, []⟩, 
    ⟨some 42, .mov (.tmp 43), none, []⟩] [43])
   (.cond (.tmp 42)
    (.skip)
    (.region [
     ⟨some 44, .bin .eql (.tmp 10) (.const (.int .u8 18)), none, []⟩, 
     ⟨some 42, .mov (.tmp 44), none, []⟩] [44])))
   (.cond (.tmp 42)
    (.seq (.region [
     ⟨some 45, .mov (.tmp 1), none, []⟩, 
     ⟨some 46, .mov (.tmp 2), none, []⟩, 
     ⟨some 47, .bin .sub (.tmp 45) (.tmp 46), none, []⟩, 
     ⟨some 8, .mov (.tmp 47), none, []⟩] [45, 46, 47])
    (.region [
     ⟨some 48, .mov (.tmp 8), none, []⟩, 
     ⟨some 49, .mov (.tmp 1), none, []⟩, 
     ⟨some 50, .bin .lss (.tmp 48) (.tmp 49), none, []⟩, 
     ⟨some 51, .mov (.tmp 2), none, []⟩, 
     ⟨some 52, .bin .gtr (.tmp 51) (.const (.int .i64 0)), none, []⟩, 
     ⟨some 53, .eqB false (.tmp 50) (.tmp 52), none, []⟩, 
     ⟨some 9, .mov (.tmp 53), none, []⟩] [48, 49, 50, 51, 52, 53]))
    (.seq (.region [
     ⟨some 55, .bin .eql (.tmp 10) (.const (.int .u8 5)), none, []⟩, 
     ⟨some 54, .mov (.tmp 55), none, []⟩] [55])
    (.cond (.tmp 54)
     (.seq (.region [
      ⟨some 56, .mov (.tmp 1), none, []⟩, 
      ⟨some 57, .mov (.tmp 2), none, []⟩, 
      ⟨some 58, .bin .mul (.tmp 56) (.tmp 57), none, []⟩, 
      ⟨some 8, .mov (.tmp 58), none, []⟩] [56, 57, 58])
     (.region [
      ⟨some 59, .mov (.tmp 1), none, []⟩, 
      ⟨some 60, .bin .eql (.tmp 59) (.const (.int .i64 0)), none, []⟩, 
      ⟨some 61, .mov (.tmp 60), none, []⟩, 
      ⟨some 62, .mov (.tmp 8), (some (61, false)), []⟩, 
      ⟨some 63, .mov (.tmp 1), (some (61, false)), []⟩, 
      ⟨some 64, .bin .quo (.tmp 62) (.tmp 63), (some (61, false)), []⟩, 
      ⟨some 65, .mov (.tmp 2), (some (61, false)), []⟩, 
      ⟨some 66, .bin .eql (.tmp 64) (.tmp 65), (some (61, false)), []⟩, 
      ⟨some 67, .mov (.tmp 66), (some (61, false)), []⟩, 
      ⟨some 68, .mov (.tmp 1), (some (67, true)), []⟩, 
      ⟨some 69, .bin .eql (.tmp 68) (.const (.int .i64 (-1))), (some (67, true)), []⟩, 
      ⟨some 70, .mov (.tmp 69), (some (67, true)), []⟩, 
      ⟨some 71, .mov (.tmp 2), (some (70, true)), []⟩, 
      ⟨some 72, .bin .eql (.tmp 71) (.const (.int .i64 (-9223372036854775808))), (some (70, true)), []⟩, 
      ⟨some 73, .pick (.tmp 70) (.tmp 72) (.const (.bool false)), (some (67, true)), []⟩, 
      ⟨some 74, .un .not (.tmp 73), (some (67, true)), []⟩, 
      ⟨some 75, .pick (.tmp 67) (.tmp 74) (.const (.bool false)), (some (61, false)), []⟩, 
      ⟨some 76, .pick (.tmp 61) (.const (.bool true)) (.tmp 75), none, []⟩, 
      ⟨some 9, .mov (.tmp 76), none, []⟩] [59, 60, 61, 62, 63, 64, 65, 66, 67, 68, 69, 70, 71, 72, 73, 74, 75, 76]))
     (.seq (.seq (.region [
      ⟨some 11, .mov (.tmp 2), none, []⟩, 
      ⟨some 12, .bin .eql (.tmp 11) (.const (.int .i64 0)), none, []⟩] [11])
     (.cond (.tmp 12)
      (.seq (.region [
       ⟨some 13, .build [(.int .u8 0), (.int .i64 0), (.str [])] [], none, []⟩, 
       ⟨none, .store 3 (.tmp 6) (.tmp 13), none, []⟩, 
       ⟨some 7, .mov (.const (.int .i64 222)), none, []⟩] [13])
      (.ret))
      (.skip)))
     (.seq (.seq (.region [
      ⟨some 14, .mov (.tmp 2), none, []⟩, 
      ⟨some 15, .bin .eql (.tmp 14) (.const (.int .i64 (-1))), none, []⟩] [14])
     (.cond (.tmp 15)
      (.seq (.seq (.region [
       ⟨some 16, .mov (.tmp 0), none, []⟩, 
       ⟨some 17, .bin .eql (.tmp 16) (.const (.int .u8 7)), none, []⟩] [16])
      (.cond (.tmp 17)
       (.seq (.region [
        ⟨some 18, .build [(.int .u8 0), (.int .i64 0), (.str [])] [(0, 1, (.const (.int .u8 2)))], none, []⟩, 
        ⟨none, .store 3 (.tmp 6) (.tmp 18), none, []⟩, 
        ⟨some 7, .mov (.const (.int .i64 0)), none, []⟩] [18])
       (.ret))
       (.skip)))
      (.seq (.region [
       ⟨some 19, .mov (.tmp 1), none, []⟩, 
       ⟨some 20, .call 21 [(.const (.int .u8 4)), (.const (.int .i64 0)), (.tmp 19)], none, []⟩, 
       ⟨some 21, .extract (.tmp 20) 0, none, []⟩, 
       ⟨some 22, .extract (.tmp 20) 1, none, []⟩, 
       ⟨none, .store 3 (.tmp 6) (.tmp 21), none, []⟩, 
       ⟨some 7, .mov (.tmp 22), none, []⟩] [19, 20, 21, 22])
      (.ret)))
      (.skip)))
     (.seq (.region [
      ⟨some 23, .mov (.tmp 1), none, []⟩, 
      ⟨some 24, .mov (.tmp 2), none, []⟩, 
      ⟨some 25, .bin .quo (.tmp 23) (.tmp 24), none, []⟩, 
      ⟨some 8, .mov (.tmp 25), none, []⟩] [23, 24, 25])
     (.seq (.region [
      ⟨some 26, .mov (.tmp 0), none, []⟩, 
      ⟨some 27, .bin .eql (.tmp 26) (.const (.int .u8 7)), none, []⟩] [26])
     (.cond (.tmp 27)
      (.region [
       ⟨some 28, .mov (.tmp 1), none, []⟩, 
       ⟨some 29, .mov (.tmp 2), none, []⟩, 
       ⟨some 30, .bin .rem (.tmp 28) (.tmp 29), none, []⟩, 
       ⟨some 8, .mov (.tmp 30), none, []⟩] [28, 29, 30])
      (.skip))))))))))))))
 (.seq (.seq (.region [
  ⟨some 77, .mov (.tmp 9), none, []⟩, 
  ⟨some 78, .un .not (.tmp 77), none, []⟩] [77])
 (.cond (.tmp 78)
  (.seq (.region [
   ⟨some 79, .build [(.int .u8 0), (.int .i64 0), (.str [])] [], none, []⟩, 
   ⟨none, .store 3 (.tmp 6) (.tmp 79), none, []⟩, 
   ⟨some 7, .mov (.const (.int .i64 221)), none, []⟩] [79])
  (.ret))
  (.skip)))
 (.seq (.region [
  ⟨some 80, .mov (.tmp 8), none, []⟩, 
  ⟨some 81, .build [(.int .u8 0), (.int .i64 0), (.str [])] [(0, 1, (.const (.int .u8 2))), (1, 1, (.tmp 80))], none, []⟩, 
  ⟨none, .store 3 (.tmp 6) (.tmp 81), none, []⟩, 
  ⟨some 7, .mov (.const (.int .i64 0)), none, []⟩] [80, 81])
 (.ret)))))
theorem ok21 : erase c21 = cCode Try.prog 82 ((Try.f21).body.getD .skip) := by kernel_rfl
theorem ord21 : ordsOk c21 = true := by kernel_rfl
theorem call21 {args : List SV} {h : Heap} {R : AEnd → Heap → Prop} (hn : Nat.ble args.length 82 = true) (hp : awp Try.prog c21 (finQ [.cellA 6 3, .tmp 7] R) (argEnv 0 args) h) : ACall Try.prog 21 args h R :=
  acall_of_awp mixed Try.func21 rfl ord21 ok21 (by kernel_rfl) hn hp

def c16r1 : List AOper := [
 ⟨some 11, .mov (.tmp 0), none, []⟩, 
 ⟨some 12, .call 17 [(.tmp 11)], none, [0]⟩, 
 ⟨some 13, .bin .eql (.tmp 12) (.const (.int .i64 0)), none, [1]⟩, 
 ⟨some 14, .mov (.tmp 13), none, [2, 1]⟩, 
 ⟨some 15, .loadS (.tmp 3), (some (14, false)), [3]⟩, 
 ⟨some 16, .len false (.tmp 15), (some (14, false)), [4, 3]⟩, 
 ⟨some 17, .mov (.tmp 0), (some (14, false)), [3]⟩, 
 ⟨some 18, .call 17 [(.tmp 17)], (some (14, false)), [6, 3, 3]⟩, 
 ⟨some 19, .bin .neq (.tmp 16) (.tmp 18), (some (14, false)), [5, 7, 3]⟩, 
 ⟨some 20, .pick (.tmp 14) (.const (.bool true)) (.tmp 19), none, [3, 8]⟩]
def c16r12 : List AOper := [
 ⟨some 32, .mov (.tmp 8), none, []⟩, 
 ⟨some 33, .loadS (.tmp 3), none, []⟩, 
 ⟨some 34, .indexAddr 1 (.tmp 33) (.const (.int .i64 0)), none, [1]⟩, 
 ⟨some 35, .loadS (.tmp 34), none, [2]⟩, 
 ⟨some 36, .loadS (.tmp 3), none, []⟩, 
 ⟨some 37, .indexAddr 1 (.tmp 36) (.const (.int .i64 1)), none, [4]⟩, 
 ⟨some 38, .loadS (.tmp 37), none, [5]⟩, 
 ⟨some 39, .mm true (.tmp 35) (.tmp 38), none, [3, 6]⟩, 
 ⟨some 40, .callv (.tmp 32) [(.tmp 39)], none, [0, 7]⟩, 
 ⟨some 9, .mov (.tmp 40), none, [8, 8, 0, 1, 2, 3, 4, 5, 6, 7, 8]⟩]
/-- stagepost/value.Gives -/
def c16 : ACode :=
 .seq (.region [
  ⟨some 3, .box 1 (.tmp 1), none, []⟩, 
  ⟨some 4, .mov (.const (.int .u8 0)), none, []⟩, 
  ⟨some 5, .mov (.const (.int .i64 0)), none, []⟩] [])
 (.seq (.seq (.dregion c16r1 [(0, false, []), (1, true, []), (2, false, []), (3, false, []), (4, false, []), (5, false, []), (6, false, []), (7, true, [4, 5]), (8, false, []), (9, false, [])] [11, 12, 13, 14, 15, 16, 17, 18, 19])
 (.cond (.tmp 20)
  (.seq (.region [
   ⟨some 4, .mov (.const (.int .u8 0)), none, []⟩, 
   ⟨some 5, .mov (.const (.int .i64 2)), none, []⟩] [])
  (.ret))
  (.skip)))
 (.seq (.seq (.region [
  ⟨some 21, .loadS (.tmp 3), none, []⟩, 
  ⟨some 22, .len false (.tmp 21), none, []⟩, 
  ⟨some 23, .mov (.const (.int .i64 0)), none, []⟩] [])
 (.block 0 (.loop (.seq (.region [
    ⟨some 24, .bin .lss (.tmp 23) (.tmp 22), none, []⟩] [])
   (.seq (.cond (.tmp 24)
    (.skip)
    (.exit 0))
   (.seq (.block 1 (.seq (.region [
     ⟨some 25, .indexAddr 1 (.tmp 21) (.tmp 23), none, []⟩, 
     ⟨some 26, .loadS (.tmp 25), none, []⟩, 
     ⟨some 7, .mov (.tmp 26), none, []⟩] [25, 26])
    (.seq (.region [
     ⟨some 27, .mov (.tmp 7), none, []⟩, 
     ⟨some 28, .bin .gtr (.tmp 27) (.const (.int .u8 3)), none, []⟩] [27])
    (.cond (.tmp 28)
     (.seq (.region [
      ⟨some 4, .mov (.const (.int .u8 0)), none, []⟩, 
      ⟨some 5, .mov (.const (.int .i64 2)), none, []⟩] [])
     (.ret))
     (.skip)))))
   (.region [
    ⟨some 29, .bin .add (.tmp 23) (.const (.int .i64 1)), none, []⟩, 
    ⟨some 23, .mov (.tmp 29), none, []⟩] [29])))))))
 (.seq (.region [
  ⟨some 30, .mkFunc (.func 28) [] [(.tmp 3)], none, []⟩, 
  ⟨some 8, .mov (.tmp 30), none, []⟩] [30])
 (.seq (.region [
  ⟨some 9, .mov (.const (.bool true)), none, []⟩, 
  ⟨some 10, .mov (.const (.int .u8 1)), none, []⟩] [])
 (.seq (.seq (.region [
  ⟨some 31, .mov (.tmp 0), none, []⟩] [])
 (.block 2 (.seq (.seq (.region [
   ⟨some 42, .bin .eql (.tmp 31) (.const (.int .u8 3)), none, []⟩, 
   ⟨some 41, .mov (.tmp 42), none, []⟩] [42])
  (.cond (.tmp 41)
   (.skip)
   (.seq (.region [
    ⟨some 43, .bin .eql (.tmp 31) (.const (.int .u8 4)), none, []⟩, 
    ⟨some 41, .mov (.tmp 43), none, []⟩] [43])
   (.cond (.tmp 41)
    (.skip)
    (.seq (.region [
     ⟨some 44, .bin .eql (.tmp 31) (.const (.int .u8 5)), none, []⟩, 
     ⟨some 41, .mov (.tmp 44), none, []⟩] [44])
    (.cond (.tmp 41)
     (.skip)
     (.seq (.region [
      ⟨some 45, .bin .eql (.tmp 31) (.const (.int .u8 6)), none, []⟩, 
      ⟨some 41, .mov (.tmp 45), none, []⟩] [45])
     (.cond (.tmp 41)
      (.skip)
      (.seq (.region [
       ⟨some 46, .bin .eql (.tmp 31) (.const (.int .u8 7)), none, []⟩, 
       ⟨some 41, .mov (.tmp 46), none, []⟩] [46])
      (.cond (.tmp 41)
       (.skip)
       (.region [
        ⟨some 47, .bin .eql (.tmp 31) (.const (.int .u8 18)), none, []⟩, 
        ⟨some 41, .mov (.tmp 47), none, []⟩] [47])))))))))))
  (.cond (.tmp 41)
   (.region [
    ⟨some 48, .mov (.tmp 8), none, []⟩, 
    ⟨some 49, .callv (.tmp 48) [(.const (.int .u8 2))], none, []⟩, 
    ⟨some 9, .mov (.tmp 49), none, []⟩, 
    ⟨some 10, .mov (.const (.int .u8 2)), none, []⟩] [48, 49])
   (.seq (.region [
    ⟨some 51, .bin .eql (.tmp 31) (.const (.int .u8 8)), none, []⟩, 
    ⟨some 50, .mov (.tmp 51), none, []⟩] [51])
   (.cond (.tmp 50)
    (.region [
     ⟨some 52, .mov (.tmp 8), none, []⟩, 
     ⟨some 53, .callv (.tmp 52) [(.const (.int .u8 3))], none, []⟩, 
     ⟨some 9, .mov (.tmp 53), none, []⟩, 
     ⟨some 10, .mov (.const (.int .u8 3)), none, []⟩] [52, 53])
    (.seq (.seq (.region [
     ⟨some 55, .bin .eql (.tmp 31) (.const (.int .u8 15)), none, []⟩, 
     ⟨some 54, .mov (.tmp 55), none, []⟩] [55])
    (.cond (.tmp 54)
     (.skip)
     (.seq (.region [
      ⟨some 56, .bin .eql (.tmp 31) (.const (.int .u8 16)), none, []⟩, 
      ⟨some 54, .mov (.tmp 56), none, []⟩] [56])
     (.cond (.tmp 54)
      (.skip)
      (.region [
       ⟨some 57, .bin .eql (.tmp 31) (.const (.int .u8 17)), none, []⟩, 
       ⟨some 54, .mov (.tmp 57), none, []⟩] [57])))))
    (.cond (.tmp 54)
     (.region [
      ⟨some 58, .mov (.tmp 8), none, []⟩, 
      ⟨some 59, .callv (.tmp 58) [(.const (.int .u8 1))], none, []⟩, 
      ⟨some 9, .mov (.tmp 59), none, []⟩] [58, 59])
     (.seq (.seq (.region [
      ⟨some 61, .bin .eql (.tmp 31) (.const (.int .u8 19)), none, []⟩, 
      ⟨some 60, .mov (.tmp 61), none, []⟩] [61])
     (.cond (.tmp 60)
      (.skip)
      (.region [
       ⟨some 62, .bin .eql (.tmp 31) (.const (.int .u8 20)), none, []⟩, 
       ⟨some 60, .mov (.tmp 62), none, []⟩] [62])))
     (.cond (.tmp 60)
      (.skip)
      (.dregion c16r12 [(0, false, []), (1, false, []), (2, false, []), (3, false, []), (4, false, []), (5, false, []), (6, false, []), (7, false, []), (8, true, []), (9, false, [])] [32, 33, 34, 35, 36, 37, 38, 39, 40])))))))))))
 (.seq (.seq (.region [
  ⟨some 63, .mov (.tmp 9), none, []⟩, 
  ⟨some 64, .un .not (.tmp 63), none, []⟩] [63])
 (.cond (.tmp 64)
  (.seq (.region [
   ⟨some 4, .mov (.const (.int .u8 0)), none, []⟩, 
   ⟨some 5, .mov (.const (.int .i64 220)), none, []⟩] [])
  (.ret))
  (.skip)))
 (.seq (.region [
  ⟨some 65, .mov (.tmp 10), none, []⟩, 
  ⟨some 4, .mov (.tmp 65), none, []⟩, 
  ⟨some 5, .mov (.const (.int .i64 0)), none, []⟩] [65])
 (.ret))))))))
theorem ok16 : erase c16 = cCode Try.prog 66 ((Try.f16).body.getD .skip) := by kernel_rfl
theorem ord16 : ordsOk c16 = true := by kernel_rfl
theorem call16 {args : List SV} {h : Heap} {R : AEnd → Heap → Prop} (hn : Nat.ble args.length 66 = true) (hp : awp Try.prog c16 (finQ [.tmp 4, .tmp 5] R) (argEnv 0 args) h) : ACall Try.prog 16 args h R :=
  acall_of_awp mixed Try.func16 rfl ord16 ok16 (by kernel_rfl) hn hp

def c9r12 : List AOper := [
 ⟨some 42, .mov (.tmp 7), none, []⟩, 
 ⟨some 43, .mov (.tmp 9), none, []⟩, 
 ⟨some 44, .fieldAddr 0 (.tmp 10), none, []⟩, 
 ⟨some 45, .loadS (.tmp 44), none, [2]⟩, 
 ⟨some 46, .mov (.tmp 8), none, []⟩, 
 ⟨some 47, .mov (.tmp 46), none, [4]⟩, 
 ⟨some 48, .fieldAddr 0 (.tmp 10), (some (47, false)), [5]⟩, 
 ⟨some 49, .loadS (.tmp 48), (some (47, false)), [6, 5]⟩, 
 ⟨some 50, .bin .eql (.tmp 49) (.const (.int .u8 0)), (some (47, false)), [7, 5]⟩, 
 ⟨some 51, .pick (.tmp 47) (.const (.bool true)) (.tmp 50), none, [5, 8]⟩, 
 ⟨some 52, .indexAddr 1 (.tmp 42) (.tmp 43), none, [0, 1, 0, 1, 2, 3]⟩, 
 ⟨none, .store 1 (.tmp 52) (.tmp 45), none, [10, 3, 5, 0, 1, 2, 3]⟩, 
 ⟨some 8, .mov (.tmp 51), none, [9, 11, 0, 1, 2, 3, 4, 5, 6, 7, 8, 9, 10, 11]⟩]
def c9r40 : List AOper := [
 ⟨some 129, .mov (.tmp 1), none, []⟩, 
 ⟨some 130, .indexAddr 3 (.tmp 129) (.const (.int .i64 0)), none, [0]⟩, 
 ⟨some 131, .fieldAddr 2 (.tmp 130), none, [1]⟩, 
 ⟨some 132, .loadS (.tmp 131), none, [2]⟩, 
 ⟨some 133, .mov (.tmp 1), none, []⟩, 
 ⟨some 134, .indexAddr 3 (.tmp 133) (.const (.int .i64 1)), none, [4]⟩, 
 ⟨some 135, .fieldAddr 2 (.tmp 134), none, [5]⟩, 
 ⟨some 136, .loadS (.tmp 135), none, [6]⟩, 
 ⟨some 137, .bin .add (.tmp 132) (.tmp 136), none, [3, 7]⟩, 
 ⟨some 14, .mov (.tmp 137), none, [8, 0, 1, 2, 3, 4, 5, 6, 7, 8]⟩]
def c9r49 : List AOper := [
 ⟨some 150, .mov (.tmp 0), none, []⟩, 
 ⟨some 151, .mov (.tmp 1), none, []⟩, 
 ⟨some 152, .indexAddr 3 (.tmp 151) (.const (.int .i64 0)), none, [1]⟩, 
 ⟨some 153, .fieldAddr 1 (.tmp 152), none, [2]⟩, 
 ⟨some 154, .loadS (.tmp 153), none, [3]⟩, 
 ⟨some 155, .mov (.tmp 1), none, []⟩, 
 ⟨some 156, .indexAddr 3 (.tmp 155) (.const (.int .i64 1)), none, [5]⟩, 
 ⟨some 157, .fieldAddr 1 (.tmp 156), none, [6]⟩, 
 ⟨some 158, .loadS (.tmp 157), none, [7]⟩, 
 ⟨some 159, .call 21 [(.tmp 150), (.tmp 154), (.tmp 158)], none, [0, 4, 8]⟩, 
 ⟨some 160, .extract (.tmp 159) 0, none, [9]⟩, 
 ⟨some 161, .extract (.tmp 159) 1, none, [9]⟩, 
 ⟨none, .store 3 (.tmp 4) (.tmp 160), none, [10, 9, 0, 1, 2, 3, 4, 5, 6, 7, 8, 9, 10, 11]⟩, 
 ⟨some 5, .mov (.tmp 161), none, [11, 12, 0, 1, 2, 3, 4, 5, 6, 7, 8, 9, 10, 11, 12]⟩]
def c9r50 : List AOper := [
 ⟨some 162, .mov (.tmp 0), none, []⟩, 
 ⟨some 163, .mov (.tmp 1), none, []⟩, 
 ⟨some 164, .slice 3 (.tmp 163) none (some (.const (.int .i64 1))), none, [1]⟩, 
 ⟨some 165, .mov (.tmp 1), none, []⟩, 
 ⟨some 166, .slice 3 (.tmp 165) (some (.const (.int .i64 1))) none, none, [3]⟩, 
 ⟨some 167, .call 13 [(.tmp 164), (.tmp 166)], none, [2, 4]⟩, 
 ⟨some 168, .call 22 [(.tmp 162), (.tmp 167)], none, [0, 5, 5]⟩, 
 ⟨some 169, .call 18 [(.tmp 168)], none, [6, 6]⟩, 
 ⟨none, .store 3 (.tmp 4) (.tmp 169), none, [7, 7, 0, 1, 2, 3, 4, 5, 6, 7]⟩, 
 ⟨some 5, .mov (.const (.int .i64 0)), none, [8, 0, 1, 2, 3, 4, 5, 6, 7, 8]⟩]
/-- stagepost/value.Do -/
def c9 : ACode :=
 .seq (.region [
  ⟨some 4, .box 3 (.const (.agg [(.int .u8 0), (.int .i64 0), (.str [])])), none, []⟩, 
  ⟨some 5, .mov (.const (.int .i64 0)), none, []⟩] [])
 (.seq (.region [
  ⟨some 15, .build [(.int .u8 0), (.int .i64 0), (.str [])] [], none, []⟩, 
  ⟨some 6, .box 3 (.const (.agg [(.int .u8 0), (.int .i64 0), (.str [])])), none, []⟩, 
  ⟨none, .store 3 (.tmp 6) (.tmp 15), none, []⟩] [15])
 (.seq (.seq (.region [
  ⟨some 16, .mov (.tmp 0), none, []⟩, 
  ⟨some 17, .call 17 [(.tmp 16)], none, []⟩, 
  ⟨some 18, .bin .eql (.tmp 17) (.const (.int .i64 0)), none, []⟩, 
  ⟨some 19, .mov (.tmp 18), none, []⟩, 
  ⟨some 20, .mov (.tmp 1), (some (19, false)), []⟩, 
  ⟨some 21, .len false (.tmp 20), (some (19, false)), []⟩, 
  ⟨some 22, .mov (.tmp 0), (some (19, false)), []⟩, 
  ⟨some 23, .call 17 [(.tmp 22)], (some (19, false)), []⟩, 
  ⟨some 24, .bin .neq (.tmp 21) (.tmp 23), (some (19, false)), []⟩, 
  ⟨some 25, .pick (.tmp 19) (.const (.bool true)) (.tmp 24), none, []⟩] [16, 17, 18, 19, 20, 21, 22, 23, 24])
 (.cond (.tmp 25)
  (.seq (.region [
   ⟨some 26, .loadA 3 (.tmp 6), none, []⟩, 
   ⟨none, .store 3 (.tmp 4) (.tmp 26), none, []⟩, 
   ⟨some 5, .mov (.const (.int .i64 2)), none, []⟩] [26])
  (.ret))
  (.skip)))
 (.seq (.region [
  ⟨some 27, .mov (.tmp 1), none, []⟩, 
  ⟨some 28, .len false (.tmp 27), none, []⟩, 
  ⟨some 29, .makeSlice 1 1 (.int .u8 0) (.tmp 28) (.tmp 28), none, []⟩, 
  ⟨some 7, .mov (.tmp 29), none, []⟩] [27, 28, 29])
 (.seq (.region [
  ⟨some 8, .mov (.const (.bool false)), none, []⟩] [])
 (.seq (.seq (.region [
  ⟨some 30, .mov (.tmp 1), none, []⟩, 
  ⟨some 31, .len false (.tmp 30), none, []⟩, 
  ⟨some 32, .mov (.const (.int .i64 0)), none, []⟩] [])
 (.block 0 (.loop (.seq (.region [
    ⟨some 33, .bin .lss (.tmp 32) (.tmp 31), none, []⟩] [])
   (.seq (.cond (.tmp 33)
    (.skip)
    (.exit 0))
   (.seq (.block 1 (.seq (.region [
     ⟨some 34, .mov (.tmp 32), none, []⟩, 
     ⟨some 35, .indexAddr 3 (.tmp 30) (.tmp 32), none, []⟩, 
     ⟨some 36, .loadA 3 (.tmp 35), none, []⟩, 
     ⟨some 10, .box 3 (.const (.agg [(.int .u8 0), (.int .i64 0), (.str [])])), none, []⟩, 
     ⟨some 9, .mov (.tmp 34), none, []⟩, 
     ⟨none, .store 3 (.tmp 10) (.tmp 36), none, []⟩] [34, 35, 36])
    (.seq (.seq (.region [
     ⟨some 37, .loadA 3 (.tmp 10), none, []⟩, 
     ⟨some 38, .call 11 [(.tmp 37)], none, []⟩, 
     ⟨some 11, .mov (.tmp 38), none, []⟩] [37, 38])
    (.seq (.region [
     ⟨some 39, .mov (.tmp 11), none, []⟩, 
     ⟨some 40, .bin .neq (.tmp 39) (.const (.int .i64 0)), none, []⟩] [39])
    (.cond (.tmp 40)
     (.seq (.region [
      ⟨some 41, .loadA 3 (.tmp 6), none, []⟩, 
      ⟨none, .store 3 (.tmp 4) (.tmp 41), none, []⟩, 
      ⟨some 5, .mov (.const (.int .i64 2)), none, []⟩] [41])
     (.ret))
     (.skip))))
    (.dregion c9r12 [(0, false, []), (1, false, []), (2, false, []), (3, false, []), (4, false, []), (5, false, []), (6, false, []), (7, false, []), (8, false, []), (9, false, []), (10, false, []), (11, true, [6, 7]), (12, true, [])] [42, 43, 44, 45, 46, 47, 48, 49, 50, 51, 52]))))
   (.region [
    ⟨some 53, .bin .add (.tmp 32) (.const (.int .i64 1)), none, []⟩, 
    ⟨some 32, .mov (.tmp 53), none, []⟩] [53])))))))
 (.seq (.seq (.region [
  ⟨some 55, .mov (.tmp 0), none, []⟩, 
  ⟨some 56, .mov (.tmp 7), none, []⟩, 
  ⟨some 57, .call 16 [(.tmp 55), (.tmp 56)], none, []⟩, 
  ⟨some 54, .mov (.tmp 57), none, []⟩, 
  ⟨some 58, .extract (.tmp 54) 0, none, []⟩, 
  ⟨some 59, .extract (.tmp 54) 1, none, []⟩, 
  ⟨some 12, .mov (.tmp 58), none, []⟩, 
  ⟨some 13, .mov (.tmp 59), none, []⟩] [55, 56, 57, 54, 58, 59, 12])
 (.seq (.region [
  ⟨some 60, .mov (.tmp 13), none, []⟩, 
  ⟨some 61, .bin .neq (.tmp 60) (.const (.int .i64 0)), none, []⟩] [60])
 (.cond (.tmp 61)
  (.seq (.region [
   ⟨some 62, .loadA 3 (.tmp 6), none, []⟩, 
   ⟨some 63, .mov (.tmp 13), none, []⟩, 
   ⟨none, .store 3 (.tmp 4) (.tmp 62), none, []⟩, 
   ⟨some 5, .mov (.tmp 63), none, []⟩] [62, 63])
  (.ret))
  (.skip))))
 (.seq (.seq (.region [
  ⟨some 64, .mov (.tmp 0), none, []⟩] [])
 (.block 2 (.seq (.region [
   ⟨some 66, .bin .eql (.tmp 64) (.const (.int .u8 19)), none, []⟩, 
   ⟨some 65, .mov (.tmp 66), none, []⟩] [66])
  (.cond (.tmp 65)
   (.seq (.region [
    ⟨some 67, .mov (.tmp 8), none, []⟩, 
    ⟨some 68, .call 18 [(.tmp 67)], none, []⟩, 
    ⟨none, .store 3 (.tmp 4) (.tmp 68), none, []⟩, 
    ⟨some 5, .mov (.const (.int .i64 0)), none, []⟩] [67, 68])
   (.ret))
   (.seq (.region [
    ⟨some 70, .bin .eql (.tmp 64) (.const (.int .u8 20)), none, []⟩, 
    ⟨some 69, .mov (.tmp 70), none, []⟩] [70])
   (.cond (.tmp 69)
    (.seq (.region [
     ⟨some 71, .mov (.tmp 8), none, []⟩, 
     ⟨some 72, .un .not (.tmp 71), none, []⟩, 
     ⟨some 73, .call 18 [(.tmp 72)], none, []⟩, 
     ⟨none, .store 3 (.tmp 4) (.tmp 73), none, []⟩, 
     ⟨some 5, .mov (.const (.int .i64 0)), none, []⟩] [71, 72, 73])
    (.ret))
    (.seq (.region [
     ⟨some 75, .bin .eql (.tmp 64) (.const (.int .u8 15)), none, []⟩, 
     ⟨some 74, .mov (.tmp 75), none, []⟩] [75])
    (.cond (.tmp 74)
     (.seq (.region [
      ⟨some 76, .mov (.tmp 1), none, []⟩, 
      ⟨some 77, .indexAddr 3 (.tmp 76) (.const (.int .i64 0)), none, []⟩, 
      ⟨some 78, .loadA 3 (.tmp 77), none, []⟩, 
      ⟨some 79, .call 19 [(.tmp 78)], none, []⟩, 
      ⟨some 80, .mov (.tmp 79), none, []⟩, 
      ⟨some 81, .mov (.tmp 1), (some (80, false)), []⟩, 
      ⟨some 82, .indexAddr 3 (.tmp 81) (.const (.int .i64 1)), (some (80, false)), []⟩, 
      ⟨some 83, .loadA 3 (.tmp 82), (some (80, false)), []⟩, 
      ⟨some 84, .call 19 [(.tmp 83)], (some (80, false)), []⟩, 
      ⟨some 85, .pick (.tmp 80) (.const (.bool true)) (.tmp 84), none, []⟩] [76, 77, 78, 79, 80, 81, 82, 83, 84])
     (.cond (.tmp 85)
      (.seq (.region [
       ⟨some 86, .call 18 [(.const (.bool false))], none, []⟩, 
       ⟨none, .store 3 (.tmp 4) (.tmp 86), none, []⟩, 
       ⟨some 5, .mov (.const (.int .i64 0)), none, []⟩] [86])
      (.ret))
      (.skip)))
     (.seq (.region [
      ⟨some 88, .bin .eql (.tmp 64) (.const (.int .u8 16)), none, []⟩, 
      ⟨some 87, .mov (.tmp 88), none, []⟩] [88])
     (.cond (.tmp 87)
      (.seq (.region [
       ⟨some 89, .mov (.tmp 1), none, []⟩, 
       ⟨some 90, .indexAddr 3 (.tmp 89) (.const (.int .i64 0)), none, []⟩, 
       ⟨some 91, .loadA 3 (.tmp 90), none, []⟩, 
       ⟨some 92, .call 20 [(.tmp 91)], none, []⟩, 
       ⟨some 93, .mov (.tmp 92), none, []⟩, 
       ⟨some 94, .mov (.tmp 1), (some (93, false)), []⟩, 
       ⟨some 95, .indexAddr 3 (.tmp 94) (.const (.int .i64 1)), (some (93, false)), []⟩, 
       ⟨some 96, .loadA 3 (.tmp 95), (some (93, false)), []⟩, 
       ⟨some 97, .call 20 [(.tmp 96)], (some (93, false)), []⟩, 
       ⟨some 98, .pick (.tmp 93) (.const (.bool true)) (.tmp 97), none, []⟩] [89, 90, 91, 92, 93, 94, 95, 96, 97])
      (.cond (.tmp 98)
       (.seq (.region [
        ⟨some 99, .call 18 [(.const (.bool true))], none, []⟩, 
        ⟨none, .store 3 (.tmp 4) (.tmp 99), none, []⟩, 
        ⟨some 5, .mov (.const (.int .i64 0)), none, []⟩] [99])
       (.ret))
       (.skip)))
      (.skip)))))))))))
 (.seq (.seq (.region [
  ⟨some 100, .mov (.tmp 8), none, []⟩] [])
 (.cond (.tmp 100)
  (.seq (.region [
   ⟨some 101, .loadA 3 (.tmp 6), none, []⟩, 
   ⟨none, .store 3 (.tmp 4) (.tmp 101), none, []⟩, 
   ⟨some 5, .mov (.const (.int .i64 0)), none, []⟩] [101])
  (.ret))
  (.skip)))
 (.seq (.seq (.region [
  ⟨some 102, .mov (.tmp 0), none, []⟩] [])
 (.block 3 (.seq (.region [
   ⟨some 104, .bin .eql (.tmp 102) (.const (.int .u8 15)), none, []⟩, 
   ⟨some 103, .mov (.tmp 104), none, []⟩] [104])
  (.cond (.tmp 103)
   (.seq (.region [
    ⟨some 105, .call 18 [(.const (.bool true))], none, []⟩, 
    ⟨none, .store 3 (.tmp 4) (.tmp 105), none, []⟩, 
    ⟨some 5, .mov (.const (.int .i64 0)), none, []⟩] [105])
   (.ret))
   (.seq (.region [
    ⟨some 107, .bin .eql (.tmp 102) (.const (.int .u8 16)), none, []⟩, 
    ⟨some 106, .mov (.tmp 107), none, []⟩] [107])
   (.cond (.tmp 106)
    (.seq (.region [
     ⟨some 108, .call 18 [(.const (.bool false))], none, []⟩, 
     ⟨none, .store 3 (.tmp 4) (.tmp 108), none, []⟩, 
     ⟨some 5, .mov (.const (.int .i64 0)), none, []⟩] [108])
    (.ret))
    (.seq (.region [
     ⟨some 110, .bin .eql (.tmp 102) (.const (.int .u8 17)), none, []⟩, 
     ⟨some 109, .mov (.tmp 110), none, []⟩] [110])
    (.cond (.tmp 109)
     (.seq (.region [
      ⟨some 111, .mov (.tmp 1), none, []⟩, 
      ⟨some 112, .indexAddr 3 (.tmp 111) (.const (.int .i64 0)), none, []⟩, 
      ⟨some 113, .loadA 3 (.tmp 112), none, []⟩, 
      ⟨some 114, .call 20 [(.tmp 113)], none, []⟩, 
      ⟨some 115, .un .not (.tmp 114), none, []⟩, 
      ⟨some 116, .call 18 [(.tmp 115)], none, []⟩, 
      ⟨none, .store 3 (.tmp 4) (.tmp 116), none, []⟩, 
      ⟨some 5, .mov (.const (.int .i64 0)), none, []⟩] [111, 112, 113, 114, 115, 116])
     (.ret))
     (.seq (.region [
      ⟨some 118, .bin .eql (.tmp 102) (.const (.int .u8 18)), none, []⟩, 
      ⟨some 117, .mov (.tmp 118), none, []⟩] [118])
     (.cond (.tmp 117)
      (.seq (.region [
       ⟨some 119, .mov (.tmp 0), none, []⟩, 
       ⟨some 120, .mov (.tmp 1), none, []⟩, 
       ⟨some 121, .indexAddr 3 (.tmp 120) (.const (.int .i64 0)), none, []⟩, 
       ⟨some 122, .fieldAddr 1 (.tmp 121), none, []⟩, 
       ⟨some 123, .loadS (.tmp 122), none, []⟩, 
       ⟨some 124, .call 21 [(.tmp 119), (.const (.int .i64 0)), (.tmp 123)], none, []⟩, 
       ⟨some 125, .extract (.tmp 124) 0, none, []⟩, 
       ⟨some 126, .extract (.tmp 124) 1, none, []⟩, 
       ⟨none, .store 3 (.tmp 4) (.tmp 125), none, []⟩, 
       ⟨some 5, .mov (.tmp 126), none, []⟩] [119, 120, 121, 122, 123, 124, 125, 126])
      (.ret))
      (.seq (.region [
       ⟨some 128, .bin .eql (.tmp 102) (.const (.int .u8 8)), none, []⟩, 
       ⟨some 127, .mov (.tmp 128), none, []⟩] [128])
      (.cond (.tmp 127)
       (.seq (.dregion c9r40 [(0, false, []), (1, false, []), (2, false, []), (3, false, []), (4, false, []), (5, false, []), (6, false, []), (7, false, []), (8, false, []), (9, false, [])] [129, 130, 131, 132, 133, 134, 135, 136, 137])
       (.seq (.seq (.region [
        ⟨some 138, .mov (.tmp 14), none, []⟩, 
        ⟨some 139, .len true (.tmp 138), none, []⟩, 
        ⟨some 140, .bin .gtr (.tmp 139) (.const (.int .i64 64)), none, []⟩] [138, 139])
       (.cond (.tmp 140)
        (.seq (.region [
         ⟨some 141, .loadA 3 (.tmp 6), none, []⟩, 
         ⟨none, .store 3 (.tmp 4) (.tmp 141), none, []⟩, 
         ⟨some 5, .mov (.const (.int .i64 3)), none, []⟩] [141])
        (.ret))
        (.skip)))
       (.seq (.region [
        ⟨some 142, .mov (.tmp 14), none, []⟩, 
        ⟨some 143, .build [(.int .u8 0), (.int .i64 0), (.str [])] [(0, 1, (.const (.int .u8 3))), (2, 1, (.tmp 142))], none, []⟩, 
        ⟨none, .store 3 (.tmp 4) (.tmp 143), none, []⟩, 
        ⟨some 5, .mov (.const (.int .i64 0)), none, []⟩] [142, 143])
       (.ret))))
       (.seq (.seq (.region [
        ⟨some 145, .bin .eql (.tmp 102) (.const (.int .u8 3)), none, []⟩, 
        ⟨some 144, .mov (.tmp 145), none, []⟩] [145])
       (.cond (.tmp 144)
        (.skip)
        (.seq (.region [
         ⟨some 146, .bin .eql (.tmp 102) (.const (.int .u8 4)), none, []⟩, 
         ⟨some 144, .mov (.tmp 146), none, []⟩] [146])
        (.cond (.tmp 144)
         (.skip)
         (.seq (.region [
          ⟨some 147, .bin .eql (.tmp 102) (.const (.int .u8 5)), none, []⟩, 
          ⟨some 144, .mov (.tmp 147), none, []⟩] [147])
         (.cond (.tmp 144)
          (.skip)
          (.seq (.region [
           ⟨some 148, .bin .eql (.tmp 102) (.const (.int .u8 6)), none, []⟩, 
           ⟨some 144, .mov (.tmp 148), none, []⟩] [148])
          (.cond (.tmp 144)
           (.skip)
           (.region [
            ⟨some 149, .bin .eql (.tmp 102) (.const (.int .u8 7)), none, []⟩, 
            ⟨some 144, .mov (.tmp 149), none, []⟩] [149])))))))))
       (.cond (.tmp 144)
        (.seq (.dregion c9r49 [(0, false, []), (1, false, []), (2, false, []), (3, false, []), (4, false, []), (5, false, []), (6, false, []), (7, false, []), (8, false, []), (9, true, []), (10, false, []), (11, false, []), (12, true, []), (13, false, [])] [150, 151, 152, 153, 154, 155, 156, 157, 158, 159, 160, 161])
        (.ret))
        (.skip)))))))))))))))
 (.seq (.dregion c9r50 [(0, false, []), (1, false, []), (2, false, []), (3, false, []), (4, false, []), (5, true, []), (6, true, []), (7, true, []), (8, true, []), (9, false, [])] [162, 163, 164, 165, 166, 167, 168, 169])
 (.ret)))))))))))
theorem ok9 : erase c9 = cCode Try.prog 170 ((Try.f9).body.getD .skip) := by kernel_rfl
theorem ord9 : ordsOk c9 = true := by kernel_rfl
theorem call9 {args : List SV} {h : Heap} {R : AEnd → Heap → Prop} (hn : Nat.ble args.length 170 = true) (hp : awp Try.prog c9 (finQ [.cellA 4 3, .tmp 5] R) (argEnv 0 args) h) : ACall Try.prog 9 args h R :=
  acall_of_awp mixed Try.func9 rfl ord9 ok9 (by kernel_rfl) hn hp

def c13r4 : List AOper := (
 ⟨some 15, .mov (.tmp 0), none, []⟩ :: 
 ⟨some 16, .mov (.tmp 5), none, []⟩ :: 
 ⟨some 17, .indexAddr 3 (.tmp 15) (.tmp 16), none, [0, 1]⟩ :: 
 ⟨some 18, .fieldAddr 0 (.tmp 17), none, [2]⟩ :: 
 ⟨some 19, .loadS (.tmp 18), none, [3]⟩ :: 
 ⟨some 20, .mov (.tmp 1), none, []⟩ :: 
 ⟨some 21, .mov (.tmp 5), none, []⟩ :: 
 ⟨some 22, .indexAddr 3 (.tmp 20) (.tmp 21), none, [5, 6]⟩ :: 
 ⟨some 23, .fieldAddr 0 (.tmp 22), none, [7]⟩ :: 
 ⟨some 24, .loadS (.tmp 23), none, [8]⟩ :: 
 ⟨some 25, .call 24 [(.tmp 19), (.tmp 24)], none, [4, 9]⟩ :: 
 ⟨some 26, .mov (.tmp 0), none, []⟩ :: 
 ⟨some 27, .mov (.tmp 5), none, []⟩ :: 
 ⟨some 28, .indexAddr 3 (.tmp 26) (.tmp 27), none, [11, 12]⟩ :: 
 ⟨some 29, .fieldAddr 1 (.tmp 28), none, [13]⟩ :: 
 ⟨some 30, .loadS (.tmp 29), none, [14]⟩ :: 
 ⟨some 31, .mov (.tmp 1), none, []⟩ :: 
 ⟨some 32, .mov (.tmp 5), none, []⟩ :: 
 ⟨some 33, .indexAddr 3 (.tmp 31) (.tmp 32), none, [16, 17]⟩ :: 
 ⟨some 34, .fieldAddr 1 (.tmp 33), none, [18]⟩ :: 
 ⟨some 35, .loadS (.tmp 34), none, [19]⟩ :: 
 ⟨some 36, .call 25 [(.tmp 30), (.tmp 35)], none, [15, 20, 10]⟩ :: 
 ⟨some 37, .mov (.tmp 0), none, []⟩ :: 
 ⟨some 38, .mov (.tmp 5), none, []⟩ :: 
 ⟨some 39, .indexAddr 3 (.tmp 37) (.tmp 38), none, [22, 23]⟩ :: 
 ⟨some 40, .fieldAddr 2 (.tmp 39), none, [24]⟩ :: 
 ⟨some 41, .loadS (.tmp 40), none, [25]⟩ :: 
 ⟨some 42, .mov (.tmp 1), none, []⟩ :: 
 ⟨some 43, .mov (.tmp 5), none, []⟩ :: 
 ⟨some 44, .indexAddr 3 (.tmp 42) (.tmp 43), none, [27, 28]⟩ :: 
 ⟨some 45, .fieldAddr 2 (.tmp 44), none, [29]⟩ :: 
 ⟨some 46, .loadS (.tmp 45), none, [30]⟩ :: 
 ⟨some 47, .call 26 [(.tmp 41), (.tmp 46)], none, [26, 31, 21]⟩ :: 
 ⟨some 48, .buildSlice 1 (.int .i64 0) 3 [(0, (.tmp 25)), (1, (.tmp 36)), (2, (.tmp 47))], none, [10, 21, 32]⟩ :: 
 ⟨some 49, .call 23 [(.tmp 48)], none, [33, 32]⟩ :: 
 ⟨some 6, .mov (.tmp 49), none, (34 :: 34 :: 0 :: 1 :: 2 :: 3 :: 4 :: 5 :: 6 :: 7 :: 8 :: 9 :: 10 :: 11 :: 12 :: 13 :: 14 :: 15 :: 16 :: 17 :: 18 :: 19 :: 20 :: 21 :: 22 :: 23 :: 24 :: 25 :: 26 :: 27 :: 28 :: 29 :: 30 :: 31 :: 32 :: 33 :: 34 :: [])⟩ :: [])
/-- stagepost/enc.Compare -/
def c13 : ACode :=
 .seq (.region [
  ⟨some 4, .mov (.const (.int .i64 0)), none, []⟩] [])
 (.seq (.seq (.region [
  ⟨some 7, .mov (.tmp 0), none, []⟩, 
  ⟨some 8, .len false (.tmp 7), none, []⟩, 
  ⟨some 9, .mov (.tmp 1), none, []⟩, 
  ⟨some 10, .len false (.tmp 9), none, []⟩, 
  ⟨some 11, .mm false (.tmp 8) (.tmp 10), none, []⟩, 
  ⟨some 12, .mov (.const (.int .i64 0)), none, []⟩] [7, 8, 9, 10])
 (.block 0 (.loop (.seq (.region [
    ⟨some 13, .bin .lss (.tmp 12) (.tmp 11), none, []⟩] [])
   (.seq (.cond (.tmp 13)
    (.skip)
    (.exit 0))
   (.seq (.block 1 (.seq (.region [
     ⟨some 14, .mov (.tmp 12), none, []⟩, 
     ⟨some 5, .mov (.tmp 14), none, []⟩] [14])
    (.seq (.dregion c13r4 ((0, false, []) :: (1, false, []) :: (2, false, []) :: (3, false, []) :: (4, false, []) :: (5, false, []) :: (6, false, []) :: (7, false, []) :: (8, false, []) :: (9, false, []) :: (11, false, []) :: (12, false, []) :: (13, false, []) :: (14, false, []) :: (15, false, []) :: (16, false, []) :: (17, false, []) :: (18, false, []) :: (19, false, []) :: (20, false, []) :: (22, false, []) :: (23, false, []) :: (24, false, []) :: (25, false, []) :: (26, false, []) :: (27, false, []) :: (28, false, []) :: (29, false, []) :: (30, false, []) :: (31, false, []) :: (10, true, [13, 14, 15, 18, 19, 20, 24, 25, 26, 29, 30, 31]) :: (21, true, [24, 25, 26, 29, 30, 31]) :: (32, true, []) :: (33, true, []) :: (34, true, []) :: (35, false, []) :: []) (15 :: 16 :: 17 :: 18 :: 19 :: 20 :: 21 :: 22 :: 23 :: 24 :: 25 :: 26 :: 27 :: 28 :: 29 :: 30 :: 31 :: 32 :: 33 :: 34 :: 35 :: 36 :: 37 :: 38 :: 39 :: 40 :: 41 :: 42 :: 43 :: 44 :: 45 :: 46 :: 47 :: 48 :: 49 :: []))
    (.seq (.region [
     ⟨some 50, .mov (.tmp 6), none, []⟩, 
     ⟨some 51, .bin .neq (.tmp 50) (.const (.int .i64 0)), none, []⟩] [50])
    (.cond (.tmp 51)
     (.seq (.region [
      ⟨some 52, .mov (.tmp 6), none, []⟩, 
      ⟨some 4, .mov (.tmp 52), none, []⟩] [52])
     (.ret))
     (.skip))))))
   (.region [
    ⟨some 53, .bin .add (.tmp 12) (.const (.int .i64 1)), none, []⟩, 
    ⟨some 12, .mov (.tmp 53), none, []⟩] [53])))))))
 (.seq (.region [
  ⟨some 54, .mov (.tmp 0), none, []⟩, 
  ⟨some 55, .len false (.tmp 54), none, []⟩, 
  ⟨some 56, .mov (.tmp 1), none, []⟩, 
  ⟨some 57, .len false (.tmp 56), none, []⟩, 
  ⟨some 58, .call 27 [(.tmp 55), (.tmp 57)], none, []⟩, 
  ⟨some 4, .mov (.tmp 58), none, []⟩] [54, 55, 56, 57, 58])
 (.ret)))
theorem ok13 : erase c13 = cCode Try.prog 59 ((Try.f13).body.getD .skip) := by kernel_rfl
theorem ord13 : ordsOk c13 = true := by kernel_rfl
theorem call13 {args : List SV} {h : Heap} {R : AEnd → Heap → Prop} (hn : Nat.ble args.length 59 = true) (hp : awp Try.prog c13 (finQ [.tmp 4] R) (argEnv 0 args) h) : ACall Try.prog 13 args h R :=
  acall_of_awp mixed Try.func13 rfl ord13 ok13 (by kernel_rfl) hn hp

def c20r1 : List AOper := [
 ⟨some 3, .loadA 3 (.tmp 1), none, []⟩, 
 ⟨some 4, .call 18 [(.const (.bool true))], none, []⟩, 
 ⟨some 5, .eqA false [.int, .int, .str] (.tmp 3) (.tmp 4), none, [0, 1]⟩, 
 ⟨some 2, .mov (.tmp 5), none, [2, 1, 0, 1, 2]⟩]
/-- stagepost/value.True -/
def c20 : ACode :=
 .seq (.region [
  ⟨some 1, .box 3 (.tmp 0), none, []⟩, 
  ⟨some 2, .mov (.const (.bool false)), none, []⟩] [])
 (.seq (.dregion c20r1 [(0, false, []), (1, true, [0]), (2, false, []), (3, false, [])] [3, 4, 5])
 (.ret))
theorem ok20 : erase c20 = cCode Try.prog 6 ((Try.f20).body.getD .skip) := by kernel_rfl
theorem ord20 : ordsOk c20 = true := by kernel_rfl
theorem call20 {args : List SV} {h : Heap} {R : AEnd → Heap → Prop} (hn : Nat.ble args.length 6 = true) (hp : awp Try.prog c20 (finQ [.tmp 2] R) (argEnv 0 args) h) : ACall Try.prog 20 args h R :=
  acall_of_awp mixed Try.func20 rfl ord20 ok20 (by kernel_rfl) hn hp

/-- stagepost/value.false0 -/
def c19 : ACode :=
 .seq (.region [
  ⟨some 1, .box 3 (.tmp 0), none, []⟩, 
  ⟨some 2, .mov (.const (.bool false)), none, []⟩] [])
 (.seq (.region [
  ⟨some 3, .fieldAddr 0 (.tmp 1), none, []⟩, 
  ⟨some 4, .loadS (.tmp 3), none, []⟩, 
  ⟨some 5, .bin .eql (.tmp 4) (.const (.int .u8 1)), none, []⟩, 
  ⟨some 6, .mov (.tmp 5), none, []⟩, 
  ⟨some 7, .fieldAddr 1 (.tmp 1), (some (6, true)), []⟩, 
  ⟨some 8, .loadS (.tmp 7), (some (6, true)), []⟩, 
  ⟨some 9, .bin .eql (.tmp 8) (.const (.int .i64 0)), (some (6, true)), []⟩, 
  ⟨some 10, .pick (.tmp 6) (.tmp 9) (.const (.bool false)), none, []⟩, 
  ⟨some 2, .mov (.tmp 10), none, []⟩] [3, 4, 5, 6, 7, 8, 9, 10])
 (.ret))
theorem ok19 : erase c19 = cCode Try.prog 11 ((Try.f19).body.getD .skip) := by kernel_rfl
theorem ord19 : ordsOk c19 = true := by kernel_rfl
theorem call19 {args : List SV} {h : Heap} {R : AEnd → Heap → Prop} (hn : Nat.ble args.length 11 = true) (hp : awp Try.prog c19 (finQ [.tmp 2] R) (argEnv 0 args) h) : ACall Try.prog 19 args h R :=
  acall_of_awp mixed Try.func19 rfl ord19 ok19 (by kernel_rfl) hn hp

/-- cmp.Or[int] -/
def c23 : ACode :=
 .seq (.region [
  ⟨some 2, .mov (.const (.int .i64 0)), none, []⟩] [])
 (.seq (.region [
  ⟨some 3, .mov (.const (.int .i64 0)), none, []⟩] [])
 (.seq (.seq (.region [
  ⟨some 6, .mov (.tmp 0), none, []⟩, 
  ⟨some 7, .len false (.tmp 6), none, []⟩, 
  ⟨some 8, .mov (.const (.int .i64 0)), none, []⟩] [])
 (.block 0 (.loop (.seq (.region [
    ⟨some 9, .bin .lss (.tmp 8) (.tmp 7), none, []⟩] [])
   (.seq (.cond (.tmp 9)
    (.skip)
    (.exit 0))
   (.seq (.block 1 (.seq (.region [
     ⟨some 10, .indexAddr 1 (.tmp 6) (.tmp 8), none, []⟩, 
     ⟨some 11, .loadS (.tmp 10), none, []⟩, 
     ⟨some 5, .mov (.tmp 11), none, []⟩] [10, 11])
    (.seq (.region [
     ⟨some 12, .mov (.tmp 5), none, []⟩, 
     ⟨some 13, .mov (.tmp 3), none, []⟩, 
     ⟨some 14, .bin .neq (.tmp 12) (.tmp 13), none, []⟩] [12, 13])
    (.cond (.tmp 14)
     (.seq (.region [
      ⟨some 15, .mov (.tmp 5), none, []⟩, 
      ⟨some 2, .mov (.tmp 15), none, []⟩] [15])
     (.ret))
     (.skip)))))
   (.region [
    ⟨some 16, .bin .add (.tmp 8) (.const (.int .i64 1)), none, []⟩, 
    ⟨some 8, .mov (.tmp 16), none, []⟩] [16])))))))
 (.seq (.region [
  ⟨some 17, .mov (.tmp 3), none, []⟩, 
  ⟨some 2, .mov (.tmp 17), none, []⟩] [17])
 (.ret))))
theorem ok23 : erase c23 = cCode Try.prog 18 ((Try.f23).body.getD .skip) := by kernel_rfl
theorem ord23 : ordsOk c23 = true := by kernel_rfl
theorem call23 {args : List SV} {h : Heap} {R : AEnd → Heap → Prop} (hn : Nat.ble args.length 18 = true) (hp : awp Try.prog c23 (finQ [.tmp 2] R) (argEnv 0 args) h) : ACall Try.prog 23 args h R :=
  acall_of_awp mixed Try.func23 rfl ord23 ok23 (by kernel_rfl) hn hp

/-- cmp.Compare[stagepost/api.Kind] -/
def c24 : ACode :=
 .seq (.region [
  ⟨some 4, .mov (.const (.int .i64 0)), none, []⟩] [])
 (.seq (.region [
  ⟨some 7, .mov (.tmp 0), none, []⟩, 
  ⟨some 8, .call 29 [(.tmp 7)], none, []⟩, 
  ⟨some 5, .mov (.tmp 8), none, []⟩] [7, 8])
 (.seq (.region [
  ⟨some 9, .mov (.tmp 1), none, []⟩, 
  ⟨some 10, .call 29 [(.tmp 9)], none, []⟩, 
  ⟨some 6, .mov (.tmp 10), none, []⟩] [9, 10])
 (.seq (.seq (.region [
  ⟨some 11, .mov (.tmp 5), none, []⟩] [])
 (.cond (.tmp 11)
  (.seq (.seq (.region [
   ⟨some 12, .mov (.tmp 6), none, []⟩] [])
  (.cond (.tmp 12)
   (.seq (.region [
    ⟨some 4, .mov (.const (.int .i64 0)), none, []⟩] [])
   (.ret))
   (.skip)))
  (.seq (.region [
   ⟨some 4, .mov (.const (.int .i64 (-1))), none, []⟩] [])
  (.ret)))
  (.skip)))
 (.seq (.seq (.region [
  ⟨some 13, .mov (.tmp 6), none, []⟩] [])
 (.cond (.tmp 13)
  (.seq (.region [
   ⟨some 4, .mov (.const (.int .i64 1)), none, []⟩] [])
  (.ret))
  (.skip)))
 (.seq (.seq (.region [
  ⟨some 14, .mov (.tmp 0), none, []⟩, 
  ⟨some 15, .mov (.tmp 1), none, []⟩, 
  ⟨some 16, .bin .lss (.tmp 14) (.tmp 15), none, []⟩] [14, 15])
 (.cond (.tmp 16)
  (.seq (.region [
   ⟨some 4, .mov (.const (.int .i64 (-1))), none, []⟩] [])
  (.ret))
  (.skip)))
 (.seq (.seq (.region [
  ⟨some 17, .mov (.tmp 0), none, []⟩, 
  ⟨some 18, .mov (.tmp 1), none, []⟩, 
  ⟨some 19, .bin .gtr (.tmp 17) (.tmp 18), none, []⟩] [17, 18])
 (.cond (.tmp 19)
  (.seq (.region [
   ⟨some 4, .mov (.const (.int .i64 1)), none, []⟩] [])
  (.ret))
  (.skip)))
 (.seq (.region [
  ⟨some 4, .mov (.const (.int .i64 0)), none, []⟩] [])
 (.ret))))))))
theorem ok24 : erase c24 = cCode Try.prog 20 ((Try.f24).body.getD .skip) := by kernel_rfl
theorem ord24 : ordsOk c24 = true := by kernel_rfl
theorem call24 {args : List SV} {h : Heap} {R : AEnd → Heap → Prop} (hn : Nat.ble args.length 20 = true) (hp : awp Try.prog c24 (finQ [.tmp 4] R) (argEnv 0 args) h) : ACall Try.prog 24 args h R :=
  acall_of_awp mixed Try.func24 rfl ord24 ok24 (by kernel_rfl) hn hp

/-- cmp.Compare[int64] -/
def c25 : ACode :=
 .seq (.region [
  ⟨some 4, .mov (.const (.int .i64 0)), none, []⟩] [])
 (.seq (.region [
  ⟨some 7, .mov (.tmp 0), none, []⟩, 
  ⟨some 8, .call 30 [(.tmp 7)], none, []⟩, 
  ⟨some 5, .mov (.tmp 8), none, []⟩] [7, 8])
 (.seq (.region [
  ⟨some 9, .mov (.tmp 1), none, []⟩, 
  ⟨some 10, .call 30 [(.tmp 9)], none, []⟩, 
  ⟨some 6, .mov (.tmp 10), none, []⟩] [9, 10])
 (.seq (.seq (.region [
  ⟨some 11, .mov (.tmp 5), none, []⟩] [])
 (.cond (.tmp 11)
  (.seq (.seq (.region [
   ⟨some 12, .mov (.tmp 6), none, []⟩] [])
  (.cond (.tmp 12)
   (.seq (.region [
    ⟨some 4, .mov (.const (.int .i64 0)), none, []⟩] [])
   (.ret))
   (.skip)))
  (.seq (.region [
   ⟨some 4, .mov (.const (.int .i64 (-1))), none, []⟩] [])
  (.ret)))
  (.skip)))
 (.seq (.seq (.region [
  ⟨some 13, .mov (.tmp 6), none, []⟩] [])
 (.cond (.tmp 13)
  (.seq (.region [
   ⟨some 4, .mov (.const (.int .i64 1)), none, []⟩] [])
  (.ret))
  (.skip)))
 (.seq (.seq (.region [
  ⟨some 14, .mov (.tmp 0), none, []⟩, 
  ⟨some 15, .mov (.tmp 1), none, []⟩, 
  ⟨some 16, .bin .lss (.tmp 14) (.tmp 15), none, []⟩] [14, 15])
 (.cond (.tmp 16)
  (.seq (.region [
   ⟨some 4, .mov (.const (.int .i64 (-1))), none, []⟩] [])
  (.ret))
  (.skip)))
 (.seq (.seq (.region [
  ⟨some 17, .mov (.tmp 0), none, []⟩, 
  ⟨some 18, .mov (.tmp 1), none, []⟩, 
  ⟨some 19, .bin .gtr (.tmp 17) (.tmp 18), none, []⟩] [17, 18])
 (.cond (.tmp 19)
  (.seq (.region [
   ⟨some 4, .mov (.const (.int .i64 1)), none, []⟩] [])
  (.ret))
  (.skip)))
 (.seq (.region [
  ⟨some 4, .mov (.const (.int .i64 0)), none, []⟩] [])
 (.ret))))))))
theorem ok25 : erase c25 = cCode Try.prog 20 ((Try.f25).body.getD .skip) := by kernel_rfl
theorem ord25 : ordsOk c25 = true := by kernel_rfl
theorem call25 {args : List SV} {h : Heap} {R : AEnd → Heap → Prop} (hn : Nat.ble args.length 20 = true) (hp : awp Try.prog c25 (finQ [.tmp 4] R) (argEnv 0 args) h) : ACall Try.prog 25 args h R :=
  acall_of_awp mixed Try.func25 rfl ord25 ok25 (by kernel_rfl) hn hp

/-- cmp.Compare[string] -/
def c26 : ACode :=
 .seq (.region [
  ⟨some 4, .mov (.const (.int .i64 0)), none, []⟩] [])
 (.seq (.region [
  ⟨some 7, .mov (.tmp 0), none, []⟩, 
  ⟨some 8, .call 31 [(.tmp 7)], none, []⟩, 
  ⟨some 5, .mov (.tmp 8), none, []⟩] [7, 8])
 (.seq (.region [
  ⟨some 9, .mov (.tmp 1), none, []⟩, 
  ⟨some 10, .call 31 [(.tmp 9)], none, []⟩, 
  ⟨some 6, .mov (.tmp 10), none, []⟩] [9, 10])
 (.seq (.seq (.region [
  ⟨some 11, .mov (.tmp 5), none, []⟩] [])
 (.cond (.tmp 11)
  (.seq (.seq (.region [
   ⟨some 12, .mov (.tmp 6), none, []⟩] [])
  (.cond (.tmp 12)
   (.seq (.region [
    ⟨some 4, .mov (.const (.int .i64 0)), none, []⟩] [])
   (.ret))
   (.skip)))
  (.seq (.region [
   ⟨some 4, .mov (.const (.int .i64 (-1))), none, []⟩] [])
  (.ret)))
  (.skip)))
 (.seq (.seq (.region [
  ⟨some 13, .mov (.tmp 6), none, []⟩] [])
 (.cond (.tmp 13)
  (.seq (.region [
   ⟨some 4, .mov (.const (.int .i64 1)), none, []⟩] [])
  (.ret))
  (.skip)))
 (.seq (.seq (.region [
  ⟨some 14, .mov (.tmp 0), none, []⟩, 
  ⟨some 15, .mov (.tmp 1), none, []⟩, 
  ⟨some 16, .bin .lss (.tmp 14) (.tmp 15), none, []⟩] [14, 15])
 (.cond (.tmp 16)
  (.seq (.region [
   ⟨some 4, .mov (.const (.int .i64 (-1))), none, []⟩] [])
  (.ret))
  (.skip)))
 (.seq (.seq (.region [
  ⟨some 17, .mov (.tmp 0), none, []⟩, 
  ⟨some 18, .mov (.tmp 1), none, []⟩, 
  ⟨some 19, .bin .gtr (.tmp 17) (.tmp 18), none, []⟩] [17, 18])
 (.cond (.tmp 19)
  (.seq (.region [
   ⟨some 4, .mov (.const (.int .i64 1)), none, []⟩] [])
  (.ret))
  (.skip)))
 (.seq (.region [
  ⟨some 4, .mov (.const (.int .i64 0)), none, []⟩] [])
 (.ret))))))))
theorem ok26 : erase c26 = cCode Try.prog 20 ((Try.f26).body.getD .skip) := by kernel_rfl
theorem ord26 : ordsOk c26 = true := by kernel_rfl
theorem call26 {args : List SV} {h : Heap} {R : AEnd → Heap → Prop} (hn : Nat.ble args.length 20 = true) (hp : awp Try.prog c26 (finQ [.tmp 4] R) (argEnv 0 args) h) : ACall Try.prog 26 args h R :=
  acall_of_awp mixed Try.func26 rfl ord26 ok26 (by kernel_rfl) hn hp

/-- cmp.Compare[int] -/
def c27 : ACode :=
 .seq (.region [
  ⟨some 4, .mov (.const (.int .i64 0)), none, []⟩] [])
 (.seq (.region [
  ⟨some 7, .mov (.tmp 0), none, []⟩, 
  ⟨some 8, .call 32 [(.tmp 7)], none, []⟩, 
  ⟨some 5, .mov (.tmp 8), none, []⟩] [7, 8])
 (.seq (.region [
  ⟨some 9, .mov (.tmp 1), none, []⟩, 
  ⟨some 10, .call 32 [(.tmp 9)], none, []⟩, 
  ⟨some 6, .mov (.tmp 10), none, []⟩] [9, 10])
 (.seq (.seq (.region [
  ⟨some 11, .mov (.tmp 5), none, []⟩] [])
 (.cond (.tmp 11)
  (.seq (.seq (.region [
   ⟨some 12, .mov (.tmp 6), none, []⟩] [])
  (.cond (.tmp 12)
   (.seq (.region [
    ⟨some 4, .mov (.const (.int .i64 0)), none, []⟩] [])
   (.ret))
   (.skip)))
  (.seq (.region [
   ⟨some 4, .mov (.const (.int .i64 (-1))), none, []⟩] [])
  (.ret)))
  (.skip)))
 (.seq (.seq (.region [
  ⟨some 13, .mov (.tmp 6), none, []⟩] [])
 (.cond (.tmp 13)
  (.seq (.region [
   ⟨some 4, .mov (.const (.int .i64 1)), none, []⟩] [])
  (.ret))
  (.skip)))
 (.seq (.seq (.region [
  ⟨some 14, .mov (.tmp 0), none, []⟩, 
  ⟨some 15, .mov (.tmp 1), none, []⟩, 
  ⟨some 16, .bin .lss (.tmp 14) (.tmp 15), none, []⟩] [14, 15])
 (.cond (.tmp 16)
  (.seq (.region [
   ⟨some 4, .mov (.const (.int .i64 (-1))), none, []⟩] [])
  (.ret))
  (.skip)))
 (.seq (.seq (.region [
  ⟨some 17, .mov (.tmp 0), none, []⟩, 
  ⟨some 18, .mov (.tmp 1), none, []⟩, 
  ⟨some 19, .bin .gtr (.tmp 17) (.tmp 18), none, []⟩] [17, 18])
 (.cond (.tmp 19)
  (.seq (.region [
   ⟨some 4, .mov (.const (.int .i64 1)), none, []⟩] [])
  (.ret))
  (.skip)))
 (.seq (.region [
  ⟨some 4, .mov (.const (.int .i64 0)), none, []⟩] [])
 (.ret))))))))
theorem ok27 : erase c27 = cCode Try.prog 20 ((Try.f27).body.getD .skip) := by kernel_rfl
theorem ord27 : ordsOk c27 = true := by kernel_rfl
theorem call27 {args : List SV} {h : Heap} {R : AEnd → Heap → Prop} (hn : Nat.ble args.length 20 = true) (hp : awp Try.prog c27 (finQ [.tmp 4] R) (argEnv 0 args) h) : ACall Try.prog 27 args h R :=
  acall_of_awp mixed Try.func27 rfl ord27 ok27 (by kernel_rfl) hn hp

/-- cmp.isNaN[stagepost/api.Kind] -/
def c29 : ACode :=
 .seq (.region [
  ⟨some 2, .mov (.const (.bool false)), none, []⟩] [])
 (.seq (.region [
  ⟨some 3, .mov (.tmp 0), none, []⟩, 
  ⟨some 4, .mov (.tmp 0), none, []⟩, 
  ⟨some 5, .bin .neq (.tmp 3) (.tmp 4), none, []⟩, 
  ⟨some 2, .mov (.tmp 5), none, []⟩] [3, 4, 5])
 (.ret))
theorem ok29 : erase c29 = cCode Try.prog 6 ((Try.f29).body.getD .skip) := by kernel_rfl
theorem ord29 : ordsOk c29 = true := by kernel_rfl
theorem call29 {args : List SV} {h : Heap} {R : AEnd → Heap → Prop} (hn : Nat.ble args.length 6 = true) (hp : awp Try.prog c29 (finQ [.tmp 2] R) (argEnv 0 args) h) : ACall Try.prog 29 args h R :=
  acall_of_awp mixed Try.func29 rfl ord29 ok29 (by kernel_rfl) hn hp

/-- cmp.isNaN[int64] -/
def c30 : ACode :=
 .seq (.region [
  ⟨some 2, .mov (.const (.bool false)), none, []⟩] [])
 (.seq (.region [
  ⟨some 3, .mov (.tmp 0), none, []⟩, 
  ⟨some 4, .mov (.tmp 0), none, []⟩, 
  ⟨some 5, .bin .neq (.tmp 3) (.tmp 4), none, []⟩, 
  ⟨some 2, .mov (.tmp 5), none, []⟩] [3, 4, 5])
 (.ret))
theorem ok30 : erase c30 = cCode Try.prog 6 ((Try.f30).body.getD .skip) := by kernel_rfl
theorem ord30 : ordsOk c30 = true := by kernel_rfl
theorem call30 {args : List SV} {h : Heap} {R : AEnd → Heap → Prop} (hn : Nat.ble args.length 6 = true) (hp : awp Try.prog c30 (finQ [.tmp 2] R) (argEnv 0 args) h) : ACall Try.prog 30 args h R :=
  acall_of_awp mixed Try.func30 rfl ord30 ok30 (by kernel_rfl) hn hp

/-- cmp.isNaN[string] -/
def c31 : ACode :=
 .seq (.region [
  ⟨some 2, .mov (.const (.bool false)), none, []⟩] [])
 (.seq (.region [
  ⟨some 3, .mov (.tmp 0), none, []⟩, 
  ⟨some 4, .mov (.tmp 0), none, []⟩, 
  ⟨some 5, .bin .neq (.tmp 3) (.tmp 4), none, []⟩, 
  ⟨some 2, .mov (.tmp 5), none, []⟩] [3, 4, 5])
 (.ret))
theorem ok31 : erase c31 = cCode Try.prog 6 ((Try.f31).body.getD .skip) := by kernel_rfl
theorem ord31 : ordsOk c31 = true := by kernel_rfl
theorem call31 {args : List SV} {h : Heap} {R : AEnd → Heap → Prop} (hn : Nat.ble args.length 6 = true) (hp : awp Try.prog c31 (finQ [.tmp 2] R) (argEnv 0 args) h) : ACall Try.prog 31 args h R :=
  acall_of_awp mixed Try.func31 rfl ord31 ok31 (by kernel_rfl) hn hp

/-- cmp.isNaN[int] -/
def c32 : ACode :=
 .seq (.region [
  ⟨some 2, .mov (.const (.bool false)), none, []⟩] [])
 (.seq (.region [
  ⟨some 3, .mov (.tmp 0), none, []⟩, 
  ⟨some 4, .mov (.tmp 0), none, []⟩, 
  ⟨some 5, .bin .neq (.tmp 3) (.tmp 4), none, []⟩, 
  ⟨some 2, .mov (.tmp 5), none, []⟩] [3, 4, 5])
 (.ret))
theorem ok32 : erase c32 = cCode Try.prog 6 ((Try.f32).body.getD .skip) := by kernel_rfl
theorem ord32 : ordsOk c32 = true := by kernel_rfl
theorem call32 {args : List SV} {h : Heap} {R : AEnd → Heap → Prop} (hn : Nat.ble args.length 6 = true) (hp : awp Try.prog c32 (finQ [.tmp 2] R) (argEnv 0 args) h) : ACall Try.prog 32 args h R :=
  acall_of_awp mixed Try.func32 rfl ord32 ok32 (by kernel_rfl) hn hp

/-- stagepost/value.Gives$1 -/
def c28 : ACode :=
 .seq (.region [
  ⟨some 3, .mov (.const (.bool false)), none, []⟩] [])
 (.seq (.seq (.region [
  ⟨some 6, .loadS (.tmp 1), none, []⟩, 
  ⟨some 7, .len false (.tmp 6), none, []⟩, 
  ⟨some 8, .mov (.const (.int .i64 0)), none, []⟩] [])
 (.block 0 (.loop (.seq (.region [
    ⟨some 9, .bin .lss (.tmp 8) (.tmp 7), none, []⟩] [])
   (.seq (.cond (.tmp 9)
    (.skip)
    (.exit 0))
   (.seq (.block 1 (.seq (.region [
     ⟨some 10, .indexAddr 1 (.tmp 6) (.tmp 8), none, []⟩, 
     ⟨some 11, .loadS (.tmp 10), none, []⟩, 
     ⟨some 5, .mov (.tmp 11), none, []⟩] [10, 11])
    (.seq (.region [
     ⟨some 12, .mov (.tmp 5), none, []⟩, 
     ⟨some 13, .mov (.tmp 0), none, []⟩, 
     ⟨some 14, .bin .neq (.tmp 12) (.tmp 13), none, []⟩, 
     ⟨some 15, .mov (.tmp 14), none, []⟩, 
     ⟨some 16, .mov (.tmp 5), (some (15, true)), []⟩, 
     ⟨some 17, .bin .neq (.tmp 16) (.const (.int .u8 0)), (some (15, true)), []⟩, 
     ⟨some 18, .pick (.tmp 15) (.tmp 17) (.const (.bool false)), none, []⟩] [12, 13, 14, 15, 16, 17])
    (.cond (.tmp 18)
     (.seq (.region [
      ⟨some 3, .mov (.const (.bool false)), none, []⟩] [])
     (.ret))
     (.skip)))))
   (.region [
    ⟨some 19, .bin .add (.tmp 8) (.const (.int .i64 1)), none, []⟩, 
    ⟨some 8, .mov (.tmp 19), none, []⟩] [19])))))))
 (.seq (.region [
  ⟨some 3, .mov (.const (.bool true)), none, []⟩] [])
 (.ret)))
theorem ok28 : erase c28 = cCode Try.prog 20 ((Try.f28).body.getD .skip) := by kernel_rfl
theorem ord28 : ordsOk c28 = true := by kernel_rfl
theorem call28 {args : List SV} {h : Heap} {R : AEnd → Heap → Prop} (hn : Nat.ble args.length 20 = true) (hp : awp Try.prog c28 (finQ [.tmp 3] R) (argEnv 0 args) h) : ACall Try.prog 28 args h R :=
  acall_of_awp mixed Try.func28 rfl ord28 ok28 (by kernel_rfl) hn hp

/-- stagepost/stagepostlaw12.is -/
def c10 : ACode :=
 .seq (.region [
  ⟨some 5, .box 3 (.tmp 1), none, []⟩, 
  ⟨some 6, .box 3 (.tmp 2), none, []⟩, 
  ⟨some 7, .box 3 (.tmp 3), none, []⟩, 
  ⟨some 8, .mov (.const (.bool false)), none, []⟩] [])
 (.seq (.region [
  ⟨some 12, .mov (.tmp 0), none, []⟩, 
  ⟨some 13, .loadA 3 (.tmp 5), none, []⟩, 
  ⟨some 14, .loadA 3 (.tmp 6), none, []⟩, 
  ⟨some 15, .buildSlice 3 (.agg [(.int .u8 0), (.int .i64 0), (.str [])]) 2 [(0, (.tmp 13)), (1, (.tmp 14))], none, []⟩, 
  ⟨some 16, .call 9 [(.tmp 12), (.tmp 15)], none, []⟩, 
  ⟨some 11, .mov (.tmp 16), none, []⟩, 
  ⟨some 17, .extract (.tmp 11) 0, none, []⟩, 
  ⟨some 18, .extract (.tmp 11) 1, none, []⟩, 
  ⟨some 9, .box 3 (.const (.agg [(.int .u8 0), (.int .i64 0), (.str [])])), none, []⟩, 
  ⟨none, .store 3 (.tmp 9) (.tmp 17), none, []⟩, 
  ⟨some 10, .mov (.tmp 18), none, []⟩] [12, 13, 14, 15, 16, 11, 17, 18])
 (.seq (.region [
  ⟨some 19, .mov (.tmp 10), none, []⟩, 
  ⟨some 20, .bin .eql (.tmp 19) (.const (.int .i64 0)), none, []⟩, 
  ⟨some 21, .mov (.tmp 20), none, []⟩, 
  ⟨some 22, .loadA 3 (.tmp 9), (some (21, true)), []⟩, 
  ⟨some 23, .loadA 3 (.tmp 7), (some (21, true)), []⟩, 
  ⟨some 24, .eqA false [.int, .int, .str] (.tmp 22) (.tmp 23), (some (21, true)), []⟩, 
  ⟨some 25, .pick (.tmp 21) (.tmp 24) (.const (.bool false)), none, []⟩, 
  ⟨some 8, .mov (.tmp 25), none, []⟩] [19, 20, 21, 22, 23, 24, 25])
 (.ret)))
theorem ok10 : erase c10 = cCode Try.prog 26 ((Try.f10).body.getD .skip) := by kernel_rfl
theorem ord10 : ordsOk c10 = true := by kernel_rfl
theorem call10 {args : List SV} {h : Heap} {R : AEnd → Heap → Prop} (hn : Nat.ble args.length 26 = true) (hp : awp Try.prog c10 (finQ [.tmp 8] R) (argEnv 0 args) h) : ACall Try.prog 10 args h R :=
  acall_of_awp mixed Try.func10 rfl ord10 ok10 (by kernel_rfl) hn hp

/-- stagepost/stagepostlaw12.fails -/
def c12 : ACode :=
 .seq (.region [
  ⟨some 5, .box 3 (.tmp 1), none, []⟩, 
  ⟨some 6, .box 3 (.tmp 2), none, []⟩, 
  ⟨some 8, .mov (.const (.bool false)), none, []⟩] [])
 (.seq (.region [
  ⟨some 12, .mov (.tmp 0), none, []⟩, 
  ⟨some 13, .loadA 3 (.tmp 5), none, []⟩, 
  ⟨some 14, .loadA 3 (.tmp 6), none, []⟩, 
  ⟨some 15, .buildSlice 3 (.agg [(.int .u8 0), (.int .i64 0), (.str [])]) 2 [(0, (.tmp 13)), (1, (.tmp 14))], none, []⟩, 
  ⟨some 16, .call 9 [(.tmp 12), (.tmp 15)], none, []⟩, 
  ⟨some 11, .mov (.tmp 16), none, []⟩, 
  ⟨some 17, .extract (.tmp 11) 0, none, []⟩, 
  ⟨some 18, .extract (.tmp 11) 1, none, []⟩, 
  ⟨some 9, .box 3 (.const (.agg [(.int .u8 0), (.int .i64 0), (.str [])])), none, []⟩, 
  ⟨none, .store 3 (.tmp 9) (.tmp 17), none, []⟩, 
  ⟨some 10, .mov (.tmp 18), none, []⟩] [12, 13, 14, 15, 16, 11, 17, 18])
 (.seq (.region [
  ⟨some 19, .mov (.tmp 10), none, []⟩, 
  ⟨some 20, .mov (.tmp 3), none, []⟩, 
  ⟨some 21, .bin .eql (.tmp 19) (.tmp 20), none, []⟩, 
  ⟨some 22, .mov (.tmp 21), none, []⟩, 
  ⟨some 23, .loadA 3 (.tmp 9), (some (22, true)), []⟩, 
  ⟨some 24, .build [(.int .u8 0), (.int .i64 0), (.str [])] [], (some (22, true)), []⟩, 
  ⟨some 25, .eqA false [.int, .int, .str] (.tmp 23) (.tmp 24), (some (22, true)), []⟩, 
  ⟨some 26, .pick (.tmp 22) (.tmp 25) (.const (.bool false)), none, []⟩, 
  ⟨some 8, .mov (.tmp 26), none, []⟩] [19, 20, 21, 22, 23, 24, 25, 26])
 (.ret)))
theorem ok12 : erase c12 = cCode Try.prog 27 ((Try.f12).body.getD .skip) := by kernel_rfl
theorem ord12 : ordsOk c12 = true := by kernel_rfl
theorem call12 {args : List SV} {h : Heap} {R : AEnd → Heap → Prop} (hn : Nat.ble args.length 27 = true) (hp : awp Try.prog c12 (finQ [.tmp 8] R) (argEnv 0 args) h) : ACall Try.prog 12 args h R :=
  acall_of_awp mixed Try.func12 rfl ord12 ok12 (by kernel_rfl) hn hp

def c3r11 : List AOper := [
 ⟨some 90, .mov (.tmp 11), none, []⟩, 
 ⟨some 91, .mov (.tmp 90), none, [0]⟩, 
 ⟨some 92, .mov (.tmp 8), (some (91, true)), [1]⟩, 
 ⟨some 93, .bin .neq (.tmp 92) (.const (.int .i64 0)), (some (91, true)), [2, 1]⟩, 
 ⟨some 94, .mov (.tmp 93), (some (91, true)), [3, 1, 1]⟩, 
 ⟨some 95, .mov (.tmp 10), (some (94, false)), [4]⟩, 
 ⟨some 96, .bin .neq (.tmp 95) (.const (.int .i64 0)), (some (94, false)), [5, 4]⟩, 
 ⟨some 97, .pick (.tmp 94) (.const (.bool true)) (.tmp 96), (some (91, true)), [4, 6, 1]⟩, 
 ⟨some 98, .mov (.tmp 97), (some (91, true)), [7, 4, 1]⟩, 
 ⟨some 99, .loadA 3 (.tmp 9), (some (98, false)), [8]⟩, 
 ⟨some 100, .mov (.tmp 0), (some (98, false)), [8]⟩, 
 ⟨some 101, .mov (.tmp 1), (some (98, false)), [8]⟩, 
 ⟨some 102, .bin .mul (.tmp 100) (.tmp 101), (some (98, false)), [10, 11, 8]⟩, 
 ⟨some 103, .call 8 [(.tmp 102)], (some (98, false)), [12, 8, 8]⟩, 
 ⟨some 104, .eqA true [.int, .int, .str] (.tmp 99) (.tmp 103), (some (98, false)), [9, 13, 8]⟩, 
 ⟨some 105, .pick (.tmp 98) (.const (.bool true)) (.tmp 104), (some (91, true)), [8, 14, 1]⟩, 
 ⟨some 106, .mov (.tmp 105), (some (91, true)), [15, 13, 1]⟩, 
 ⟨some 107, .loadA 3 (.tmp 7), (some (106, false)), [16]⟩, 
 ⟨some 108, .mov (.tmp 0), (some (106, false)), [16]⟩, 
 ⟨some 109, .mov (.tmp 1), (some (106, false)), [16]⟩, 
 ⟨some 110, .bin .add (.tmp 108) (.tmp 109), (some (106, false)), [18, 19, 16]⟩, 
 ⟨some 111, .call 8 [(.tmp 110)], (some (106, false)), [20, 16, 16]⟩, 
 ⟨some 112, .eqA true [.int, .int, .str] (.tmp 107) (.tmp 111), (some (106, false)), [17, 21, 16]⟩, 
 ⟨some 113, .pick (.tmp 106) (.const (.bool true)) (.tmp 112), (some (91, true)), [16, 22, 1]⟩, 
 ⟨some 114, .pick (.tmp 91) (.tmp 113) (.const (.bool false)), none, [1, 23]⟩]
/-- stagepost/stagepostlaw12.ValueNumbers -/
def c3 : ACode :=
 .seq (.region [
  ⟨some 4, .mov (.const (.bool false)), none, []⟩] [])
 (.seq (.seq (.region [
  ⟨some 18, .call 7 [], none, []⟩, 
  ⟨some 19, .un .not (.tmp 18), none, []⟩] [18])
 (.cond (.tmp 19)
  (.seq (.region [
   ⟨some 4, .mov (.const (.bool false)), none, []⟩] [])
  (.ret))
  (.skip)))
 (.seq (.region [
  ⟨some 20, .mov (.tmp 0), none, []⟩, 
  ⟨some 21, .call 8 [(.tmp 20)], none, []⟩, 
  ⟨some 22, .mov (.tmp 1), none, []⟩, 
  ⟨some 23, .call 8 [(.tmp 22)], none, []⟩, 
  ⟨some 5, .box 3 (.const (.agg [(.int .u8 0), (.int .i64 0), (.str [])])), none, []⟩, 
  ⟨some 6, .box 3 (.const (.agg [(.int .u8 0), (.int .i64 0), (.str [])])), none, []⟩, 
  ⟨none, .store 3 (.tmp 5) (.tmp 21), none, []⟩, 
  ⟨none, .store 3 (.tmp 6) (.tmp 23), none, []⟩] [20, 21, 22, 23])
 (.seq (.region [
  ⟨some 25, .loadA 3 (.tmp 5), none, []⟩, 
  ⟨some 26, .loadA 3 (.tmp 6), none, []⟩, 
  ⟨some 27, .buildSlice 3 (.agg [(.int .u8 0), (.int .i64 0), (.str [])]) 2 [(0, (.tmp 25)), (1, (.tmp 26))], none, []⟩, 
  ⟨some 28, .call 9 [(.const (.int .u8 3)), (.tmp 27)], none, []⟩, 
  ⟨some 24, .mov (.tmp 28), none, []⟩, 
  ⟨some 29, .extract (.tmp 24) 0, none, []⟩, 
  ⟨some 30, .extract (.tmp 24) 1, none, []⟩, 
  ⟨some 7, .box 3 (.const (.agg [(.int .u8 0), (.int .i64 0), (.str [])])), none, []⟩, 
  ⟨none, .store 3 (.tmp 7) (.tmp 29), none, []⟩, 
  ⟨some 8, .mov (.tmp 30), none, []⟩] [25, 26, 27, 28, 24, 29, 30])
 (.seq (.seq (.region [
  ⟨some 31, .mov (.tmp 8), none, []⟩, 
  ⟨some 32, .bin .eql (.tmp 31) (.const (.int .i64 0)), none, []⟩, 
  ⟨some 33, .mov (.tmp 32), none, []⟩, 
  ⟨some 34, .loadA 3 (.tmp 7), (some (33, true)), []⟩, 
  ⟨some 35, .loadA 3 (.tmp 6), (some (33, true)), []⟩, 
  ⟨some 36, .loadA 3 (.tmp 5), (some (33, true)), []⟩, 
  ⟨some 37, .call 10 [(.const (.int .u8 4)), (.tmp 34), (.tmp 35), (.tmp 36)], (some (33, true)), []⟩, 
  ⟨some 38, .un .not (.tmp 37), (some (33, true)), []⟩, 
  ⟨some 39, .pick (.tmp 33) (.tmp 38) (.const (.bool false)), none, []⟩, 
  ⟨some 40, .mov (.tmp 39), none, []⟩, 
  ⟨some 41, .mov (.tmp 8), (some (40, false)), []⟩, 
  ⟨some 42, .bin .neq (.tmp 41) (.const (.int .i64 0)), (some (40, false)), []⟩, 
  ⟨some 43, .mov (.tmp 42), (some (40, false)), []⟩, 
  ⟨some 44, .mov (.tmp 8), (some (43, true)), []⟩, 
  ⟨some 45, .bin .neq (.tmp 44) (.const (.int .i64 221)), (some (43, true)), []⟩, 
  ⟨some 46, .pick (.tmp 43) (.tmp 45) (.const (.bool false)), (some (40, false)), []⟩, 
  ⟨some 47, .pick (.tmp 40) (.const (.bool true)) (.tmp 46), none, []⟩] [31, 32, 33, 34, 35, 36, 37, 38, 39, 40, 41, 42, 43, 44, 45, 46])
 (.cond (.tmp 47)
  (.seq (.region [
   ⟨some 4, .mov (.const (.bool false)), none, []⟩] [])
  (.ret))
  (.skip)))
 (.seq (.region [
  ⟨some 49, .loadA 3 (.tmp 5), none, []⟩, 
  ⟨some 50, .loadA 3 (.tmp 6), none, []⟩, 
  ⟨some 51, .buildSlice 3 (.agg [(.int .u8 0), (.int .i64 0), (.str [])]) 2 [(0, (.tmp 49)), (1, (.tmp 50))], none, []⟩, 
  ⟨some 52, .call 9 [(.const (.int .u8 5)), (.tmp 51)], none, []⟩, 
  ⟨some 48, .mov (.tmp 52), none, []⟩, 
  ⟨some 53, .extract (.tmp 48) 0, none, []⟩, 
  ⟨some 54, .extract (.tmp 48) 1, none, []⟩, 
  ⟨some 9, .box 3 (.const (.agg [(.int .u8 0), (.int .i64 0), (.str [])])), none, []⟩, 
  ⟨none, .store 3 (.tmp 9) (.tmp 53), none, []⟩, 
  ⟨some 10, .mov (.tmp 54), none, []⟩] [49, 50, 51, 52, 48, 53, 54])
 (.seq (.seq (.region [
  ⟨some 55, .mov (.tmp 10), none, []⟩, 
  ⟨some 56, .bin .eql (.tmp 55) (.const (.int .i64 0)), none, []⟩, 
  ⟨some 57, .mov (.tmp 56), none, []⟩, 
  ⟨some 58, .mov (.tmp 1), (some (57, true)), []⟩, 
  ⟨some 59, .bin .neq (.tmp 58) (.const (.int .i64 0)), (some (57, true)), []⟩, 
  ⟨some 60, .pick (.tmp 57) (.tmp 59) (.const (.bool false)), none, []⟩, 
  ⟨some 61, .mov (.tmp 60), none, []⟩, 
  ⟨some 62, .loadA 3 (.tmp 9), (some (61, true)), []⟩, 
  ⟨some 63, .loadA 3 (.tmp 6), (some (61, true)), []⟩, 
  ⟨some 64, .loadA 3 (.tmp 5), (some (61, true)), []⟩, 
  ⟨some 65, .call 10 [(.const (.int .u8 6)), (.tmp 62), (.tmp 63), (.tmp 64)], (some (61, true)), []⟩, 
  ⟨some 66, .un .not (.tmp 65), (some (61, true)), []⟩, 
  ⟨some 67, .pick (.tmp 61) (.tmp 66) (.const (.bool false)), none, []⟩, 
  ⟨some 68, .mov (.tmp 67), none, []⟩, 
  ⟨some 69, .mov (.tmp 10), (some (68, false)), []⟩, 
  ⟨some 70, .bin .neq (.tmp 69) (.const (.int .i64 0)), (some (68, false)), []⟩, 
  ⟨some 71, .mov (.tmp 70), (some (68, false)), []⟩, 
  ⟨some 72, .mov (.tmp 10), (some (71, true)), []⟩, 
  ⟨some 73, .bin .neq (.tmp 72) (.const (.int .i64 221)), (some (71, true)), []⟩, 
  ⟨some 74, .pick (.tmp 71) (.tmp 73) (.const (.bool false)), (some (68, false)), []⟩, 
  ⟨some 75, .pick (.tmp 68) (.const (.bool true)) (.tmp 74), none, []⟩] [55, 56, 57, 58, 59, 60, 61, 62, 63, 64, 65, 66, 67, 68, 69, 70, 71, 72, 73, 74])
 (.cond (.tmp 75)
  (.seq (.region [
   ⟨some 4, .mov (.const (.bool false)), none, []⟩] [])
  (.ret))
  (.skip)))
 (.seq (.region [
  ⟨some 76, .mov (.tmp 0), none, []⟩, 
  ⟨some 77, .bin .gtr (.tmp 76) (.const (.int .i64 (-2147483648))), none, []⟩, 
  ⟨some 78, .mov (.tmp 77), none, []⟩, 
  ⟨some 79, .mov (.tmp 0), (some (78, true)), []⟩, 
  ⟨some 80, .bin .lss (.tmp 79) (.const (.int .i64 2147483648)), (some (78, true)), []⟩, 
  ⟨some 81, .pick (.tmp 78) (.tmp 80) (.const (.bool false)), none, []⟩, 
  ⟨some 82, .mov (.tmp 81), none, []⟩, 
  ⟨some 83, .mov (.tmp 1), (some (82, true)), []⟩, 
  ⟨some 84, .bin .gtr (.tmp 83) (.const (.int .i64 (-2147483648))), (some (82, true)), []⟩, 
  ⟨some 85, .pick (.tmp 82) (.tmp 84) (.const (.bool false)), none, []⟩, 
  ⟨some 86, .mov (.tmp 85), none, []⟩, 
  ⟨some 87, .mov (.tmp 1), (some (86, true)), []⟩, 
  ⟨some 88, .bin .lss (.tmp 87) (.const (.int .i64 2147483648)), (some (86, true)), []⟩, 
  ⟨some 89, .pick (.tmp 86) (.tmp 88) (.const (.bool false)), none, []⟩, 
  ⟨some 11, .mov (.tmp 89), none, []⟩] [76, 77, 78, 79, 80, 81, 82, 83, 84, 85, 86, 87, 88, 89])
 (.seq (.seq (.dregion c3r11 [(0, false, []), (1, false, []), (2, false, []), (3, false, []), (4, false, []), (5, false, []), (6, false, []), (7, false, []), (8, false, []), (9, false, []), (10, false, []), (11, false, []), (12, false, []), (13, true, [9]), (14, false, []), (15, false, []), (16, false, []), (17, false, []), (18, false, []), (19, false, []), (20, false, []), (21, true, [17]), (22, false, []), (23, false, []), (24, false, [])] [90, 91, 92, 93, 94, 95, 96, 97, 98, 99, 100, 101, 102, 103, 104, 105, 106, 107, 108, 109, 110, 111, 112, 113])
 (.cond (.tmp 114)
  (.seq (.region [
   ⟨some 4, .mov (.const (.bool false)), none, []⟩] [])
  (.ret))
  (.skip)))
 (.seq (.region [
  ⟨some 116, .loadA 3 (.tmp 5), none, []⟩, 
  ⟨some 117, .loadA 3 (.tmp 6), none, []⟩, 
  ⟨some 118, .buildSlice 3 (.agg [(.int .u8 0), (.int .i64 0), (.str [])]) 2 [(0, (.tmp 116)), (1, (.tmp 117))], none, []⟩, 
  ⟨some 119, .call 9 [(.const (.int .u8 6)), (.tmp 118)], none, []⟩, 
  ⟨some 115, .mov (.tmp 119), none, []⟩, 
  ⟨some 120, .extract (.tmp 115) 0, none, []⟩, 
  ⟨some 121, .extract (.tmp 115) 1, none, []⟩, 
  ⟨some 12, .box 3 (.const (.agg [(.int .u8 0), (.int .i64 0), (.str [])])), none, []⟩, 
  ⟨none, .store 3 (.tmp 12) (.tmp 120), none, []⟩, 
  ⟨some 13, .mov (.tmp 121), none, []⟩] [116, 117, 118, 119, 115, 120, 121])
 (.seq (.region [
  ⟨some 123, .loadA 3 (.tmp 5), none, []⟩, 
  ⟨some 124, .loadA 3 (.tmp 6), none, []⟩, 
  ⟨some 125, .buildSlice 3 (.agg [(.int .u8 0), (.int .i64 0), (.str [])]) 2 [(0, (.tmp 123)), (1, (.tmp 124))], none, []⟩, 
  ⟨some 126, .call 9 [(.const (.int .u8 7)), (.tmp 125)], none, []⟩, 
  ⟨some 122, .mov (.tmp 126), none, []⟩, 
  ⟨some 127, .extract (.tmp 122) 0, none, []⟩, 
  ⟨some 128, .extract (.tmp 122) 1, none, []⟩, 
  ⟨some 14, .box 3 (.const (.agg [(.int .u8 0), (.int .i64 0), (.str [])])), none, []⟩, 
  ⟨none, .store 3 (.tmp 14) (.tmp 127), none, []⟩, 
  ⟨some 15, .mov (.tmp 128), none, []⟩] [123, 124, 125, 126, 122, 127, 128])
 (.seq (.seq (.region [
  ⟨some 129, .mov (.tmp 1), none, []⟩, 
  ⟨some 130, .bin .eql (.tmp 129) (.const (.int .i64 0)), none, []⟩] [129])
 (.cond (.tmp 130)
  (.seq (.region [
   ⟨some 131, .mov (.tmp 13), none, []⟩, 
   ⟨some 132, .bin .eql (.tmp 131) (.const (.int .i64 222)), none, []⟩, 
   ⟨some 133, .mov (.tmp 132), none, []⟩, 
   ⟨some 134, .mov (.tmp 15), (some (133, true)), []⟩, 
   ⟨some 135, .bin .eql (.tmp 134) (.const (.int .i64 222)), (some (133, true)), []⟩, 
   ⟨some 136, .pick (.tmp 133) (.tmp 135) (.const (.bool false)), none, []⟩, 
   ⟨some 4, .mov (.tmp 136), none, []⟩] [131, 132, 133, 134, 135, 136])
  (.ret))
  (.skip)))
 (.seq (.seq (.region [
  ⟨some 137, .mov (.tmp 15), none, []⟩, 
  ⟨some 138, .bin .neq (.tmp 137) (.const (.int .i64 0)), none, []⟩, 
  ⟨some 139, .mov (.tmp 138), none, []⟩, 
  ⟨some 140, .fieldAddr 1 (.tmp 14), (some (139, false)), []⟩, 
  ⟨some 141, .loadS (.tmp 140), (some (139, false)), []⟩, 
  ⟨some 142, .bin .neq (.tmp 141) (.const (.int .i64 0)), (some (139, false)), []⟩, 
  ⟨some 143, .mov (.tmp 142), (some (139, false)), []⟩, 
  ⟨some 144, .fieldAddr 1 (.tmp 14), (some (143, true)), []⟩, 
  ⟨some 145, .loadS (.tmp 144), (some (143, true)), []⟩, 
  ⟨some 146, .bin .lss (.tmp 145) (.const (.int .i64 0)), (some (143, true)), []⟩, 
  ⟨some 147, .mov (.tmp 0), (some (143, true)), []⟩, 
  ⟨some 148, .bin .lss (.tmp 147) (.const (.int .i64 0)), (some (143, true)), []⟩, 
  ⟨some 149, .eqB true (.tmp 146) (.tmp 148), (some (143, true)), []⟩, 
  ⟨some 150, .pick (.tmp 143) (.tmp 149) (.const (.bool false)), (some (139, false)), []⟩, 
  ⟨some 151, .pick (.tmp 139) (.const (.bool true)) (.tmp 150), none, []⟩] [137, 138, 139, 140, 141, 142, 143, 144, 145, 146, 147, 148, 149, 150])
 (.cond (.tmp 151)
  (.seq (.region [
   ⟨some 4, .mov (.const (.bool false)), none, []⟩] [])
  (.ret))
  (.skip)))
 (.seq (.seq (.region [
  ⟨some 152, .mov (.tmp 13), none, []⟩, 
  ⟨some 153, .bin .neq (.tmp 152) (.const (.int .i64 0)), none, []⟩] [152])
 (.cond (.tmp 153)
  (.seq (.region [
   ⟨some 154, .mov (.tmp 13), none, []⟩, 
   ⟨some 155, .bin .eql (.tmp 154) (.const (.int .i64 221)), none, []⟩, 
   ⟨some 156, .mov (.tmp 155), none, []⟩, 
   ⟨some 157, .mov (.tmp 0), (some (156, true)), []⟩, 
   ⟨some 158, .bin .eql (.tmp 157) (.const (.int .i64 (-9223372036854775808))), (some (156, true)), []⟩, 
   ⟨some 159, .pick (.tmp 156) (.tmp 158) (.const (.bool false)), none, []⟩, 
   ⟨some 160, .mov (.tmp 159), none, []⟩, 
   ⟨some 161, .mov (.tmp 1), (some (160, true)), []⟩, 
   ⟨some 162, .bin .eql (.tmp 161) (.const (.int .i64 (-1))), (some (160, true)), []⟩, 
   ⟨some 163, .pick (.tmp 160) (.tmp 162) (.const (.bool false)), none, []⟩, 
   ⟨some 4, .mov (.tmp 163), none, []⟩] [154, 155, 156, 157, 158, 159, 160, 161, 162, 163])
  (.ret))
  (.skip)))
 (.seq (.region [
  ⟨some 165, .loadA 3 (.tmp 12), none, []⟩, 
  ⟨some 166, .loadA 3 (.tmp 6), none, []⟩, 
  ⟨some 167, .buildSlice 3 (.agg [(.int .u8 0), (.int .i64 0), (.str [])]) 2 [(0, (.tmp 165)), (1, (.tmp 166))], none, []⟩, 
  ⟨some 168, .call 9 [(.const (.int .u8 5)), (.tmp 167)], none, []⟩, 
  ⟨some 164, .mov (.tmp 168), none, []⟩, 
  ⟨some 169, .extract (.tmp 164) 0, none, []⟩, 
  ⟨some 170, .extract (.tmp 164) 1, none, []⟩, 
  ⟨some 16, .box 3 (.const (.agg [(.int .u8 0), (.int .i64 0), (.str [])])), none, []⟩, 
  ⟨none, .store 3 (.tmp 16) (.tmp 169), none, []⟩, 
  ⟨some 17, .mov (.tmp 170), none, []⟩] [165, 166, 167, 168, 164, 169, 170])
 (.seq (.region [
  ⟨some 171, .mov (.tmp 17), none, []⟩, 
  ⟨some 172, .bin .eql (.tmp 171) (.const (.int .i64 0)), none, []⟩, 
  ⟨some 173, .mov (.tmp 172), none, []⟩, 
  ⟨some 174, .loadA 3 (.tmp 16), (some (173, true)), []⟩, 
  ⟨some 175, .loadA 3 (.tmp 14), (some (173, true)), []⟩, 
  ⟨some 176, .loadA 3 (.tmp 5), (some (173, true)), []⟩, 
  ⟨some 177, .call 10 [(.const (.int .u8 3)), (.tmp 174), (.tmp 175), (.tmp 176)], (some (173, true)), []⟩, 
  ⟨some 178, .pick (.tmp 173) (.tmp 177) (.const (.bool false)), none, []⟩, 
  ⟨some 4, .mov (.tmp 178), none, []⟩] [171, 172, 173, 174, 175, 176, 177, 178])
 (.ret))))))))))))))))
theorem ok3 : erase c3 = cCode Try.prog 179 ((Try.f3).body.getD .skip) := by kernel_rfl
theorem ord3 : ordsOk c3 = true := by kernel_rfl
theorem call3 {args : List SV} {h : Heap} {R : AEnd → Heap → Prop} (hn : Nat.ble args.length 179 = true) (hp : awp Try.prog c3 (finQ [.tmp 4] R) (argEnv 0 args) h) : ACall Try.prog 3 args h R :=
  acall_of_awp mixed Try.func3 rfl ord3 ok3 (by kernel_rfl) hn hp

/-- stagepost/stagepostlaw12.ValueLogic -/
def c5 : ACode :=
 .seq (.region [
  ⟨some 6, .mov (.const (.bool false)), none, []⟩] [])
 (.seq (.seq (.region [
  ⟨some 26, .call 7 [], none, []⟩, 
  ⟨some 27, .un .not (.tmp 26), none, []⟩] [26])
 (.cond (.tmp 27)
  (.seq (.region [
   ⟨some 6, .mov (.const (.bool false)), none, []⟩] [])
  (.ret))
  (.skip)))
 (.seq (.region [
  ⟨some 28, .mov (.tmp 0), none, []⟩, 
  ⟨some 29, .call 15 [(.tmp 28)], none, []⟩, 
  ⟨some 30, .mov (.tmp 1), none, []⟩, 
  ⟨some 31, .call 15 [(.tmp 30)], none, []⟩, 
  ⟨some 32, .mov (.tmp 2), none, []⟩, 
  ⟨some 33, .call 15 [(.tmp 32)], none, []⟩, 
  ⟨some 7, .box 3 (.const (.agg [(.int .u8 0), (.int .i64 0), (.str [])])), none, []⟩, 
  ⟨some 8, .box 3 (.const (.agg [(.int .u8 0), (.int .i64 0), (.str [])])), none, []⟩, 
  ⟨some 9, .box 3 (.const (.agg [(.int .u8 0), (.int .i64 0), (.str [])])), none, []⟩, 
  ⟨none, .store 3 (.tmp 7) (.tmp 29), none, []⟩, 
  ⟨none, .store 3 (.tmp 8) (.tmp 31), none, []⟩, 
  ⟨none, .store 3 (.tmp 9) (.tmp 33), none, []⟩] [28, 29, 30, 31, 32, 33])
 (.seq (.region [
  ⟨some 35, .loadA 3 (.tmp 7), none, []⟩, 
  ⟨some 36, .loadA 3 (.tmp 8), none, []⟩, 
  ⟨some 37, .buildSlice 3 (.agg [(.int .u8 0), (.int .i64 0), (.str [])]) 2 [(0, (.tmp 35)), (1, (.tmp 36))], none, []⟩, 
  ⟨some 38, .call 9 [(.const (.int .u8 15)), (.tmp 37)], none, []⟩, 
  ⟨some 34, .mov (.tmp 38), none, []⟩, 
  ⟨some 39, .extract (.tmp 34) 0, none, []⟩, 
  ⟨some 40, .extract (.tmp 34) 1, none, []⟩, 
  ⟨some 10, .box 3 (.const (.agg [(.int .u8 0), (.int .i64 0), (.str [])])), none, []⟩, 
  ⟨none, .store 3 (.tmp 10) (.tmp 39), none, []⟩, 
  ⟨some 11, .mov (.tmp 40), none, []⟩] [35, 36, 37, 38, 34, 39, 40])
 (.seq (.region [
  ⟨some 42, .loadA 3 (.tmp 7), none, []⟩, 
  ⟨some 43, .loadA 3 (.tmp 8), none, []⟩, 
  ⟨some 44, .buildSlice 3 (.agg [(.int .u8 0), (.int .i64 0), (.str [])]) 2 [(0, (.tmp 42)), (1, (.tmp 43))], none, []⟩, 
  ⟨some 45, .call 9 [(.const (.int .u8 16)), (.tmp 44)], none, []⟩, 
  ⟨some 41, .mov (.tmp 45), none, []⟩, 
  ⟨some 46, .extract (.tmp 41) 0, none, []⟩, 
  ⟨some 47, .extract (.tmp 41) 1, none, []⟩, 
  ⟨some 12, .box 3 (.const (.agg [(.int .u8 0), (.int .i64 0), (.str [])])), none, []⟩, 
  ⟨none, .store 3 (.tmp 12) (.tmp 46), none, []⟩, 
  ⟨some 13, .mov (.tmp 47), none, []⟩] [42, 43, 44, 45, 41, 46, 47])
 (.seq (.region [
  ⟨some 49, .loadA 3 (.tmp 7), none, []⟩, 
  ⟨some 50, .buildSlice 3 (.agg [(.int .u8 0), (.int .i64 0), (.str [])]) 1 [(0, (.tmp 49))], none, []⟩, 
  ⟨some 51, .call 9 [(.const (.int .u8 17)), (.tmp 50)], none, []⟩, 
  ⟨some 48, .mov (.tmp 51), none, []⟩, 
  ⟨some 52, .extract (.tmp 48) 0, none, []⟩, 
  ⟨some 53, .extract (.tmp 48) 1, none, []⟩, 
  ⟨some 14, .box 3 (.const (.agg [(.int .u8 0), (.int .i64 0), (.str [])])), none, []⟩, 
  ⟨none, .store 3 (.tmp 14) (.tmp 52), none, []⟩, 
  ⟨some 15, .mov (.tmp 53), none, []⟩] [49, 50, 51, 48, 52, 53])
 (.seq (.region [
  ⟨some 55, .loadA 3 (.tmp 8), none, []⟩, 
  ⟨some 56, .buildSlice 3 (.agg [(.int .u8 0), (.int .i64 0), (.str [])]) 1 [(0, (.tmp 55))], none, []⟩, 
  ⟨some 57, .call 9 [(.const (.int .u8 17)), (.tmp 56)], none, []⟩, 
  ⟨some 54, .mov (.tmp 57), none, []⟩, 
  ⟨some 58, .extract (.tmp 54) 0, none, []⟩, 
  ⟨some 59, .extract (.tmp 54) 1, none, []⟩, 
  ⟨some 16, .box 3 (.const (.agg [(.int .u8 0), (.int .i64 0), (.str [])])), none, []⟩, 
  ⟨none, .store 3 (.tmp 16) (.tmp 58), none, []⟩, 
  ⟨some 17, .mov (.tmp 59), none, []⟩] [55, 56, 57, 54, 58, 59])
 (.seq (.region [
  ⟨some 61, .loadA 3 (.tmp 10), none, []⟩, 
  ⟨some 62, .buildSlice 3 (.agg [(.int .u8 0), (.int .i64 0), (.str [])]) 1 [(0, (.tmp 61))], none, []⟩, 
  ⟨some 63, .call 9 [(.const (.int .u8 17)), (.tmp 62)], none, []⟩, 
  ⟨some 60, .mov (.tmp 63), none, []⟩, 
  ⟨some 64, .extract (.tmp 60) 0, none, []⟩, 
  ⟨some 65, .extract (.tmp 60) 1, none, []⟩, 
  ⟨some 18, .box 3 (.const (.agg [(.int .u8 0), (.int .i64 0), (.str [])])), none, []⟩, 
  ⟨none, .store 3 (.tmp 18) (.tmp 64), none, []⟩, 
  ⟨some 19, .mov (.tmp 65), none, []⟩] [61, 62, 63, 60, 64, 65])
 (.seq (.seq (.region (
  ⟨some 66, .mov (.tmp 11), none, []⟩ :: 
  ⟨some 67, .bin .neq (.tmp 66) (.const (.int .i64 0)), none, []⟩ :: 
  ⟨some 68, .mov (.tmp 67), none, []⟩ :: 
  ⟨some 69, .mov (.tmp 13), (some (68, false)), []⟩ :: 
  ⟨some 70, .bin .neq (.tmp 69) (.const (.int .i64 0)), (some (68, false)), []⟩ :: 
  ⟨some 71, .pick (.tmp 68) (.const (.bool true)) (.tmp 70), none, []⟩ :: 
  ⟨some 72, .mov (.tmp 71), none, []⟩ :: 
  ⟨some 73, .mov (.tmp 15), (some (72, false)), []⟩ :: 
  ⟨some 74, .bin .neq (.tmp 73) (.const (.int .i64 0)), (some (72, false)), []⟩ :: 
  ⟨some 75, .pick (.tmp 72) (.const (.bool true)) (.tmp 74), none, []⟩ :: 
  ⟨some 76, .mov (.tmp 75), none, []⟩ :: 
  ⟨some 77, .mov (.tmp 17), (some (76, false)), []⟩ :: 
  ⟨some 78, .bin .neq (.tmp 77) (.const (.int .i64 0)), (some (76, false)), []⟩ :: 
  ⟨some 79, .pick (.tmp 76) (.const (.bool true)) (.tmp 78), none, []⟩ :: 
  ⟨some 80, .mov (.tmp 79), none, []⟩ :: 
  ⟨some 81, .mov (.tmp 19), (some (80, false)), []⟩ :: 
  ⟨some 82, .bin .neq (.tmp 81) (.const (.int .i64 0)), (some (80, false)), []⟩ :: 
  ⟨some 83, .pick (.tmp 80) (.const (.bool true)) (.tmp 82), none, []⟩ :: 
  ⟨some 84, .mov (.tmp 83), none, []⟩ :: 
  ⟨some 85, .loadA 3 (.tmp 14), (some (84, false)), []⟩ :: 
  ⟨some 86, .loadA 3 (.tmp 16), (some (84, false)), []⟩ :: 
  ⟨some 87, .loadA 3 (.tmp 18), (some (84, false)), []⟩ :: 
  ⟨some 88, .call 10 [(.const (.int .u8 16)), (.tmp 85), (.tmp 86), (.tmp 87)], (some (84, false)), []⟩ :: 
  ⟨some 89, .un .not (.tmp 88), (some (84, false)), []⟩ :: 
  ⟨some 90, .pick (.tmp 84) (.const (.bool true)) (.tmp 89), none, []⟩ :: 
  ⟨some 91, .mov (.tmp 90), none, []⟩ :: 
  ⟨some 92, .loadA 3 (.tmp 8), (some (91, false)), []⟩ :: 
  ⟨some 93, .loadA 3 (.tmp 7), (some (91, false)), []⟩ :: 
  ⟨some 94, .loadA 3 (.tmp 10), (some (91, false)), []⟩ :: 
  ⟨some 95, .call 10 [(.const (.int .u8 15)), (.tmp 92), (.tmp 93), (.tmp 94)], (some (91, false)), []⟩ :: 
  ⟨some 96, .un .not (.tmp 95), (some (91, false)), []⟩ :: 
  ⟨some 97, .pick (.tmp 91) (.const (.bool true)) (.tmp 96), none, []⟩ :: 
  ⟨some 98, .mov (.tmp 97), none, []⟩ :: 
  ⟨some 99, .loadA 3 (.tmp 8), (some (98, false)), []⟩ :: 
  ⟨some 100, .loadA 3 (.tmp 7), (some (98, false)), []⟩ :: 
  ⟨some 101, .loadA 3 (.tmp 12), (some (98, false)), []⟩ :: 
  ⟨some 102, .call 10 [(.const (.int .u8 16)), (.tmp 99), (.tmp 100), (.tmp 101)], (some (98, false)), []⟩ :: 
  ⟨some 103, .un .not (.tmp 102), (some (98, false)), []⟩ :: 
  ⟨some 104, .pick (.tmp 98) (.const (.bool true)) (.tmp 103), none, []⟩ :: []) (66 :: 67 :: 68 :: 69 :: 70 :: 71 :: 72 :: 73 :: 74 :: 75 :: 76 :: 77 :: 78 :: 79 :: 80 :: 81 :: 82 :: 83 :: 84 :: 85 :: 86 :: 87 :: 88 :: 89 :: 90 :: 91 :: 92 :: 93 :: 94 :: 95 :: 96 :: 97 :: 98 :: 99 :: 100 :: 101 :: 102 :: 103 :: []))
 (.cond (.tmp 104)
  (.seq (.region [
   ⟨some 6, .mov (.const (.bool false)), none, []⟩] [])
  (.ret))
  (.skip)))
 (.seq (.region [
  ⟨some 106, .loadA 3 (.tmp 8), none, []⟩, 
  ⟨some 107, .loadA 3 (.tmp 9), none, []⟩, 
  ⟨some 108, .buildSlice 3 (.agg [(.int .u8 0), (.int .i64 0), (.str [])]) 2 [(0, (.tmp 106)), (1, (.tmp 107))], none, []⟩, 
  ⟨some 109, .call 9 [(.const (.int .u8 15)), (.tmp 108)], none, []⟩, 
  ⟨some 105, .mov (.tmp 109), none, []⟩, 
  ⟨some 110, .extract (.tmp 105) 0, none, []⟩, 
  ⟨some 111, .extract (.tmp 105) 1, none, []⟩, 
  ⟨some 20, .box 3 (.const (.agg [(.int .u8 0), (.int .i64 0), (.str [])])), none, []⟩, 
  ⟨none, .store 3 (.tmp 20) (.tmp 110), none, []⟩, 
  ⟨some 21, .mov (.tmp 111), none, []⟩] [106, 107, 108, 109, 105, 110, 111, 21])
 (.seq (.region [
  ⟨some 113, .loadA 3 (.tmp 10), none, []⟩, 
  ⟨some 114, .loadA 3 (.tmp 9), none, []⟩, 
  ⟨some 115, .buildSlice 3 (.agg [(.int .u8 0), (.int .i64 0), (.str [])]) 2 [(0, (.tmp 113)), (1, (.tmp 114))], none, []⟩, 
  ⟨some 116, .call 9 [(.const (.int .u8 15)), (.tmp 115)], none, []⟩, 
  ⟨some 112, .mov (.tmp 116), none, []⟩, 
  ⟨some 117, .extract (.tmp 112) 0, none, []⟩, 
  ⟨some 118, .extract (.tmp 112) 1, none, []⟩, 
  ⟨some 22, .box 3 (.const (.agg [(.int .u8 0), (.int .i64 0), (.str [])])), none, []⟩, 
  ⟨none, .store 3 (.tmp 22) (.tmp 117), none, []⟩, 
  ⟨some 23, .mov (.tmp 118), none, []⟩] [113, 114, 115, 116, 112, 117, 118, 23])
 (.seq (.seq (.region [
  ⟨some 119, .loadA 3 (.tmp 7), none, []⟩, 
  ⟨some 120, .loadA 3 (.tmp 20), none, []⟩, 
  ⟨some 121, .loadA 3 (.tmp 22), none, []⟩, 
  ⟨some 122, .call 10 [(.const (.int .u8 15)), (.tmp 119), (.tmp 120), (.tmp 121)], none, []⟩, 
  ⟨some 123, .un .not (.tmp 122), none, []⟩] [119, 120, 121, 122])
 (.cond (.tmp 123)
  (.seq (.region [
   ⟨some 6, .mov (.const (.bool false)), none, []⟩] [])
  (.ret))
  (.skip)))
 (.seq (.seq (.region [
  ⟨some 24, .mov (.const (.int .i64 1)), none, []⟩] [])
 (.block 0 (.loop (.seq (.seq (.region [
    ⟨some 124, .mov (.tmp 24), none, []⟩, 
    ⟨some 125, .bin .leq (.tmp 124) (.const (.int .i64 2)), none, []⟩] [124])
   (.cond (.tmp 125)
    (.skip)
    (.exit 0)))
   (.seq (.block 1 (.seq (.region [
     ⟨some 128, .loadA 3 (.tmp 8), none, []⟩, 
     ⟨some 25, .box 3 (.const (.agg [(.int .u8 0), (.int .i64 0), (.str [])])), none, []⟩, 
     ⟨none, .store 3 (.tmp 25) (.tmp 128), none, []⟩] [128])
    (.seq (.seq (.region [
     ⟨some 129, .fieldAddr 0 (.tmp 25), none, []⟩, 
     ⟨some 130, .loadS (.tmp 129), none, []⟩, 
     ⟨some 131, .bin .eql (.tmp 130) (.const (.int .u8 0)), none, []⟩] [129, 130])
    (.cond (.tmp 131)
     (.region [
      ⟨some 132, .mov (.tmp 24), none, []⟩, 
      ⟨some 133, .call 15 [(.tmp 132)], none, []⟩, 
      ⟨none, .store 3 (.tmp 25) (.tmp 133), none, []⟩] [132, 133])
     (.skip)))
    (.seq (.region [
     ⟨some 134, .fieldAddr 0 (.tmp 10), none, []⟩, 
     ⟨some 135, .loadS (.tmp 134), none, []⟩, 
     ⟨some 136, .bin .neq (.tmp 135) (.const (.int .u8 0)), none, []⟩, 
     ⟨some 137, .mov (.tmp 136), none, []⟩, 
     ⟨some 138, .loadA 3 (.tmp 7), (some (137, true)), []⟩, 
     ⟨some 139, .loadA 3 (.tmp 25), (some (137, true)), []⟩, 
     ⟨some 140, .loadA 3 (.tmp 10), (some (137, true)), []⟩, 
     ⟨some 141, .call 10 [(.const (.int .u8 15)), (.tmp 138), (.tmp 139), (.tmp 140)], (some (137, true)), []⟩, 
     ⟨some 142, .un .not (.tmp 141), (some (137, true)), []⟩, 
     ⟨some 143, .pick (.tmp 137) (.tmp 142) (.const (.bool false)), none, []⟩, 
     ⟨some 144, .mov (.tmp 143), none, []⟩, 
     ⟨some 145, .fieldAddr 0 (.tmp 12), (some (144, false)), []⟩, 
     ⟨some 146, .loadS (.tmp 145), (some (144, false)), []⟩, 
     ⟨some 147, .bin .neq (.tmp 146) (.const (.int .u8 0)), (some (144, false)), []⟩, 
     ⟨some 148, .mov (.tmp 147), (some (144, false)), []⟩, 
     ⟨some 149, .loadA 3 (.tmp 7), (some (148, true)), []⟩, 
     ⟨some 150, .loadA 3 (.tmp 25), (some (148, true)), []⟩, 
     ⟨some 151, .loadA 3 (.tmp 12), (some (148, true)), []⟩, 
     ⟨some 152, .call 10 [(.const (.int .u8 16)), (.tmp 149), (.tmp 150), (.tmp 151)], (some (148, true)), []⟩, 
     ⟨some 153, .un .not (.tmp 152), (some (148, true)), []⟩, 
     ⟨some 154, .pick (.tmp 148) (.tmp 153) (.const (.bool false)), (some (144, false)), []⟩, 
     ⟨some 155, .pick (.tmp 144) (.const (.bool true)) (.tmp 154), none, []⟩] [134, 135, 136, 137, 138, 139, 140, 141, 142, 143, 144, 145, 146, 147, 148, 149, 150, 151, 152, 153, 154])
    (.cond (.tmp 155)
     (.seq (.region [
      ⟨some 6, .mov (.const (.bool false)), none, []⟩] [])
     (.ret))
     (.skip))))))
   (.region [
    ⟨some 126, .mov (.tmp 24), none, []⟩, 
    ⟨some 127, .bin .add (.tmp 126) (.const (.int .i64 1)), none, []⟩, 
    ⟨some 24, .mov (.tmp 127), none, []⟩] [126, 127]))))))
 (.seq (.region [
  ⟨some 6, .mov (.const (.bool true)), none, []⟩] [])
 (.ret))))))))))))))
theorem ok5 : erase c5 = cCode Try.prog 156 ((Try.f5).body.getD .skip) := by kernel_rfl
theorem ord5 : ordsOk c5 = true := by kernel_rfl
theorem call5 {args : List SV} {h : Heap} {R : AEnd → Heap → Prop} (hn : Nat.ble args.length 156 = true) (hp : awp Try.prog c5 (finQ [.tmp 6] R) (argEnv 0 args) h) : ACall Try.prog 5 args h R :=
  acall_of_awp mixed Try.func5 rfl ord5 ok5 (by kernel_rfl) hn hp

def c4r10 : List AOper := [
 ⟨some 60, .mov (.tmp 5), none, []⟩, 
 ⟨some 61, .bin .lss (.tmp 60) (.const (.int .i64 0)), none, [0]⟩, 
 ⟨some 62, .call 14 [(.tmp 61)], none, [1]⟩, 
 ⟨some 63, .loadA 3 (.tmp 2), none, []⟩, 
 ⟨some 64, .loadA 3 (.tmp 3), none, []⟩, 
 ⟨some 65, .eqA false [.int, .int, .str] (.tmp 63) (.tmp 64), none, [3, 4]⟩, 
 ⟨some 66, .call 14 [(.tmp 65)], none, [5, 2]⟩, 
 ⟨some 6, .box 3 (.const (.agg [(.int .u8 0), (.int .i64 0), (.str [])])), none, []⟩, 
 ⟨some 7, .box 3 (.const (.agg [(.int .u8 0), (.int .i64 0), (.str [])])), none, []⟩, 
 ⟨none, .store 3 (.tmp 6) (.tmp 62), none, [7, 2, 6, 0, 1, 2, 7, 8]⟩, 
 ⟨none, .store 3 (.tmp 7) (.tmp 66), none, [8, 6, 9, 0, 1, 2, 3, 4, 5, 6, 7, 8, 9]⟩]
def c4r11 : List AOper := (
 ⟨some 67, .loadA 3 (.tmp 2), none, []⟩ :: 
 ⟨some 68, .loadA 3 (.tmp 3), none, []⟩ :: 
 ⟨some 69, .loadA 3 (.tmp 6), none, []⟩ :: 
 ⟨some 70, .call 10 [(.const (.int .u8 11)), (.tmp 67), (.tmp 68), (.tmp 69)], none, [0, 1, 2]⟩ :: 
 ⟨some 71, .mov (.tmp 70), none, [3, 3]⟩ :: 
 ⟨some 72, .loadA 3 (.tmp 2), (some (71, true)), [4]⟩ :: 
 ⟨some 73, .loadA 3 (.tmp 3), (some (71, true)), [4]⟩ :: 
 ⟨some 74, .loadA 3 (.tmp 7), (some (71, true)), [4]⟩ :: 
 ⟨some 75, .call 10 [(.const (.int .u8 9)), (.tmp 72), (.tmp 73), (.tmp 74)], (some (71, true)), [5, 6, 7, 4, 4]⟩ :: 
 ⟨some 76, .pick (.tmp 71) (.tmp 75) (.const (.bool false)), none, [4, 8]⟩ :: 
 ⟨some 77, .mov (.tmp 76), none, [9, 8]⟩ :: 
 ⟨some 78, .loadA 3 (.tmp 2), (some (77, true)), [10]⟩ :: 
 ⟨some 79, .loadA 3 (.tmp 3), (some (77, true)), [10]⟩ :: 
 ⟨some 80, .mov (.tmp 5), (some (77, true)), [10]⟩ :: 
 ⟨some 81, .bin .gtr (.tmp 80) (.const (.int .i64 0)), (some (77, true)), [13, 10]⟩ :: 
 ⟨some 82, .call 14 [(.tmp 81)], (some (77, true)), [14, 10, 10]⟩ :: 
 ⟨some 83, .call 10 [(.const (.int .u8 13)), (.tmp 78), (.tmp 79), (.tmp 82)], (some (77, true)), [11, 12, 15, 15, 10]⟩ :: 
 ⟨some 84, .pick (.tmp 77) (.tmp 83) (.const (.bool false)), none, [10, 16]⟩ :: 
 ⟨some 85, .mov (.tmp 84), none, [17, 16]⟩ :: 
 ⟨some 86, .loadA 3 (.tmp 2), (some (85, true)), [18]⟩ :: 
 ⟨some 87, .loadA 3 (.tmp 3), (some (85, true)), [18]⟩ :: 
 ⟨some 88, .loadA 3 (.tmp 2), (some (85, true)), [18]⟩ :: 
 ⟨some 89, .loadA 3 (.tmp 3), (some (85, true)), [18]⟩ :: 
 ⟨some 90, .eqA true [.int, .int, .str] (.tmp 88) (.tmp 89), (some (85, true)), [21, 22, 18]⟩ :: 
 ⟨some 91, .call 14 [(.tmp 90)], (some (85, true)), [23, 18, 18]⟩ :: 
 ⟨some 92, .call 10 [(.const (.int .u8 10)), (.tmp 86), (.tmp 87), (.tmp 91)], (some (85, true)), [19, 20, 24, 24, 18]⟩ :: 
 ⟨some 93, .pick (.tmp 85) (.tmp 92) (.const (.bool false)), none, [18, 25]⟩ :: 
 ⟨some 94, .mov (.tmp 93), none, [26, 25]⟩ :: 
 ⟨some 95, .loadA 3 (.tmp 2), (some (94, true)), [27]⟩ :: 
 ⟨some 96, .loadA 3 (.tmp 3), (some (94, true)), [27]⟩ :: 
 ⟨some 97, .mov (.tmp 5), (some (94, true)), [27]⟩ :: 
 ⟨some 98, .bin .leq (.tmp 97) (.const (.int .i64 0)), (some (94, true)), [30, 27]⟩ :: 
 ⟨some 99, .call 14 [(.tmp 98)], (some (94, true)), [31, 27, 27]⟩ :: 
 ⟨some 100, .call 10 [(.const (.int .u8 12)), (.tmp 95), (.tmp 96), (.tmp 99)], (some (94, true)), [28, 29, 32, 32, 27]⟩ :: 
 ⟨some 101, .pick (.tmp 94) (.tmp 100) (.const (.bool false)), none, [27, 33]⟩ :: 
 ⟨some 102, .mov (.tmp 101), none, [34, 33]⟩ :: 
 ⟨some 103, .loadA 3 (.tmp 2), (some (102, true)), [35]⟩ :: 
 ⟨some 104, .loadA 3 (.tmp 3), (some (102, true)), [35]⟩ :: 
 ⟨some 105, .mov (.tmp 5), (some (102, true)), [35]⟩ :: 
 ⟨some 106, .bin .geq (.tmp 105) (.const (.int .i64 0)), (some (102, true)), [38, 35]⟩ :: 
 ⟨some 107, .call 14 [(.tmp 106)], (some (102, true)), [39, 35, 35]⟩ :: 
 ⟨some 108, .call 10 [(.const (.int .u8 14)), (.tmp 103), (.tmp 104), (.tmp 107)], (some (102, true)), [36, 37, 40, 40, 35]⟩ :: 
 ⟨some 109, .pick (.tmp 102) (.tmp 108) (.const (.bool false)), none, [35, 41]⟩ :: 
 ⟨some 4, .mov (.tmp 109), none, (42 :: 41 :: 0 :: 1 :: 2 :: 3 :: 4 :: 5 :: 6 :: 7 :: 8 :: 9 :: 10 :: 11 :: 12 :: 13 :: 14 :: 15 :: 16 :: 17 :: 18 :: 19 :: 20 :: 21 :: 22 :: 23 :: 24 :: 25 :: 26 :: 27 :: 28 :: 29 :: 30 :: 31 :: 32 :: 33 :: 34 :: 35 :: 36 :: 37 :: 38 :: 39 :: 40 :: 41 :: 42 :: [])⟩ :: [])
/-- stagepost/stagepostlaw12.ValueOrder -/
def c4 : ACode :=
 .seq (.region [
  ⟨some 2, .box 3 (.tmp 0), none, []⟩, 
  ⟨some 3, .box 3 (.tmp 1), none, []⟩, 
  ⟨some 4, .mov (.const (.bool false)), none, []⟩] [])
 (.seq (.seq (.region [
  ⟨some 8, .call 7 [], none, []⟩, 
  ⟨some 9, .un .not (.tmp 8), none, []⟩] [8])
 (.cond (.tmp 9)
  (.seq (.region [
   ⟨some 4, .mov (.const (.bool false)), none, []⟩] [])
  (.ret))
  (.skip)))
 (.seq (.seq (.region [
  ⟨some 10, .loadA 3 (.tmp 2), none, []⟩, 
  ⟨some 11, .call 11 [(.tmp 10)], none, []⟩, 
  ⟨some 12, .bin .neq (.tmp 11) (.const (.int .i64 0)), none, []⟩, 
  ⟨some 13, .mov (.tmp 12), none, []⟩, 
  ⟨some 14, .loadA 3 (.tmp 3), (some (13, false)), []⟩, 
  ⟨some 15, .call 11 [(.tmp 14)], (some (13, false)), []⟩, 
  ⟨some 16, .bin .neq (.tmp 15) (.const (.int .i64 0)), (some (13, false)), []⟩, 
  ⟨some 17, .pick (.tmp 13) (.const (.bool true)) (.tmp 16), none, []⟩] [10, 11, 12, 13, 14, 15, 16])
 (.cond (.tmp 17)
  (.seq (.region [
   ⟨some 4, .mov (.const (.bool true)), none, []⟩] [])
  (.ret))
  (.skip)))
 (.seq (.seq (.region [
  ⟨some 18, .fieldAddr 0 (.tmp 2), none, []⟩, 
  ⟨some 19, .loadS (.tmp 18), none, []⟩, 
  ⟨some 20, .bin .eql (.tmp 19) (.const (.int .u8 0)), none, []⟩, 
  ⟨some 21, .mov (.tmp 20), none, []⟩, 
  ⟨some 22, .fieldAddr 0 (.tmp 3), (some (21, false)), []⟩, 
  ⟨some 23, .loadS (.tmp 22), (some (21, false)), []⟩, 
  ⟨some 24, .bin .eql (.tmp 23) (.const (.int .u8 0)), (some (21, false)), []⟩, 
  ⟨some 25, .pick (.tmp 21) (.const (.bool true)) (.tmp 24), none, []⟩] [18, 19, 20, 21, 22, 23, 24])
 (.cond (.tmp 25)
  (.seq (.region [
   ⟨some 26, .loadA 3 (.tmp 2), none, []⟩, 
   ⟨some 27, .loadA 3 (.tmp 3), none, []⟩, 
   ⟨some 28, .build [(.int .u8 0), (.int .i64 0), (.str [])] [], none, []⟩, 
   ⟨some 29, .call 10 [(.const (.int .u8 11)), (.tmp 26), (.tmp 27), (.tmp 28)], none, []⟩, 
   ⟨some 30, .mov (.tmp 29), none, []⟩, 
   ⟨some 31, .loadA 3 (.tmp 2), (some (30, true)), []⟩, 
   ⟨some 32, .loadA 3 (.tmp 3), (some (30, true)), []⟩, 
   ⟨some 33, .build [(.int .u8 0), (.int .i64 0), (.str [])] [], (some (30, true)), []⟩, 
   ⟨some 34, .call 10 [(.const (.int .u8 9)), (.tmp 31), (.tmp 32), (.tmp 33)], (some (30, true)), []⟩, 
   ⟨some 35, .pick (.tmp 30) (.tmp 34) (.const (.bool false)), none, []⟩, 
   ⟨some 36, .mov (.tmp 35), none, []⟩, 
   ⟨some 37, .loadA 3 (.tmp 2), (some (36, true)), []⟩, 
   ⟨some 38, .loadA 3 (.tmp 3), (some (36, true)), []⟩, 
   ⟨some 39, .build [(.int .u8 0), (.int .i64 0), (.str [])] [], (some (36, true)), []⟩, 
   ⟨some 40, .call 10 [(.const (.int .u8 14)), (.tmp 37), (.tmp 38), (.tmp 39)], (some (36, true)), []⟩, 
   ⟨some 41, .pick (.tmp 36) (.tmp 40) (.const (.bool false)), none, []⟩, 
   ⟨some 4, .mov (.tmp 41), none, []⟩] [26, 27, 28, 29, 30, 31, 32, 33, 34, 35, 36, 37, 38, 39, 40, 41])
  (.ret))
  (.skip)))
 (.seq (.seq (.region [
  ⟨some 42, .fieldAddr 0 (.tmp 2), none, []⟩, 
  ⟨some 43, .loadS (.tmp 42), none, []⟩, 
  ⟨some 44, .fieldAddr 0 (.tmp 3), none, []⟩, 
  ⟨some 45, .loadS (.tmp 44), none, []⟩, 
  ⟨some 46, .bin .neq (.tmp 43) (.tmp 45), none, []⟩] [42, 43, 44, 45])
 (.cond (.tmp 46)
  (.seq (.region [
   ⟨some 47, .loadA 3 (.tmp 2), none, []⟩, 
   ⟨some 48, .loadA 3 (.tmp 3), none, []⟩, 
   ⟨some 49, .call 12 [(.const (.int .u8 11)), (.tmp 47), (.tmp 48), (.const (.int .i64 220))], none, []⟩, 
   ⟨some 50, .mov (.tmp 49), none, []⟩, 
   ⟨some 51, .loadA 3 (.tmp 2), (some (50, true)), []⟩, 
   ⟨some 52, .loadA 3 (.tmp 3), (some (50, true)), []⟩, 
   ⟨some 53, .call 12 [(.const (.int .u8 9)), (.tmp 51), (.tmp 52), (.const (.int .i64 220))], (some (50, true)), []⟩, 
   ⟨some 54, .pick (.tmp 50) (.tmp 53) (.const (.bool false)), none, []⟩, 
   ⟨some 4, .mov (.tmp 54), none, []⟩] [47, 48, 49, 50, 51, 52, 53, 54])
  (.ret))
  (.skip)))
 (.seq (.region [
  ⟨some 55, .loadA 3 (.tmp 2), none, []⟩, 
  ⟨some 56, .buildSlice 3 (.agg [(.int .u8 0), (.int .i64 0), (.str [])]) 1 [(0, (.tmp 55))], none, []⟩, 
  ⟨some 57, .loadA 3 (.tmp 3), none, []⟩, 
  ⟨some 58, .buildSlice 3 (.agg [(.int .u8 0), (.int .i64 0), (.str [])]) 1 [(0, (.tmp 57))], none, []⟩, 
  ⟨some 59, .call 13 [(.tmp 56), (.tmp 58)], none, []⟩, 
  ⟨some 5, .mov (.tmp 59), none, []⟩] [55, 56, 57, 58, 59])
 (.seq (.dregion c4r10 [(0, false, []), (1, false, []), (3, false, []), (4, false, []), (5, false, []), (2, true, [3, 4]), (6, true, []), (7, true, [3, 4]), (8, true, [3, 4]), (9, true, []), (10, true, [])] [60, 61, 62, 63, 64, 65, 66])
 (.seq (.dregion c4r11 ((0, false, []) :: (1, false, []) :: (2, false, []) :: (3, true, []) :: (4, false, []) :: (5, false, []) :: (6, false, []) :: (7, false, []) :: (8, true, []) :: (9, false, []) :: (10, false, []) :: (11, false, []) :: (12, false, []) :: (13, false, []) :: (14, false, []) :: (15, true, [11, 12]) :: (16, true, []) :: (17, false, []) :: (18, false, []) :: (19, false, []) :: (20, false, []) :: (21, false, []) :: (22, false, []) :: (23, false, []) :: (24, true, [19, 20]) :: (25, true, []) :: (26, false, []) :: (27, false, []) :: (28, false, []) :: (29, false, []) :: (30, false, []) :: (31, false, []) :: (32, true, [28, 29]) :: (33, true, []) :: (34, false, []) :: (35, false, []) :: (36, false, []) :: (37, false, []) :: (38, false, []) :: (39, false, []) :: (40, true, [36, 37]) :: (41, true, []) :: (42, false, []) :: (43, false, []) :: []) (67 :: 68 :: 69 :: 70 :: 71 :: 72 :: 73 :: 74 :: 75 :: 76 :: 77 :: 78 :: 79 :: 80 :: 81 :: 82 :: 83 :: 84 :: 85 :: 86 :: 87 :: 88 :: 89 :: 90 :: 91 :: 92 :: 93 :: 94 :: 95 :: 96 :: 97 :: 98 :: 99 :: 100 :: 101 :: 102 :: 103 :: 104 :: 105 :: 106 :: 107 :: 108 :: 109 :: []))
 (.ret))))))))
theorem ok4 : erase c4 = cCode Try.prog 110 ((Try.f4).body.getD .skip) := by kernel_rfl
theorem ord4 : ordsOk c4 = true := by kernel_rfl
theorem call4 {args : List SV} {h : Heap} {R : AEnd → Heap → Prop} (hn : Nat.ble args.length 110 = true) (hp : awp Try.prog c4 (finQ [.tmp 4] R) (argEnv 0 args) h) : ACall Try.prog 4 args h R :=
  acall_of_awp mixed Try.func4 rfl ord4 ok4 (by kernel_rfl) hn hp

/-- stagepost/stagepostlaw12.ValueKinds -/
def c6 : ACode :=
 .seq (.region [
  ⟨some 4, .mov (.const (.bool false)), none, []⟩] [])
 (.seq (.seq (.region [
  ⟨some 13, .call 7 [], none, []⟩, 
  ⟨some 14, .un .not (.tmp 13), none, []⟩] [13])
 (.cond (.tmp 14)
  (.seq (.region [
   ⟨some 4, .mov (.const (.bool false)), none, []⟩] [])
  (.ret))
  (.skip)))
 (.seq (.seq (.region [
  ⟨some 15, .mov (.tmp 1), none, []⟩, 
  ⟨some 16, .len false (.tmp 15), none, []⟩, 
  ⟨some 17, .bin .gtr (.tmp 16) (.const (.int .i64 5)), none, []⟩] [15, 16])
 (.cond (.tmp 17)
  (.seq (.region [
   ⟨some 4, .mov (.const (.bool true)), none, []⟩] [])
  (.ret))
  (.skip)))
 (.seq (.region [
  ⟨some 5, .mov (.const .nils), none, []⟩] [])
 (.seq (.seq (.region [
  ⟨some 6, .mov (.const (.int .i64 0)), none, []⟩] [])
 (.block 0 (.loop (.seq (.seq (.region [
    ⟨some 18, .mov (.tmp 6), none, []⟩, 
    ⟨some 19, .mov (.tmp 1), none, []⟩, 
    ⟨some 20, .len false (.tmp 19), none, []⟩, 
    ⟨some 21, .bin .lss (.tmp 18) (.tmp 20), none, []⟩] [18, 19, 20])
   (.cond (.tmp 21)
    (.skip)
    (.exit 0)))
   (.seq (.block 1 (.seq (.seq (.region [
     ⟨some 24, .mov (.tmp 1), none, []⟩, 
     ⟨some 25, .mov (.tmp 6), none, []⟩, 
     ⟨some 26, .indexAddr 3 (.tmp 24) (.tmp 25), none, []⟩, 
     ⟨some 27, .loadA 3 (.tmp 26), none, []⟩, 
     ⟨some 28, .call 11 [(.tmp 27)], none, []⟩, 
     ⟨some 29, .bin .neq (.tmp 28) (.const (.int .i64 0)), none, []⟩] [24, 25, 26, 27, 28])
    (.cond (.tmp 29)
     (.seq (.region [
      ⟨some 31, .mov (.tmp 0), none, []⟩, 
      ⟨some 32, .mov (.tmp 1), none, []⟩, 
      ⟨some 33, .call 9 [(.tmp 31), (.tmp 32)], none, []⟩, 
      ⟨some 30, .mov (.tmp 33), none, []⟩, 
      ⟨some 34, .extract (.tmp 30) 0, none, []⟩, 
      ⟨some 35, .extract (.tmp 30) 1, none, []⟩, 
      ⟨some 7, .box 3 (.const (.agg [(.int .u8 0), (.int .i64 0), (.str [])])), none, []⟩, 
      ⟨none, .store 3 (.tmp 7) (.tmp 34), none, []⟩, 
      ⟨some 8, .mov (.tmp 35), none, []⟩] [31, 32, 33, 30, 34, 35, 7])
     (.seq (.region [
      ⟨some 36, .mov (.tmp 8), none, []⟩, 
      ⟨some 37, .bin .eql (.tmp 36) (.const (.int .i64 2)), none, []⟩, 
      ⟨some 4, .mov (.tmp 37), none, []⟩] [36, 37])
     (.ret)))
     (.skip)))
    (.region [
     ⟨some 38, .mov (.tmp 5), none, []⟩, 
     ⟨some 39, .mov (.tmp 1), none, []⟩, 
     ⟨some 40, .mov (.tmp 6), none, []⟩, 
     ⟨some 41, .indexAddr 3 (.tmp 39) (.tmp 40), none, []⟩, 
     ⟨some 42, .fieldAddr 0 (.tmp 41), none, []⟩, 
     ⟨some 43, .loadS (.tmp 42), none, []⟩, 
     ⟨some 44, .buildSlice 1 (.int .u8 0) 1 [(0, (.tmp 43))], none, []⟩, 
     ⟨some 45, .append 1 1 (.tmp 38) (.tmp 44), none, []⟩, 
     ⟨some 5, .mov (.tmp 45), none, []⟩] [38, 39, 40, 41, 42, 43, 44, 45])))
   (.region [
    ⟨some 22, .mov (.tmp 6), none, []⟩, 
    ⟨some 23, .bin .add (.tmp 22) (.const (.int .i64 1)), none, []⟩, 
    ⟨some 6, .mov (.tmp 23), none, []⟩] [22, 23]))))))
 (.seq (.region [
  ⟨some 47, .mov (.tmp 0), none, []⟩, 
  ⟨some 48, .mov (.tmp 1), none, []⟩, 
  ⟨some 49, .call 9 [(.tmp 47), (.tmp 48)], none, []⟩, 
  ⟨some 46, .mov (.tmp 49), none, []⟩, 
  ⟨some 50, .extract (.tmp 46) 0, none, []⟩, 
  ⟨some 51, .extract (.tmp 46) 1, none, []⟩, 
  ⟨some 9, .box 3 (.const (.agg [(.int .u8 0), (.int .i64 0), (.str [])])), none, []⟩, 
  ⟨none, .store 3 (.tmp 9) (.tmp 50), none, []⟩, 
  ⟨some 10, .mov (.tmp 51), none, []⟩] [47, 48, 49, 46, 50, 51])
 (.seq (.region [
  ⟨some 53, .mov (.tmp 0), none, []⟩, 
  ⟨some 54, .mov (.tmp 5), none, []⟩, 
  ⟨some 55, .call 16 [(.tmp 53), (.tmp 54)], none, []⟩, 
  ⟨some 52, .mov (.tmp 55), none, []⟩, 
  ⟨some 56, .extract (.tmp 52) 0, none, []⟩, 
  ⟨some 57, .extract (.tmp 52) 1, none, []⟩, 
  ⟨some 11, .mov (.tmp 56), none, []⟩, 
  ⟨some 12, .mov (.tmp 57), none, []⟩] [53, 54, 55, 52, 56, 57])
 (.seq (.seq (.region [
  ⟨some 58, .mov (.tmp 12), none, []⟩, 
  ⟨some 59, .bin .neq (.tmp 58) (.const (.int .i64 0)), none, []⟩] [58])
 (.cond (.tmp 59)
  (.seq (.region [
   ⟨some 60, .mov (.tmp 10), none, []⟩, 
   ⟨some 61, .mov (.tmp 12), none, []⟩, 
   ⟨some 62, .bin .eql (.tmp 60) (.tmp 61), none, []⟩, 
   ⟨some 63, .mov (.tmp 62), none, []⟩, 
   ⟨some 64, .loadA 3 (.tmp 9), (some (63, true)), []⟩, 
   ⟨some 65, .build [(.int .u8 0), (.int .i64 0), (.str [])] [], (some (63, true)), []⟩, 
   ⟨some 66, .eqA false [.int, .int, .str] (.tmp 64) (.tmp 65), (some (63, true)), []⟩, 
   ⟨some 67, .pick (.tmp 63) (.tmp 66) (.const (.bool false)), none, []⟩, 
   ⟨some 4, .mov (.tmp 67), none, []⟩] [60, 61, 62, 63, 64, 65, 66, 67])
  (.ret))
  (.skip)))
 (.seq (.seq (.region [
  ⟨some 68, .mov (.tmp 10), none, []⟩, 
  ⟨some 69, .bin .neq (.tmp 68) (.const (.int .i64 0)), none, []⟩] [68])
 (.cond (.tmp 69)
  (.seq (.region [
   ⟨some 70, .mov (.tmp 10), none, []⟩, 
   ⟨some 71, .bin .eql (.tmp 70) (.const (.int .i64 221)), none, []⟩, 
   ⟨some 72, .mov (.tmp 71), none, []⟩, 
   ⟨some 73, .mov (.tmp 10), (some (72, false)), []⟩, 
   ⟨some 74, .bin .eql (.tmp 73) (.const (.int .i64 222)), (some (72, false)), []⟩, 
   ⟨some 75, .pick (.tmp 72) (.const (.bool true)) (.tmp 74), none, []⟩, 
   ⟨some 76, .mov (.tmp 75), none, []⟩, 
   ⟨some 77, .mov (.tmp 10), (some (76, false)), []⟩, 
   ⟨some 78, .bin .eql (.tmp 77) (.const (.int .i64 3)), (some (76, false)), []⟩, 
   ⟨some 79, .pick (.tmp 76) (.const (.bool true)) (.tmp 78), none, []⟩, 
   ⟨some 80, .mov (.tmp 79), none, []⟩, 
   ⟨some 81, .loadA 3 (.tmp 9), (some (80, true)), []⟩, 
   ⟨some 82, .build [(.int .u8 0), (.int .i64 0), (.str [])] [], (some (80, true)), []⟩, 
   ⟨some 83, .eqA false [.int, .int, .str] (.tmp 81) (.tmp 82), (some (80, true)), []⟩, 
   ⟨some 84, .pick (.tmp 80) (.tmp 83) (.const (.bool false)), none, []⟩, 
   ⟨some 4, .mov (.tmp 84), none, []⟩] [70, 71, 72, 73, 74, 75, 76, 77, 78, 79, 80, 81, 82, 83, 84])
  (.ret))
  (.skip)))
 (.seq (.region [
  ⟨some 85, .loadA 3 (.tmp 9), none, []⟩, 
  ⟨some 86, .call 11 [(.tmp 85)], none, []⟩, 
  ⟨some 87, .bin .eql (.tmp 86) (.const (.int .i64 0)), none, []⟩, 
  ⟨some 88, .mov (.tmp 87), none, []⟩, 
  ⟨some 89, .fieldAddr 0 (.tmp 9), (some (88, true)), []⟩, 
  ⟨some 90, .loadS (.tmp 89), (some (88, true)), []⟩, 
  ⟨some 91, .mov (.tmp 11), (some (88, true)), []⟩, 
  ⟨some 92, .bin .eql (.tmp 90) (.tmp 91), (some (88, true)), []⟩, 
  ⟨some 93, .mov (.tmp 92), (some (88, true)), []⟩, 
  ⟨some 94, .fieldAddr 0 (.tmp 9), (some (93, false)), []⟩, 
  ⟨some 95, .loadS (.tmp 94), (some (93, false)), []⟩, 
  ⟨some 96, .bin .eql (.tmp 95) (.const (.int .u8 0)), (some (93, false)), []⟩, 
  ⟨some 97, .pick (.tmp 93) (.const (.bool true)) (.tmp 96), (some (88, true)), []⟩, 
  ⟨some 98, .pick (.tmp 88) (.tmp 97) (.const (.bool false)), none, []⟩, 
  ⟨some 4, .mov (.tmp 98), none, []⟩] [85, 86, 87, 88, 89, 90, 91, 92, 93, 94, 95, 96, 97, 98])
 (.ret))))))))))
theorem ok6 : erase c6 = cCode Try.prog 99 ((Try.f6).body.getD .skip) := by kernel_rfl
theorem ord6 : ordsOk c6 = true := by kernel_rfl
theorem call6 {args : List SV} {h : Heap} {R : AEnd → Heap → Prop} (hn : Nat.ble args.length 99 = true) (hp : awp Try.prog c6 (finQ [.tmp 4] R) (argEnv 0 args) h) : ACall Try.prog 6 args h R :=
  acall_of_awp mixed Try.func6 rfl ord6 ok6 (by kernel_rfl) hn hp

/-- stagepost/stagepostlaw12.lives -/
def c7 : ACode :=
 .seq (.region [
  ⟨some 0, .mov (.const (.bool false)), none, []⟩] [])
 (.seq (.region [
  ⟨some 1, .call 8 [(.const (.int .i64 (-7)))], none, []⟩, 
  ⟨some 2, .call 8 [(.const (.int .i64 2))], none, []⟩, 
  ⟨some 3, .call 8 [(.const (.int .i64 (-3)))], none, []⟩, 
  ⟨some 4, .call 10 [(.const (.int .u8 6)), (.tmp 1), (.tmp 2), (.tmp 3)], none, []⟩, 
  ⟨some 5, .mov (.tmp 4), none, []⟩, 
  ⟨some 6, .build [(.int .u8 0), (.int .i64 0), (.str [])] [], (some (5, true)), []⟩, 
  ⟨some 7, .call 14 [(.const (.bool false))], (some (5, true)), []⟩, 
  ⟨some 8, .call 14 [(.const (.bool false))], (some (5, true)), []⟩, 
  ⟨some 9, .call 10 [(.const (.int .u8 15)), (.tmp 6), (.tmp 7), (.tmp 8)], (some (5, true)), []⟩, 
  ⟨some 10, .pick (.tmp 5) (.tmp 9) (.const (.bool false)), none, []⟩, 
  ⟨some 11, .mov (.tmp 10), none, []⟩, 
  ⟨some 12, .call 8 [(.const (.int .i64 1))], (some (11, true)), []⟩, 
  ⟨some 13, .call 8 [(.const (.int .i64 0))], (some (11, true)), []⟩, 
  ⟨some 14, .call 12 [(.const (.int .u8 6)), (.tmp 12), (.tmp 13), (.const (.int .i64 222))], (some (11, true)), []⟩, 
  ⟨some 15, .pick (.tmp 11) (.tmp 14) (.const (.bool false)), none, []⟩, 
  ⟨some 0, .mov (.tmp 15), none, []⟩] [1, 2, 3, 4, 5, 6, 7, 8, 9, 10, 11, 12, 13, 14, 15])
 (.ret))
theorem ok7 : erase c7 = cCode Try.prog 16 ((Try.f7).body.getD .skip) := by kernel_rfl
theorem ord7 : ordsOk c7 = true := by kernel_rfl
theorem call7 {args : List SV} {h : Heap} {R : AEnd → Heap → Prop} (hn : Nat.ble args.length 16 = true) (hp : awp Try.prog c7 (finQ [.tmp 0] R) (argEnv 0 args) h) : ACall Try.prog 7 args h R :=
  acall_of_awp mixed Try.func7 rfl ord7 ok7 (by kernel_rfl) hn hp

/-- stagepost/stagepostlaw12.number -/
def c8 : ACode :=
 .seq (.region [
  ⟨some 2, .box 3 (.const (.agg [(.int .u8 0), (.int .i64 0), (.str [])])), none, []⟩] [])
 (.seq (.region [
  ⟨some 3, .mov (.tmp 0), none, []⟩, 
  ⟨some 4, .build [(.int .u8 0), (.int .i64 0), (.str [])] [(0, 1, (.const (.int .u8 2))), (1, 1, (.tmp 3))], none, []⟩, 
  ⟨none, .store 3 (.tmp 2) (.tmp 4), none, []⟩] [3, 4])
 (.ret))
theorem ok8 : erase c8 = cCode Try.prog 5 ((Try.f8).body.getD .skip) := by kernel_rfl
theorem ord8 : ordsOk c8 = true := by kernel_rfl
theorem call8 {args : List SV} {h : Heap} {R : AEnd → Heap → Prop} (hn : Nat.ble args.length 5 = true) (hp : awp Try.prog c8 (finQ [.cellA 2 3] R) (argEnv 0 args) h) : ACall Try.prog 8 args h R :=
  acall_of_awp mixed Try.func8 rfl ord8 ok8 (by kernel_rfl) hn hp

/-- stagepost/stagepostlaw12.truth -/
def c14 : ACode :=
 .seq (.region [
  ⟨some 2, .box 3 (.const (.agg [(.int .u8 0), (.int .i64 0), (.str [])])), none, []⟩] [])
 (.seq (.seq (.region [
  ⟨some 3, .mov (.tmp 0), none, []⟩] [])
 (.cond (.tmp 3)
  (.seq (.region [
   ⟨some 4, .build [(.int .u8 0), (.int .i64 0), (.str [])] [(0, 1, (.const (.int .u8 1))), (1, 1, (.const (.int .i64 1)))], none, []⟩, 
   ⟨none, .store 3 (.tmp 2) (.tmp 4), none, []⟩] [4])
  (.ret))
  (.skip)))
 (.seq (.region [
  ⟨some 5, .build [(.int .u8 0), (.int .i64 0), (.str [])] [(0, 1, (.const (.int .u8 1)))], none, []⟩, 
  ⟨none, .store 3 (.tmp 2) (.tmp 5), none, []⟩] [5])
 (.ret)))
theorem ok14 : erase c14 = cCode Try.prog 6 ((Try.f14).body.getD .skip) := by kernel_rfl
theorem ord14 : ordsOk c14 = true := by kernel_rfl
theorem call14 {args : List SV} {h : Heap} {R : AEnd → Heap → Prop} (hn : Nat.ble args.length 6 = true) (hp : awp Try.prog c14 (finQ [.cellA 2 3] R) (argEnv 0 args) h) : ACall Try.prog 14 args h R :=
  acall_of_awp mixed Try.func14 rfl ord14 ok14 (by kernel_rfl) hn hp

/-- stagepost/stagepostlaw12.three -/
def c15 : ACode :=
 .seq (.region [
  ⟨some 2, .box 3 (.const (.agg [(.int .u8 0), (.int .i64 0), (.str [])])), none, []⟩] [])
 (.seq (.region [
  ⟨some 3, .mov (.tmp 0), none, []⟩, 
  ⟨some 4, .bin .rem (.tmp 3) (.const (.int .i64 3)), none, []⟩, 
  ⟨some 0, .mov (.tmp 4), none, []⟩] [3, 4])
 (.seq (.seq (.region [
  ⟨some 5, .mov (.tmp 0), none, []⟩] [])
 (.block 0 (.seq (.region [
   ⟨some 7, .bin .eql (.tmp 5) (.const (.int .i64 0)), none, []⟩, 
   ⟨some 6, .mov (.tmp 7), none, []⟩] [7])
  (.cond (.tmp 6)
   (.seq (.region [
    ⟨some 8, .build [(.int .u8 0), (.int .i64 0), (.str [])] [], none, []⟩, 
    ⟨none, .store 3 (.tmp 2) (.tmp 8), none, []⟩] [8])
   (.ret))
   (.seq (.seq (.region [
    ⟨some 10, .bin .eql (.tmp 5) (.const (.int .i64 1)), none, []⟩, 
    ⟨some 9, .mov (.tmp 10), none, []⟩] [10])
   (.cond (.tmp 9)
    (.skip)
    (.region [
     ⟨some 11, .bin .eql (.tmp 5) (.const (.int .i64 (-1))), none, []⟩, 
     ⟨some 9, .mov (.tmp 11), none, []⟩] [11])))
   (.cond (.tmp 9)
    (.seq (.region [
     ⟨some 12, .call 14 [(.const (.bool true))], none, []⟩, 
     ⟨none, .store 3 (.tmp 2) (.tmp 12), none, []⟩] [12])
    (.ret))
    (.skip)))))))
 (.seq (.region [
  ⟨some 13, .call 14 [(.const (.bool false))], none, []⟩, 
  ⟨none, .store 3 (.tmp 2) (.tmp 13), none, []⟩] [13])
 (.ret))))
theorem ok15 : erase c15 = cCode Try.prog 14 ((Try.f15).body.getD .skip) := by kernel_rfl
theorem ord15 : ordsOk c15 = true := by kernel_rfl
theorem call15 {args : List SV} {h : Heap} {R : AEnd → Heap → Prop} (hn : Nat.ble args.length 14 = true) (hp : awp Try.prog c15 (finQ [.cellA 2 3] R) (argEnv 0 args) h) : ACall Try.prog 15 args h R :=
  acall_of_awp mixed Try.func15 rfl ord15 ok15 (by kernel_rfl) hn hp

end Go.Proofs.Ytcklfcagailoiaa
