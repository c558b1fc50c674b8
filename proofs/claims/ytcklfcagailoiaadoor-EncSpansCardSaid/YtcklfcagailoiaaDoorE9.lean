/- The document's own stamp: its contract. -/
import Derived.Test.YtcklfcagailoiaaDoorE8
namespace Go.Proofs.YtcklfcagailoiaaDoor
open Ab Go.RowKit
set_option maxRecDepth 100000
set_option linter.unusedVariables false
set_option linter.unusedSimpArgs false
set_option pp.maxSteps 3000
theorem tabsS : TabsOk Tryd.prog [(32, t32), (70, t70)] := .cons tab32 (.cons tab70 .nil)
@[reducible] def brP (c : Bool) (f t : Prop) : Prop := @Bool.rec (fun _ => Prop) f t c
def byX (x : Int) (k : Nat) : UInt8 := byN (IntKind.u8.wrap (x.fdiv (2 ^ k)))
def stX (w l g : Int) : List UInt8 :=
  [byX (IntKind.u64.wrap (9223372036854775807 - IntKind.u64.wrap w)) 56, byX (IntKind.u64.wrap (9223372036854775807 - IntKind.u64.wrap w)) 48, byX (IntKind.u64.wrap (9223372036854775807 - IntKind.u64.wrap w)) 40, byX (IntKind.u64.wrap (9223372036854775807 - IntKind.u64.wrap w)) 32,
   byX (IntKind.u64.wrap (9223372036854775807 - IntKind.u64.wrap w)) 24, byX (IntKind.u64.wrap (9223372036854775807 - IntKind.u64.wrap w)) 16, byX (IntKind.u64.wrap (9223372036854775807 - IntKind.u64.wrap w)) 8, byX (IntKind.u64.wrap (9223372036854775807 - IntKind.u64.wrap w)) 0,
   byX (IntKind.u64.wrap (2147483647 - IntKind.u64.wrap l)) 24, byX (IntKind.u64.wrap (2147483647 - IntKind.u64.wrap l)) 16, byX (IntKind.u64.wrap (2147483647 - IntKind.u64.wrap l)) 8, byX (IntKind.u64.wrap (2147483647 - IntKind.u64.wrap l)) 0,
   byX (IntKind.u64.wrap (2147483647 - IntKind.u64.wrap g)) 24, byX (IntKind.u64.wrap (2147483647 - IntKind.u64.wrap g)) 16, byX (IntKind.u64.wrap (2147483647 - IntKind.u64.wrap g)) 8, byX (IntKind.u64.wrap (2147483647 - IntKind.u64.wrap g)) 0]
theorem refStamp_run {w l g : Int} {v : SV}
    (h : brP (decide (w < 0)) (brP (decide (1099511627776 < w)) (brP (decide (l < 0)) (brP (decide (1048576 < l)) (brP (decide (g < 0)) (brP (decide (1048576 < g))
      (AEnd.ret (.tup [.str (stX w l g), .int .i64 0]) = .ret v)
      (AEnd.ret (.tup [.str [], .int .i64 2]) = .ret v)) (AEnd.ret (.tup [.str [], .int .i64 2]) = .ret v)) (AEnd.ret (.tup [.str [], .int .i64 2]) = .ret v)) (AEnd.ret (.tup [.str [], .int .i64 2]) = .ret v)) (AEnd.ret (.tup [.str [], .int .i64 2]) = .ret v)) (AEnd.ret (.tup [.str [], .int .i64 2]) = .ret v)) :
    ACall Tryd.prog 32 [stV w l g] ⟨0, []⟩ (fun r _ => r = .ret v) :=
  (lvl_sound mixed tabsS 30).1.call _ _ _ _ (Eq.mpr (show (lvl Tryd.prog [(32, t32), (70, t70)] 30).1.call 32 [stV w l g] ⟨0, []⟩ (fun r _ => r = .ret v) =
    brP (decide (w < 0)) (brP (decide (1099511627776 < w)) (brP (decide (l < 0)) (brP (decide (1048576 < l)) (brP (decide (g < 0)) (brP (decide (1048576 < g))
      (AEnd.ret (.tup [.str (stX w l g), .int .i64 0]) = .ret v)
      (AEnd.ret (.tup [.str [], .int .i64 2]) = .ret v)) (AEnd.ret (.tup [.str [], .int .i64 2]) = .ret v)) (AEnd.ret (.tup [.str [], .int .i64 2]) = .ret v)) (AEnd.ret (.tup [.str [], .int .i64 2]) = .ret v)) (AEnd.ret (.tup [.str [], .int .i64 2]) = .ret v)) (AEnd.ret (.tup [.str [], .int .i64 2]) = .ret v) by kernel_rfl) h)
theorem stX_eq {w l g : Int} (h : stOk w l g = true) : stX w l g = stT w l g := by
  have hb := stOk_iff.1 h
  have e1 : IntKind.u64.wrap (9223372036854775807 - IntKind.u64.wrap w) = ((9223372036854775807 - w).toNat : Int) := by rw [wu64 (x := w) (by omega) (by omega), wu64 (by omega) (by omega)]; omega
  have e2 : ∀ l : Int, 0 ≤ l → l ≤ 1048576 → IntKind.u64.wrap (2147483647 - IntKind.u64.wrap l) = ((2147483647 - l).toNat : Int) := fun l h h' => by rw [wu64 (x := l) (by omega) (by omega), wu64 (by omega) (by omega)]; omega
  unfold stX byX
  rw [e1, e2 l (by omega) (by omega), e2 g (by omega) (by omega)]
  simp only [byN_be, stT, beB, List.cons_append, List.nil_append, Nat.reducePow]
theorem refStamp_any (w l g : Int) : PCall Tryd.prog 32 [stV w l g] (.tup [.str (if stOk w l g then stT w l g else []), .int .i64 (if stOk w l g then 0 else 2)]) := by
  refine pcall_of (lits1 (stLit w l g)) ((refStamp_run (v := .tup [.str (if stOk w l g then stT w l g else []), .int .i64 (if stOk w l g then 0 else 2)]) ?_).mono fun r h' hr => ⟨_, hr, .lit (lit2 (.str _) (.int _ _))⟩)
  have no : stOk w l g = false → AEnd.ret (.tup [.str [], .int .i64 2]) = AEnd.ret (.tup [.str (if stOk w l g then stT w l g else []), .int .i64 (if stOk w l g then 0 else 2)]) := fun h => by rw [h]; rfl
  have yes : stOk w l g = true → AEnd.ret (.tup [.str (stX w l g), .int .i64 0]) = AEnd.ret (.tup [.str (if stOk w l g then stT w l g else []), .int .i64 (if stOk w l g then 0 else 2)]) := fun h => by rw [stX_eq h, h]; rfl
  refine br (fun h1 => no ?_) fun h1 => br (fun h2 => no ?_) fun h2 => br (fun h3 => no ?_) fun h3 => br (fun h4 => no ?_) fun h4 => br (fun h5 => no ?_) fun h5 => br (fun h6 => no ?_) fun h6 => yes ?_
  all_goals simp only [decide_eq_true_eq, decide_eq_false_iff_not] at *
  all_goals unfold stOk
  all_goals first
    | (rw [decide_eq_true_eq]; omega)
    | (rw [decide_eq_false_iff_not]; omega)
end Go.Proofs.YtcklfcagailoiaaDoor
