/- The contracts of the laws' own helpers. -/
import Derived.Test.YtcklfcagailoiaaVa4
namespace Go.Proofs.Ytcklfcagailoiaa
open Ab Go.RowKit
set_option maxRecDepth 100000
set_option linter.unusedSimpArgs false
set_option maxHeartbeats 4000000

theorem numberL_any (n : Int) : PCall Try.prog 8 [.int .i64 n] (vint n).sv := by
  refine pcall_of (lits1 (.int _ _)) (call8 rfl ?_)
  iterate 2 (all_goals (try conv => whnf); all_goals (try first | with_reducible refine brY (by assumption) ?_ | with_reducible refine brN (by assumption) ?_ | (with_reducible refine brT ?_ ?_; · (simp only [Bool.and_eq_true, Bool.not_eq_true', decide_eq_true_eq, decide_eq_false_iff_not, beq_iff_eq, beq_eq_false_iff_ne, ne_eq] at *; omega)) | with_reducible refine br (fun _ => ?_) (fun _ => ?_) | with_reducible refine ⟨rfl, ?_⟩ | with_reducible refine ARound.succ ?_))
  exact leaf rfl (V.lit _)
theorem truthL_any (b : Bool) : PCall Try.prog 14 [.bool b] (vbool b).sv := by
  refine pcall_of (lits1 (.bool _)) (call14 rfl ?_)
  cases b
  · iterate 2 (all_goals (try conv => whnf); all_goals (try first | with_reducible refine brY (by assumption) ?_ | with_reducible refine brN (by assumption) ?_ | (with_reducible refine brT ?_ ?_; · (simp only [Bool.and_eq_true, Bool.not_eq_true', decide_eq_true_eq, decide_eq_false_iff_not, beq_iff_eq, beq_eq_false_iff_ne, ne_eq] at *; omega)) | with_reducible refine br (fun _ => ?_) (fun _ => ?_) | with_reducible refine ⟨rfl, ?_⟩ | with_reducible refine ARound.succ ?_))
    exact leaf rfl (V.lit _)
  · iterate 2 (all_goals (try conv => whnf); all_goals (try first | with_reducible refine brY (by assumption) ?_ | with_reducible refine brN (by assumption) ?_ | (with_reducible refine brT ?_ ?_; · (simp only [Bool.and_eq_true, Bool.not_eq_true', decide_eq_true_eq, decide_eq_false_iff_not, beq_iff_eq, beq_eq_false_iff_ne, ne_eq] at *; omega)) | with_reducible refine br (fun _ => ?_) (fun _ => ?_) | with_reducible refine ⟨rfl, ?_⟩ | with_reducible refine ARound.succ ?_))
    exact leaf rfl (V.lit _)
def three (n : Int) : V := if n.tmod 3 = 0 then vnull else if n.tmod 3 = 1 ∨ n.tmod 3 = -1 then vbool true else vbool false
theorem three_any (n : Int) : PCall Try.prog 15 [.int .i64 n] (three n).sv := by
  refine pcall_of (lits1 (.int _ _)) (call15 rfl ?_)
  iterate 8 (all_goals (try conv => whnf); all_goals (try first | with_reducible refine brY (by assumption) ?_ | with_reducible refine brN (by assumption) ?_ | (with_reducible refine brT ?_ ?_; · (simp only [Bool.and_eq_true, Bool.not_eq_true', decide_eq_true_eq, decide_eq_false_iff_not, beq_iff_eq, beq_eq_false_iff_ne, ne_eq] at *; omega)) | with_reducible refine br (fun _ => ?_) (fun _ => ?_) | with_reducible refine ⟨rfl, ?_⟩ | with_reducible refine ARound.succ ?_ | with_reducible refine PCall.call (truthL_any _) ?_))
  all_goals refine leaf ?_ (V.lit _)
  all_goals simp_all [three, V.sv, vnull, vbool]

structure V.In (v : V) : Prop where
  lo : -9223372036854775808 ≤ v.n
  hi : v.n ≤ 9223372036854775807
def isV (op : Int) (a b w : V) : Bool := (doV op [a, b]).2 == 0 && eqV (doV op [a, b]).1 w
def failsV (op : Int) (a b : V) (e : Int) : Bool := (doV op [a, b]).2 == e && eqV (doV op [a, b]).1 vnull
theorem lits4' {a b c d : SV} (ha : LitV a) (hb : LitV b) (hc : LitV c) (hd : LitV d) : ∀ x ∈ [a, b, c, d], LitV x := lits4 ha hb hc hd
theorem is_any {op : Int} (h : takes op = 2) {a b : V} (ha : a.In) (hb : b.In) (w : V) : PCall Try.prog 10 [.int .u8 op, a.sv, b.sv, w.sv] (.bool (isV op a b w)) := by
  refine pcall_of (lits4 (.int _ _) (V.lit _) (V.lit _) (V.lit _)) (call10 rfl ?_)
  iterate 12 (all_goals (try conv => whnf); all_goals (try first | with_reducible refine brY (by assumption) ?_ | with_reducible refine brN (by assumption) ?_ | (with_reducible refine brT ?_ ?_; · (simp only [Bool.and_eq_true, Bool.not_eq_true', decide_eq_true_eq, decide_eq_false_iff_not, beq_iff_eq, beq_eq_false_iff_ne, ne_eq] at *; omega)) | with_reducible refine br (fun _ => ?_) (fun _ => ?_) | with_reducible refine ⟨rfl, ?_⟩ | with_reducible refine ARound.succ ?_ | with_reducible refine PCall.call (do2 ha.lo ha.hi hb.lo hb.hi h) ?_ | (refine ACall.frz (fun i => Nat.beq i 3) (.cons (.lit (.int _ _)) (.cons (hardV2 (x := a) (y := b) rfl) .nil)) ?_)))
  all_goals refine leaf ?_ (.bool _)
  all_goals simp_all [isV, eqV, eq3]
theorem fails_any {op : Int} (h : takes op = 2) {a b : V} (ha : a.In) (hb : b.In) (e : Int) : PCall Try.prog 12 [.int .u8 op, a.sv, b.sv, .int .i64 e] (.bool (failsV op a b e)) := by
  refine pcall_of (lits4 (.int _ _) (V.lit _) (V.lit _) (.int _ _)) (call12 rfl ?_)
  iterate 12 (all_goals (try conv => whnf); all_goals (try first | with_reducible refine brY (by assumption) ?_ | with_reducible refine brN (by assumption) ?_ | (with_reducible refine brT ?_ ?_; · (simp only [Bool.and_eq_true, Bool.not_eq_true', decide_eq_true_eq, decide_eq_false_iff_not, beq_iff_eq, beq_eq_false_iff_ne, ne_eq] at *; omega)) | with_reducible refine br (fun _ => ?_) (fun _ => ?_) | with_reducible refine ⟨rfl, ?_⟩ | with_reducible refine ARound.succ ?_ | with_reducible refine PCall.call (do2 ha.lo ha.hi hb.lo hb.hi h) ?_ | (refine ACall.frz (fun i => Nat.beq i 2) (.cons (.lit (.int _ _)) (.cons (hardV2 (x := a) (y := b) rfl) .nil)) ?_)))
  all_goals refine leaf ?_ (.bool _)
  all_goals simp_all [failsV, eqV, vnull, eq3]
theorem vint_in {n : Int} (h : -9223372036854775808 ≤ n) (h' : n ≤ 9223372036854775807) : (vint n).In := ⟨h, h'⟩
theorem vbool_in (b : Bool) : (vbool b).In := ⟨by cases b <;> decide, by cases b <;> decide⟩
theorem vnull_in : vnull.In := ⟨by decide, by decide⟩
theorem three_in (n : Int) : (three n).In := by
  unfold three
  split
  · exact vnull_in
  · split
    · exact vbool_in _
    · exact vbool_in _
theorem lives_any : PCall Try.prog 7 [] (.bool true) := by
  refine pcall_of (fun _ h => by simp at h) (call7 rfl ?_)
  iterate 16 (all_goals (try conv => whnf); all_goals (try first | with_reducible refine brY (by assumption) ?_ | with_reducible refine brN (by assumption) ?_ | (with_reducible refine brT ?_ ?_; · (simp only [Bool.and_eq_true, Bool.not_eq_true', decide_eq_true_eq, decide_eq_false_iff_not, beq_iff_eq, beq_eq_false_iff_ne, ne_eq] at *; omega)) | with_reducible refine br (fun _ => ?_) (fun _ => ?_) | with_reducible refine ⟨rfl, ?_⟩ | with_reducible refine ARound.succ ?_ | with_reducible refine PCall.call (numberL_any _) ?_ | with_reducible refine PCall.call (truthL_any _) ?_ | with_reducible refine PCall.call (is_any (op := 6) rfl (vint_in (by omega) (by omega)) (vint_in (by omega) (by omega)) _) ?_ | (refine PCall.call (is_any (op := 15) rfl vnull_in (vbool_in false) (vbool false)) ?_) | with_reducible refine PCall.call (fails_any (op := 6) rfl (vint_in (by omega) (by omega)) (vint_in (by omega) (by omega)) _) ?_))
  exact leaf (by rfl) (.bool _)
end Go.Proofs.Ytcklfcagailoiaa
