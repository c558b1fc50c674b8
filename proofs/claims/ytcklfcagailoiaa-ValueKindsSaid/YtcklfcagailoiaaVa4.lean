/- The contract of the operations. -/
import Derived.Test.YtcklfcagailoiaaVa3
namespace Go.Proofs.Ytcklfcagailoiaa
open Ab Go.RowKit
set_option maxRecDepth 100000
set_option linter.unusedSimpArgs false
set_option maxHeartbeats 4000000

@[reducible] def oneV (x : V) : SV := .lst 3 1 fun i => (List.getD [x] i vnull).sv
@[reducible] def twoV (x y : V) : SV := .lst 3 2 fun i => (List.getD [x, y] i vnull).sv
theorem hardK1 {A : Heap} {i g : Nat} {cap : Option Nat} {sk : Bool} {a : Int} (ho : A.obj i = some (.vec g 1 [.int .u8 a] sk)) : Hard A (.sl i g 1 0 1 cap) (oneK a) :=
  hard_all ho ⟨rfl, .int _ _, trivial⟩
theorem hardK2 {A : Heap} {i g : Nat} {cap : Option Nat} {sk : Bool} {a b : Int} (ho : A.obj i = some (.vec g 1 [.int .u8 a, .int .u8 b] sk)) : Hard A (.sl i g 1 0 2 cap) (twoK a b) :=
  hard_all ho ⟨rfl, .int _ _, rfl, .int _ _, trivial⟩
theorem hardV2 {A : Heap} {i g : Nat} {cap : Option Nat} {sk : Bool} {x y : V} (ho : A.obj i = some (.vec g 3 [x.sv, y.sv] sk)) : Hard A (.sl i g 3 0 2 cap) (twoV x y) :=
  hard_all ho ⟨rfl, V.lit _, rfl, V.lit _, trivial⟩
theorem hardV1 {A : Heap} {i g : Nat} {cap : Option Nat} {sk : Bool} {x : V} (ho : A.obj i = some (.vec g 3 [x.sv] sk)) : Hard A (.sl i g 3 0 1 cap) (oneV x) :=
  hard_all ho ⟨rfl, V.lit _, trivial⟩
theorem hardFst {A : Heap} {x y : V} : Hard A (.lst 3 1 fun i => (List.getD [x, y] (0 + i) vnull).sv) (lstV [x]) := .same fun j hj => by
  have : j = 0 := by omega
  subst this; rfl
theorem hardSnd {A : Heap} {x y : V} : Hard A (.lst 3 1 fun i => (List.getD [x, y] (1 + i) vnull).sv) (lstV [y]) := .same fun j hj => by
  have : j = 0 := by omega
  subst this; rfl

theorem gd0 (x y : V) : List.getD [x, y] (Int.toNat 0) vnull = x := rfl
theorem gd1 (x y : V) : List.getD [x, y] (IntKind.i64.wrap (0 + 1)).toNat vnull = y := by rw [IntKind.wrap_i64]; rfl
theorem ge0 (x : V) : List.getD [x] (Int.toNat 0) vnull = x := rfl
theorem gd2 (x y : V) : List.getD [x, y] (Int.toNat 1) vnull = y := rfl
theorem chk_len {x : V} (h : (chk x != 0) = false) : x.t.length ≤ 64 := by
  unfold chk at h
  split at h
  · rename_i hk
    unfold okV at hk
    (repeat' split at hk) <;> simp_all
  · simp at h

section
variable {x y : V} (hx : -9223372036854775808 ≤ x.n) (hx' : x.n ≤ 9223372036854775807) (hy : -9223372036854775808 ≤ y.n) (hy' : y.n ≤ 9223372036854775807)
include hx hx' hy hy'
theorem do2 {op : Int} (h : takes op = 2) : PCall Try.prog 9 [.int .u8 op, twoV x y] (V.two (doV op [x, y])) := by
  refine pcall_of (lits2 (.int _ _) (.lst _ _ _)) (call9 rfl ?_)
  rcases takes2 h with rfl | rfl | rfl | rfl | rfl | rfl | rfl | rfl | rfl | rfl | rfl | rfl | rfl | rfl
  all_goals iterate 30 (all_goals (try conv => whnf); all_goals (try first | with_reducible refine brY (by assumption) ?_ | with_reducible refine brN (by assumption) ?_ | (with_reducible refine brT ?_ ?_; · (simp only [Bool.and_eq_true, Bool.not_eq_true', decide_eq_true_eq, decide_eq_false_iff_not, beq_iff_eq, beq_eq_false_iff_ne, ne_eq] at *; omega)) | with_reducible refine br (fun _ => ?_) (fun _ => ?_) | with_reducible refine ⟨rfl, ?_⟩ | with_reducible refine ARound.succ ?_ | with_reducible refine PCall.call (takes_any _) ?_ | with_reducible refine PCall.call (check_any _) ?_ | with_reducible refine PCall.call (check_any x) ?_ | with_reducible refine PCall.call (check_any y) ?_ | with_reducible refine PCall.call (gives2 _ _ _ rfl) ?_ | with_reducible refine PCall.call (truth_any _) ?_ | with_reducible refine PCall.call (true_any x) ?_ | with_reducible refine PCall.call (true_any y) ?_ | with_reducible refine PCall.call (false0_any x) ?_ | with_reducible refine PCall.call (false0_any y) ?_ | (refine PCall.call (true_any x) ?_) | (refine PCall.call (true_any y) ?_) | (refine PCall.call (false0_any x) ?_) | (refine PCall.call (false0_any y) ?_) | (refine PCall.call (number3 hx hx' hy hy') ?_) | (refine PCall.call (number4 hx hx' hy hy' (.inl rfl)) ?_) | (refine PCall.call (number5 hx hx' hy hy') ?_) | (refine PCall.call (number6 hx hx' hy hy') ?_) | (refine PCall.call (number7 hy hy') ?_) | (with_reducible refine ACall.frz (fun i => Nat.beq i 2) (.cons (.lit (.int _ _)) (.cons (hardK2 rfl) .nil)) ?_) | with_reducible refine PCall.call (compare_any [x] [y] (by simp)) ?_ | (refine ACall.frz (fun i => false) (.cons hardFst (.cons hardSnd .nil)) ?_) | with_reducible refine PCall.call (holds_any _ _) ?_ | with_reducible refine loop_rounds 5 ?_))
  all_goals simp only [gd0, gd1, gd2] at *
  all_goals try (have h1 := chk_len (x := x) (by assumption); have h2 := chk_len (x := y) (by assumption))
  all_goals first | refine leaf ?_ (V.two_lit _) | (exfalso; have h3 : ¬ (x.t.length + y.t.length ≤ 9223372036854775807) := of_decide_eq_false (by assumption); omega)
  all_goals simp_all [doV, takes, chk, doOn, V.two, V.sv, vnull, vbool, vint, cond_false, cond_true]
  · rw [if_pos (by omega)]; exact ⟨⟨rfl, rfl, rfl⟩, rfl⟩
  · rw [if_neg (by omega)]; exact ⟨⟨rfl, rfl, rfl⟩, rfl⟩
end

section
variable {x : V} (hx : -9223372036854775808 ≤ x.n) (hx' : x.n ≤ 9223372036854775807)
include hx hx'
theorem do1 {op : Int} (h : takes op = 1) : PCall Try.prog 9 [.int .u8 op, oneV x] (V.two (doV op [x])) := by
  refine pcall_of (lits2 (.int _ _) (.lst _ _ _)) (call9 rfl ?_)
  rcases takes1 h with rfl | rfl | rfl | rfl
  all_goals iterate 30 (all_goals (try conv => whnf); all_goals (try first | with_reducible refine brY (by assumption) ?_ | with_reducible refine brN (by assumption) ?_ | (with_reducible refine brT ?_ ?_; · (simp only [Bool.and_eq_true, Bool.not_eq_true', decide_eq_true_eq, decide_eq_false_iff_not, beq_iff_eq, beq_eq_false_iff_ne, ne_eq] at *; omega)) | with_reducible refine br (fun _ => ?_) (fun _ => ?_) | with_reducible refine ⟨rfl, ?_⟩ | with_reducible refine ARound.succ ?_ | with_reducible refine PCall.call (takes_any _) ?_ | with_reducible refine PCall.call (check_any _) ?_ | with_reducible refine PCall.call (check_any x) ?_ | with_reducible refine PCall.call (gives1 _ _ rfl) ?_ | with_reducible refine PCall.call (truth_any _) ?_ | with_reducible refine PCall.call (true_any x) ?_ | (refine PCall.call (true_any x) ?_) | (refine PCall.call (number4 (by omega) (by omega) hx hx' (.inr rfl)) ?_) | (with_reducible refine ACall.frz (fun i => Nat.beq i 2) (.cons (.lit (.int _ _)) (.cons (hardK1 rfl) .nil)) ?_) | with_reducible refine loop_rounds 5 ?_))
  all_goals simp only [ge0] at *
  all_goals refine leaf ?_ (V.two_lit _)
  all_goals simp_all [doV, takes, chk, doOn, V.two, V.sv, vnull, vbool, vint, cond_false, cond_true]
  all_goals trace_state
end

theorem do_bad (op : Int) (l : List V) (h : takes op = 0 ∨ (l.length : Int) ≠ takes op) : PCall Try.prog 9 [.int .u8 op, lstV l] (V.two (doV op l)) := by
  refine pcall_of (lits2 (.int _ _) (.lst _ _ _)) (call9 rfl ?_)
  have e : doV op l = (vnull, 2) := by unfold doV; rw [if_pos h]
  rw [e]
  iterate 10 (all_goals (try conv => whnf); all_goals (try first | with_reducible refine brY (by assumption) ?_ | with_reducible refine brN (by assumption) ?_ | (with_reducible refine brT ?_ ?_; · (simp only [Bool.and_eq_true, Bool.not_eq_true', decide_eq_true_eq, decide_eq_false_iff_not, beq_iff_eq, beq_eq_false_iff_ne, ne_eq] at *; omega)) | with_reducible refine br (fun _ => ?_) (fun _ => ?_) | with_reducible refine ⟨rfl, ?_⟩ | with_reducible refine ARound.succ ?_ | with_reducible refine PCall.call (takes_any _) ?_))
  · exact leaf rfl (V.two_lit _)
  · exact leaf rfl (V.two_lit _)
  all_goals exfalso
  all_goals simp only [beq_iff_eq, beq_eq_false_iff_ne, cond_false, bne_eq_false_iff_eq, ne_eq] at *
  all_goals omega
end Go.Proofs.Ytcklfcagailoiaa
