/- The contract of the kinds that operations give. -/
import Derived.Test.YtcklfcagailoiaaVa2
namespace Go.Proofs.Ytcklfcagailoiaa
open Ab Go.RowKit
set_option maxRecDepth 100000
set_option linter.unusedSimpArgs false
set_option maxHeartbeats 4000000

@[reducible] def lstK (l : List Int) : SV := .lst 1 l.length fun i => .int .u8 (l.getD i 0)
@[reducible] def K2 (p : Int × Int) : SV := .tup [.int .u8 p.1, .int .i64 p.2]
theorem K2_lit (p : Int × Int) : LitV (K2 p) := lit2 (.int _ _) (.int _ _)

theorem gives_bad (op : Int) (ks : List Int) (h : takes op = 0 ∨ (ks.length : Int) ≠ takes op) : PCall Try.prog 16 [.int .u8 op, lstK ks] (K2 (givesI op ks)) := by
  refine pcall_of (lits2 (.int _ _) (.lst _ _ _)) (call16 rfl ?_)
  have e : givesI op ks = (0, 2) := by unfold givesI; rw [if_pos h]
  rw [e]
  iterate 8 (all_goals (try conv => whnf); all_goals (try first | with_reducible refine brY (by assumption) ?_ | with_reducible refine brN (by assumption) ?_ | (with_reducible refine brT ?_ ?_; · (simp only [Bool.and_eq_true, Bool.not_eq_true', decide_eq_true_eq, decide_eq_false_iff_not, beq_iff_eq, beq_eq_false_iff_ne, ne_eq] at *; omega)) | with_reducible refine br (fun _ => ?_) (fun _ => ?_) | with_reducible refine ⟨rfl, ?_⟩ | with_reducible refine ARound.succ ?_ | with_reducible refine PCall.call (takes_any _) ?_))
  · exact leaf rfl (K2_lit _)
  · exact leaf rfl (K2_lit _)
  · exfalso
    simp only [beq_iff_eq, beq_eq_false_iff_ne, cond_false, bne_eq_false_iff_eq, ne_eq] at *
    omega

theorem takes1 {op : Int} (h : takes op = 1) : op = 17 ∨ op = 18 ∨ op = 19 ∨ op = 20 := by
  unfold takes at h
  split at h
  · omega
  · split at h <;> omega
theorem takes2 {op : Int} (h : takes op = 2) : op = 3 ∨ op = 4 ∨ op = 5 ∨ op = 6 ∨ op = 7 ∨ op = 8 ∨ op = 9 ∨ op = 10 ∨ op = 11 ∨ op = 12 ∨ op = 13 ∨ op = 14 ∨ op = 15 ∨ op = 16 := by
  unfold takes at h
  split at h
  · omega
  · split at h <;> omega
@[reducible] def oneK (a : Int) : SV := .lst 1 1 fun i => .int .u8 (List.getD [a] i 0)
@[reducible] def twoK (a b : Int) : SV := .lst 1 2 fun i => .int .u8 (List.getD [a, b] i 0)

theorem gives1 (op a : Int) (h : takes op = 1) : PCall Try.prog 16 [.int .u8 op, oneK a] (K2 (givesI op [a])) := by
  refine pcall_of (lits2 (.int _ _) (.lst _ _ _)) (call16 rfl ?_)
  rcases takes1 h with rfl | rfl | rfl | rfl
  all_goals iterate 30 (all_goals (try conv => whnf); all_goals (try first | with_reducible refine brY (by assumption) ?_ | with_reducible refine brN (by assumption) ?_ | (with_reducible refine brT ?_ ?_; · (simp only [Bool.and_eq_true, Bool.not_eq_true', decide_eq_true_eq, decide_eq_false_iff_not, beq_iff_eq, beq_eq_false_iff_ne, ne_eq] at *; omega)) | with_reducible refine br (fun _ => ?_) (fun _ => ?_) | with_reducible refine ⟨rfl, ?_⟩ | with_reducible refine ARound.succ ?_ | with_reducible refine PCall.call (takes_any _) ?_ | (with_reducible refine call28 rfl ?_) | with_reducible refine loop_rounds 5 ?_))
  all_goals (refine leaf ?_ (K2_lit _); simp_all [givesI, takes, allK, IntKind.wrap_i64])
  all_goals (rw [if_neg (by omega)]; exact ⟨rfl, rfl⟩)

theorem gives2 (op a b : Int) (h : takes op = 2) : PCall Try.prog 16 [.int .u8 op, twoK a b] (K2 (givesI op [a, b])) := by
  refine pcall_of (lits2 (.int _ _) (.lst _ _ _)) (call16 rfl ?_)
  rcases takes2 h with rfl | rfl | rfl | rfl | rfl | rfl | rfl | rfl | rfl | rfl | rfl | rfl | rfl | rfl
  all_goals iterate 44 (all_goals (try conv => whnf); all_goals (try first | with_reducible refine brY (by assumption) ?_ | with_reducible refine brN (by assumption) ?_ | (with_reducible refine brT ?_ ?_; · (simp only [Bool.and_eq_true, Bool.not_eq_true', decide_eq_true_eq, decide_eq_false_iff_not, beq_iff_eq, beq_eq_false_iff_ne, ne_eq] at *; omega)) | with_reducible refine br (fun _ => ?_) (fun _ => ?_) | with_reducible refine ⟨rfl, ?_⟩ | with_reducible refine ARound.succ ?_ | with_reducible refine PCall.call (takes_any _) ?_ | (with_reducible refine call28 rfl ?_) | with_reducible refine loop_rounds 5 ?_))
  all_goals (refine leaf ?_ (K2_lit _); simp_all [givesI, takes, allK, IntKind.wrap_i64])
  all_goals (constructor <;> (repeat' split) <;> first | rfl | omega)
end Go.Proofs.Ytcklfcagailoiaa
