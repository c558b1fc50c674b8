/- The laws themselves as runs: of numbers and of three-valued logic. -/
import Derived.Test.YtcklfcagailoiaaVa5
namespace Go.Proofs.Ytcklfcagailoiaa
open Ab Go.RowKit
set_option maxRecDepth 100000
set_option linter.unusedSimpArgs false
set_option maxHeartbeats 4000000

theorem hardV1' {A : Heap} {i g : Nat} {cap : Option Nat} {sk : Bool} {x : V} (ho : A.obj i = some (.vec g 3 [x.sv] sk)) : Hard A (.sl i g 3 0 1 cap) (oneV x) := hardV1 ho
theorem three_cases (n : Int) : three n = vnull ∨ three n = vbool true ∨ three n = vbool false := by
  unfold three
  split
  · exact .inl rfl
  · split
    · exact .inr (.inl rfl)
    · exact .inr (.inr rfl)
theorem logic_any (i j k : Int) : PCall Try.prog 5 [.int .i64 i, .int .i64 j, .int .i64 k] (.bool true) := by
  refine pcall_of (lits3 (.int _ _) (.int _ _) (.int _ _)) (call5 rfl ?_)
  have ti := three_any i
  have tj := three_any j
  have tk := three_any k
  rcases three_cases i with h | h | h <;> rw [h] at ti <;> clear h
  all_goals (rcases three_cases j with h | h | h <;> rw [h] at tj <;> clear h)
  all_goals (rcases three_cases k with h | h | h <;> rw [h] at tk <;> clear h)
  all_goals iterate 70 (all_goals (try conv => whnf); all_goals (try first | with_reducible refine brY (by assumption) ?_ | with_reducible refine brN (by assumption) ?_ | (with_reducible refine brT ?_ ?_; · (simp only [Bool.and_eq_true, Bool.not_eq_true', decide_eq_true_eq, decide_eq_false_iff_not, beq_iff_eq, beq_eq_false_iff_ne, ne_eq] at *; omega)) | with_reducible refine br (fun _ => ?_) (fun _ => ?_) | with_reducible refine ⟨rfl, ?_⟩ | with_reducible refine ARound.succ ?_ | with_reducible refine PCall.call (lives_any) ?_ | with_reducible refine PCall.call (ti) ?_ | with_reducible refine PCall.call (tj) ?_ | with_reducible refine PCall.call (tk) ?_ | with_reducible refine PCall.call (three_any _) ?_ | (refine PCall.call (do2 (by decide) (by decide) (by decide) (by decide) (by rfl)) ?_) | (refine PCall.call (do1 (by decide) (by decide) (by rfl)) ?_) | (refine ACall.frz2 (.int _ _) (hardV2 rfl) ?_) | (refine ACall.frz2 (.int _ _) (hardV1 rfl) ?_) | (refine PCall.call (is_any (by rfl) ⟨by decide, by decide⟩ ⟨by decide, by decide⟩ _) ?_) | with_reducible refine loop_rounds 5 ?_))
  all_goals exact leaf rfl (.bool _)
end Go.Proofs.Ytcklfcagailoiaa
