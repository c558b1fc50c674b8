/- Sums, products and quotients: a case of the law's run. -/
import Derived.Test.YtcklfcagailoiaaVa7
namespace Go.Proofs.Ytcklfcagailoiaa
open Ab Go.RowKit
set_option maxRecDepth 100000
set_option linter.unusedSimpArgs false
set_option maxHeartbeats 4000000
section
variable {a b : Int} (ha : -9223372036854775808 ≤ a ∧ a ≤ 9223372036854775807) (hb : -9223372036854775808 ≤ b ∧ b ≤ 9223372036854775807)
include ha hb
theorem numbers_product (h3 : ¬ (-9223372036854775808 ≤ a + b ∧ a + b ≤ 9223372036854775807)) (h5 : (-9223372036854775808 ≤ a * b ∧ a * b ≤ 9223372036854775807)) (hz : b ≠ 0)
    {q r : Int} (h6 : numV 6 a b = (vint q, 0)) (h7 : numV 7 a b = (vint r, 0)) (hq : -9223372036854775808 ≤ q ∧ q ≤ 9223372036854775807) (hr : -9223372036854775808 ≤ r ∧ r ≤ 9223372036854775807)
    (ht : -9223372036854775808 ≤ q * b ∧ q * b ≤ 9223372036854775807) (hs : r ≠ 0 → (r < 0 ↔ a < 0)) (hqr : q * b + r = a) :
    PCall Try.prog 3 [.int .i64 a, .int .i64 b] (.bool true) := by
  have e3 : True := trivial
  have e5 : IntKind.i64.wrap (a * b) = a * b := by rw [IntKind.wrap_i64]; generalize a * b = p at *; omega
  refine pcall_of (lits2 (.int _ _) (.int _ _)) (call3 rfl ?_)
  have c3 := do_int (op := 3) (by decide) (by decide) ha hb (num3n h3)
  have c5 := do_int (op := 5) (by decide) (by decide) ha hb (num5 h5)
  have c6 := do_int (op := 6) (by decide) (by decide) ha hb h6
  have c7 := do_int (op := 7) (by decide) (by decide) ha hb h7
  have ct := do_int (op := 5) (by decide) (by decide) hq hb (num5 ht)
  have i3 := is_int (op := 3) (c := a) (by decide) (by decide) ht hr (by rw [num3 (by rw [hqr]; exact ha), hqr])
  have i6 := is_int (op := 6) (c := a) (by decide) (by decide) h5 hb (by rw [num6 hz (by rw [Int.mul_tdiv_cancel a hz]; exact ha), Int.mul_tdiv_cancel a hz])
  iterate 60 (all_goals (try conv => whnf); all_goals (try first | with_reducible refine brY (by assumption) ?_ | with_reducible refine brN (by assumption) ?_ | (with_reducible refine brT ?_ ?_; · (simp only [Bool.and_eq_true, Bool.not_eq_true', decide_eq_true_eq, decide_eq_false_iff_not, beq_iff_eq, beq_eq_false_iff_ne, ne_eq] at *; omega)) | with_reducible refine br (fun _ => ?_) (fun _ => ?_) | with_reducible refine ⟨rfl, ?_⟩ | with_reducible refine ARound.succ ?_ | with_reducible refine PCall.call (lives_any) ?_ | with_reducible refine PCall.call (numberL_any _) ?_ | (refine ACall.frz2 (.int _ _) (hardV2 (x := vint a) (y := vint b) rfl) ?_) | (refine ACall.frz2 (.int _ _) (hardV2 (x := vint q) (y := vint b) rfl) ?_) | (refine PCall.call c3 ?_) | (refine PCall.call c5 ?_) | (refine PCall.call c6 ?_) | (refine PCall.call c7 ?_) | (refine PCall.call ct ?_) | (refine PCall.call i3 ?_) | (refine PCall.call i6 ?_)))
  all_goals first
    | exact leaf rfl (.bool _)
    | (exfalso; clear h6 h7 c3 c5 c6 c7 ct i3 i6; simp [vint, vnull, e3, e5] at *; done)
    | (exfalso; clear h6 h7 c3 c5 c6 c7 ct i3 i6; simp [vint, vnull, e3, e5] at *; rename_i hx; apply hx; have hs1 := hs (by assumption); by_cases hr0 : r < 0 <;> by_cases ha0 : a < 0 <;> simp [hr0, ha0] <;> omega)
    | (exfalso; clear h6 h7 c3 c5 c6 c7 ct i3 i6; simp [vint, vnull, e3, e5] at *; omega)
    | (exfalso; exact e5 (of_decide_eq_true (by assumption)) (of_decide_eq_true (by assumption)) (of_decide_eq_true (by assumption)) (of_decide_eq_true (by assumption)))
end
end Go.Proofs.Ytcklfcagailoiaa
