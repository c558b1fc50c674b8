/- Sums, products and quotients are those of whole numbers, or are refused: the law's run, all cases. -/
import Derived.Test.YtcklfcagailoiaaVa7b
import Derived.Test.YtcklfcagailoiaaVa7c
import Derived.Test.YtcklfcagailoiaaVa7d
namespace Go.Proofs.Ytcklfcagailoiaa
open Ab Go.RowKit

theorem numbers_any {a b : Int} (ha : -9223372036854775808 ≤ a ∧ a ≤ 9223372036854775807) (hb : -9223372036854775808 ≤ b ∧ b ≤ 9223372036854775807) :
    PCall Try.prog 3 [.int .i64 a, .int .i64 b] (.bool true) := by
  by_cases hz : b = 0
  · exact numbers_zero ha hb hz
  by_cases ho : a = -9223372036854775808 ∧ b = -1
  · obtain ⟨rfl, rfl⟩ := ho
    exact numbers_least
  have hq : -9223372036854775808 ≤ a.tdiv b ∧ a.tdiv b ≤ 9223372036854775807 := by
    by_cases h1 : b = -1
    · subst h1; rw [Int.tdiv_neg, Int.tdiv_one]; omega
    · exact tdiv_in ha.1 ha.2 hb.1 hb.2 hz h1
  have h6 := num6 hz hq
  have h7 := num7 (a := a) hz
  have hr := tmod_in (b := b) ha.1 ha.2
  have ht := quo_back (b := b) ha.1 ha.2
  have hs : a.tmod b ≠ 0 → (a.tmod b < 0 ↔ a < 0) := fun h => tmod_sign h
  have hqr := quo_rem a b
  by_cases h3 : -9223372036854775808 ≤ a + b ∧ a + b ≤ 9223372036854775807 <;> by_cases h5 : -9223372036854775808 ≤ a * b ∧ a * b ≤ 9223372036854775807
  · exact numbers_fit ha hb h3 h5 hz h6 h7 hq hr ht hs hqr
  · exact numbers_sum ha hb h3 h5 hz h6 h7 hq hr ht hs hqr
  · exact numbers_product ha hb h3 h5 hz h6 h7 hq hr ht hs hqr
  · exact numbers_none ha hb h3 h5 hz h6 h7 hq hr ht hs hqr
end Go.Proofs.Ytcklfcagailoiaa
