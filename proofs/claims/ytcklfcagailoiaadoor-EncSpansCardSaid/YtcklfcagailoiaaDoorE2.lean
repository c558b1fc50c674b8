/- The law EncAfter as a run. -/
import Derived.Test.YtcklfcagailoiaaDoorE1
import Derived.Test.YtcklfcagailoiaaDoorEl
namespace Go.Proofs.YtcklfcagailoiaaDoor
open Ab
set_option maxRecDepth 100000
set_option linter.unusedVariables false
set_option linter.unusedSimpArgs false
theorem encAfter_any {s t : List UInt8} (hs : s.length ≤ 9223372036854775807) (ht : t.length ≤ 9223372036854775807) : PCall Tryd.prog 4 [.str s, .str t] (.bool true) := by
  have k1 : inB t s (afterR s) = (decide (s.length ≤ t.length) && (t.take s.length == s)) := by rw [in_after, prefix_take]
  have k2 : afterR s ≠ [] → strLess (afterR s) s = false ∧ (afterR s == s) = false ∧ (s.length ≤ (afterR s).length → ((afterR s).take s.length == s) = false) := fun h => by
    obtain ⟨h1, h2⟩ := after_above s h
    refine ⟨less_asymm h1, less_ne h1, fun hl => ?_⟩
    rw [prefix_take] at h2
    simpa [hl] using h2
  refine pcall_of (lits2 (.str _) (.str _)) (call4 rfl ?_)
  iterate 30 (all_goals (try conv => whnf); all_goals (try first | with_reducible refine brY (by assumption) ?_ | with_reducible refine brN (by assumption) ?_ | (with_reducible refine brT ?_ ?_; · (simp only [Bool.and_eq_true, Bool.not_eq_true', decide_eq_true_eq, decide_eq_false_iff_not, beq_iff_eq, beq_eq_false_iff_ne, ne_eq] at *; omega)) | with_reducible refine br (fun _ => ?_) (fun _ => ?_) | with_reducible refine ⟨rfl, ?_⟩ | with_reducible refine ARound.succ ?_ | with_reducible refine PCall.call (after_any hs) ?_ | with_reducible refine PCall.call (lives_any) ?_ | with_reducible refine PCall.call (in_any _ _ _) ?_))
  all_goals simp only [Int.toNat_natCast, Int.toNat_zero, Nat.sub_zero, List.drop_zero, decide_eq_true_eq, decide_eq_false_iff_not, Int.ofNat_le, Int.ofNat_lt] at *
  all_goals first
    | exact leaf rfl (.bool _)
    | (exfalso
       by_cases hl : s.length ≤ t.length
       · have hl' : ¬ t.length < s.length := by omega
         simp [k1, hl, hl'] at *
         done
       · simp [k1, hl] at *
         done)
    | (exfalso
       have hne : afterR s ≠ [] := by simpa using (by assumption : (afterR s == []) = false)
       obtain ⟨h1, h2, h3⟩ := k2 hne
       simp [h1, h2] at *
       done)
    | (have hne : afterR s ≠ [] := by simpa using (by assumption : (afterR s == []) = false)
       obtain ⟨h1, h2, h3⟩ := k2 hne
       exact leaf (by rw [h3 (by omega)]; rfl) (.bool _))
    | trace_state
end Go.Proofs.YtcklfcagailoiaaDoor
