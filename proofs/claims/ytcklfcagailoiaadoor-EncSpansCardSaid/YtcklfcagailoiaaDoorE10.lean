/- The law EncSpans as a run. -/
import Derived.Test.YtcklfcagailoiaaDoorE9
import Derived.Test.YtcklfcagailoiaaDoorE2
namespace Go.Proofs.YtcklfcagailoiaaDoor
open Ab Go.RowKit
set_option maxRecDepth 100000
set_option linter.unusedVariables false
set_option linter.unusedSimpArgs false
set_option pp.maxSteps 3000
theorem litsS {s key pa pb : List UInt8} {w l g w' l' g' : Int} : ∀ a ∈ [SV.str s, .str key, .agg [.str pa, .str pb], stV w l g, stV w' l' g'], LitV a := by
  simp only [List.mem_cons, List.not_mem_nil, or_false]
  rintro _ (rfl | rfl | rfl | rfl | rfl)
  · exact .str _
  · exact .str _
  · exact .agg (by simp; exact ⟨.str _, .str _⟩)
  · exact stLit _ _ _
  · exact stLit _ _ _
theorem encSpans_any {s key pa pb : List UInt8} {w l g w' l' g' : Int} (hs : s.length ≤ 140737488351232) :
    PCall Tryd.prog 8 [.str s, .str key, .agg [.str pa, .str pb], stV w l g, stV w' l' g'] (.bool true) := by
  refine pcall_of litsS (call8 rfl ?_)
  iterate 40 (all_goals (try conv => whnf); all_goals (try first | with_reducible refine brY (by assumption) ?_ | with_reducible refine brN (by assumption) ?_ | (with_reducible refine brT ?_ ?_; · (simp only [Bool.and_eq_true, Bool.not_eq_true', decide_eq_true_eq, decide_eq_false_iff_not, beq_iff_eq, beq_eq_false_iff_ne, ne_eq] at *; omega)) | with_reducible refine br (fun _ => ?_) (fun _ => ?_) | with_reducible refine ⟨rfl, ?_⟩ | with_reducible refine ARound.succ ?_ | with_reducible refine PCall.call (stampS_any _ _ _) ?_ | with_reducible refine PCall.call (refStamp_any _ _ _) ?_ | with_reducible refine PCall.call (unstamp_any _) ?_ | with_reducible refine PCall.call (refUnstamp_any _) ?_ | with_reducible refine PCall.call (lives_any) ?_ | with_reducible refine PCall.call (after_any (by omega)) ?_ | with_reducible refine PCall.call (refAfter_any (by omega)) ?_ | with_reducible refine PCall.call (in_any _ _ _) ?_ | with_reducible refine PCall.call (refIn_any _ _ _) ?_ | with_reducible refine PCall.call (later_any _ _ _ _ _ _) ?_ | with_reducible refine PCall.call (refLater_any _ _ _ _ _ _) ?_))
  all_goals first
    | (exfalso; simp_all; done)
    | (refine leaf ?_ (.bool _); simp; done)
    | trace_state
end Go.Proofs.YtcklfcagailoiaaDoor
