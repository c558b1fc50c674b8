/- The law EncStamps as a run. -/
import Derived.Test.YtcklfcagailoiaaDoorE5
namespace Go.Proofs.YtcklfcagailoiaaDoor
open Ab Go.RowKit
set_option maxRecDepth 100000
set_option linter.unusedVariables false
set_option linter.unusedSimpArgs false
set_option pp.maxSteps 3000
theorem stampY {w l g : Int} (h : stOk w l g = true) : PCall Tryd.prog 29 [stV w l g] (.tup [.str (stT w l g), .int .i64 0]) := by
  have := stampS_any w l g; simpa [h] using this
theorem stampN {w l g : Int} (h : stOk w l g = false) : PCall Tryd.prog 29 [stV w l g] (.tup [.str [], .int .i64 2]) := by
  have := stampS_any w l g; simpa [h] using this
theorem unstampY {s : List UInt8} (h : unOk s = true) : PCall Tryd.prog 30 [.str s] (.tup [stV (unW s) (unL s) (unG s), .int .i64 0]) := by
  have := unstamp_any s; rwa [unV_yes h] at this
theorem unstampN {s : List UInt8} (h : unOk s = false) : PCall Tryd.prog 30 [.str s] (.tup [stV 0 0 0, .int .i64 5]) := by
  have := unstamp_any s; rwa [unV_no h] at this
section
variable {w l g w' l' g' : Int} {s : List UInt8}
theorem unstampT (h : stOk w l g = true) : PCall Tryd.prog 30 [.str (stT w l g)] (.tup [stV w l g, .int .i64 0]) := by
  obtain ⟨h1, h2, h3, h4⟩ := un_stT h
  have := unstampY h1
  rwa [h2, h3, h4] at this
theorem stampU (h : unOk s = true) : PCall Tryd.prog 29 [stV (unW s) (unL s) (unG s)] (.tup [.str s, .int .i64 0]) := by
  obtain ⟨h1, h2⟩ := stT_un h
  have := stampY h1
  rwa [h2] at this
theorem encStamps_run {ta tb : List UInt8} {ea eb : Int} (c1 : PCall Tryd.prog 29 [stV w l g] (.tup [.str ta, .int .i64 ea])) (c2 : PCall Tryd.prog 29 [stV w' l' g'] (.tup [.str tb, .int .i64 eb]))
    (hab : ea ≠ 0 ∨ eb ≠ 0 ∨ (PCall Tryd.prog 30 [.str ta] (.tup [stV w l g, .int .i64 0]) ∧ ta.length = 16 ∧ laterB w l g w' l' g' = strLess ta tb ∧ (w == w' && (l == l' && g == g')) = (ta == tb))) :
    PCall Tryd.prog 7 [stV w l g, stV w' l' g', .str s] (.bool true) := by
  refine pcall_of (lits3 (stLit _ _ _) (stLit _ _ _) (.str _)) (call7 rfl ?_)
  cases hu : unOk s
  · have u := unstampN hu
    by_cases ha : ea = 0 ∧ eb = 0
    · obtain ⟨rfl, rfl⟩ := ha
      rcases hab with h | h | ⟨h1, h2, h3, h4⟩
      · exact absurd rfl h
      · exact absurd rfl h
      iterate 34 (all_goals (try conv => whnf); all_goals (try first | with_reducible refine brY (by assumption) ?_ | with_reducible refine brN (by assumption) ?_ | (with_reducible refine brT ?_ ?_; · (simp only [Bool.and_eq_true, Bool.not_eq_true', decide_eq_true_eq, decide_eq_false_iff_not, beq_iff_eq, beq_eq_false_iff_ne, ne_eq] at *; omega)) | with_reducible refine br (fun _ => ?_) (fun _ => ?_) | with_reducible refine ⟨rfl, ?_⟩ | with_reducible refine ARound.succ ?_ | with_reducible refine PCall.call (c1) ?_ | with_reducible refine PCall.call (c2) ?_ | with_reducible refine PCall.call (lives_any) ?_ | with_reducible refine PCall.call (u) ?_ | with_reducible refine PCall.call (h1) ?_ | with_reducible refine PCall.call (later_any _ _ _ _ _ _) ?_))
      all_goals first
        | exact leaf rfl (.bool _)
        | (exfalso; simp_all; done)
        | (refine leaf ?_ (.bool _); simp [h4]; done)
    · clear hab
      iterate 34 (all_goals (try conv => whnf); all_goals (try first | with_reducible refine brY (by assumption) ?_ | with_reducible refine brN (by assumption) ?_ | (with_reducible refine brT ?_ ?_; · (simp only [Bool.and_eq_true, Bool.not_eq_true', decide_eq_true_eq, decide_eq_false_iff_not, beq_iff_eq, beq_eq_false_iff_ne, ne_eq] at *; omega)) | with_reducible refine br (fun _ => ?_) (fun _ => ?_) | with_reducible refine ⟨rfl, ?_⟩ | with_reducible refine ARound.succ ?_ | with_reducible refine PCall.call (c1) ?_ | with_reducible refine PCall.call (c2) ?_ | with_reducible refine PCall.call (lives_any) ?_ | with_reducible refine PCall.call (u) ?_))
      all_goals first
        | exact leaf rfl (.bool _)
        | (exfalso; simp_all; done)
  · have u := unstampY hu
    have u2 := stampU hu
    by_cases ha : ea = 0 ∧ eb = 0
    · obtain ⟨rfl, rfl⟩ := ha
      rcases hab with h | h | ⟨h1, h2, h3, h4⟩
      · exact absurd rfl h
      · exact absurd rfl h
      iterate 34 (all_goals (try conv => whnf); all_goals (try first | with_reducible refine brY (by assumption) ?_ | with_reducible refine brN (by assumption) ?_ | (with_reducible refine brT ?_ ?_; · (simp only [Bool.and_eq_true, Bool.not_eq_true', decide_eq_true_eq, decide_eq_false_iff_not, beq_iff_eq, beq_eq_false_iff_ne, ne_eq] at *; omega)) | with_reducible refine br (fun _ => ?_) (fun _ => ?_) | with_reducible refine ⟨rfl, ?_⟩ | with_reducible refine ARound.succ ?_ | with_reducible refine PCall.call (c1) ?_ | with_reducible refine PCall.call (c2) ?_ | with_reducible refine PCall.call (lives_any) ?_ | with_reducible refine PCall.call (u) ?_ | with_reducible refine PCall.call (u2) ?_ | with_reducible refine PCall.call (h1) ?_ | with_reducible refine PCall.call (later_any _ _ _ _ _ _) ?_))
      all_goals first
        | exact leaf rfl (.bool _)
        | (exfalso; simp_all; done)
        | (refine leaf ?_ (.bool _); simp [h4]; done)
    · clear hab
      iterate 34 (all_goals (try conv => whnf); all_goals (try first | with_reducible refine brY (by assumption) ?_ | with_reducible refine brN (by assumption) ?_ | (with_reducible refine brT ?_ ?_; · (simp only [Bool.and_eq_true, Bool.not_eq_true', decide_eq_true_eq, decide_eq_false_iff_not, beq_iff_eq, beq_eq_false_iff_ne, ne_eq] at *; omega)) | with_reducible refine br (fun _ => ?_) (fun _ => ?_) | with_reducible refine ⟨rfl, ?_⟩ | with_reducible refine ARound.succ ?_ | with_reducible refine PCall.call (c1) ?_ | with_reducible refine PCall.call (c2) ?_ | with_reducible refine PCall.call (lives_any) ?_ | with_reducible refine PCall.call (u) ?_ | with_reducible refine PCall.call (u2) ?_))
      all_goals first
        | exact leaf rfl (.bool _)
        | (exfalso; simp_all; done)
theorem encStamps_any : PCall Tryd.prog 7 [stV w l g, stV w' l' g', .str s] (.bool true) := by
  cases h : stOk w l g
  · exact encStamps_run (stampS_any w l g) (stampS_any w' l' g') (.inl (by simp [h]))
  cases h' : stOk w' l' g'
  · exact encStamps_run (stampS_any w l g) (stampS_any w' l' g') (.inr (.inl (by simp [h'])))
  · exact encStamps_run (stampY h) (stampY h') (.inr (.inr ⟨unstampT h, stT_len _ _ _, (less_stT h h').symm, (same_stT h h').symm⟩))
end
end Go.Proofs.YtcklfcagailoiaaDoor
