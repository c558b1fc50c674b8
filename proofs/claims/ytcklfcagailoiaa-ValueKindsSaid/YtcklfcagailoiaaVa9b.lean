/- What kinds promise, values keep: the law's run, for each number of values. -/
import Derived.Test.YtcklfcagailoiaaVa9
namespace Go.Proofs.Ytcklfcagailoiaa
open Ab Go.RowKit
set_option maxRecDepth 100000
set_option linter.unusedSimpArgs false
set_option maxHeartbeats 4000000

theorem chk_ok {v : V} (h : okV v = true) : (chk v != 0) = false := by simp [chk, h]
theorem chk_no {v : V} (h : okV v = false) : (chk v != 0) = true := by simp [chk, h]
theorem notok_two {op : Int} {vs : List V} {v : V} (hv : v ∈ vs) (h : okV v = false) : ((doV op vs).2 == 2) = true := by
  rw [doV_notok (List.any_eq_true.2 ⟨v, hv, by simp [h]⟩)]; rfl
theorem kinds_ok0 (op : Int)   : PCall Try.prog 6 [.int .u8 op, lstV []] (.bool true) := by
  have hD := do_any op [] (fun v hv => by cases hv)
  have hG := gives_any op []
  obtain ⟨q1, q2, q3⟩ := kinds_ok (op := op) (vs := []) (fun v hv => by cases hv)
  simp only [List.map_cons, List.map_nil] at q1 q2 q3
  generalize doV op [] = dv at hD q1 q2 q3
  generalize givesI op [] = gv at hG q1 q2 q3
  obtain ⟨w, e⟩ := dv
  obtain ⟨g, f⟩ := gv
  dsimp only at q1 q2 q3
  by_cases hf : f = 0
  · by_cases he : e = 0
    · subst hf; subst he
      obtain ⟨ow, hk⟩ := q3 rfl rfl
      have cw : (chk w == 0) = true := by simp [chk, ow]
      rcases hk with hk | hk
      · have h1 : (w.k == g) = true := by simp [hk]
        refine pcall_of (lits2 (.int _ _) (.lst _ _ _)) (call6 rfl ?_)
        iterate 20 (all_goals (try conv => whnf); all_goals (try first | with_reducible refine brY (by assumption) ?_ | with_reducible refine brN (by assumption) ?_ | (with_reducible refine brT ?_ ?_; · (simp only [Bool.and_eq_true, Bool.not_eq_true', decide_eq_true_eq, decide_eq_false_iff_not, beq_iff_eq, beq_eq_false_iff_ne, ne_eq] at *; omega)) | with_reducible refine br (fun _ => ?_) (fun _ => ?_) | with_reducible refine ⟨rfl, ?_⟩ | with_reducible refine ARound.full ?_ | with_reducible refine PCall.call (lives_any) ?_ | (refine PCall.call hD ?_) | (refine PCall.call hG ?_) | (refine ACall.nil2 (sz := 1) (get := fun i => .int .u8 (List.getD ([] : List Int) i 0)) ?_) | (refine PCall.call (check_any w) ?_) | with_reducible refine loop_rounds 6 ?_))
        all_goals first | exact leaf rfl (.bool _) | (refine leaf ?_ (.bool _); simp [cw, h1]) | (refine leaf ?_ (.bool _); simp_all)
      · have h1 : (w.k == 0) = true := by simp [hk]
        refine pcall_of (lits2 (.int _ _) (.lst _ _ _)) (call6 rfl ?_)
        iterate 20 (all_goals (try conv => whnf); all_goals (try first | with_reducible refine brY (by assumption) ?_ | with_reducible refine brN (by assumption) ?_ | (with_reducible refine brT ?_ ?_; · (simp only [Bool.and_eq_true, Bool.not_eq_true', decide_eq_true_eq, decide_eq_false_iff_not, beq_iff_eq, beq_eq_false_iff_ne, ne_eq] at *; omega)) | with_reducible refine br (fun _ => ?_) (fun _ => ?_) | with_reducible refine ⟨rfl, ?_⟩ | with_reducible refine ARound.full ?_ | with_reducible refine PCall.call (lives_any) ?_ | (refine PCall.call hD ?_) | (refine PCall.call hG ?_) | (refine ACall.nil2 (sz := 1) (get := fun i => .int .u8 (List.getD ([] : List Int) i 0)) ?_) | (refine PCall.call (check_any w) ?_) | with_reducible refine loop_rounds 6 ?_))
        all_goals first | exact leaf rfl (.bool _) | (refine leaf ?_ (.bool _); simp [cw, h1]) | (refine leaf ?_ (.bool _); simp_all)
    · subst hf
      obtain ⟨he3, hw⟩ := q2 rfl he
      subst hw
      have h1 : (e != 0) = true := by simp [he]
      clear q1 q2 q3 he
      rcases he3 with rfl | rfl | rfl
      all_goals (
        refine pcall_of (lits2 (.int _ _) (.lst _ _ _)) (call6 rfl ?_)
        iterate 20 (all_goals (try conv => whnf); all_goals (try first | with_reducible refine brY (by assumption) ?_ | with_reducible refine brN (by assumption) ?_ | (with_reducible refine brT ?_ ?_; · (simp only [Bool.and_eq_true, Bool.not_eq_true', decide_eq_true_eq, decide_eq_false_iff_not, beq_iff_eq, beq_eq_false_iff_ne, ne_eq] at *; omega)) | with_reducible refine br (fun _ => ?_) (fun _ => ?_) | with_reducible refine ⟨rfl, ?_⟩ | with_reducible refine ARound.full ?_ | with_reducible refine PCall.call (lives_any) ?_ | (refine PCall.call hD ?_) | (refine PCall.call hG ?_) | (refine ACall.nil2 (sz := 1) (get := fun i => .int .u8 (List.getD ([] : List Int) i 0)) ?_) | with_reducible refine loop_rounds 6 ?_))
        all_goals first | exact leaf rfl (.bool _) | (refine leaf ?_ (.bool _); simp_all [vnull]))
  · obtain ⟨he, hw⟩ := q1 hf
    subst he; subst hw
    have h1 : (e != 0) = true := by simp [hf]
    have h3 : (e == e) = true := by simp
    refine pcall_of (lits2 (.int _ _) (.lst _ _ _)) (call6 rfl ?_)
    iterate 20 (all_goals (try conv => whnf); all_goals (try first | with_reducible refine brY (by assumption) ?_ | with_reducible refine brN (by assumption) ?_ | (with_reducible refine brT ?_ ?_; · (simp only [Bool.and_eq_true, Bool.not_eq_true', decide_eq_true_eq, decide_eq_false_iff_not, beq_iff_eq, beq_eq_false_iff_ne, ne_eq] at *; omega)) | with_reducible refine br (fun _ => ?_) (fun _ => ?_) | with_reducible refine ⟨rfl, ?_⟩ | with_reducible refine ARound.full ?_ | with_reducible refine PCall.call (lives_any) ?_ | (refine PCall.call hD ?_) | (refine PCall.call hG ?_) | (refine ACall.nil2 (sz := 1) (get := fun i => .int .u8 (List.getD ([] : List Int) i 0)) ?_) | with_reducible refine loop_rounds 6 ?_))
    all_goals first | exact leaf rfl (.bool _) | (refine leaf ?_ (.bool _); simp_all [vnull])
theorem kinds_bad1_0 (op : Int) {a : V} (ia : a.In)  (h : okV a = false) : PCall Try.prog 6 [.int .u8 op, lstV [a]] (.bool true) := by
  have ca := chk_no h
  have hD := do_any op [a] (by simp only [List.mem_singleton]; rintro _ rfl; assumption)
  have h2 : ((doV op [a]).2 == 2) = true := notok_two (v := a) (by simp) h
  refine pcall_of (lits2 (.int _ _) (.lst _ _ _)) (call6 rfl ?_)
  iterate 28 (all_goals (try conv => whnf); all_goals (try first | with_reducible refine brY (by assumption) ?_ | with_reducible refine brN (by assumption) ?_ | (with_reducible refine brT ?_ ?_; · (simp only [Bool.and_eq_true, Bool.not_eq_true', decide_eq_true_eq, decide_eq_false_iff_not, beq_iff_eq, beq_eq_false_iff_ne, ne_eq] at *; omega)) | with_reducible refine br (fun _ => ?_) (fun _ => ?_) | with_reducible refine ⟨rfl, ?_⟩ | with_reducible refine ARound.full ?_ | with_reducible refine PCall.call (lives_any) ?_ | with_reducible refine PCall.call (check_any a) ?_ | (refine PCall.call (check_any a) ?_) | (refine PCall.call hD ?_) | with_reducible refine loop_rounds 6 ?_))
  all_goals exact leaf (by rw [h2]) (.bool _)
theorem kinds_ok1 (op : Int) {a : V} (ia : a.In) (ka : okV a = true) : PCall Try.prog 6 [.int .u8 op, lstV [a]] (.bool true) := by
  have ca := chk_ok ka
  have hD := do_any op [a] (by simp only [List.mem_singleton]; rintro _ rfl; assumption)
  have hG := gives_any op [a.k]
  obtain ⟨q1, q2, q3⟩ := kinds_ok (op := op) (vs := [a]) (by simp only [List.mem_singleton]; rintro _ rfl; assumption)
  simp only [List.map_cons, List.map_nil] at q1 q2 q3
  generalize doV op [a] = dv at hD q1 q2 q3
  generalize givesI op [a.k] = gv at hG q1 q2 q3
  obtain ⟨w, e⟩ := dv
  obtain ⟨g, f⟩ := gv
  dsimp only at q1 q2 q3
  by_cases hf : f = 0
  · by_cases he : e = 0
    · subst hf; subst he
      obtain ⟨ow, hk⟩ := q3 rfl rfl
      have cw : (chk w == 0) = true := by simp [chk, ow]
      rcases hk with hk | hk
      · have h1 : (w.k == g) = true := by simp [hk]
        refine pcall_of (lits2 (.int _ _) (.lst _ _ _)) (call6 rfl ?_)
        iterate 28 (all_goals (try conv => whnf); all_goals (try first | with_reducible refine brY (by assumption) ?_ | with_reducible refine brN (by assumption) ?_ | (with_reducible refine brT ?_ ?_; · (simp only [Bool.and_eq_true, Bool.not_eq_true', decide_eq_true_eq, decide_eq_false_iff_not, beq_iff_eq, beq_eq_false_iff_ne, ne_eq] at *; omega)) | with_reducible refine br (fun _ => ?_) (fun _ => ?_) | with_reducible refine ⟨rfl, ?_⟩ | with_reducible refine ARound.full ?_ | with_reducible refine PCall.call (lives_any) ?_ | with_reducible refine PCall.call (check_any a) ?_ | (refine PCall.call (check_any a) ?_) | (refine PCall.call hD ?_) | (refine PCall.call hG ?_) | (refine ACall.frz2 (.int _ _) (v' := lstK [a.k]) (hard_all (elems := [.int .u8 a.k]) rfl ⟨rfl, .int _ _, trivial⟩) ?_) | (refine PCall.call (check_any w) ?_) | with_reducible refine loop_rounds 6 ?_))
        all_goals first | exact leaf rfl (.bool _) | (refine leaf ?_ (.bool _); simp [cw, h1]) | (refine leaf ?_ (.bool _); simp_all)
      · have h1 : (w.k == 0) = true := by simp [hk]
        refine pcall_of (lits2 (.int _ _) (.lst _ _ _)) (call6 rfl ?_)
        iterate 28 (all_goals (try conv => whnf); all_goals (try first | with_reducible refine brY (by assumption) ?_ | with_reducible refine brN (by assumption) ?_ | (with_reducible refine brT ?_ ?_; · (simp only [Bool.and_eq_true, Bool.not_eq_true', decide_eq_true_eq, decide_eq_false_iff_not, beq_iff_eq, beq_eq_false_iff_ne, ne_eq] at *; omega)) | with_reducible refine br (fun _ => ?_) (fun _ => ?_) | with_reducible refine ⟨rfl, ?_⟩ | with_reducible refine ARound.full ?_ | with_reducible refine PCall.call (lives_any) ?_ | with_reducible refine PCall.call (check_any a) ?_ | (refine PCall.call (check_any a) ?_) | (refine PCall.call hD ?_) | (refine PCall.call hG ?_) | (refine ACall.frz2 (.int _ _) (v' := lstK [a.k]) (hard_all (elems := [.int .u8 a.k]) rfl ⟨rfl, .int _ _, trivial⟩) ?_) | (refine PCall.call (check_any w) ?_) | with_reducible refine loop_rounds 6 ?_))
        all_goals first | exact leaf rfl (.bool _) | (refine leaf ?_ (.bool _); simp [cw, h1]) | (refine leaf ?_ (.bool _); simp_all)
    · subst hf
      obtain ⟨he3, hw⟩ := q2 rfl he
      subst hw
      have h1 : (e != 0) = true := by simp [he]
      clear q1 q2 q3 he
      rcases he3 with rfl | rfl | rfl
      all_goals (
        refine pcall_of (lits2 (.int _ _) (.lst _ _ _)) (call6 rfl ?_)
        iterate 28 (all_goals (try conv => whnf); all_goals (try first | with_reducible refine brY (by assumption) ?_ | with_reducible refine brN (by assumption) ?_ | (with_reducible refine brT ?_ ?_; · (simp only [Bool.and_eq_true, Bool.not_eq_true', decide_eq_true_eq, decide_eq_false_iff_not, beq_iff_eq, beq_eq_false_iff_ne, ne_eq] at *; omega)) | with_reducible refine br (fun _ => ?_) (fun _ => ?_) | with_reducible refine ⟨rfl, ?_⟩ | with_reducible refine ARound.full ?_ | with_reducible refine PCall.call (lives_any) ?_ | with_reducible refine PCall.call (check_any a) ?_ | (refine PCall.call (check_any a) ?_) | (refine PCall.call hD ?_) | (refine PCall.call hG ?_) | (refine ACall.frz2 (.int _ _) (v' := lstK [a.k]) (hard_all (elems := [.int .u8 a.k]) rfl ⟨rfl, .int _ _, trivial⟩) ?_) | with_reducible refine loop_rounds 6 ?_))
        all_goals first | exact leaf rfl (.bool _) | (refine leaf ?_ (.bool _); simp_all [vnull]))
  · obtain ⟨he, hw⟩ := q1 hf
    subst he; subst hw
    have h1 : (e != 0) = true := by simp [hf]
    have h3 : (e == e) = true := by simp
    refine pcall_of (lits2 (.int _ _) (.lst _ _ _)) (call6 rfl ?_)
    iterate 28 (all_goals (try conv => whnf); all_goals (try first | with_reducible refine brY (by assumption) ?_ | with_reducible refine brN (by assumption) ?_ | (with_reducible refine brT ?_ ?_; · (simp only [Bool.and_eq_true, Bool.not_eq_true', decide_eq_true_eq, decide_eq_false_iff_not, beq_iff_eq, beq_eq_false_iff_ne, ne_eq] at *; omega)) | with_reducible refine br (fun _ => ?_) (fun _ => ?_) | with_reducible refine ⟨rfl, ?_⟩ | with_reducible refine ARound.full ?_ | with_reducible refine PCall.call (lives_any) ?_ | with_reducible refine PCall.call (check_any a) ?_ | (refine PCall.call (check_any a) ?_) | (refine PCall.call hD ?_) | (refine PCall.call hG ?_) | (refine ACall.frz2 (.int _ _) (v' := lstK [a.k]) (hard_all (elems := [.int .u8 a.k]) rfl ⟨rfl, .int _ _, trivial⟩) ?_) | with_reducible refine loop_rounds 6 ?_))
    all_goals first | exact leaf rfl (.bool _) | (refine leaf ?_ (.bool _); simp_all [vnull])
theorem kinds_bad2_0 (op : Int) {a b : V} (ia : a.In) (ib : b.In)  (h : okV a = false) : PCall Try.prog 6 [.int .u8 op, lstV [a, b]] (.bool true) := by
  have ca := chk_no h
  have hD := do_any op [a, b] (by simp only [List.mem_cons, List.not_mem_nil, or_false]; rintro _ (rfl | rfl) <;> assumption)
  have h2 : ((doV op [a, b]).2 == 2) = true := notok_two (v := a) (by simp) h
  refine pcall_of (lits2 (.int _ _) (.lst _ _ _)) (call6 rfl ?_)
  iterate 36 (all_goals (try conv => whnf); all_goals (try first | with_reducible refine brY (by assumption) ?_ | with_reducible refine brN (by assumption) ?_ | (with_reducible refine brT ?_ ?_; · (simp only [Bool.and_eq_true, Bool.not_eq_true', decide_eq_true_eq, decide_eq_false_iff_not, beq_iff_eq, beq_eq_false_iff_ne, ne_eq] at *; omega)) | with_reducible refine br (fun _ => ?_) (fun _ => ?_) | with_reducible refine ⟨rfl, ?_⟩ | with_reducible refine ARound.full ?_ | with_reducible refine PCall.call (lives_any) ?_ | with_reducible refine PCall.call (check_any a) ?_ | with_reducible refine PCall.call (check_any b) ?_ | (refine PCall.call (check_any a) ?_) | (refine PCall.call (check_any b) ?_) | (refine PCall.call hD ?_) | with_reducible refine loop_rounds 6 ?_))
  all_goals exact leaf (by rw [h2]) (.bool _)
theorem kinds_bad2_1 (op : Int) {a b : V} (ia : a.In) (ib : b.In) (ka : okV a = true) (h : okV b = false) : PCall Try.prog 6 [.int .u8 op, lstV [a, b]] (.bool true) := by
  have ca := chk_ok ka
  have cb := chk_no h
  have hD := do_any op [a, b] (by simp only [List.mem_cons, List.not_mem_nil, or_false]; rintro _ (rfl | rfl) <;> assumption)
  have h2 : ((doV op [a, b]).2 == 2) = true := notok_two (v := b) (by simp) h
  refine pcall_of (lits2 (.int _ _) (.lst _ _ _)) (call6 rfl ?_)
  iterate 36 (all_goals (try conv => whnf); all_goals (try first | with_reducible refine brY (by assumption) ?_ | with_reducible refine brN (by assumption) ?_ | (with_reducible refine brT ?_ ?_; · (simp only [Bool.and_eq_true, Bool.not_eq_true', decide_eq_true_eq, decide_eq_false_iff_not, beq_iff_eq, beq_eq_false_iff_ne, ne_eq] at *; omega)) | with_reducible refine br (fun _ => ?_) (fun _ => ?_) | with_reducible refine ⟨rfl, ?_⟩ | with_reducible refine ARound.full ?_ | with_reducible refine PCall.call (lives_any) ?_ | with_reducible refine PCall.call (check_any a) ?_ | with_reducible refine PCall.call (check_any b) ?_ | (refine PCall.call (check_any a) ?_) | (refine PCall.call (check_any b) ?_) | (refine PCall.call hD ?_) | with_reducible refine loop_rounds 6 ?_))
  all_goals exact leaf (by rw [h2]) (.bool _)
theorem kinds_ok2 (op : Int) {a b : V} (ia : a.In) (ib : b.In) (ka : okV a = true) (kb : okV b = true) : PCall Try.prog 6 [.int .u8 op, lstV [a, b]] (.bool true) := by
  have ca := chk_ok ka
  have cb := chk_ok kb
  have hD := do_any op [a, b] (by simp only [List.mem_cons, List.not_mem_nil, or_false]; rintro _ (rfl | rfl) <;> assumption)
  have hG := gives_any op [a.k, b.k]
  obtain ⟨q1, q2, q3⟩ := kinds_ok (op := op) (vs := [a, b]) (by simp only [List.mem_cons, List.not_mem_nil, or_false]; rintro _ (rfl | rfl) <;> assumption)
  simp only [List.map_cons, List.map_nil] at q1 q2 q3
  generalize doV op [a, b] = dv at hD q1 q2 q3
  generalize givesI op [a.k, b.k] = gv at hG q1 q2 q3
  obtain ⟨w, e⟩ := dv
  obtain ⟨g, f⟩ := gv
  dsimp only at q1 q2 q3
  by_cases hf : f = 0
  · by_cases he : e = 0
    · subst hf; subst he
      obtain ⟨ow, hk⟩ := q3 rfl rfl
      have cw : (chk w == 0) = true := by simp [chk, ow]
      rcases hk with hk | hk
      · have h1 : (w.k == g) = true := by simp [hk]
        refine pcall_of (lits2 (.int _ _) (.lst _ _ _)) (call6 rfl ?_)
        iterate 36 (all_goals (try conv => whnf); all_goals (try first | with_reducible refine brY (by assumption) ?_ | with_reducible refine brN (by assumption) ?_ | (with_reducible refine brT ?_ ?_; · (simp only [Bool.and_eq_true, Bool.not_eq_true', decide_eq_true_eq, decide_eq_false_iff_not, beq_iff_eq, beq_eq_false_iff_ne, ne_eq] at *; omega)) | with_reducible refine br (fun _ => ?_) (fun _ => ?_) | with_reducible refine ⟨rfl, ?_⟩ | with_reducible refine ARound.full ?_ | with_reducible refine PCall.call (lives_any) ?_ | with_reducible refine PCall.call (check_any a) ?_ | with_reducible refine PCall.call (check_any b) ?_ | (refine PCall.call (check_any a) ?_) | (refine PCall.call (check_any b) ?_) | (refine PCall.call hD ?_) | (refine PCall.call hG ?_) | (refine ACall.frz2 (.int _ _) (v' := lstK [a.k, b.k]) (hard_all (elems := [.int .u8 a.k, .int .u8 b.k]) rfl ⟨rfl, .int _ _, rfl, .int _ _, trivial⟩) ?_) | (refine PCall.call (check_any w) ?_) | with_reducible refine loop_rounds 6 ?_))
        all_goals first | exact leaf rfl (.bool _) | (refine leaf ?_ (.bool _); simp [cw, h1]) | (refine leaf ?_ (.bool _); simp_all)
      · have h1 : (w.k == 0) = true := by simp [hk]
        refine pcall_of (lits2 (.int _ _) (.lst _ _ _)) (call6 rfl ?_)
        iterate 36 (all_goals (try conv => whnf); all_goals (try first | with_reducible refine brY (by assumption) ?_ | with_reducible refine brN (by assumption) ?_ | (with_reducible refine brT ?_ ?_; · (simp only [Bool.and_eq_true, Bool.not_eq_true', decide_eq_true_eq, decide_eq_false_iff_not, beq_iff_eq, beq_eq_false_iff_ne, ne_eq] at *; omega)) | with_reducible refine br (fun _ => ?_) (fun _ => ?_) | with_reducible refine ⟨rfl, ?_⟩ | with_reducible refine ARound.full ?_ | with_reducible refine PCall.call (lives_any) ?_ | with_reducible refine PCall.call (check_any a) ?_ | with_reducible refine PCall.call (check_any b) ?_ | (refine PCall.call (check_any a) ?_) | (refine PCall.call (check_any b) ?_) | (refine PCall.call hD ?_) | (refine PCall.call hG ?_) | (refine ACall.frz2 (.int _ _) (v' := lstK [a.k, b.k]) (hard_all (elems := [.int .u8 a.k, .int .u8 b.k]) rfl ⟨rfl, .int _ _, rfl, .int _ _, trivial⟩) ?_) | (refine PCall.call (check_any w) ?_) | with_reducible refine loop_rounds 6 ?_))
        all_goals first | exact leaf rfl (.bool _) | (refine leaf ?_ (.bool _); simp [cw, h1]) | (refine leaf ?_ (.bool _); simp_all)
    · subst hf
      obtain ⟨he3, hw⟩ := q2 rfl he
      subst hw
      have h1 : (e != 0) = true := by simp [he]
      clear q1 q2 q3 he
      rcases he3 with rfl | rfl | rfl
      all_goals (
        refine pcall_of (lits2 (.int _ _) (.lst _ _ _)) (call6 rfl ?_)
        iterate 36 (all_goals (try conv => whnf); all_goals (try first | with_reducible refine brY (by assumption) ?_ | with_reducible refine brN (by assumption) ?_ | (with_reducible refine brT ?_ ?_; · (simp only [Bool.and_eq_true, Bool.not_eq_true', decide_eq_true_eq, decide_eq_false_iff_not, beq_iff_eq, beq_eq_false_iff_ne, ne_eq] at *; omega)) | with_reducible refine br (fun _ => ?_) (fun _ => ?_) | with_reducible refine ⟨rfl, ?_⟩ | with_reducible refine ARound.full ?_ | with_reducible refine PCall.call (lives_any) ?_ | with_reducible refine PCall.call (check_any a) ?_ | with_reducible refine PCall.call (check_any b) ?_ | (refine PCall.call (check_any a) ?_) | (refine PCall.call (check_any b) ?_) | (refine PCall.call hD ?_) | (refine PCall.call hG ?_) | (refine ACall.frz2 (.int _ _) (v' := lstK [a.k, b.k]) (hard_all (elems := [.int .u8 a.k, .int .u8 b.k]) rfl ⟨rfl, .int _ _, rfl, .int _ _, trivial⟩) ?_) | with_reducible refine loop_rounds 6 ?_))
        all_goals first | exact leaf rfl (.bool _) | (refine leaf ?_ (.bool _); simp_all [vnull]))
  · obtain ⟨he, hw⟩ := q1 hf
    subst he; subst hw
    have h1 : (e != 0) = true := by simp [hf]
    have h3 : (e == e) = true := by simp
    refine pcall_of (lits2 (.int _ _) (.lst _ _ _)) (call6 rfl ?_)
    iterate 36 (all_goals (try conv => whnf); all_goals (try first | with_reducible refine brY (by assumption) ?_ | with_reducible refine brN (by assumption) ?_ | (with_reducible refine brT ?_ ?_; · (simp only [Bool.and_eq_true, Bool.not_eq_true', decide_eq_true_eq, decide_eq_false_iff_not, beq_iff_eq, beq_eq_false_iff_ne, ne_eq] at *; omega)) | with_reducible refine br (fun _ => ?_) (fun _ => ?_) | with_reducible refine ⟨rfl, ?_⟩ | with_reducible refine ARound.full ?_ | with_reducible refine PCall.call (lives_any) ?_ | with_reducible refine PCall.call (check_any a) ?_ | with_reducible refine PCall.call (check_any b) ?_ | (refine PCall.call (check_any a) ?_) | (refine PCall.call (check_any b) ?_) | (refine PCall.call hD ?_) | (refine PCall.call hG ?_) | (refine ACall.frz2 (.int _ _) (v' := lstK [a.k, b.k]) (hard_all (elems := [.int .u8 a.k, .int .u8 b.k]) rfl ⟨rfl, .int _ _, rfl, .int _ _, trivial⟩) ?_) | with_reducible refine loop_rounds 6 ?_))
    all_goals first | exact leaf rfl (.bool _) | (refine leaf ?_ (.bool _); simp_all [vnull])
theorem kinds_bad3_0 (op : Int) {a b c : V} (ia : a.In) (ib : b.In) (ic : c.In)  (h : okV a = false) : PCall Try.prog 6 [.int .u8 op, lstV [a, b, c]] (.bool true) := by
  have ca := chk_no h
  have hD := do_any op [a, b, c] (by simp only [List.mem_cons, List.not_mem_nil, or_false]; rintro _ (rfl | rfl | rfl) <;> assumption)
  have h2 : ((doV op [a, b, c]).2 == 2) = true := notok_two (v := a) (by simp) h
  refine pcall_of (lits2 (.int _ _) (.lst _ _ _)) (call6 rfl ?_)
  iterate 44 (all_goals (try conv => whnf); all_goals (try first | with_reducible refine brY (by assumption) ?_ | with_reducible refine brN (by assumption) ?_ | (with_reducible refine brT ?_ ?_; · (simp only [Bool.and_eq_true, Bool.not_eq_true', decide_eq_true_eq, decide_eq_false_iff_not, beq_iff_eq, beq_eq_false_iff_ne, ne_eq] at *; omega)) | with_reducible refine br (fun _ => ?_) (fun _ => ?_) | with_reducible refine ⟨rfl, ?_⟩ | with_reducible refine ARound.full ?_ | with_reducible refine PCall.call (lives_any) ?_ | with_reducible refine PCall.call (check_any a) ?_ | with_reducible refine PCall.call (check_any b) ?_ | with_reducible refine PCall.call (check_any c) ?_ | (refine PCall.call (check_any a) ?_) | (refine PCall.call (check_any b) ?_) | (refine PCall.call (check_any c) ?_) | (refine PCall.call hD ?_) | with_reducible refine loop_rounds 6 ?_))
  all_goals exact leaf (by rw [h2]) (.bool _)
theorem kinds_bad3_1 (op : Int) {a b c : V} (ia : a.In) (ib : b.In) (ic : c.In) (ka : okV a = true) (h : okV b = false) : PCall Try.prog 6 [.int .u8 op, lstV [a, b, c]] (.bool true) := by
  have ca := chk_ok ka
  have cb := chk_no h
  have hD := do_any op [a, b, c] (by simp only [List.mem_cons, List.not_mem_nil, or_false]; rintro _ (rfl | rfl | rfl) <;> assumption)
  have h2 : ((doV op [a, b, c]).2 == 2) = true := notok_two (v := b) (by simp) h
  refine pcall_of (lits2 (.int _ _) (.lst _ _ _)) (call6 rfl ?_)
  iterate 44 (all_goals (try conv => whnf); all_goals (try first | with_reducible refine brY (by assumption) ?_ | with_reducible refine brN (by assumption) ?_ | (with_reducible refine brT ?_ ?_; · (simp only [Bool.and_eq_true, Bool.not_eq_true', decide_eq_true_eq, decide_eq_false_iff_not, beq_iff_eq, beq_eq_false_iff_ne, ne_eq] at *; omega)) | with_reducible refine br (fun _ => ?_) (fun _ => ?_) | with_reducible refine ⟨rfl, ?_⟩ | with_reducible refine ARound.full ?_ | with_reducible refine PCall.call (lives_any) ?_ | with_reducible refine PCall.call (check_any a) ?_ | with_reducible refine PCall.call (check_any b) ?_ | with_reducible refine PCall.call (check_any c) ?_ | (refine PCall.call (check_any a) ?_) | (refine PCall.call (check_any b) ?_) | (refine PCall.call (check_any c) ?_) | (refine PCall.call hD ?_) | with_reducible refine loop_rounds 6 ?_))
  all_goals exact leaf (by rw [h2]) (.bool _)
theorem kinds_bad3_2 (op : Int) {a b c : V} (ia : a.In) (ib : b.In) (ic : c.In) (ka : okV a = true) (kb : okV b = true) (h : okV c = false) : PCall Try.prog 6 [.int .u8 op, lstV [a, b, c]] (.bool true) := by
  have ca := chk_ok ka
  have cb := chk_ok kb
  have cc := chk_no h
  have hD := do_any op [a, b, c] (by simp only [List.mem_cons, List.not_mem_nil, or_false]; rintro _ (rfl | rfl | rfl) <;> assumption)
  have h2 : ((doV op [a, b, c]).2 == 2) = true := notok_two (v := c) (by simp) h
  refine pcall_of (lits2 (.int _ _) (.lst _ _ _)) (call6 rfl ?_)
  iterate 44 (all_goals (try conv => whnf); all_goals (try first | with_reducible refine brY (by assumption) ?_ | with_reducible refine brN (by assumption) ?_ | (with_reducible refine brT ?_ ?_; · (simp only [Bool.and_eq_true, Bool.not_eq_true', decide_eq_true_eq, decide_eq_false_iff_not, beq_iff_eq, beq_eq_false_iff_ne, ne_eq] at *; omega)) | with_reducible refine br (fun _ => ?_) (fun _ => ?_) | with_reducible refine ⟨rfl, ?_⟩ | with_reducible refine ARound.full ?_ | with_reducible refine PCall.call (lives_any) ?_ | with_reducible refine PCall.call (check_any a) ?_ | with_reducible refine PCall.call (check_any b) ?_ | with_reducible refine PCall.call (check_any c) ?_ | (refine PCall.call (check_any a) ?_) | (refine PCall.call (check_any b) ?_) | (refine PCall.call (check_any c) ?_) | (refine PCall.call hD ?_) | with_reducible refine loop_rounds 6 ?_))
  all_goals exact leaf (by rw [h2]) (.bool _)
theorem kinds_ok3 (op : Int) {a b c : V} (ia : a.In) (ib : b.In) (ic : c.In) (ka : okV a = true) (kb : okV b = true) (kc : okV c = true) : PCall Try.prog 6 [.int .u8 op, lstV [a, b, c]] (.bool true) := by
  have ca := chk_ok ka
  have cb := chk_ok kb
  have cc := chk_ok kc
  have hD := do_any op [a, b, c] (by simp only [List.mem_cons, List.not_mem_nil, or_false]; rintro _ (rfl | rfl | rfl) <;> assumption)
  have hG := gives_any op [a.k, b.k, c.k]
  obtain ⟨q1, q2, q3⟩ := kinds_ok (op := op) (vs := [a, b, c]) (by simp only [List.mem_cons, List.not_mem_nil, or_false]; rintro _ (rfl | rfl | rfl) <;> assumption)
  simp only [List.map_cons, List.map_nil] at q1 q2 q3
  generalize doV op [a, b, c] = dv at hD q1 q2 q3
  generalize givesI op [a.k, b.k, c.k] = gv at hG q1 q2 q3
  obtain ⟨w, e⟩ := dv
  obtain ⟨g, f⟩ := gv
  dsimp only at q1 q2 q3
  by_cases hf : f = 0
  · by_cases he : e = 0
    · subst hf; subst he
      obtain ⟨ow, hk⟩ := q3 rfl rfl
      have cw : (chk w == 0) = true := by simp [chk, ow]
      rcases hk with hk | hk
      · have h1 : (w.k == g) = true := by simp [hk]
        refine pcall_of (lits2 (.int _ _) (.lst _ _ _)) (call6 rfl ?_)
        iterate 44 (all_goals (try conv => whnf); all_goals (try first | with_reducible refine brY (by assumption) ?_ | with_reducible refine brN (by assumption) ?_ | (with_reducible refine brT ?_ ?_; · (simp only [Bool.and_eq_true, Bool.not_eq_true', decide_eq_true_eq, decide_eq_false_iff_not, beq_iff_eq, beq_eq_false_iff_ne, ne_eq] at *; omega)) | with_reducible refine br (fun _ => ?_) (fun _ => ?_) | with_reducible refine ⟨rfl, ?_⟩ | with_reducible refine ARound.full ?_ | with_reducible refine PCall.call (lives_any) ?_ | with_reducible refine PCall.call (check_any a) ?_ | with_reducible refine PCall.call (check_any b) ?_ | with_reducible refine PCall.call (check_any c) ?_ | (refine PCall.call (check_any a) ?_) | (refine PCall.call (check_any b) ?_) | (refine PCall.call (check_any c) ?_) | (refine PCall.call hD ?_) | (refine PCall.call hG ?_) | (refine ACall.frz2 (.int _ _) (v' := lstK [a.k, b.k, c.k]) (hard_all (elems := [.int .u8 a.k, .int .u8 b.k, .int .u8 c.k]) rfl ⟨rfl, .int _ _, rfl, .int _ _, rfl, .int _ _, trivial⟩) ?_) | (refine PCall.call (check_any w) ?_) | with_reducible refine loop_rounds 6 ?_))
        all_goals first | exact leaf rfl (.bool _) | (refine leaf ?_ (.bool _); simp [cw, h1]) | (refine leaf ?_ (.bool _); simp_all)
      · have h1 : (w.k == 0) = true := by simp [hk]
        refine pcall_of (lits2 (.int _ _) (.lst _ _ _)) (call6 rfl ?_)
        iterate 44 (all_goals (try conv => whnf); all_goals (try first | with_reducible refine brY (by assumption) ?_ | with_reducible refine brN (by assumption) ?_ | (with_reducible refine brT ?_ ?_; · (simp only [Bool.and_eq_true, Bool.not_eq_true', decide_eq_true_eq, decide_eq_false_iff_not, beq_iff_eq, beq_eq_false_iff_ne, ne_eq] at *; omega)) | with_reducible refine br (fun _ => ?_) (fun _ => ?_) | with_reducible refine ⟨rfl, ?_⟩ | with_reducible refine ARound.full ?_ | with_reducible refine PCall.call (lives_any) ?_ | with_reducible refine PCall.call (check_any a) ?_ | with_reducible refine PCall.call (check_any b) ?_ | with_reducible refine PCall.call (check_any c) ?_ | (refine PCall.call (check_any a) ?_) | (refine PCall.call (check_any b) ?_) | (refine PCall.call (check_any c) ?_) | (refine PCall.call hD ?_) | (refine PCall.call hG ?_) | (refine ACall.frz2 (.int _ _) (v' := lstK [a.k, b.k, c.k]) (hard_all (elems := [.int .u8 a.k, .int .u8 b.k, .int .u8 c.k]) rfl ⟨rfl, .int _ _, rfl, .int _ _, rfl, .int _ _, trivial⟩) ?_) | (refine PCall.call (check_any w) ?_) | with_reducible refine loop_rounds 6 ?_))
        all_goals first | exact leaf rfl (.bool _) | (refine leaf ?_ (.bool _); simp [cw, h1]) | (refine leaf ?_ (.bool _); simp_all)
    · subst hf
      obtain ⟨he3, hw⟩ := q2 rfl he
      subst hw
      have h1 : (e != 0) = true := by simp [he]
      clear q1 q2 q3 he
      rcases he3 with rfl | rfl | rfl
      all_goals (
        refine pcall_of (lits2 (.int _ _) (.lst _ _ _)) (call6 rfl ?_)
        iterate 44 (all_goals (try conv => whnf); all_goals (try first | with_reducible refine brY (by assumption) ?_ | with_reducible refine brN (by assumption) ?_ | (with_reducible refine brT ?_ ?_; · (simp only [Bool.and_eq_true, Bool.not_eq_true', decide_eq_true_eq, decide_eq_false_iff_not, beq_iff_eq, beq_eq_false_iff_ne, ne_eq] at *; omega)) | with_reducible refine br (fun _ => ?_) (fun _ => ?_) | with_reducible refine ⟨rfl, ?_⟩ | with_reducible refine ARound.full ?_ | with_reducible refine PCall.call (lives_any) ?_ | with_reducible refine PCall.call (check_any a) ?_ | with_reducible refine PCall.call (check_any b) ?_ | with_reducible refine PCall.call (check_any c) ?_ | (refine PCall.call (check_any a) ?_) | (refine PCall.call (check_any b) ?_) | (refine PCall.call (check_any c) ?_) | (refine PCall.call hD ?_) | (refine PCall.call hG ?_) | (refine ACall.frz2 (.int _ _) (v' := lstK [a.k, b.k, c.k]) (hard_all (elems := [.int .u8 a.k, .int .u8 b.k, .int .u8 c.k]) rfl ⟨rfl, .int _ _, rfl, .int _ _, rfl, .int _ _, trivial⟩) ?_) | with_reducible refine loop_rounds 6 ?_))
        all_goals first | exact leaf rfl (.bool _) | (refine leaf ?_ (.bool _); simp_all [vnull]))
  · obtain ⟨he, hw⟩ := q1 hf
    subst he; subst hw
    have h1 : (e != 0) = true := by simp [hf]
    have h3 : (e == e) = true := by simp
    refine pcall_of (lits2 (.int _ _) (.lst _ _ _)) (call6 rfl ?_)
    iterate 44 (all_goals (try conv => whnf); all_goals (try first | with_reducible refine brY (by assumption) ?_ | with_reducible refine brN (by assumption) ?_ | (with_reducible refine brT ?_ ?_; · (simp only [Bool.and_eq_true, Bool.not_eq_true', decide_eq_true_eq, decide_eq_false_iff_not, beq_iff_eq, beq_eq_false_iff_ne, ne_eq] at *; omega)) | with_reducible refine br (fun _ => ?_) (fun _ => ?_) | with_reducible refine ⟨rfl, ?_⟩ | with_reducible refine ARound.full ?_ | with_reducible refine PCall.call (lives_any) ?_ | with_reducible refine PCall.call (check_any a) ?_ | with_reducible refine PCall.call (check_any b) ?_ | with_reducible refine PCall.call (check_any c) ?_ | (refine PCall.call (check_any a) ?_) | (refine PCall.call (check_any b) ?_) | (refine PCall.call (check_any c) ?_) | (refine PCall.call hD ?_) | (refine PCall.call hG ?_) | (refine ACall.frz2 (.int _ _) (v' := lstK [a.k, b.k, c.k]) (hard_all (elems := [.int .u8 a.k, .int .u8 b.k, .int .u8 c.k]) rfl ⟨rfl, .int _ _, rfl, .int _ _, rfl, .int _ _, trivial⟩) ?_) | with_reducible refine loop_rounds 6 ?_))
    all_goals first | exact leaf rfl (.bool _) | (refine leaf ?_ (.bool _); simp_all [vnull])
theorem kinds_bad4_0 (op : Int) {a b c d : V} (ia : a.In) (ib : b.In) (ic : c.In) (id : d.In)  (h : okV a = false) : PCall Try.prog 6 [.int .u8 op, lstV [a, b, c, d]] (.bool true) := by
  have ca := chk_no h
  have hD := do_any op [a, b, c, d] (by simp only [List.mem_cons, List.not_mem_nil, or_false]; rintro _ (rfl | rfl | rfl | rfl) <;> assumption)
  have h2 : ((doV op [a, b, c, d]).2 == 2) = true := notok_two (v := a) (by simp) h
  refine pcall_of (lits2 (.int _ _) (.lst _ _ _)) (call6 rfl ?_)
  iterate 52 (all_goals (try conv => whnf); all_goals (try first | with_reducible refine brY (by assumption) ?_ | with_reducible refine brN (by assumption) ?_ | (with_reducible refine brT ?_ ?_; · (simp only [Bool.and_eq_true, Bool.not_eq_true', decide_eq_true_eq, decide_eq_false_iff_not, beq_iff_eq, beq_eq_false_iff_ne, ne_eq] at *; omega)) | with_reducible refine br (fun _ => ?_) (fun _ => ?_) | with_reducible refine ⟨rfl, ?_⟩ | with_reducible refine ARound.full ?_ | with_reducible refine PCall.call (lives_any) ?_ | with_reducible refine PCall.call (check_any a) ?_ | with_reducible refine PCall.call (check_any b) ?_ | with_reducible refine PCall.call (check_any c) ?_ | with_reducible refine PCall.call (check_any d) ?_ | (refine PCall.call (check_any a) ?_) | (refine PCall.call (check_any b) ?_) | (refine PCall.call (check_any c) ?_) | (refine PCall.call (check_any d) ?_) | (refine PCall.call hD ?_) | with_reducible refine loop_rounds 6 ?_))
  all_goals exact leaf (by rw [h2]) (.bool _)
theorem kinds_bad4_1 (op : Int) {a b c d : V} (ia : a.In) (ib : b.In) (ic : c.In) (id : d.In) (ka : okV a = true) (h : okV b = false) : PCall Try.prog 6 [.int .u8 op, lstV [a, b, c, d]] (.bool true) := by
  have ca := chk_ok ka
  have cb := chk_no h
  have hD := do_any op [a, b, c, d] (by simp only [List.mem_cons, List.not_mem_nil, or_false]; rintro _ (rfl | rfl | rfl | rfl) <;> assumption)
  have h2 : ((doV op [a, b, c, d]).2 == 2) = true := notok_two (v := b) (by simp) h
  refine pcall_of (lits2 (.int _ _) (.lst _ _ _)) (call6 rfl ?_)
  iterate 52 (all_goals (try conv => whnf); all_goals (try first | with_reducible refine brY (by assumption) ?_ | with_reducible refine brN (by assumption) ?_ | (with_reducible refine brT ?_ ?_; · (simp only [Bool.and_eq_true, Bool.not_eq_true', decide_eq_true_eq, decide_eq_false_iff_not, beq_iff_eq, beq_eq_false_iff_ne, ne_eq] at *; omega)) | with_reducible refine br (fun _ => ?_) (fun _ => ?_) | with_reducible refine ⟨rfl, ?_⟩ | with_reducible refine ARound.full ?_ | with_reducible refine PCall.call (lives_any) ?_ | with_reducible refine PCall.call (check_any a) ?_ | with_reducible refine PCall.call (check_any b) ?_ | with_reducible refine PCall.call (check_any c) ?_ | with_reducible refine PCall.call (check_any d) ?_ | (refine PCall.call (check_any a) ?_) | (refine PCall.call (check_any b) ?_) | (refine PCall.call (check_any c) ?_) | (refine PCall.call (check_any d) ?_) | (refine PCall.call hD ?_) | with_reducible refine loop_rounds 6 ?_))
  all_goals exact leaf (by rw [h2]) (.bool _)
theorem kinds_bad4_2 (op : Int) {a b c d : V} (ia : a.In) (ib : b.In) (ic : c.In) (id : d.In) (ka : okV a = true) (kb : okV b = true) (h : okV c = false) : PCall Try.prog 6 [.int .u8 op, lstV [a, b, c, d]] (.bool true) := by
  have ca := chk_ok ka
  have cb := chk_ok kb
  have cc := chk_no h
  have hD := do_any op [a, b, c, d] (by simp only [List.mem_cons, List.not_mem_nil, or_false]; rintro _ (rfl | rfl | rfl | rfl) <;> assumption)
  have h2 : ((doV op [a, b, c, d]).2 == 2) = true := notok_two (v := c) (by simp) h
  refine pcall_of (lits2 (.int _ _) (.lst _ _ _)) (call6 rfl ?_)
  iterate 52 (all_goals (try conv => whnf); all_goals (try first | with_reducible refine brY (by assumption) ?_ | with_reducible refine brN (by assumption) ?_ | (with_reducible refine brT ?_ ?_; · (simp only [Bool.and_eq_true, Bool.not_eq_true', decide_eq_true_eq, decide_eq_false_iff_not, beq_iff_eq, beq_eq_false_iff_ne, ne_eq] at *; omega)) | with_reducible refine br (fun _ => ?_) (fun _ => ?_) | with_reducible refine ⟨rfl, ?_⟩ | with_reducible refine ARound.full ?_ | with_reducible refine PCall.call (lives_any) ?_ | with_reducible refine PCall.call (check_any a) ?_ | with_reducible refine PCall.call (check_any b) ?_ | with_reducible refine PCall.call (check_any c) ?_ | with_reducible refine PCall.call (check_any d) ?_ | (refine PCall.call (check_any a) ?_) | (refine PCall.call (check_any b) ?_) | (refine PCall.call (check_any c) ?_) | (refine PCall.call (check_any d) ?_) | (refine PCall.call hD ?_) | with_reducible refine loop_rounds 6 ?_))
  all_goals exact leaf (by rw [h2]) (.bool _)
theorem kinds_bad4_3 (op : Int) {a b c d : V} (ia : a.In) (ib : b.In) (ic : c.In) (id : d.In) (ka : okV a = true) (kb : okV b = true) (kc : okV c = true) (h : okV d = false) : PCall Try.prog 6 [.int .u8 op, lstV [a, b, c, d]] (.bool true) := by
  have ca := chk_ok ka
  have cb := chk_ok kb
  have cc := chk_ok kc
  have cd := chk_no h
  have hD := do_any op [a, b, c, d] (by simp only [List.mem_cons, List.not_mem_nil, or_false]; rintro _ (rfl | rfl | rfl | rfl) <;> assumption)
  have h2 : ((doV op [a, b, c, d]).2 == 2) = true := notok_two (v := d) (by simp) h
  refine pcall_of (lits2 (.int _ _) (.lst _ _ _)) (call6 rfl ?_)
  iterate 52 (all_goals (try conv => whnf); all_goals (try first | with_reducible refine brY (by assumption) ?_ | with_reducible refine brN (by assumption) ?_ | (with_reducible refine brT ?_ ?_; · (simp only [Bool.and_eq_true, Bool.not_eq_true', decide_eq_true_eq, decide_eq_false_iff_not, beq_iff_eq, beq_eq_false_iff_ne, ne_eq] at *; omega)) | with_reducible refine br (fun _ => ?_) (fun _ => ?_) | with_reducible refine ⟨rfl, ?_⟩ | with_reducible refine ARound.full ?_ | with_reducible refine PCall.call (lives_any) ?_ | with_reducible refine PCall.call (check_any a) ?_ | with_reducible refine PCall.call (check_any b) ?_ | with_reducible refine PCall.call (check_any c) ?_ | with_reducible refine PCall.call (check_any d) ?_ | (refine PCall.call (check_any a) ?_) | (refine PCall.call (check_any b) ?_) | (refine PCall.call (check_any c) ?_) | (refine PCall.call (check_any d) ?_) | (refine PCall.call hD ?_) | with_reducible refine loop_rounds 6 ?_))
  all_goals exact leaf (by rw [h2]) (.bool _)
theorem kinds_ok4 (op : Int) {a b c d : V} (ia : a.In) (ib : b.In) (ic : c.In) (id : d.In) (ka : okV a = true) (kb : okV b = true) (kc : okV c = true) (kd : okV d = true) : PCall Try.prog 6 [.int .u8 op, lstV [a, b, c, d]] (.bool true) := by
  have ca := chk_ok ka
  have cb := chk_ok kb
  have cc := chk_ok kc
  have cd := chk_ok kd
  have hD := do_any op [a, b, c, d] (by simp only [List.mem_cons, List.not_mem_nil, or_false]; rintro _ (rfl | rfl | rfl | rfl) <;> assumption)
  have hG := gives_any op [a.k, b.k, c.k, d.k]
  obtain ⟨q1, q2, q3⟩ := kinds_ok (op := op) (vs := [a, b, c, d]) (by simp only [List.mem_cons, List.not_mem_nil, or_false]; rintro _ (rfl | rfl | rfl | rfl) <;> assumption)
  simp only [List.map_cons, List.map_nil] at q1 q2 q3
  generalize doV op [a, b, c, d] = dv at hD q1 q2 q3
  generalize givesI op [a.k, b.k, c.k, d.k] = gv at hG q1 q2 q3
  obtain ⟨w, e⟩ := dv
  obtain ⟨g, f⟩ := gv
  dsimp only at q1 q2 q3
  by_cases hf : f = 0
  · by_cases he : e = 0
    · subst hf; subst he
      obtain ⟨ow, hk⟩ := q3 rfl rfl
      have cw : (chk w == 0) = true := by simp [chk, ow]
      rcases hk with hk | hk
      · have h1 : (w.k == g) = true := by simp [hk]
        refine pcall_of (lits2 (.int _ _) (.lst _ _ _)) (call6 rfl ?_)
        iterate 52 (all_goals (try conv => whnf); all_goals (try first | with_reducible refine brY (by assumption) ?_ | with_reducible refine brN (by assumption) ?_ | (with_reducible refine brT ?_ ?_; · (simp only [Bool.and_eq_true, Bool.not_eq_true', decide_eq_true_eq, decide_eq_false_iff_not, beq_iff_eq, beq_eq_false_iff_ne, ne_eq] at *; omega)) | with_reducible refine br (fun _ => ?_) (fun _ => ?_) | with_reducible refine ⟨rfl, ?_⟩ | with_reducible refine ARound.full ?_ | with_reducible refine PCall.call (lives_any) ?_ | with_reducible refine PCall.call (check_any a) ?_ | with_reducible refine PCall.call (check_any b) ?_ | with_reducible refine PCall.call (check_any c) ?_ | with_reducible refine PCall.call (check_any d) ?_ | (refine PCall.call (check_any a) ?_) | (refine PCall.call (check_any b) ?_) | (refine PCall.call (check_any c) ?_) | (refine PCall.call (check_any d) ?_) | (refine PCall.call hD ?_) | (refine PCall.call hG ?_) | (refine ACall.frz2 (.int _ _) (v' := lstK [a.k, b.k, c.k, d.k]) (hard_all (elems := [.int .u8 a.k, .int .u8 b.k, .int .u8 c.k, .int .u8 d.k]) rfl ⟨rfl, .int _ _, rfl, .int _ _, rfl, .int _ _, rfl, .int _ _, trivial⟩) ?_) | (refine PCall.call (check_any w) ?_) | with_reducible refine loop_rounds 6 ?_))
        all_goals first | exact leaf rfl (.bool _) | (refine leaf ?_ (.bool _); simp [cw, h1]) | (refine leaf ?_ (.bool _); simp_all)
      · have h1 : (w.k == 0) = true := by simp [hk]
        refine pcall_of (lits2 (.int _ _) (.lst _ _ _)) (call6 rfl ?_)
        iterate 52 (all_goals (try conv => whnf); all_goals (try first | with_reducible refine brY (by assumption) ?_ | with_reducible refine brN (by assumption) ?_ | (with_reducible refine brT ?_ ?_; · (simp only [Bool.and_eq_true, Bool.not_eq_true', decide_eq_true_eq, decide_eq_false_iff_not, beq_iff_eq, beq_eq_false_iff_ne, ne_eq] at *; omega)) | with_reducible refine br (fun _ => ?_) (fun _ => ?_) | with_reducible refine ⟨rfl, ?_⟩ | with_reducible refine ARound.full ?_ | with_reducible refine PCall.call (lives_any) ?_ | with_reducible refine PCall.call (check_any a) ?_ | with_reducible refine PCall.call (check_any b) ?_ | with_reducible refine PCall.call (check_any c) ?_ | with_reducible refine PCall.call (check_any d) ?_ | (refine PCall.call (check_any a) ?_) | (refine PCall.call (check_any b) ?_) | (refine PCall.call (check_any c) ?_) | (refine PCall.call (check_any d) ?_) | (refine PCall.call hD ?_) | (refine PCall.call hG ?_) | (refine ACall.frz2 (.int _ _) (v' := lstK [a.k, b.k, c.k, d.k]) (hard_all (elems := [.int .u8 a.k, .int .u8 b.k, .int .u8 c.k, .int .u8 d.k]) rfl ⟨rfl, .int _ _, rfl, .int _ _, rfl, .int _ _, rfl, .int _ _, trivial⟩) ?_) | (refine PCall.call (check_any w) ?_) | with_reducible refine loop_rounds 6 ?_))
        all_goals first | exact leaf rfl (.bool _) | (refine leaf ?_ (.bool _); simp [cw, h1]) | (refine leaf ?_ (.bool _); simp_all)
    · subst hf
      obtain ⟨he3, hw⟩ := q2 rfl he
      subst hw
      have h1 : (e != 0) = true := by simp [he]
      clear q1 q2 q3 he
      rcases he3 with rfl | rfl | rfl
      all_goals (
        refine pcall_of (lits2 (.int _ _) (.lst _ _ _)) (call6 rfl ?_)
        iterate 52 (all_goals (try conv => whnf); all_goals (try first | with_reducible refine brY (by assumption) ?_ | with_reducible refine brN (by assumption) ?_ | (with_reducible refine brT ?_ ?_; · (simp only [Bool.and_eq_true, Bool.not_eq_true', decide_eq_true_eq, decide_eq_false_iff_not, beq_iff_eq, beq_eq_false_iff_ne, ne_eq] at *; omega)) | with_reducible refine br (fun _ => ?_) (fun _ => ?_) | with_reducible refine ⟨rfl, ?_⟩ | with_reducible refine ARound.full ?_ | with_reducible refine PCall.call (lives_any) ?_ | with_reducible refine PCall.call (check_any a) ?_ | with_reducible refine PCall.call (check_any b) ?_ | with_reducible refine PCall.call (check_any c) ?_ | with_reducible refine PCall.call (check_any d) ?_ | (refine PCall.call (check_any a) ?_) | (refine PCall.call (check_any b) ?_) | (refine PCall.call (check_any c) ?_) | (refine PCall.call (check_any d) ?_) | (refine PCall.call hD ?_) | (refine PCall.call hG ?_) | (refine ACall.frz2 (.int _ _) (v' := lstK [a.k, b.k, c.k, d.k]) (hard_all (elems := [.int .u8 a.k, .int .u8 b.k, .int .u8 c.k, .int .u8 d.k]) rfl ⟨rfl, .int _ _, rfl, .int _ _, rfl, .int _ _, rfl, .int _ _, trivial⟩) ?_) | with_reducible refine loop_rounds 6 ?_))
        all_goals first | exact leaf rfl (.bool _) | (refine leaf ?_ (.bool _); simp_all [vnull]))
  · obtain ⟨he, hw⟩ := q1 hf
    subst he; subst hw
    have h1 : (e != 0) = true := by simp [hf]
    have h3 : (e == e) = true := by simp
    refine pcall_of (lits2 (.int _ _) (.lst _ _ _)) (call6 rfl ?_)
    iterate 52 (all_goals (try conv => whnf); all_goals (try first | with_reducible refine brY (by assumption) ?_ | with_reducible refine brN (by assumption) ?_ | (with_reducible refine brT ?_ ?_; · (simp only [Bool.and_eq_true, Bool.not_eq_true', decide_eq_true_eq, decide_eq_false_iff_not, beq_iff_eq, beq_eq_false_iff_ne, ne_eq] at *; omega)) | with_reducible refine br (fun _ => ?_) (fun _ => ?_) | with_reducible refine ⟨rfl, ?_⟩ | with_reducible refine ARound.full ?_ | with_reducible refine PCall.call (lives_any) ?_ | with_reducible refine PCall.call (check_any a) ?_ | with_reducible refine PCall.call (check_any b) ?_ | with_reducible refine PCall.call (check_any c) ?_ | with_reducible refine PCall.call (check_any d) ?_ | (refine PCall.call (check_any a) ?_) | (refine PCall.call (check_any b) ?_) | (refine PCall.call (check_any c) ?_) | (refine PCall.call (check_any d) ?_) | (refine PCall.call hD ?_) | (refine PCall.call hG ?_) | (refine ACall.frz2 (.int _ _) (v' := lstK [a.k, b.k, c.k, d.k]) (hard_all (elems := [.int .u8 a.k, .int .u8 b.k, .int .u8 c.k, .int .u8 d.k]) rfl ⟨rfl, .int _ _, rfl, .int _ _, rfl, .int _ _, rfl, .int _ _, trivial⟩) ?_) | with_reducible refine loop_rounds 6 ?_))
    all_goals first | exact leaf rfl (.bool _) | (refine leaf ?_ (.bool _); simp_all [vnull])
theorem kinds_bad5_0 (op : Int) {a b c d m : V} (ia : a.In) (ib : b.In) (ic : c.In) (id : d.In) (im : m.In)  (h : okV a = false) : PCall Try.prog 6 [.int .u8 op, lstV [a, b, c, d, m]] (.bool true) := by
  have ca := chk_no h
  have hD := do_any op [a, b, c, d, m] (by simp only [List.mem_cons, List.not_mem_nil, or_false]; rintro _ (rfl | rfl | rfl | rfl | rfl) <;> assumption)
  have h2 : ((doV op [a, b, c, d, m]).2 == 2) = true := notok_two (v := a) (by simp) h
  refine pcall_of (lits2 (.int _ _) (.lst _ _ _)) (call6 rfl ?_)
  iterate 60 (all_goals (try conv => whnf); all_goals (try first | with_reducible refine brY (by assumption) ?_ | with_reducible refine brN (by assumption) ?_ | (with_reducible refine brT ?_ ?_; · (simp only [Bool.and_eq_true, Bool.not_eq_true', decide_eq_true_eq, decide_eq_false_iff_not, beq_iff_eq, beq_eq_false_iff_ne, ne_eq] at *; omega)) | with_reducible refine br (fun _ => ?_) (fun _ => ?_) | with_reducible refine ⟨rfl, ?_⟩ | with_reducible refine ARound.full ?_ | with_reducible refine PCall.call (lives_any) ?_ | with_reducible refine PCall.call (check_any a) ?_ | with_reducible refine PCall.call (check_any b) ?_ | with_reducible refine PCall.call (check_any c) ?_ | with_reducible refine PCall.call (check_any d) ?_ | with_reducible refine PCall.call (check_any m) ?_ | (refine PCall.call (check_any a) ?_) | (refine PCall.call (check_any b) ?_) | (refine PCall.call (check_any c) ?_) | (refine PCall.call (check_any d) ?_) | (refine PCall.call (check_any m) ?_) | (refine PCall.call hD ?_) | with_reducible refine loop_rounds 6 ?_))
  all_goals exact leaf (by rw [h2]) (.bool _)
theorem kinds_bad5_1 (op : Int) {a b c d m : V} (ia : a.In) (ib : b.In) (ic : c.In) (id : d.In) (im : m.In) (ka : okV a = true) (h : okV b = false) : PCall Try.prog 6 [.int .u8 op, lstV [a, b, c, d, m]] (.bool true) := by
  have ca := chk_ok ka
  have cb := chk_no h
  have hD := do_any op [a, b, c, d, m] (by simp only [List.mem_cons, List.not_mem_nil, or_false]; rintro _ (rfl | rfl | rfl | rfl | rfl) <;> assumption)
  have h2 : ((doV op [a, b, c, d, m]).2 == 2) = true := notok_two (v := b) (by simp) h
  refine pcall_of (lits2 (.int _ _) (.lst _ _ _)) (call6 rfl ?_)
  iterate 60 (all_goals (try conv => whnf); all_goals (try first | with_reducible refine brY (by assumption) ?_ | with_reducible refine brN (by assumption) ?_ | (with_reducible refine brT ?_ ?_; · (simp only [Bool.and_eq_true, Bool.not_eq_true', decide_eq_true_eq, decide_eq_false_iff_not, beq_iff_eq, beq_eq_false_iff_ne, ne_eq] at *; omega)) | with_reducible refine br (fun _ => ?_) (fun _ => ?_) | with_reducible refine ⟨rfl, ?_⟩ | with_reducible refine ARound.full ?_ | with_reducible refine PCall.call (lives_any) ?_ | with_reducible refine PCall.call (check_any a) ?_ | with_reducible refine PCall.call (check_any b) ?_ | with_reducible refine PCall.call (check_any c) ?_ | with_reducible refine PCall.call (check_any d) ?_ | with_reducible refine PCall.call (check_any m) ?_ | (refine PCall.call (check_any a) ?_) | (refine PCall.call (check_any b) ?_) | (refine PCall.call (check_any c) ?_) | (refine PCall.call (check_any d) ?_) | (refine PCall.call (check_any m) ?_) | (refine PCall.call hD ?_) | with_reducible refine loop_rounds 6 ?_))
  all_goals exact leaf (by rw [h2]) (.bool _)
theorem kinds_bad5_2 (op : Int) {a b c d m : V} (ia : a.In) (ib : b.In) (ic : c.In) (id : d.In) (im : m.In) (ka : okV a = true) (kb : okV b = true) (h : okV c = false) : PCall Try.prog 6 [.int .u8 op, lstV [a, b, c, d, m]] (.bool true) := by
  have ca := chk_ok ka
  have cb := chk_ok kb
  have cc := chk_no h
  have hD := do_any op [a, b, c, d, m] (by simp only [List.mem_cons, List.not_mem_nil, or_false]; rintro _ (rfl | rfl | rfl | rfl | rfl) <;> assumption)
  have h2 : ((doV op [a, b, c, d, m]).2 == 2) = true := notok_two (v := c) (by simp) h
  refine pcall_of (lits2 (.int _ _) (.lst _ _ _)) (call6 rfl ?_)
  iterate 60 (all_goals (try conv => whnf); all_goals (try first | with_reducible refine brY (by assumption) ?_ | with_reducible refine brN (by assumption) ?_ | (with_reducible refine brT ?_ ?_; · (simp only [Bool.and_eq_true, Bool.not_eq_true', decide_eq_true_eq, decide_eq_false_iff_not, beq_iff_eq, beq_eq_false_iff_ne, ne_eq] at *; omega)) | with_reducible refine br (fun _ => ?_) (fun _ => ?_) | with_reducible refine ⟨rfl, ?_⟩ | with_reducible refine ARound.full ?_ | with_reducible refine PCall.call (lives_any) ?_ | with_reducible refine PCall.call (check_any a) ?_ | with_reducible refine PCall.call (check_any b) ?_ | with_reducible refine PCall.call (check_any c) ?_ | with_reducible refine PCall.call (check_any d) ?_ | with_reducible refine PCall.call (check_any m) ?_ | (refine PCall.call (check_any a) ?_) | (refine PCall.call (check_any b) ?_) | (refine PCall.call (check_any c) ?_) | (refine PCall.call (check_any d) ?_) | (refine PCall.call (check_any m) ?_) | (refine PCall.call hD ?_) | with_reducible refine loop_rounds 6 ?_))
  all_goals exact leaf (by rw [h2]) (.bool _)
theorem kinds_bad5_3 (op : Int) {a b c d m : V} (ia : a.In) (ib : b.In) (ic : c.In) (id : d.In) (im : m.In) (ka : okV a = true) (kb : okV b = true) (kc : okV c = true) (h : okV d = false) : PCall Try.prog 6 [.int .u8 op, lstV [a, b, c, d, m]] (.bool true) := by
  have ca := chk_ok ka
  have cb := chk_ok kb
  have cc := chk_ok kc
  have cd := chk_no h
  have hD := do_any op [a, b, c, d, m] (by simp only [List.mem_cons, List.not_mem_nil, or_false]; rintro _ (rfl | rfl | rfl | rfl | rfl) <;> assumption)
  have h2 : ((doV op [a, b, c, d, m]).2 == 2) = true := notok_two (v := d) (by simp) h
  refine pcall_of (lits2 (.int _ _) (.lst _ _ _)) (call6 rfl ?_)
  iterate 60 (all_goals (try conv => whnf); all_goals (try first | with_reducible refine brY (by assumption) ?_ | with_reducible refine brN (by assumption) ?_ | (with_reducible refine brT ?_ ?_; · (simp only [Bool.and_eq_true, Bool.not_eq_true', decide_eq_true_eq, decide_eq_false_iff_not, beq_iff_eq, beq_eq_false_iff_ne, ne_eq] at *; omega)) | with_reducible refine br (fun _ => ?_) (fun _ => ?_) | with_reducible refine ⟨rfl, ?_⟩ | with_reducible refine ARound.full ?_ | with_reducible refine PCall.call (lives_any) ?_ | with_reducible refine PCall.call (check_any a) ?_ | with_reducible refine PCall.call (check_any b) ?_ | with_reducible refine PCall.call (check_any c) ?_ | with_reducible refine PCall.call (check_any d) ?_ | with_reducible refine PCall.call (check_any m) ?_ | (refine PCall.call (check_any a) ?_) | (refine PCall.call (check_any b) ?_) | (refine PCall.call (check_any c) ?_) | (refine PCall.call (check_any d) ?_) | (refine PCall.call (check_any m) ?_) | (refine PCall.call hD ?_) | with_reducible refine loop_rounds 6 ?_))
  all_goals exact leaf (by rw [h2]) (.bool _)
theorem kinds_bad5_4 (op : Int) {a b c d m : V} (ia : a.In) (ib : b.In) (ic : c.In) (id : d.In) (im : m.In) (ka : okV a = true) (kb : okV b = true) (kc : okV c = true) (kd : okV d = true) (h : okV m = false) : PCall Try.prog 6 [.int .u8 op, lstV [a, b, c, d, m]] (.bool true) := by
  have ca := chk_ok ka
  have cb := chk_ok kb
  have cc := chk_ok kc
  have cd := chk_ok kd
  have cm := chk_no h
  have hD := do_any op [a, b, c, d, m] (by simp only [List.mem_cons, List.not_mem_nil, or_false]; rintro _ (rfl | rfl | rfl | rfl | rfl) <;> assumption)
  have h2 : ((doV op [a, b, c, d, m]).2 == 2) = true := notok_two (v := m) (by simp) h
  refine pcall_of (lits2 (.int _ _) (.lst _ _ _)) (call6 rfl ?_)
  iterate 60 (all_goals (try conv => whnf); all_goals (try first | with_reducible refine brY (by assumption) ?_ | with_reducible refine brN (by assumption) ?_ | (with_reducible refine brT ?_ ?_; · (simp only [Bool.and_eq_true, Bool.not_eq_true', decide_eq_true_eq, decide_eq_false_iff_not, beq_iff_eq, beq_eq_false_iff_ne, ne_eq] at *; omega)) | with_reducible refine br (fun _ => ?_) (fun _ => ?_) | with_reducible refine ⟨rfl, ?_⟩ | with_reducible refine ARound.full ?_ | with_reducible refine PCall.call (lives_any) ?_ | with_reducible refine PCall.call (check_any a) ?_ | with_reducible refine PCall.call (check_any b) ?_ | with_reducible refine PCall.call (check_any c) ?_ | with_reducible refine PCall.call (check_any d) ?_ | with_reducible refine PCall.call (check_any m) ?_ | (refine PCall.call (check_any a) ?_) | (refine PCall.call (check_any b) ?_) | (refine PCall.call (check_any c) ?_) | (refine PCall.call (check_any d) ?_) | (refine PCall.call (check_any m) ?_) | (refine PCall.call hD ?_) | with_reducible refine loop_rounds 6 ?_))
  all_goals exact leaf (by rw [h2]) (.bool _)
theorem kinds_ok5 (op : Int) {a b c d m : V} (ia : a.In) (ib : b.In) (ic : c.In) (id : d.In) (im : m.In) (ka : okV a = true) (kb : okV b = true) (kc : okV c = true) (kd : okV d = true) (km : okV m = true) : PCall Try.prog 6 [.int .u8 op, lstV [a, b, c, d, m]] (.bool true) := by
  have ca := chk_ok ka
  have cb := chk_ok kb
  have cc := chk_ok kc
  have cd := chk_ok kd
  have cm := chk_ok km
  have hD := do_any op [a, b, c, d, m] (by simp only [List.mem_cons, List.not_mem_nil, or_false]; rintro _ (rfl | rfl | rfl | rfl | rfl) <;> assumption)
  have hG := gives_any op [a.k, b.k, c.k, d.k, m.k]
  obtain ⟨q1, q2, q3⟩ := kinds_ok (op := op) (vs := [a, b, c, d, m]) (by simp only [List.mem_cons, List.not_mem_nil, or_false]; rintro _ (rfl | rfl | rfl | rfl | rfl) <;> assumption)
  simp only [List.map_cons, List.map_nil] at q1 q2 q3
  generalize doV op [a, b, c, d, m] = dv at hD q1 q2 q3
  generalize givesI op [a.k, b.k, c.k, d.k, m.k] = gv at hG q1 q2 q3
  obtain ⟨w, e⟩ := dv
  obtain ⟨g, f⟩ := gv
  dsimp only at q1 q2 q3
  by_cases hf : f = 0
  · by_cases he : e = 0
    · subst hf; subst he
      obtain ⟨ow, hk⟩ := q3 rfl rfl
      have cw : (chk w == 0) = true := by simp [chk, ow]
      rcases hk with hk | hk
      · have h1 : (w.k == g) = true := by simp [hk]
        refine pcall_of (lits2 (.int _ _) (.lst _ _ _)) (call6 rfl ?_)
        iterate 60 (all_goals (try conv => whnf); all_goals (try first | with_reducible refine brY (by assumption) ?_ | with_reducible refine brN (by assumption) ?_ | (with_reducible refine brT ?_ ?_; · (simp only [Bool.and_eq_true, Bool.not_eq_true', decide_eq_true_eq, decide_eq_false_iff_not, beq_iff_eq, beq_eq_false_iff_ne, ne_eq] at *; omega)) | with_reducible refine br (fun _ => ?_) (fun _ => ?_) | with_reducible refine ⟨rfl, ?_⟩ | with_reducible refine ARound.full ?_ | with_reducible refine PCall.call (lives_any) ?_ | with_reducible refine PCall.call (check_any a) ?_ | with_reducible refine PCall.call (check_any b) ?_ | with_reducible refine PCall.call (check_any c) ?_ | with_reducible refine PCall.call (check_any d) ?_ | with_reducible refine PCall.call (check_any m) ?_ | (refine PCall.call (check_any a) ?_) | (refine PCall.call (check_any b) ?_) | (refine PCall.call (check_any c) ?_) | (refine PCall.call (check_any d) ?_) | (refine PCall.call (check_any m) ?_) | (refine PCall.call hD ?_) | (refine PCall.call hG ?_) | (refine ACall.frz2 (.int _ _) (v' := lstK [a.k, b.k, c.k, d.k, m.k]) (hard_all (elems := [.int .u8 a.k, .int .u8 b.k, .int .u8 c.k, .int .u8 d.k, .int .u8 m.k]) rfl ⟨rfl, .int _ _, rfl, .int _ _, rfl, .int _ _, rfl, .int _ _, rfl, .int _ _, trivial⟩) ?_) | (refine PCall.call (check_any w) ?_) | with_reducible refine loop_rounds 6 ?_))
        all_goals first | exact leaf rfl (.bool _) | (refine leaf ?_ (.bool _); simp [cw, h1]) | (refine leaf ?_ (.bool _); simp_all)
      · have h1 : (w.k == 0) = true := by simp [hk]
        refine pcall_of (lits2 (.int _ _) (.lst _ _ _)) (call6 rfl ?_)
        iterate 60 (all_goals (try conv => whnf); all_goals (try first | with_reducible refine brY (by assumption) ?_ | with_reducible refine brN (by assumption) ?_ | (with_reducible refine brT ?_ ?_; · (simp only [Bool.and_eq_true, Bool.not_eq_true', decide_eq_true_eq, decide_eq_false_iff_not, beq_iff_eq, beq_eq_false_iff_ne, ne_eq] at *; omega)) | with_reducible refine br (fun _ => ?_) (fun _ => ?_) | with_reducible refine ⟨rfl, ?_⟩ | with_reducible refine ARound.full ?_ | with_reducible refine PCall.call (lives_any) ?_ | with_reducible refine PCall.call (check_any a) ?_ | with_reducible refine PCall.call (check_any b) ?_ | with_reducible refine PCall.call (check_any c) ?_ | with_reducible refine PCall.call (check_any d) ?_ | with_reducible refine PCall.call (check_any m) ?_ | (refine PCall.call (check_any a) ?_) | (refine PCall.call (check_any b) ?_) | (refine PCall.call (check_any c) ?_) | (refine PCall.call (check_any d) ?_) | (refine PCall.call (check_any m) ?_) | (refine PCall.call hD ?_) | (refine PCall.call hG ?_) | (refine ACall.frz2 (.int _ _) (v' := lstK [a.k, b.k, c.k, d.k, m.k]) (hard_all (elems := [.int .u8 a.k, .int .u8 b.k, .int .u8 c.k, .int .u8 d.k, .int .u8 m.k]) rfl ⟨rfl, .int _ _, rfl, .int _ _, rfl, .int _ _, rfl, .int _ _, rfl, .int _ _, trivial⟩) ?_) | (refine PCall.call (check_any w) ?_) | with_reducible refine loop_rounds 6 ?_))
        all_goals first | exact leaf rfl (.bool _) | (refine leaf ?_ (.bool _); simp [cw, h1]) | (refine leaf ?_ (.bool _); simp_all)
    · subst hf
      obtain ⟨he3, hw⟩ := q2 rfl he
      subst hw
      have h1 : (e != 0) = true := by simp [he]
      clear q1 q2 q3 he
      rcases he3 with rfl | rfl | rfl
      all_goals (
        refine pcall_of (lits2 (.int _ _) (.lst _ _ _)) (call6 rfl ?_)
        iterate 60 (all_goals (try conv => whnf); all_goals (try first | with_reducible refine brY (by assumption) ?_ | with_reducible refine brN (by assumption) ?_ | (with_reducible refine brT ?_ ?_; · (simp only [Bool.and_eq_true, Bool.not_eq_true', decide_eq_true_eq, decide_eq_false_iff_not, beq_iff_eq, beq_eq_false_iff_ne, ne_eq] at *; omega)) | with_reducible refine br (fun _ => ?_) (fun _ => ?_) | with_reducible refine ⟨rfl, ?_⟩ | with_reducible refine ARound.full ?_ | with_reducible refine PCall.call (lives_any) ?_ | with_reducible refine PCall.call (check_any a) ?_ | with_reducible refine PCall.call (check_any b) ?_ | with_reducible refine PCall.call (check_any c) ?_ | with_reducible refine PCall.call (check_any d) ?_ | with_reducible refine PCall.call (check_any m) ?_ | (refine PCall.call (check_any a) ?_) | (refine PCall.call (check_any b) ?_) | (refine PCall.call (check_any c) ?_) | (refine PCall.call (check_any d) ?_) | (refine PCall.call (check_any m) ?_) | (refine PCall.call hD ?_) | (refine PCall.call hG ?_) | (refine ACall.frz2 (.int _ _) (v' := lstK [a.k, b.k, c.k, d.k, m.k]) (hard_all (elems := [.int .u8 a.k, .int .u8 b.k, .int .u8 c.k, .int .u8 d.k, .int .u8 m.k]) rfl ⟨rfl, .int _ _, rfl, .int _ _, rfl, .int _ _, rfl, .int _ _, rfl, .int _ _, trivial⟩) ?_) | with_reducible refine loop_rounds 6 ?_))
        all_goals first | exact leaf rfl (.bool _) | (refine leaf ?_ (.bool _); simp_all [vnull]))
  · obtain ⟨he, hw⟩ := q1 hf
    subst he; subst hw
    have h1 : (e != 0) = true := by simp [hf]
    have h3 : (e == e) = true := by simp
    refine pcall_of (lits2 (.int _ _) (.lst _ _ _)) (call6 rfl ?_)
    iterate 60 (all_goals (try conv => whnf); all_goals (try first | with_reducible refine brY (by assumption) ?_ | with_reducible refine brN (by assumption) ?_ | (with_reducible refine brT ?_ ?_; · (simp only [Bool.and_eq_true, Bool.not_eq_true', decide_eq_true_eq, decide_eq_false_iff_not, beq_iff_eq, beq_eq_false_iff_ne, ne_eq] at *; omega)) | with_reducible refine br (fun _ => ?_) (fun _ => ?_) | with_reducible refine ⟨rfl, ?_⟩ | with_reducible refine ARound.full ?_ | with_reducible refine PCall.call (lives_any) ?_ | with_reducible refine PCall.call (check_any a) ?_ | with_reducible refine PCall.call (check_any b) ?_ | with_reducible refine PCall.call (check_any c) ?_ | with_reducible refine PCall.call (check_any d) ?_ | with_reducible refine PCall.call (check_any m) ?_ | (refine PCall.call (check_any a) ?_) | (refine PCall.call (check_any b) ?_) | (refine PCall.call (check_any c) ?_) | (refine PCall.call (check_any d) ?_) | (refine PCall.call (check_any m) ?_) | (refine PCall.call hD ?_) | (refine PCall.call hG ?_) | (refine ACall.frz2 (.int _ _) (v' := lstK [a.k, b.k, c.k, d.k, m.k]) (hard_all (elems := [.int .u8 a.k, .int .u8 b.k, .int .u8 c.k, .int .u8 d.k, .int .u8 m.k]) rfl ⟨rfl, .int _ _, rfl, .int _ _, rfl, .int _ _, rfl, .int _ _, rfl, .int _ _, trivial⟩) ?_) | with_reducible refine loop_rounds 6 ?_))
    all_goals first | exact leaf rfl (.bool _) | (refine leaf ?_ (.bool _); simp_all [vnull])
theorem kinds_many (op : Int) (vs : List V) (h : 5 < vs.length) : PCall Try.prog 6 [.int .u8 op, lstV vs] (.bool true) := by
  have h1 : decide ((5 : Int) < (vs.length : Int)) = true := by simp; omega
  refine pcall_of (lits2 (.int _ _) (.lst _ _ _)) (call6 rfl ?_)
  iterate 6 (all_goals (try conv => whnf); all_goals (try first | with_reducible refine brY (by assumption) ?_ | with_reducible refine brN (by assumption) ?_ | (with_reducible refine brT ?_ ?_; · (simp only [Bool.and_eq_true, Bool.not_eq_true', decide_eq_true_eq, decide_eq_false_iff_not, beq_iff_eq, beq_eq_false_iff_ne, ne_eq] at *; omega)) | with_reducible refine br (fun _ => ?_) (fun _ => ?_) | with_reducible refine ⟨rfl, ?_⟩ | with_reducible refine ARound.succ ?_ | with_reducible refine PCall.call (lives_any) ?_))
  all_goals exact leaf rfl (.bool _)
theorem kinds_any (op : Int) (vs : List V) (h : (∀ v ∈ vs, v.In) ∧ vs.length ≤ 9223372036854775807) : PCall Try.prog 6 [.int .u8 op, lstV vs] (.bool true) := by
  obtain ⟨h, _⟩ := h
  match vs, h with
  | [], _ =>
    exact kinds_ok0 op  
  | [a], h =>
    have ia := h a (by simp)
    by_cases ka : okV a = true
    case neg => exact kinds_bad1_0 op ia  (by simpa using ka)
    exact kinds_ok1 op ia ka
  | [a, b], h =>
    have ia := h a (by simp)
    have ib := h b (by simp)
    by_cases ka : okV a = true
    case neg => exact kinds_bad2_0 op ia ib  (by simpa using ka)
    by_cases kb : okV b = true
    case neg => exact kinds_bad2_1 op ia ib ka (by simpa using kb)
    exact kinds_ok2 op ia ib ka kb
  | [a, b, c], h =>
    have ia := h a (by simp)
    have ib := h b (by simp)
    have ic := h c (by simp)
    by_cases ka : okV a = true
    case neg => exact kinds_bad3_0 op ia ib ic  (by simpa using ka)
    by_cases kb : okV b = true
    case neg => exact kinds_bad3_1 op ia ib ic ka (by simpa using kb)
    by_cases kc : okV c = true
    case neg => exact kinds_bad3_2 op ia ib ic ka kb (by simpa using kc)
    exact kinds_ok3 op ia ib ic ka kb kc
  | [a, b, c, d], h =>
    have ia := h a (by simp)
    have ib := h b (by simp)
    have ic := h c (by simp)
    have id := h d (by simp)
    by_cases ka : okV a = true
    case neg => exact kinds_bad4_0 op ia ib ic id  (by simpa using ka)
    by_cases kb : okV b = true
    case neg => exact kinds_bad4_1 op ia ib ic id ka (by simpa using kb)
    by_cases kc : okV c = true
    case neg => exact kinds_bad4_2 op ia ib ic id ka kb (by simpa using kc)
    by_cases kd : okV d = true
    case neg => exact kinds_bad4_3 op ia ib ic id ka kb kc (by simpa using kd)
    exact kinds_ok4 op ia ib ic id ka kb kc kd
  | [a, b, c, d, m], h =>
    have ia := h a (by simp)
    have ib := h b (by simp)
    have ic := h c (by simp)
    have id := h d (by simp)
    have im := h m (by simp)
    by_cases ka : okV a = true
    case neg => exact kinds_bad5_0 op ia ib ic id im  (by simpa using ka)
    by_cases kb : okV b = true
    case neg => exact kinds_bad5_1 op ia ib ic id im ka (by simpa using kb)
    by_cases kc : okV c = true
    case neg => exact kinds_bad5_2 op ia ib ic id im ka kb (by simpa using kc)
    by_cases kd : okV d = true
    case neg => exact kinds_bad5_3 op ia ib ic id im ka kb kc (by simpa using kd)
    by_cases km : okV m = true
    case neg => exact kinds_bad5_4 op ia ib ic id im ka kb kc kd (by simpa using km)
    exact kinds_ok5 op ia ib ic id im ka kb kc kd km
  | a :: b :: c :: d :: m :: f :: r, _ => exact kinds_many op _ (by simp)
end Go.Proofs.Ytcklfcagailoiaa
