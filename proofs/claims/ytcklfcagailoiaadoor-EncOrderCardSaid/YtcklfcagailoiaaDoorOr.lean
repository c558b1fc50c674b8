/- The law EncOrder as a run. -/
import Derived.Test.YtcklfcagailoiaaDoorEp6
import Derived.Test.YtcklfcagailoiaaDoorVs
namespace Go.Proofs.YtcklfcagailoiaaDoor
open Ab Go.RowKit
set_option maxRecDepth 100000
set_option linter.unusedVariables false
set_option linter.unusedSimpArgs false
set_option pp.maxSteps 3000
noncomputable def sameL (a b : List V) : Bool := @decide (a = b) (Classical.propDecidable _)
theorem sameL_self (a : List V) : sameL a a = true := by unfold sameL; exact @decide_eq_true _ (Classical.propDecidable _) rfl
theorem sameL_no {a b : List V} (h : a ≠ b) : sameL a b = false := by unfold sameL; exact @decide_eq_false _ (Classical.propDecidable _) h
structure SvS (a b : List V) where
  k : Nat
  hk : k ≤ a.length
  he : a.take k = b.take k
theorem eqV_iff {v w : V} : (v.k == w.k && (v.n == w.n && v.t == w.t)) = true ↔ v = w := by
  obtain ⟨a, b, c⟩ := v
  obtain ⟨a', b', c'⟩ := w
  simp [V.mk.injEq]
theorem sameValues_any {a b : List V} (ha : a.length ≤ 4611686018427387904) : PCall Tryd.prog 28 [lstV a, lstV b] (.bool (sameL a b)) := by
  refine pcall_of (lits2 (.lst _ _ _) (.lst _ _ _)) (call28 rfl ?_)
  by_cases hlen : ¬ a.length = b.length
  · have hd : ((a.length : Int) != (b.length : Int)) = true := by rw [bne_iff_ne]; omega
    iterate 4 (all_goals (try conv => whnf); all_goals (try first | with_reducible refine brY (by assumption) ?_ | with_reducible refine brN (by assumption) ?_ | (with_reducible refine brT ?_ ?_; · (simp only [Bool.and_eq_true, Bool.not_eq_true', decide_eq_true_eq, decide_eq_false_iff_not, beq_iff_eq, beq_eq_false_iff_ne, ne_eq] at *; omega)) | with_reducible refine br (fun _ => ?_) (fun _ => ?_) | with_reducible refine ⟨rfl, ?_⟩ | with_reducible refine ARound.succ ?_))
    exact leaf (by rw [sameL_no fun h => hlen (by rw [h])]) (.bool _)
  have hlen : a.length = b.length := by omega
  have hd : ((a.length : Int) != (b.length : Int)) = false := by rw [bne_eq_false_iff_eq]; omega
  iterate 3 (all_goals (try conv => whnf); all_goals (try first | with_reducible refine brY (by assumption) ?_ | with_reducible refine brN (by assumption) ?_ | (with_reducible refine brT ?_ ?_; · (simp only [Bool.and_eq_true, Bool.not_eq_true', decide_eq_true_eq, decide_eq_false_iff_not, beq_iff_eq, beq_eq_false_iff_ne, ne_eq] at *; omega)) | with_reducible refine br (fun _ => ?_) (fun _ => ?_) | with_reducible refine ⟨rfl, ?_⟩ | with_reducible refine ARound.succ ?_))
  refine loop_ind (σ := SvS a b) (fun s => [(0, lstV a), (1, lstV b), (4, SV.bool false), (10, SV.bool false), (5, SV.int IntKind.i64 s.k)]) (fun _ => ⟨0, []⟩) (fun s => a.length - s.k) ?_ ⟨0, by omega, rfl⟩
  rintro ⟨k, hk, he⟩
  dsimp only
  by_cases hkl : k < a.length
  · have hd : decide ((k : Int) < (a.length : Int)) = true := decide_eq_true (by omega)
    have e7 : IntKind.i64.wrap ((k : Int) + 1) = ((k + 1 : Nat) : Int) := w64add (by omega)
    have et := Int.toNat_natCast k
    by_cases hv : a.getD k vnull = b.getD k vnull
    · have hc : (!((a.getD (k : Int).toNat vnull).k == (b.getD (k : Int).toNat vnull).k && ((a.getD (k : Int).toNat vnull).n == (b.getD (k : Int).toNat vnull).n && (a.getD (k : Int).toNat vnull).t == (b.getD (k : Int).toNat vnull).t))) = false := by
        rw [et, eqV_iff.2 hv]; rfl
      iterate 14 (all_goals (try conv => whnf); all_goals (try first | with_reducible refine brY (by assumption) ?_ | with_reducible refine brN (by assumption) ?_ | (with_reducible refine brT ?_ ?_; · (simp only [Bool.and_eq_true, Bool.not_eq_true', decide_eq_true_eq, decide_eq_false_iff_not, beq_iff_eq, beq_eq_false_iff_ne, ne_eq] at *; omega)) | with_reducible refine br (fun _ => ?_) (fun _ => ?_) | with_reducible refine ⟨rfl, ?_⟩ | with_reducible refine ARound.succ ?_))
      refine ⟨⟨k + 1, hkl, by rw [takeV hkl, takeV (by omega), he, hv]⟩, by dsimp only; omega, by rw [e7], rfl⟩
    · have hc : (!((a.getD (k : Int).toNat vnull).k == (b.getD (k : Int).toNat vnull).k && ((a.getD (k : Int).toNat vnull).n == (b.getD (k : Int).toNat vnull).n && (a.getD (k : Int).toNat vnull).t == (b.getD (k : Int).toNat vnull).t))) = true := by
        rw [et, Bool.eq_false_iff.2 fun h => hv (eqV_iff.1 h)]; rfl
      iterate 14 (all_goals (try conv => whnf); all_goals (try first | with_reducible refine brY (by assumption) ?_ | with_reducible refine brN (by assumption) ?_ | (with_reducible refine brT ?_ ?_; · (simp only [Bool.and_eq_true, Bool.not_eq_true', decide_eq_true_eq, decide_eq_false_iff_not, beq_iff_eq, beq_eq_false_iff_ne, ne_eq] at *; omega)) | with_reducible refine br (fun _ => ?_) (fun _ => ?_) | with_reducible refine ⟨rfl, ?_⟩ | with_reducible refine ARound.succ ?_))
      exact leaf (by rw [sameL_no fun h => hv (by rw [h])]) (.bool _)
  · have hd : decide ((k : Int) < (a.length : Int)) = false := decide_eq_false (by omega)
    iterate 8 (all_goals (try conv => whnf); all_goals (try first | with_reducible refine brY (by assumption) ?_ | with_reducible refine brN (by assumption) ?_ | (with_reducible refine brT ?_ ?_; · (simp only [Bool.and_eq_true, Bool.not_eq_true', decide_eq_true_eq, decide_eq_false_iff_not, beq_iff_eq, beq_eq_false_iff_ne, ne_eq] at *; omega)) | with_reducible refine br (fun _ => ?_) (fun _ => ?_) | with_reducible refine ⟨rfl, ?_⟩ | with_reducible refine ARound.succ ?_))
    rw [List.take_of_length_le (by omega), List.take_of_length_le (by omega)] at he
    exact leaf (by rw [he, sameL_self]) (.bool _)
theorem sameValues_nil : PCall Tryd.prog 28 [.nils, lstV []] (.bool true) := by
  refine pcall_of (lits2 .nils (.lst _ _ _)) (call28 rfl ?_)
  iterate 8 (all_goals (try conv => whnf); all_goals (try first | with_reducible refine brY (by assumption) ?_ | with_reducible refine brN (by assumption) ?_ | (with_reducible refine brT ?_ ?_; · (simp only [Bool.and_eq_true, Bool.not_eq_true', decide_eq_true_eq, decide_eq_false_iff_not, beq_iff_eq, beq_eq_false_iff_ne, ne_eq] at *; omega)) | with_reducible refine br (fun _ => ?_) (fun _ => ?_) | with_reducible refine ⟨rfl, ?_⟩ | with_reducible refine ARound.succ ?_ | with_reducible refine loop_rounds 2 ?_))
  exact leaf rfl (.bool _)
theorem sameValues_nils : PCall Tryd.prog 28 [.nils, .nils] (.bool true) := by
  refine pcall_of (lits2 .nils .nils) (call28 rfl ?_)
  iterate 8 (all_goals (try conv => whnf); all_goals (try first | with_reducible refine brY (by assumption) ?_ | with_reducible refine brN (by assumption) ?_ | (with_reducible refine brT ?_ ?_; · (simp only [Bool.and_eq_true, Bool.not_eq_true', decide_eq_true_eq, decide_eq_false_iff_not, beq_iff_eq, beq_eq_false_iff_ne, ne_eq] at *; omega)) | with_reducible refine br (fun _ => ?_) (fun _ => ?_) | with_reducible refine ⟨rfl, ?_⟩ | with_reducible refine ARound.succ ?_ | with_reducible refine loop_rounds 2 ?_))
  exact leaf rfl (.bool _)
theorem encOrder_any {a b : List V} (ia : ∀ v ∈ a, v.In') (ib : ∀ v ∈ b, v.In') (ha : a.length ≤ 4611686018427387904) (hb : b.length ≤ 4611686018427387904) :
    PCall Tryd.prog 9 [lstV a, lstV b] (.bool true) := by
  refine pcall_of (lits2 (.lst _ _ _) (.lst _ _ _)) (call9 rfl ?_)
  have ca := tuple_any ia ha
  have cb := tuple_any ib hb
  by_cases hea : ¬ tupE a = 0
  · have q1 : (tupE a != 0) = true := by rw [bne_iff_ne]; exact hea
    iterate 14 (all_goals (try conv => whnf); all_goals (try first | with_reducible refine brY (by assumption) ?_ | with_reducible refine brN (by assumption) ?_ | (with_reducible refine brT ?_ ?_; · (simp only [Bool.and_eq_true, Bool.not_eq_true', decide_eq_true_eq, decide_eq_false_iff_not, beq_iff_eq, beq_eq_false_iff_ne, ne_eq] at *; omega)) | with_reducible refine br (fun _ => ?_) (fun _ => ?_) | with_reducible refine ⟨rfl, ?_⟩ | with_reducible refine ARound.succ ?_ | with_reducible refine PCall.call (lives_any) ?_ | with_reducible refine PCall.call (ca) ?_ | with_reducible refine PCall.call (cb) ?_))
    exact leaf rfl (.bool _)
  have hea : tupE a = 0 := by omega
  rw [hea] at ca
  by_cases heb : ¬ tupE b = 0
  · have q1 : (tupE b != 0) = true := by rw [bne_iff_ne]; exact heb
    iterate 14 (all_goals (try conv => whnf); all_goals (try first | with_reducible refine brY (by assumption) ?_ | with_reducible refine brN (by assumption) ?_ | (with_reducible refine brT ?_ ?_; · (simp only [Bool.and_eq_true, Bool.not_eq_true', decide_eq_true_eq, decide_eq_false_iff_not, beq_iff_eq, beq_eq_false_iff_ne, ne_eq] at *; omega)) | with_reducible refine br (fun _ => ?_) (fun _ => ?_) | with_reducible refine ⟨rfl, ?_⟩ | with_reducible refine ARound.succ ?_ | with_reducible refine PCall.call (lives_any) ?_ | with_reducible refine PCall.call (ca) ?_ | with_reducible refine PCall.call (cb) ?_))
    exact leaf rfl (.bool _)
  have heb : tupE b = 0 := by omega
  rw [heb] at cb
  have one : ∀ {l : List V}, tupE l = 0 → l.length ≤ 16 ∧ l.all okV = true ∧ tupT l = l.flatMap textB := fun {l} h => by
    unfold tupE at h
    unfold tupT
    split at h
    · omega
    · rename_i h16
      cases hk : l.all okV
      · rw [hk] at h; simp at h
      · rw [if_neg h16]; exact ⟨by omega, rfl, rfl⟩
  obtain ⟨a1, a2, a3⟩ := one hea
  obtain ⟨b1, b2, b3⟩ := one heb
  have hS := cmp_texts a2 b2 ia ib
  have hS2 := cmp_texts b2 a2 ib ia
  rw [← a3, ← b3] at hS
  rw [← a3, ← b3] at hS2
  have c1 : PCall Tryd.prog 37 [lstV a, lstV b] (.int .i64 (cmpS (tupT a) (tupT b))) := by rw [hS]; exact compare_any a b ha
  have c2 : PCall Tryd.prog 37 [lstV b, lstV a] (.int .i64 (cmpS (tupT b) (tupT a))) := by rw [hS2]; exact compare_any b a hb
  have hla : (tupT a).length ≤ 140737488351232 := by rw [a3]; have := flat_len a2; omega
  have hlb : (tupT b).length ≤ 140737488351232 := by rw [b3]; have := flat_len b2; omega
  have va := values_any hla
  have vb := values_any hlb
  have ra := read_texts 16 a1 a2 ia
  have rb := read_texts 16 b1 b2 ib
  rw [← a3] at ra
  rw [← b3] at rb
  have ea : vsE (tupT a) = 0 := by unfold vsE; rw [ra]
  have eb : vsE (tupT b) = 0 := by unfold vsE; rw [rb]
  rw [ea] at va
  rw [eb] at vb
  have sv : ∀ l : List V, l.length ≤ 16 → vlsB 16 (tupT l) = some l → PCall Tryd.prog 28 [vsL (tupT l), lstV l] (.bool true) := fun l hl h => by
    unfold vsL
    rw [h]
    cases l with
    | nil => exact sameValues_nil
    | cons v r =>
      have := sameValues_any (a := v :: r) (b := v :: r) (by omega)
      rw [sameL_self] at this
      exact this
  have sa := sv a a1 ra
  have sb := sv b b1 rb
  have tri : cmpS (tupT a) (tupT b) = -1 ∨ cmpS (tupT a) (tupT b) = 0 ∨ cmpS (tupT a) (tupT b) = 1 := by
    unfold cmpS; split
    · exact .inl rfl
    · split
      · exact .inr (.inl rfl)
      · exact .inr (.inr rfl)
  have q1 : (!(decide (cmpS (tupT a) (tupT b) < 0) == strLess (tupT a) (tupT b))) = false := by rw [cmpS_less]; unfold strLess; simp
  have q2 : (!(decide (0 < cmpS (tupT a) (tupT b)) == !(strLess (tupT a) (tupT b) || tupT a == tupT b))) = false := by rw [cmpS_more]; unfold strLess; simp
  have q3 : (!((cmpS (tupT a) (tupT b) == 0) == (tupT a == tupT b))) = false := by rw [cmpS_same]; simp
  have q4 : (cmpS (tupT b) (tupT a) != IntKind.i64.wrap (0 - cmpS (tupT a) (tupT b))) = false := by
    rw [cmpS_neg (tupT a) (tupT b)]
    rcases tri with h | h | h <;> rw [h] <;> rfl
  iterate 50 (all_goals (try conv => whnf); all_goals (try first | with_reducible refine brY (by assumption) ?_ | with_reducible refine brN (by assumption) ?_ | (with_reducible refine brT ?_ ?_; · (simp only [Bool.and_eq_true, Bool.not_eq_true', decide_eq_true_eq, decide_eq_false_iff_not, beq_iff_eq, beq_eq_false_iff_ne, ne_eq] at *; omega)) | with_reducible refine br (fun _ => ?_) (fun _ => ?_) | with_reducible refine ⟨rfl, ?_⟩ | with_reducible refine ARound.succ ?_ | with_reducible refine PCall.call (lives_any) ?_ | with_reducible refine PCall.call (ca) ?_ | with_reducible refine PCall.call (cb) ?_ | with_reducible refine PCall.call (c1) ?_ | with_reducible refine PCall.call (c2) ?_ | with_reducible refine PCall.call (va) ?_ | with_reducible refine PCall.call (vb) ?_ | with_reducible refine PCall.call (sa) ?_ | with_reducible refine PCall.call (sb) ?_))
  all_goals first
    | exact leaf rfl (.bool _)
    | trace_state
end Go.Proofs.YtcklfcagailoiaaDoor
