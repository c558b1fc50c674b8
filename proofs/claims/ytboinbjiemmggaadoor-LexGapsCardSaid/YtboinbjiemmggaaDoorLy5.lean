/- The signs, and the token that a text begins with: contracts. -/
import Derived.Test.YtboinbjiemmggaaDoorLy4
import Derived.KernelRfl
namespace Go.Proofs.YtboinbjiemmggaaDoor
open Ab Go.RowKit
set_option maxRecDepth 1000000
set_option linter.unusedVariables false
set_option linter.unusedSimpArgs false
set_option maxHeartbeats 8000000
set_option pp.maxSteps 3000
def tabsS : List (Nat × Tab) := [(17, t17), (27, t27)]
theorem tabsSOk : TabsOk Tryd.prog tabsS := .cons tab17 (.cons tab27 (.nil))
def signE : List SV := [.str [60, 62], .str [60, 61], .str [62, 61], .str [124, 124], .str [40], .str [41], .str [44], .str [59], .str [46], .str [42], .str [43], .str [45], .str [47], .str [37], .str [61], .str [60], .str [62]]
def signR : AEnd → Heap → Prop := fun r h' => ∃ v', r = .ret v' ∧ Hard h' v' (.lst 1 17 fun i => .str (signsL.getD i []))
theorem signs_any : PCall Tryd.prog 17 [] (.lst 1 17 fun i => .str (signsL.getD i [])) := by
  refine pcall_of (fun _ h => by simp at h) ((lvl_sound mixed tabsSOk 60).1.call _ _ _ _ (Eq.mpr (show (lvl Tryd.prog tabsS 60).1.call 17 [] ⟨0, []⟩ signR = signR (.ret (.sl 0 0 1 0 17 (some 17))) ⟨1, [(0, .vec 0 1 signE ⟨false, some 9⟩)]⟩ by kernel_rfl) ?_))
  refine ⟨_, rfl, ?_⟩
  exact hard_all (elems := signE) (get := fun i => .str (signsL.getD i [])) rfl ⟨rfl, .str _, rfl, .str _, rfl, .str _, rfl, .str _, rfl, .str _, rfl, .str _, rfl, .str _, rfl, .str _, rfl, .str _, rfl, .str _, rfl, .str _, rfl, .str _, rfl, .str _, rfl, .str _, rfl, .str _, rfl, .str _, rfl, .str _, trivial⟩
theorem one_any {s : List UInt8} (hs : s.length ≤ 100000) (hne : s ≠ []) : PCall Tryd.prog 10 [.str s] (oneS (oneL s)) := by
  refine pcall_of (lits1 (.str _)) (call10 rfl ?_)
  have hpos : 0 < s.length := by cases s with | nil => exact absurd rfl hne | cons c r => simp
  have hl := letter_any (s.getD (Int.toNat 0) 0)
  have hg := digit_any (s.getD (Int.toNat 0) 0)
  have eo : oneL s = if isLetter (s.getD 0 0) then wordL s else if isDigit (s.getD 0 0) then numberL s else if s.getD 0 0 == 39 then textL s else signL s signsL := by
    cases s with
    | nil => exact absurd rfl hne
    | cons c r => rfl
  have e0 : Int.toNat 0 = 0 := rfl
  cases h1 : isLetter (s.getD (Int.toNat 0) 0)
  · have h1' := h1
    rw [e0] at h1
    rw [h1, if_neg (by decide)] at eo
    cases h2 : isDigit (s.getD (Int.toNat 0) 0)
    · have h2' := h2
      rw [e0] at h2
      rw [h2, if_neg (by decide)] at eo
      by_cases h3 : s.getD 0 0 = 39
      · have h4 : (((s.getD (Int.toNat 0) 0).toNat : Int) == 39) = true := by rw [e0, h3]; rfl
        rw [h3, if_pos (by decide)] at eo
        have ht := text_any hs h3 hne
        cases hT : textL s
        all_goals rw [hT] at ht
        all_goals iterate 20 (all_goals (try conv => whnf); all_goals (try first | with_reducible refine brY (by assumption) ?_ | with_reducible refine brN (by assumption) ?_ | (with_reducible refine brT ?_ ?_; · (simp only [Bool.and_eq_true, Bool.not_eq_true', decide_eq_true_eq, decide_eq_false_iff_not, beq_iff_eq, beq_eq_false_iff_ne, ne_eq] at *; omega)) | with_reducible refine br (fun _ => ?_) (fun _ => ?_) | with_reducible refine ⟨rfl, ?_⟩ | with_reducible refine ARound.succ ?_ | with_reducible refine PCall.call (hl) ?_ | with_reducible refine PCall.call (hg) ?_ | with_reducible refine PCall.call (ht) ?_))
        all_goals exact leaf (by rw [eo, hT]; rfl) (oneS_lit _)
      · have h4 : (((s.getD (Int.toNat 0) 0).toNat : Int) == 39) = false := by
          rw [e0, beq_eq_false_iff_ne]
          intro e
          exact h3 (UInt8.toNat_inj.1 (by have : (39 : UInt8).toNat = 39 := rfl; omega))
        rw [if_neg (by simpa using h3)] at eo
        have hp : ∀ p : List UInt8, p.length ≤ 1000000 → PCall Tryd.prog 18 [.str s, .str p] (.bool (p.isPrefixOf s)) := fun p h => hasPrefix_any h
        iterate 14 (all_goals (try conv => whnf); all_goals (try first | with_reducible refine brY (by assumption) ?_ | with_reducible refine brN (by assumption) ?_ | (with_reducible refine brT ?_ ?_; · (simp only [Bool.and_eq_true, Bool.not_eq_true', decide_eq_true_eq, decide_eq_false_iff_not, beq_iff_eq, beq_eq_false_iff_ne, ne_eq] at *; omega)) | with_reducible refine br (fun _ => ?_) (fun _ => ?_) | with_reducible refine ⟨rfl, ?_⟩ | with_reducible refine ARound.succ ?_ | with_reducible refine PCall.call (hl) ?_ | with_reducible refine PCall.call (hg) ?_ | with_reducible refine PCall.call (signs_any) ?_))
        refine loop_ind (σ := {i : Nat // i ≤ 17 ∧ signL s signsL = signL s (signsL.drop i)}) (fun x => [(0, SV.str s), (2, SV.ref 0 0 0 0), (3, SV.int IntKind.i64 0), (4, SV.int IntKind.i64 0), (5, SV.int IntKind.u8 ((s.getD (Int.toNat 0) 0).toNat : Int)), (10, SV.bool false), (18, SV.bool false), (26, SV.bool false), (34, SV.lst 1 17 fun i => SV.str (signsL.getD i [])), (35, SV.int IntKind.i64 ((17 : Nat) : Int)), (36, SV.int IntKind.i64 x.1)])
          (fun _ => ⟨1, [(0, tok0)]⟩) (fun x => 17 - x.1) ?_ ⟨0, by omega, rfl⟩
        rintro ⟨i, hi, he⟩
        dsimp only
        by_cases hil : i < 17
        · have hd : decide ((i : Int) < ((17 : Nat) : Int)) = true := decide_eq_true (by omega)
          have e7 : IntKind.i64.wrap ((i : Int) + 1) = ((i + 1 : Nat) : Int) := w64add (by omega)
          have et := Int.toNat_natCast i
          have hlen : (signsL.getD (i : Int).toNat []).length ≤ 1000000 := by
            rw [et]
            have : ∀ j : Fin 17, (signsL.getD j.val []).length ≤ 1000000 := by decide
            exact this ⟨i, hil⟩
          have hcx := hp _ hlen
          have hdc : signsL.drop i = signsL.getD (i : Int).toNat [] :: signsL.drop (i + 1) := by
            rw [et]
            have : ∀ j : Fin 17, signsL.drop j.val = signsL.getD j.val [] :: signsL.drop (j.val + 1) := by decide
            exact this ⟨i, hil⟩
          rw [hdc, signL] at he
          cases hx : (signsL.getD (i : Int).toNat []).isPrefixOf s
          · rw [hx, if_neg (by decide)] at he
            iterate 16 (all_goals (try conv => whnf); all_goals (try first | with_reducible refine brY (by assumption) ?_ | with_reducible refine brN (by assumption) ?_ | (with_reducible refine brT ?_ ?_; · (simp only [Bool.and_eq_true, Bool.not_eq_true', decide_eq_true_eq, decide_eq_false_iff_not, beq_iff_eq, beq_eq_false_iff_ne, ne_eq] at *; omega)) | with_reducible refine br (fun _ => ?_) (fun _ => ?_) | with_reducible refine ⟨rfl, ?_⟩ | with_reducible refine ARound.succ ?_ | with_reducible refine PCall.call (hcx) ?_))
            exact ⟨⟨i + 1, hil, he⟩, by dsimp only; omega, by rw [e7], rfl⟩
          · rw [hx, if_pos rfl] at he
            iterate 16 (all_goals (try conv => whnf); all_goals (try first | with_reducible refine brY (by assumption) ?_ | with_reducible refine brN (by assumption) ?_ | (with_reducible refine brT ?_ ?_; · (simp only [Bool.and_eq_true, Bool.not_eq_true', decide_eq_true_eq, decide_eq_false_iff_not, beq_iff_eq, beq_eq_false_iff_ne, ne_eq] at *; omega)) | with_reducible refine br (fun _ => ?_) (fun _ => ?_) | with_reducible refine ⟨rfl, ?_⟩ | with_reducible refine ARound.succ ?_ | with_reducible refine PCall.call (hcx) ?_))
            exact leaf (by rw [eo, he]; rfl) (oneS_lit _)
        · have hd : decide ((i : Int) < ((17 : Nat) : Int)) = false := decide_eq_false (by omega)
          iterate 16 (all_goals (try conv => whnf); all_goals (try first | with_reducible refine brY (by assumption) ?_ | with_reducible refine brN (by assumption) ?_ | (with_reducible refine brT ?_ ?_; · (simp only [Bool.and_eq_true, Bool.not_eq_true', decide_eq_true_eq, decide_eq_false_iff_not, beq_iff_eq, beq_eq_false_iff_ne, ne_eq] at *; omega)) | with_reducible refine br (fun _ => ?_) (fun _ => ?_) | with_reducible refine ⟨rfl, ?_⟩ | with_reducible refine ARound.succ ?_))
          obtain rfl : i = 17 := by omega
          exact leaf (by rw [eo, he]; rfl) (oneS_lit _)
    · have h2' := h2
      rw [e0] at h2
      have hn := number_any hs h2 hne
      rw [h2, if_pos rfl] at eo
      cases hT : numberL s
      all_goals rw [hT] at hn
      all_goals iterate 20 (all_goals (try conv => whnf); all_goals (try first | with_reducible refine brY (by assumption) ?_ | with_reducible refine brN (by assumption) ?_ | (with_reducible refine brT ?_ ?_; · (simp only [Bool.and_eq_true, Bool.not_eq_true', decide_eq_true_eq, decide_eq_false_iff_not, beq_iff_eq, beq_eq_false_iff_ne, ne_eq] at *; omega)) | with_reducible refine br (fun _ => ?_) (fun _ => ?_) | with_reducible refine ⟨rfl, ?_⟩ | with_reducible refine ARound.succ ?_ | with_reducible refine PCall.call (hl) ?_ | with_reducible refine PCall.call (hg) ?_ | with_reducible refine PCall.call (hn) ?_))
      all_goals exact leaf (by rw [eo, hT]; rfl) (oneS_lit _)
  · have h1' := h1
    rw [e0] at h1
    have hw := word_any hs
    rw [h1, if_pos rfl] at eo
    cases hT : wordL s
    all_goals rw [hT] at hw
    all_goals iterate 20 (all_goals (try conv => whnf); all_goals (try first | with_reducible refine brY (by assumption) ?_ | with_reducible refine brN (by assumption) ?_ | (with_reducible refine brT ?_ ?_; · (simp only [Bool.and_eq_true, Bool.not_eq_true', decide_eq_true_eq, decide_eq_false_iff_not, beq_iff_eq, beq_eq_false_iff_ne, ne_eq] at *; omega)) | with_reducible refine br (fun _ => ?_) (fun _ => ?_) | with_reducible refine ⟨rfl, ?_⟩ | with_reducible refine ARound.succ ?_ | with_reducible refine PCall.call (hl) ?_ | with_reducible refine PCall.call (hg) ?_ | with_reducible refine PCall.call (hw) ?_))
    all_goals exact leaf (by rw [eo, hT]; rfl) (oneS_lit _)
end Go.Proofs.YtboinbjiemmggaaDoor
