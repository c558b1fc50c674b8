/- The law EncStamps as a run. -/
import Derived.Test.YtcklfcagailoiaaDoorE4
namespace Go.Proofs.YtcklfcagailoiaaDoor
open Ab Go.RowKit
set_option maxRecDepth 100000
set_option linter.unusedVariables false
set_option linter.unusedSimpArgs false
set_option pp.maxSteps 3000
def laterB (w l g w' l' g' : Int) : Bool := decide (0 < or3 (cmpI w w') (cmpI l l') (cmpI g g'))
theorem later_any (w l g w' l' g' : Int) : PCall Tryd.prog 31 [stV w l g, stV w' l' g'] (.bool (laterB w l g w' l' g')) := by
  refine pcall_of (lits2 (stLit _ _ _) (stLit _ _ _)) (call31 rfl ?_)
  iterate 20 (all_goals (try conv => whnf); all_goals (try first | with_reducible refine brY (by assumption) ?_ | with_reducible refine brN (by assumption) ?_ | (with_reducible refine brT ?_ ?_; · (simp only [Bool.and_eq_true, Bool.not_eq_true', decide_eq_true_eq, decide_eq_false_iff_not, beq_iff_eq, beq_eq_false_iff_ne, ne_eq] at *; omega)) | with_reducible refine br (fun _ => ?_) (fun _ => ?_) | with_reducible refine ⟨rfl, ?_⟩ | with_reducible refine ARound.succ ?_ | with_reducible refine PCall.call (cmp64_any _ _) ?_ | with_reducible refine PCall.call (cmp32_any _ _) ?_ | with_reducible refine PCall.call (or_any _ _ _) ?_ | (with_reducible refine ACall.frz (fun i => Nat.beq i 2) (.cons (hard3 rfl) .nil) ?_)))
  exact leaf rfl (.bool _)
/-- A stamp's text as one number. -/
def stN (w l g : Int) : Nat := (9223372036854775807 - w).toNat * 18446744073709551616 + ((2147483647 - l).toNat * 4294967296 + (2147483647 - g).toNat)
theorem stT_len (w l g : Int) : (stT w l g).length = 16 := by simp [stT, beB_len]
section
variable {w l g w' l' g' : Int}
theorem stOk_iff : stOk w l g = true ↔ 0 ≤ w ∧ w ≤ 1099511627776 ∧ 0 ≤ l ∧ l ≤ 1048576 ∧ 0 ≤ g ∧ g ≤ 1048576 := by unfold stOk; rw [decide_eq_true_eq]
theorem beV_stT (h : stOk w l g = true) : beV (stT w l g) = stN w l g := by
  have hb := stOk_iff.1 h
  rw [stT, beV_append, beV_append, beB_len, beV_beB, beV_beB, beV_beB]
  rw [beB_len]
  simp only [Nat.reducePow]
  rw [Nat.mod_eq_of_lt (by omega), Nat.mod_eq_of_lt (by omega), Nat.mod_eq_of_lt (by omega)]
  unfold stN
  omega
theorem less_stT (h : stOk w l g = true) (h' : stOk w' l' g' = true) : strLess (stT w l g) (stT w' l' g') = laterB w l g w' l' g' := by
  unfold strLess
  rw [less_beV (by rw [stT_len, stT_len]), beV_stT h, beV_stT h']
  have hb := stOk_iff.1 h
  have hb' := stOk_iff.1 h'
  unfold laterB
  rw [decide_eq_decide]
  unfold stN or3 cmpI
  split <;> (try split) <;> (try split) <;> (try split) <;> (try split) <;> (try split) <;> omega
theorem same_stT (h : stOk w l g = true) (h' : stOk w' l' g' = true) : (stT w l g == stT w' l' g') = (w == w' && (l == l' && g == g')) := by
  have hb := stOk_iff.1 h
  have hb' := stOk_iff.1 h'
  by_cases he : w = w' ∧ l = l' ∧ g = g'
  · obtain ⟨rfl, rfl, rfl⟩ := he; simp
  · have hn : stT w l g ≠ stT w' l' g' := fun e => by
      have := congrArg beV e
      rw [beV_stT h, beV_stT h'] at this
      unfold stN at this
      omega
    rw [beq_eq_false_iff_ne.2 hn]
    symm
    simp only [Bool.and_eq_false_iff, beq_eq_false_iff_ne]
    omega
theorem le63 {w : Int} (h : 0 ≤ w) : (9223372036854775807 - w).toNat ≤ 9223372036854775807 := by omega
theorem le31 {w : Int} (h : 0 ≤ w) : (2147483647 - w).toNat ≤ 2147483647 := by omega
theorem un_stT (h : stOk w l g = true) : unOk (stT w l g) = true ∧ unW (stT w l g) = w ∧ unL (stT w l g) = l ∧ unG (stT w l g) = g := by
  have hb := stOk_iff.1 h
  have e1 : (stT w l g).take 8 = beB 8 (9223372036854775807 - w).toNat := by unfold stT; rw [List.append_assoc, List.take_append_of_le_length (by rw [beB_len]; omega), List.take_of_length_le (by rw [beB_len]; omega)]
  have e2 : ((stT w l g).drop 8).take 4 = beB 4 (2147483647 - l).toNat := by
    unfold stT
    rw [List.append_assoc, List.drop_append_of_le_length (by rw [beB_len]; omega), List.drop_of_length_le (by rw [beB_len]; omega), List.nil_append, List.take_append_of_le_length (by rw [beB_len]; omega), List.take_of_length_le (by rw [beB_len]; omega)]
  have e3 : ((stT w l g).drop 12).take 4 = beB 4 (2147483647 - g).toNat := by
    unfold stT
    rw [List.drop_append_of_le_length (by rw [List.length_append, beB_len, beB_len]; omega), List.drop_of_length_le (by rw [List.length_append, beB_len, beB_len]; omega), List.nil_append, List.take_of_length_le (by rw [beB_len]; omega)]
  have f1 : beV ((stT w l g).take 8) = (9223372036854775807 - w).toNat := by rw [e1, beV_beB, Nat.mod_eq_of_lt (by simp only [Nat.reducePow]; omega)]
  have f2 : beV (((stT w l g).drop 8).take 4) = (2147483647 - l).toNat := by rw [e2, beV_beB, Nat.mod_eq_of_lt (by simp only [Nat.reducePow]; omega)]
  have f3 : beV (((stT w l g).drop 12).take 4) = (2147483647 - g).toNat := by rw [e3, beV_beB, Nat.mod_eq_of_lt (by simp only [Nat.reducePow]; omega)]
  have g1 : unW (stT w l g) = w := by unfold unW; rw [f1]; omega
  have g2 : unL (stT w l g) = l := by unfold unL; rw [f2]; omega
  have g3 : unG (stT w l g) = g := by unfold unG; rw [f3]; omega
  refine ⟨?_, g1, g2, g3⟩
  have b1 := le63 hb.1
  have b2 := le31 hb.2.2.1
  have b3 := le31 hb.2.2.2.2.1
  have hl := stT_len w l g
  unfold unOk
  rw [g1, g2, g3, f1, f2, f3]
  exact decide_eq_true ⟨hl, b1, b2, b3, h⟩
end
theorem stT_un {s : List UInt8} (h : unOk s = true) : stOk (unW s) (unL s) (unG s) = true ∧ stT (unW s) (unL s) (unG s) = s := by
  unfold unOk at h
  rw [decide_eq_true_eq] at h
  obtain ⟨h1, h2, h3, h4, h5⟩ := h
  refine ⟨h5, ?_⟩
  have e : ∀ (x : Nat) (M : Int), (x : Int) ≤ M → (M - (M - (x : Int))).toNat = x := fun x M h => by omega
  unfold stT unW unL unG
  rw [e _ _ (by omega), e _ _ (by omega), e _ _ (by omega)]
  have q1 := beB_of_beV (s.take 8)
  have q2 := beB_of_beV ((s.drop 8).take 4)
  have q3 := beB_of_beV ((s.drop 12).take 4)
  have l1 : (s.take 8).length = 8 := by simp; omega
  have l2 : ((s.drop 8).take 4).length = 4 := by simp; omega
  have l3 : ((s.drop 12).take 4).length = 4 := by simp; omega
  rw [l1] at q1; rw [l2] at q2; rw [l3] at q3
  rw [q1, q2, q3]
  have r3 : (s.drop 12).take 4 = s.drop 12 := List.take_of_length_le (by simp; omega)
  have r2 : (s.drop 8).take 4 ++ s.drop 12 = s.drop 8 := by
    have := List.take_append_drop 4 (s.drop 8)
    rwa [List.drop_drop] at this
  rw [r3, List.append_assoc, r2, List.take_append_drop]
end Go.Proofs.YtcklfcagailoiaaDoor
