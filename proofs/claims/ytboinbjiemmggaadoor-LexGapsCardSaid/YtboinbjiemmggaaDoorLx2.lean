/- Texts cut into tokens: a token hangs on its own bytes, and on the byte behind them. No program in sight. -/
import Derived.Test.YtboinbjiemmggaaDoorLx1
import Derived.Lib.TrimUEq
import Derived.Lib.MapLaws
namespace Go.Proofs.YtboinbjiemmggaaDoor
open Go.Lib

theorem decodeL_stop {p r r' : List UInt8} (hp : p ≠ []) : decodeL (p ++ 39 :: r) = decodeL (p ++ 39 :: r') := by
  rw [decodeL_N, decodeL_N]
  have q : ¬ ((39 : UInt8).toNat / 64 = 2) := by decide
  match p, hp with
  | [a], _ =>
    simp only [List.cons_append, List.nil_append, List.length_cons, List.getD_cons_zero, List.getD_cons_succ]
    unfold decodeN
    simp only [q, and_false, false_and, if_false]
  | [a, b], _ =>
    simp only [List.cons_append, List.nil_append, List.length_cons, List.getD_cons_zero, List.getD_cons_succ]
    unfold decodeN
    simp only [q, and_false, false_and, if_false, show 1 < r.length + 1 + 1 + 1 by omega, show 1 < r'.length + 1 + 1 + 1 by omega, true_and]
  | [a, b, c], _ =>
    simp only [List.cons_append, List.nil_append, List.length_cons, List.getD_cons_zero, List.getD_cons_succ]
    unfold decodeN
    simp only [q, and_false, false_and, if_false, show 1 < r.length + 1 + 1 + 1 + 1 by omega, show 1 < r'.length + 1 + 1 + 1 + 1 by omega, show 2 < r.length + 1 + 1 + 1 + 1 by omega, show 2 < r'.length + 1 + 1 + 1 + 1 by omega, true_and]
  | a :: b :: c :: d :: t, _ =>
    simp only [List.cons_append, List.length_cons, List.length_append, List.getD_cons_zero, List.getD_cons_succ]
    unfold decodeN
    simp only [show 1 < t.length + (r.length + 1) + 1 + 1 + 1 + 1 by omega, show 1 < t.length + (r'.length + 1) + 1 + 1 + 1 + 1 by omega, show 2 < t.length + (r.length + 1) + 1 + 1 + 1 + 1 by omega, show 2 < t.length + (r'.length + 1) + 1 + 1 + 1 + 1 by omega, show 3 < t.length + (r.length + 1) + 1 + 1 + 1 + 1 by omega, show 3 < t.length + (r'.length + 1) + 1 + 1 + 1 + 1 by omega, true_and]
/-- A letter ends ahead of an apostrophe. -/
theorem decodeL_fits {p r : List UInt8} (hp : p ≠ []) : (decodeL (p ++ 39 :: r)).2 ≤ p.length := by
  rw [decodeL_N]
  have q : ¬ ((39 : UInt8).toNat / 64 = 2) := by decide
  match p, hp with
  | [a], _ =>
    simp only [List.cons_append, List.nil_append, List.length_cons, List.getD_cons_zero, List.getD_cons_succ]
    unfold decodeN
    simp only [q, and_false, false_and, if_false]
    split <;> simp
  | [a, b], _ =>
    simp only [List.cons_append, List.nil_append, List.length_cons, List.getD_cons_zero, List.getD_cons_succ]
    unfold decodeN
    simp only [q, and_false, false_and, if_false]
    repeat' split
    all_goals simp
  | [a, b, c], _ =>
    simp only [List.cons_append, List.nil_append, List.length_cons, List.getD_cons_zero, List.getD_cons_succ]
    unfold decodeN
    simp only [q, and_false, false_and, if_false]
    repeat' split
    all_goals simp
  | a :: b :: c :: d :: t, _ =>
    unfold decodeN
    repeat' split
    all_goals (simp only [List.length_cons]; omega)
theorem split_at {l : List UInt8} {k : Nat} (h : k < l.length) (hk : l.getD k 0 = 39) : l = l.take k ++ 39 :: l.drop (k + 1) := by
  conv => lhs; rw [← List.take_append_drop k l]
  congr 1
  rw [List.drop_eq_getElem_cons h]
  congr 1
  simpa [List.getD, h] using hk
theorem textGo_cut : ∀ (f : Nat) (l : List UInt8) (i : Nat) (bad : Bool) (buf : List UInt8) (x : Tk) (n : Nat), textGo f l i bad buf = .ok x n →
    i < n ∧ n - 1 - i < l.length ∧ l.getD (n - 1 - i) 0 = 39 ∧ ∀ f' m, n ≤ i + m → m ≤ f' → textGo f' (l.take m) i bad buf = .ok x n
  | 0, l, i, bad, buf, x, n, h => by simp [textGo] at h
  | f+1, [], i, bad, buf, x, n, h => by simp [textGo] at h
  | f+1, c :: r, i, bad, buf, x, n, h => by
    rw [textGo] at h
    by_cases hc : c ≠ 39
    · rw [if_pos hc] at h
      obtain ⟨h1, h2, h3, h4⟩ := textGo_cut f _ _ _ _ x n h
      generalize hd : decodeL (c :: r) = d at h h1 h2 h3 h4
      have hw : 1 ≤ d.2 := by rw [← hd]; exact decodeL_width _
      rw [List.length_drop] at h2
      have e1 : n - 1 - i = d.2 + (n - 1 - (i + d.2)) := by omega
      have hq : (c :: r).getD (n - 1 - i) 0 = 39 := by
        rw [e1]
        simpa [List.getD, List.getElem?_drop] using h3
      have hlt : n - 1 - i < (c :: r).length := by omega
      refine ⟨by omega, hlt, hq, fun f' m hm hf => ?_⟩
      have hs := split_at hlt hq
      have hp : (c :: r).take (n - 1 - i) ≠ [] := by
        rw [show n - 1 - i = (n - 2 - i) + 1 by omega]
        simp
      have ht : (c :: r).take m = (c :: r).take (n - 1 - i) ++ 39 :: ((c :: r).drop (n - 1 - i + 1)).take (m - (n - 1 - i) - 1) := by
        conv => lhs; rw [hs]
        rw [List.take_append, List.take_of_length_le (by rw [List.length_take]; omega), List.length_take, Nat.min_eq_left (by omega), show m - (n - 1 - i) = (m - (n - 1 - i) - 1) + 1 by omega, List.take_succ_cons, Nat.add_sub_cancel]
      have hd' : decodeL ((c :: r).take m) = d := by
        rw [ht, decodeL_stop hp (r' := (c :: r).drop (n - 1 - i + 1)), ← hs, hd]
      obtain ⟨f', rfl⟩ : ∃ g, f' = g + 1 := ⟨f' - 1, by omega⟩
      obtain ⟨m, rfl⟩ : ∃ g, m = g + 1 := ⟨m - 1, by omega⟩
      rw [List.take_succ_cons, textGo, if_pos hc]
      rw [List.take_succ_cons] at hd'
      rw [hd']
      show textGo f' ((c :: r.take m).drop d.2) (i + d.2) _ (buf ++ (c :: r.take m).take d.2) = _
      have e2 : c :: r.take m = (c :: r).take (m + 1) := rfl
      rw [e2, List.take_take, Nat.min_eq_left (by omega), List.drop_take]
      exact h4 f' (m + 1 - d.2) (by omega) (by omega)
    · have hc : c = 39 := by simpa using hc
      subst hc
      rw [if_neg (by simp)] at h
      by_cases hr : r.getD 0 0 = 39
      · rw [if_pos hr] at h
        obtain ⟨h1, h2, h3, h4⟩ := textGo_cut f _ _ _ _ x n h
        match r, hr, h2, h3, h4 with
        | [], hr, _, _, _ => exact absurd hr (by decide)
        | a :: r', hr, h2, h3, h4 =>
          obtain rfl : a = 39 := hr
          simp only [List.drop_succ_cons, List.drop_zero] at h2 h3 h4
          refine ⟨by omega, by simp only [List.length_cons]; omega, ?_, fun f' m hm hf => ?_⟩
          · rw [show n - 1 - i = (n - 1 - (i + 2)) + 1 + 1 by omega]
            simpa using h3
          · obtain ⟨f', rfl⟩ : ∃ g, f' = g + 1 := ⟨f' - 1, by omega⟩
            obtain ⟨m, rfl⟩ : ∃ g, m = g + 1 + 1 := ⟨m - 2, by omega⟩
            rw [List.take_succ_cons, List.take_succ_cons, textGo, if_neg (by simp), if_pos (by rfl)]
            simp only [List.drop_succ_cons, List.drop_zero]
            exact h4 f' m (by omega) (by omega)
      · rw [if_neg hr] at h
        have hn : n = i + 1 := by
          split at h
          · cases h
          · split at h
            · cases h
            · cases h; rfl
        subst hn
        refine ⟨by omega, by simp, by rw [show i + 1 - 1 - i = 0 by omega]; rfl, fun f' m hm hf => ?_⟩
        obtain ⟨f', rfl⟩ : ∃ g, f' = g + 1 := ⟨f' - 1, by omega⟩
        obtain ⟨m, rfl⟩ : ∃ g, m = g + 1 := ⟨m - 1, by omega⟩
        have hr' : ¬ (r.take m).getD 0 0 = 39 := by
          cases m with
          | zero => simp
          | succ m => cases r with
            | nil => simp
            | cons a r => exact hr
        rw [List.take_succ_cons, textGo, if_neg (by simp), if_neg hr']
        exact h
end Go.Proofs.YtboinbjiemmggaaDoor
