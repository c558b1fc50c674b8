/- Texts cut into tokens: tokens lie one behind the other, each hangs on its own bytes alone. No program in sight. -/
import Derived.Test.YtboinbjiemmggaaDoorLx2
namespace Go.Proofs.YtboinbjiemmggaaDoor
open Go.Lib

theorem takeWhile_take {p : UInt8 → Bool} : ∀ (s : List UInt8) (m : Nat), (s.takeWhile p).length ≤ m → (s.take m).takeWhile p = s.takeWhile p
  | [], m, _ => by simp
  | c :: r, 0, h => by
    by_cases hc : p c = true
    · simp [hc] at h
    · simp [hc]
  | c :: r, m + 1, h => by
    by_cases hc : p c = true
    · simp only [List.take_succ_cons, List.takeWhile_cons, hc, if_true] at h ⊢
      rw [takeWhile_take r m (by simpa using h)]
    · simp [hc]
theorem takeWhile_le {p : UInt8 → Bool} : ∀ (s : List UInt8), (s.takeWhile p).length ≤ s.length
  | [] => by simp
  | c :: r => by
    rw [List.takeWhile_cons]
    split
    · have := takeWhile_le (p := p) r
      simp only [List.length_cons]; omega
    · simp
theorem prefix_take {x s : List UInt8} {m : Nat} (h : x.isPrefixOf (s.take m) = true) : x.isPrefixOf s = true := by
  rw [List.isPrefixOf_iff_prefix] at h ⊢
  exact h.trans (List.take_prefix m s)
theorem take_prefix {x s : List UInt8} {m : Nat} (h : x.isPrefixOf s = true) (hm : x.length ≤ m) : x.isPrefixOf (s.take m) = true := by
  rw [List.isPrefixOf_iff_prefix] at h ⊢
  obtain ⟨t, rfl⟩ := h
  rw [List.take_append, List.take_of_length_le hm]
  exact List.prefix_append _ _
theorem signL_cut {s : List UInt8} : ∀ (L : List (List UInt8)) (x : Tk) (n : Nat), (∀ y ∈ L, y ≠ []) → signL s L = .ok x n → 1 ≤ n ∧ n ≤ s.length ∧ ∀ m, n ≤ m → signL (s.take m) L = .ok x n
  | [], x, n, _, h => by simp [signL] at h
  | y :: L, x, n, hL, h => by
    rw [signL] at h
    split at h
    · rename_i hy
      cases h
      refine ⟨by have := hL y (by simp); cases y with | nil => exact absurd rfl this | cons a b => simp, ?_, fun m hm => ?_⟩
      · rw [List.isPrefixOf_iff_prefix] at hy
        exact hy.length_le
      · rw [signL, if_pos (take_prefix hy hm)]
    · rename_i hy
      obtain ⟨h1, h2, h3⟩ := signL_cut L x n (fun y hm => hL y (by simp [hm])) h
      refine ⟨h1, h2, fun m hm => ?_⟩
      rw [signL, if_neg fun hp => hy (prefix_take hp)]
      exact h3 m hm
theorem signsL_ne : ∀ y ∈ signsL, y ≠ [] := by decide
theorem oneL_cut {s : List UInt8} {x : Tk} {n : Nat} (h : oneL s = .ok x n) : 1 ≤ n ∧ n ≤ s.length ∧ ∀ m, n ≤ m → oneL (s.take m) = .ok x n := by
  match s, h with
  | [], h => simp [oneL] at h
  | c :: r, h =>
    have key : 1 ≤ n ∧ n ≤ (c :: r).length ∧ ∀ m, n ≤ m + 1 → oneL (c :: r.take m) = .ok x n := by
      unfold oneL at h
      dsimp only at h
      unfold oneL
      dsimp only
      split at h
      · rename_i hl
        simp only [if_pos hl]
        unfold wordL at h ⊢
        dsimp only at h ⊢
        split at h
        · cases h
        · rename_i hlen
          cases h
          refine ⟨?_, takeWhile_le _, fun m hm => ?_⟩
          · simp [hl]
          · have := takeWhile_take (p := fun c => isLetter c || isDigit c) (c :: r) (m + 1) hm
            rw [List.take_succ_cons] at this
            rw [this, if_neg hlen]
      · rename_i hl
        simp only [if_neg hl]
        split at h
        · rename_i hd
          simp only [if_pos hd]
          unfold numberL at h ⊢
          dsimp only at h ⊢
          split at h
          · cases h
          · rename_i hlen
            cases h
            refine ⟨?_, takeWhile_le _, fun m hm => ?_⟩
            · simp [hd]
            · have := takeWhile_take (p := isDigit) (c :: r) (m + 1) hm
              rw [List.take_succ_cons] at this
              rw [this, if_neg hlen]
        · rename_i hd
          simp only [if_neg hd]
          split at h
          · rename_i hq
            simp only [if_pos hq]
            unfold textL at h ⊢
            simp only [List.drop_succ_cons, List.drop_zero] at h ⊢
            obtain ⟨h1, h2, h3, h4⟩ := textGo_cut _ _ _ _ _ x n h
            refine ⟨by omega, by simp only [List.length_cons]; omega, fun m hm => ?_⟩
            by_cases hmr : m ≤ r.length
            · exact h4 _ m (by omega) (by rw [List.length_cons, List.length_take]; omega)
            · rw [List.take_of_length_le (by omega)]
              have := h4 (r.length + 1) r.length (by omega) (by omega)
              rw [List.take_length] at this
              exact this
          · rename_i hq
            simp only [if_neg hq]
            obtain ⟨h1, h2, h3⟩ := signL_cut signsL x n signsL_ne h
            refine ⟨h1, h2, fun m hm => ?_⟩
            have := h3 (m + 1) hm
            rw [List.take_succ_cons] at this
            exact this
    refine ⟨key.1, key.2.1, fun m hm => ?_⟩
    obtain ⟨m, rfl⟩ : ∃ g, m = g + 1 := ⟨m - 1, by omega⟩
    exact key.2.2 m hm
/-- What was cut: blanks, a token, and so on. -/
inductive Lexed : List UInt8 → Nat → List (Tk × Nat) → Prop
  | none {s : List UInt8} {p : Nat} (h : ∀ c ∈ s, isBlank c = true) : Lexed s p []
  | some {b s : List UInt8} {p : Nat} {x : Tk} {n : Nat} {l : List (Tk × Nat)} (hb : ∀ c ∈ b, isBlank c = true) (hc : isBlank (s.getD 0 0) = false) (ho : oneL s = .ok x n) (h : Lexed (s.drop n) (p + b.length + n) l) : Lexed (b ++ s) p ((x, p + b.length) :: l)
theorem lexGo_lexed : ∀ (f : Nat) (s : List UInt8) (p : Nat) (l : List (Tk × Nat)), s.length ≤ f → lexGo f s p = .ok l → Lexed s p l
  | 0, s, p, l, hf, h => by
    obtain rfl : s = [] := by simpa using hf
    simp only [lexGo] at h
    cases h
    exact .none (by simp)
  | f+1, [], p, l, hf, h => by
    simp only [lexGo] at h
    cases h
    exact .none (by simp)
  | f+1, c :: r, p, l, hf, h => by
    rw [lexGo] at h
    simp only [List.length_cons] at hf
    split at h
    · rename_i hb
      match l, lexGo_lexed f r (p + 1) l (by omega) h with
      | _, .none h => exact .none (by simp only [List.mem_cons]; rintro d (rfl | hd); exact hb; exact h d hd)
      | _, .some (b := b) (s := s) (x := x) (n := n) (l := l) hb' hc ho h =>
        have := Lexed.some (b := c :: b) (p := p) (by simp only [List.mem_cons]; rintro d (rfl | hd); exact hb; exact hb' d hd) hc ho (by rw [List.length_cons, show p + (b.length + 1) + n = p + 1 + b.length + n by omega]; exact h)
        rw [List.length_cons, show p + (b.length + 1) = p + 1 + b.length by omega] at this
        exact this
    · rename_i hb
      split at h
      · cases h
      · rename_i x n ho
        split at h
        · cases h
        · rename_i l' hl
          cases h
          obtain ⟨h1, h2, _⟩ := oneL_cut ho
          have := lexGo_lexed f _ _ _ (by rw [List.length_drop, List.length_cons]; simp only [List.length_cons] at h2; omega) hl
          exact Lexed.some (b := []) (by simp) (by simpa using hb) ho this
theorem lexGo_blank : ∀ (f : Nat) (s : List UInt8) (p : Nat), (∀ c ∈ s, isBlank c = true) → lexGo f s p = .ok []
  | 0, _, _, _ => rfl
  | f+1, [], _, _ => rfl
  | f+1, c :: r, p, h => by
    rw [lexGo, if_pos (h c (by simp))]
    exact lexGo_blank f r (p + 1) fun d hd => h d (by simp [hd])
/-- A token alone, with blanks behind it. -/
theorem lexL_alone {s : List UInt8} {x : Tk} {n m : Nat} (hc : isBlank (s.getD 0 0) = false) (ho : oneL s = .ok x n) (hm : n ≤ m) (hml : m ≤ s.length) (hb : ∀ c ∈ (s.take m).drop n, isBlank c = true) : lexL (s.take m) = .ok [(x, 0)] := by
  obtain ⟨h1, h2, h3⟩ := oneL_cut ho
  have h4 := h3 m hm
  have hl : (s.take m).length = m := by rw [List.length_take]; omega
  unfold lexL
  rw [hl]
  match s, hc, m, hm with
  | [], _, _, _ => simp at h2; omega
  | c :: r, hc, 0, hm => omega
  | c :: r, hc, m + 1, hm =>
    rw [List.take_succ_cons] at h4 hb ⊢
    rw [lexGo, if_neg (by simpa using hc), h4]
    dsimp only
    rw [lexGo_blank _ _ _ hb]
end Go.Proofs.YtboinbjiemmggaaDoor
