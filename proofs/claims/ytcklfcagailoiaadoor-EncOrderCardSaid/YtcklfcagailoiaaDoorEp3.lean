/- Numbers of a few bytes: written, and read back. -/
import Derived.Test.YtcklfcagailoiaaDoorAbL
namespace Ab
set_option linter.unusedVariables false
set_option linter.unusedSimpArgs false
/-- A number's bytes. -/
def encB (x : Nat) : List UInt8 := if x < 128 then [UInt8.ofNat x] else UInt8.ofNat (x % 128 + 128) :: encB (x / 128)
termination_by x
decreasing_by omega
theorem encB_lt {x : Nat} (h : x < 128) : encB x = [UInt8.ofNat x] := by rw [encB, if_pos h]
theorem encB_ge {x : Nat} (h : ¬ x < 128) : encB x = UInt8.ofNat (x % 128 + 128) :: encB (x / 128) := by rw [encB, if_neg h]
theorem encB_pos (x : Nat) : 0 < (encB x).length := by
  by_cases h : x < 128
  · rw [encB_lt h]; simp
  · rw [encB_ge h]; simp
/-- The number that bytes begin with, from one place on. -/
def readB (b : List UInt8) : Nat → Nat → Nat → Option (Nat × Nat)
  | 0, _, _ => none
  | f+1, n, x => if n < b.length then
      (if (n = 9 ∧ 1 < (b.getD n 0).toNat) ∨ (0 < n ∧ (b.getD n 0).toNat = 0) then none
       else if (b.getD n 0).toNat < 128 then some (x + (b.getD n 0).toNat * 128 ^ n, n + 1)
       else readB b f (n + 1) (x + ((b.getD n 0).toNat - 128) * 128 ^ n))
    else none
theorem pow128 {n : Nat} (h : n ≤ 9) : 128 ^ n ≤ 9223372036854775808 := by
  have : (128 : Nat) ^ n ≤ 128 ^ 9 := Nat.pow_le_pow_right (by decide) h
  exact this
theorem pow128_big {n : Nat} (h : 10 ≤ n) : 18446744073709551616 < 128 ^ n := by
  have : (128 : Nat) ^ 10 ≤ 128 ^ n := Nat.pow_le_pow_right (by decide) h
  have e : (128 : Nat) ^ 10 = 1180591620717411303424 := by decide
  omega
theorem pow128_succ (n : Nat) : 128 ^ (n + 1) = 128 * 128 ^ n := by rw [Nat.pow_succ, Nat.mul_comm]
theorem ofNat_toNat {x : Nat} (h : x < 256) : (UInt8.ofNat x).toNat = x := by
  simp [Nat.mod_eq_of_lt h]
theorem getD_app (p : List UInt8) (c : UInt8) (r : List UInt8) : (p ++ c :: r).getD p.length 0 = c := by simp [List.getD]
theorem read_enc : ∀ (f : Nat) (y acc : Nat) (p r : List UInt8), f + p.length = 10 → y * 128 ^ p.length < 18446744073709551616 → (0 < p.length → 0 < y) →
    readB (p ++ (encB y ++ r)) f p.length acc = some (acc + y * 128 ^ p.length, p.length + (encB y).length) := by
  intro f
  induction f with
  | zero =>
    intro y acc p r hf hy h0
    exfalso
    have h1 := pow128_big (n := p.length) (by omega)
    have h2 := h0 (by omega)
    have h3 : 1 * 128 ^ p.length ≤ y * 128 ^ p.length := Nat.mul_le_mul_right _ h2
    omega
  | succ f ih =>
    intro y acc p r hf hy h0
    have hp : p.length ≤ 9 := by omega
    by_cases hlt : y < 128
    · rw [encB_lt hlt]
      unfold readB
      rw [List.singleton_append, if_pos (by simp), getD_app, ofNat_toNat (by omega)]
      rw [if_neg, if_pos hlt]
      · rfl
      · rintro (⟨h9, h1⟩ | ⟨h1, h2⟩)
        · rw [h9] at hy
          have e : (128 : Nat) ^ 9 = 9223372036854775808 := by decide
          rw [e] at hy
          omega
        · have := h0 h1; omega
    · rw [encB_ge hlt]
      unfold readB
      rw [List.cons_append, if_pos (by simp), getD_app, ofNat_toNat (by omega)]
      have hd : y / 128 * (128 * 128 ^ p.length) + (y % 128) * 128 ^ p.length = y * 128 ^ p.length := by
        rw [← Nat.mul_assoc, ← Nat.add_mul, Nat.mul_comm (y / 128) 128, Nat.div_add_mod]
      have h9 : p.length ≠ 9 := fun h9 => by
        rw [h9] at hy
        have e : (128 : Nat) ^ 9 = 9223372036854775808 := by decide
        rw [e] at hy
        omega
      rw [if_neg (by omega), if_neg (by omega)]
      have hi := ih (y / 128) (acc + (y % 128 + 128 - 128) * 128 ^ p.length) (p ++ [UInt8.ofNat (y % 128 + 128)]) r (by simp; omega) (by
        rw [List.length_append, List.length_singleton, pow128_succ]; omega) (fun _ => by omega)
      rw [List.length_append, List.length_singleton, List.append_assoc, List.singleton_append, pow128_succ] at hi
      rw [hi]
      congr 2
      · rw [Nat.add_sub_cancel]; omega
      · simp only [List.length_cons]; omega
theorem read_enc0 {x : Nat} (hx : x < 18446744073709551616) (r : List UInt8) : readB (encB x ++ r) 10 0 0 = some (x, (encB x).length) := by
  have := read_enc 10 x 0 [] r rfl (by simpa using hx) (fun h => by simp at h)
  simpa using this
theorem u8_eta (c : UInt8) : UInt8.ofNat c.toNat = c := by simp
theorem take_drop_cons {b : List UInt8} {n : Nat} (h : n < b.length) (k : Nat) : (b.drop n).take (k + 1) = b.getD n 0 :: (b.drop (n + 1)).take k := by
  rw [List.drop_eq_getElem_cons h, List.take_succ_cons]
  congr 1
  simp [List.getD, h]
theorem enc_read : ∀ (f n acc x m : Nat) (b : List UInt8), f + n = 10 → acc < 128 ^ n → readB b f n acc = some (x, m) →
    ∃ y, x = acc + y * 128 ^ n ∧ (b.drop n).take (m - n) = encB y ∧ n < m ∧ m ≤ b.length ∧ (0 < n → 0 < y) ∧ x < 18446744073709551616 := by
  intro f
  induction f with
  | zero => intro n acc x m b _ _ h; cases h
  | succ f ih =>
    intro n acc x m b hf ha h
    unfold readB at h
    by_cases hn : n < b.length
    · rw [if_pos hn] at h
      by_cases hbad : (n = 9 ∧ 1 < (b.getD n 0).toNat) ∨ (0 < n ∧ (b.getD n 0).toNat = 0)
      · rw [if_pos hbad] at h; cases h
      rw [if_neg hbad] at h
      have hc := (b.getD n 0).toNat_lt
      have hp := pow128 (n := n) (by omega)
      by_cases hlt : (b.getD n 0).toNat < 128
      · rw [if_pos hlt] at h
        obtain ⟨rfl, rfl⟩ : acc + (b.getD n 0).toNat * 128 ^ n = x ∧ n + 1 = m := by simpa using h
        refine ⟨(b.getD n 0).toNat, rfl, ?_, by omega, by omega, by omega, ?_⟩
        · rw [encB_lt hlt, Nat.add_sub_cancel_left, take_drop_cons hn, u8_eta]; simp
        · by_cases h9 : n = 9
          · have hc1 : (b.getD n 0).toNat ≤ 1 := by omega
            have h1 : (b.getD n 0).toNat * 128 ^ n ≤ 1 * 128 ^ n := Nat.mul_le_mul_right _ hc1
            omega
          · have h1 : (b.getD n 0).toNat * 128 ^ n ≤ 127 * 128 ^ n := Nat.mul_le_mul_right _ (by omega)
            have h2 : (128 : Nat) ^ n ≤ 128 ^ 8 := Nat.pow_le_pow_right (by decide) (by omega)
            have e : (128 : Nat) ^ 8 = 72057594037927936 := by decide
            omega
      · rw [if_neg hlt] at h
        have h1 : ((b.getD n 0).toNat - 128) * 128 ^ n ≤ 127 * 128 ^ n := Nat.mul_le_mul_right _ (by omega)
        obtain ⟨y, e1, e2, e3, e4, e5, e6⟩ := ih (n + 1) _ x m b (by omega) (by rw [pow128_succ]; omega) h
        have e5 := e5 (by omega)
        refine ⟨y * 128 + ((b.getD n 0).toNat - 128), ?_, ?_, by omega, e4, by omega, e6⟩
        · rw [e1, pow128_succ, Nat.add_mul, Nat.mul_assoc]; omega
        · have q1 : (y * 128 + ((b.getD n 0).toNat - 128)) % 128 + 128 = (b.getD n 0).toNat := by omega
          have q2 : (y * 128 + ((b.getD n 0).toNat - 128)) / 128 = y := by omega
          rw [encB_ge (by omega), show m - n = (m - (n + 1)) + 1 by omega, take_drop_cons hn, e2, q1, q2, u8_eta]
    · rw [if_neg hn] at h; cases h
theorem enc_read0 {b : List UInt8} {x m : Nat} (h : readB b 10 0 0 = some (x, m)) : x < 18446744073709551616 ∧ 0 < m ∧ m ≤ b.length ∧ b.take m = encB x := by
  obtain ⟨y, e1, e2, e3, e4, e5, e6⟩ := enc_read 10 0 0 x m b rfl (by decide) h
  simp only [Nat.pow_zero, Nat.mul_one, Nat.zero_add, List.drop_zero, Nat.sub_zero] at e1 e2
  subst e1
  exact ⟨e6, e3, e4, e2⟩
/-- A row of numbers as bytes. -/
def rowB : List Nat → List UInt8
  | [] => []
  | x :: r => encB x ++ rowB r
theorem rowB_snoc (l : List Nat) (x : Nat) : rowB (l ++ [x]) = rowB l ++ encB x := by
  induction l with
  | nil => simp [rowB]
  | cons y r ih => simp [rowB, ih, List.append_assoc]
theorem encB_len {x : Nat} : ∀ {n : Nat}, x < 128 ^ n → 0 < n → (encB x).length ≤ n := by
  intro n
  induction n generalizing x with
  | zero => intro _ h; omega
  | succ n ih =>
    intro hx _
    by_cases h : x < 128
    · rw [encB_lt h]; simp
    · rw [encB_ge h, List.length_cons]
      have hn : 0 < n := by
        rcases Nat.eq_zero_or_pos n with rfl | h'
        · simp at hx; omega
        · exact h'
      have := ih (x := x / 128) (by rw [pow128_succ] at hx; exact Nat.div_lt_of_lt_mul hx) hn
      omega
theorem encB_len10 {x : Nat} (h : x < 18446744073709551616) : (encB x).length ≤ 10 := by
  refine encB_len (n := 10) ?_ (by decide)
  have e : (128 : Nat) ^ 10 = 1180591620717411303424 := by decide
  omega
theorem rowB_len {l : List Nat} (h : ∀ x ∈ l, x < 18446744073709551616) : (rowB l).length ≤ 10 * l.length := by
  induction l with
  | nil => simp [rowB]
  | cons y r ih =>
    have h1 := encB_len10 (h y (by simp))
    have h2 := ih fun x hx => h x (by simp [hx])
    simp only [rowB, List.length_append, List.length_cons]
    omega
end Ab
