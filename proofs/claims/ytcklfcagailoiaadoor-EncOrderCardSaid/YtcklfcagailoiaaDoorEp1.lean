/- The least text above all that begin with one. No program in sight. -/
import Derived.Calls
namespace Go.Proofs.YtcklfcagailoiaaDoor
open Go
set_option linter.unusedVariables false
set_option linter.unusedSimpArgs false

def afterR : List UInt8 → List UInt8
  | [] => []
  | c :: r => match afterR r with
    | [] => if c < 255 then [c + 1] else []
    | d :: r' => c :: d :: r'
def inB (t s a : List UInt8) : Bool := !Op.bytesLess t s && (a == [] || Op.bytesLess t a)

theorem afterR_snoc : ∀ (l : List UInt8) (c : UInt8), afterR (l ++ [c]) = if c < 255 then l ++ [c + 1] else afterR l
  | [], c => by simp [afterR]
  | d :: l, c => by
    have ih := afterR_snoc l c
    rw [List.cons_append, afterR, ih]
    by_cases h : c < 255
    · rw [if_pos h, if_pos h]
      cases l <;> rfl
    · rw [if_neg h, if_neg h]; rfl
theorem u8_lt_succ {c : UInt8} (h : c < 255) : (c < c + 1) := by
  rw [UInt8.lt_iff_toNat_lt] at *
  have e : (c + 1).toNat = c.toNat + 1 := by
    rw [UInt8.toNat_add]
    have : (255 : UInt8).toNat = 255 := rfl
    have : (1 : UInt8).toNat = 1 := rfl
    omega
  omega
theorem u8_above {c d : UInt8} (h : c < 255) (hd : ¬ d < c) (hn : d ≠ c) : ¬ d < c + 1 := by
  rw [UInt8.lt_iff_toNat_lt] at *
  have e : (c + 1).toNat = c.toNat + 1 := by
    rw [UInt8.toNat_add]
    have : (255 : UInt8).toNat = 255 := rfl
    have : (1 : UInt8).toNat = 1 := rfl
    omega
  have : d.toNat ≠ c.toNat := fun h => hn (UInt8.toNat_inj.1 h)
  omega
theorem less_nil (u : List UInt8) : Op.bytesLess u [] = false := by cases u <;> rfl
theorem less_cons (a b : UInt8) (x y : List UInt8) : Op.bytesLess (a :: x) (b :: y) = (decide (a < b) || (a == b && Op.bytesLess x y)) := rfl

theorem in_after : ∀ (s t : List UInt8), inB t s (afterR s) = s.isPrefixOf t
  | [], t => by simp [inB, afterR, less_nil]
  | c :: r, [] => by simp [inB, Op.bytesLess]
  | c :: r, d :: u => by
    have ih := in_after r u
    simp only [inB, less_cons, List.isPrefixOf] at ih ⊢
    by_cases h1 : d < c
    · have h2 : ¬ c = d := fun e => by subst e; exact absurd h1 (UInt8.lt_irrefl _)
      simp [h1, h2]
    · by_cases h2 : d = c
      · subst h2
        rw [afterR]
        cases ha : afterR r with
        | nil =>
          rw [ha] at ih
          by_cases h3 : d < 255
          · simp [h3, less_cons, u8_lt_succ h3] at ih ⊢; exact ih
          · simp [h3] at ih ⊢; exact ih
        | cons e r' =>
          rw [ha] at ih
          simp [less_cons] at ih ⊢
          exact ih
      · have h2' : ¬ c = d := fun e => h2 e.symm
        have b1 : (d == c) = false := beq_eq_false_iff_ne.2 h2
        have b2 : (c == d) = false := beq_eq_false_iff_ne.2 h2'
        have hc : c < 255 := by
          rw [UInt8.lt_iff_toNat_lt] at *
          have : d.toNat ≠ c.toNat := fun h => h2 (UInt8.toNat_inj.1 h)
          have := d.toNat_lt
          have : (255 : UInt8).toNat = 255 := rfl
          omega
        rw [afterR]
        cases ha : afterR r with
        | nil =>
          simp [h1, h2, h2', b1, b2, hc, less_cons, less_nil, u8_above hc h1 h2]
        | cons e r' => simp [h1, b1, b2, less_cons]
theorem after_above : ∀ (s : List UInt8), afterR s ≠ [] → Op.bytesLess s (afterR s) = true ∧ s.isPrefixOf (afterR s) = false
  | [], h => absurd rfl h
  | c :: r, h => by
    have ih := after_above r
    rw [afterR] at h ⊢
    cases ha : afterR r with
    | nil =>
      rw [ha] at h
      by_cases hc : c < 255
      · have h1 := u8_lt_succ hc
        have h2 : ¬ c = c + 1 := fun e => by rw [← e] at h1; exact absurd h1 (UInt8.lt_irrefl _)
        simp [hc, less_cons, h1, h2, List.isPrefixOf]
      · simp [hc] at h
    | cons d r' =>
      rw [ha] at ih
      obtain ⟨h1, h2⟩ := ih (by simp)
      simp [less_cons, h1, List.isPrefixOf, h2]
theorem less_irrefl : ∀ s : List UInt8, Op.bytesLess s s = false
  | [] => rfl
  | c :: r => by simp [less_cons, less_irrefl r, UInt8.lt_irrefl]
theorem less_asymm : ∀ {s t : List UInt8}, Op.bytesLess s t = true → Op.bytesLess t s = false
  | [], [], h => by cases h
  | [], _ :: _, _ => rfl
  | _ :: _, [], h => by cases h
  | c :: r, d :: u, h => by
    simp only [less_cons, Bool.or_eq_true, decide_eq_true_eq, Bool.and_eq_true, beq_iff_eq] at h
    simp only [less_cons, Bool.or_eq_false_iff, decide_eq_false_iff_not, Bool.and_eq_false_iff, beq_eq_false_iff_ne]
    rcases h with h | ⟨rfl, h⟩
    · have h' := UInt8.lt_iff_toNat_lt.1 h
      refine ⟨fun hh => ?_, .inl fun hh => ?_⟩
      · have := UInt8.lt_iff_toNat_lt.1 hh; omega
      · subst hh; omega
    · exact ⟨UInt8.lt_irrefl _, .inr (less_asymm h)⟩
theorem less_ne {s t : List UInt8} (h : Op.bytesLess s t = true) : (t == s) = false := by
  rw [beq_eq_false_iff_ne]
  rintro rfl
  rw [less_irrefl] at h; cases h
/-- A text begins with another: as it is asked. -/
theorem prefix_take (s t : List UInt8) : s.isPrefixOf t = (decide (s.length ≤ t.length) && (t.take s.length == s)) := by
  by_cases h : s <+: t
  · have h1 := List.isPrefixOf_iff_prefix.2 h
    have h2 := h.length_le
    rw [h1, List.prefix_iff_eq_take.1 h |>.symm]
    simp [h2]
  · have h1 : s.isPrefixOf t = false := by
      cases hb : s.isPrefixOf t
      · rfl
      · exact absurd (List.isPrefixOf_iff_prefix.1 hb) h
    rw [h1]
    symm
    rw [Bool.and_eq_false_iff]
    by_cases hl : s.length ≤ t.length
    · right
      rw [beq_eq_false_iff_ne]
      intro e
      exact h (e ▸ List.take_prefix _ _)
    · left; simpa using hl
end Go.Proofs.YtcklfcagailoiaaDoor
