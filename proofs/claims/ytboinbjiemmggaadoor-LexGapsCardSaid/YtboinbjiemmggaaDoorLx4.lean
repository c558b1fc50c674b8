/- What lies between two tokens' places: one token, and blanks behind it. No program in sight. -/
import Derived.Test.YtboinbjiemmggaaDoorLx3
namespace Go.Proofs.YtboinbjiemmggaaDoor
open Go.Lib
/-- The place of the token behind i tokens; the end, if there is none. -/
def toP (l : List (Tk × Nat)) (i e : Nat) : Nat := match l[i]? with
  | some x => x.2
  | none => e
theorem toP_succ (a : Tk × Nat) (l : List (Tk × Nat)) (i e : Nat) : toP (a :: l) (i + 1) e = toP l i e := by unfold toP; rw [List.getElem?_cons_succ]
theorem toP_zero (a : Tk × Nat) (l : List (Tk × Nat)) (e : Nat) : toP (a :: l) 0 e = a.2 := rfl
theorem toP_nil (i e : Nat) : toP [] i e = e := by unfold toP; simp
theorem lexed_head : ∀ {s : List UInt8} {p : Nat} {l : List (Tk × Nat)}, Lexed s p l → p ≤ toP l 0 (p + s.length) ∧ toP l 0 (p + s.length) ≤ p + s.length ∧ ∀ c ∈ s.take (toP l 0 (p + s.length) - p), isBlank c = true := by
  intro s p l h
  cases h with
  | none h =>
    rw [toP_nil]
    refine ⟨by omega, by omega, fun c hc => h c (List.mem_of_mem_take hc)⟩
  | some hb hc ho h =>
    rename_i b s x n l
    rw [toP_zero]
    refine ⟨by simp, by simp only [List.length_append]; omega, fun c hc => hb c ?_⟩
    dsimp only at hc
    rw [Nat.add_sub_cancel_left, List.take_left'  rfl] at hc
    exact hc
theorem lexed_own : ∀ {s : List UInt8} {p : Nat} {l : List (Tk × Nat)}, Lexed s p l → ∀ j, j < l.length →
    ∃ x q, l[j]? = some (x, q) ∧ p ≤ q ∧ q < toP l (j + 1) (p + s.length) ∧ toP l (j + 1) (p + s.length) ≤ p + s.length ∧
      isBlank ((s.drop (q - p)).getD 0 0) = false ∧ ∃ n, oneL (s.drop (q - p)) = .ok x n ∧ n ≤ toP l (j + 1) (p + s.length) - q ∧ ∀ c ∈ ((s.drop (q - p)).take (toP l (j + 1) (p + s.length) - q)).drop n, isBlank c = true := by
  intro s p l h
  induction h with
  | none h => intro j hj; simp at hj
  | some hb hc ho h ih =>
    rename_i b s p x n l
    obtain ⟨h1, h2, h3⟩ := oneL_cut ho
    have e : p + (b ++ s).length = p + b.length + n + (s.drop n).length := by rw [List.length_append, List.length_drop]; omega
    intro j hj
    cases j with
    | zero =>
      obtain ⟨a1, a2, a3⟩ := lexed_head h
      rw [toP_succ, e]
      refine ⟨x, p + b.length, rfl, by omega, by omega, a2, ?_⟩
      generalize toP l 0 (p + b.length + n + (s.drop n).length) = T at a1 a2 a3
      rw [Nat.add_sub_cancel_left, List.drop_left' rfl]
      refine ⟨hc, n, ho, by omega, ?_⟩
      rw [List.drop_take, show T - (p + b.length) - n = T - (p + b.length + n) by omega]
      exact a3
    | succ j =>
      obtain ⟨y, q, b1, b2, b3, b4, b5⟩ := ih j (by simpa using hj)
      rw [toP_succ, e]
      refine ⟨y, q, by simpa using b1, by omega, b3, b4, ?_⟩
      rw [List.drop_drop] at b5
      rw [show q - p = b.length + (n + (q - (p + b.length + n))) by omega, ← List.drop_drop, List.drop_left' rfl]
      exact b5
theorem lexed_gap {s : List UInt8} {p : Nat} {l : List (Tk × Nat)} (h : Lexed s p l) (j : Nat) (hj : j < l.length) :
    ∃ x q, l[j]? = some (x, q) ∧ p ≤ q ∧ q < toP l (j + 1) (p + s.length) ∧ toP l (j + 1) (p + s.length) ≤ p + s.length ∧ lexL ((s.drop (q - p)).take (toP l (j + 1) (p + s.length) - q)) = .ok [(x, 0)] := by
  obtain ⟨x, q, h1, h2, h3, h4, h5, n, h6, h7, h8⟩ := lexed_own h j hj
  exact ⟨x, q, h1, h2, h3, h4, lexL_alone h5 h6 h7 (by rw [List.length_drop]; omega) h8⟩
end Go.Proofs.YtboinbjiemmggaaDoor
