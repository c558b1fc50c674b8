/- Bytes put in place of a byte. -/
import Derived.Test.YtcklfcagailoiaaDoorAbM
import Derived.Lib.Bytealg
namespace Ab
open Go
set_option linter.unusedVariables false
set_option linter.unusedSimpArgs false
/-- A text with a row in the place of each byte of a kind. -/
def repB (b : UInt8) (nw : List UInt8) : List UInt8 → List UInt8
  | [] => []
  | c :: r => (if c = b then nw else [c]) ++ repB b nw r
theorem repB_app (b : UInt8) (nw : List UInt8) : ∀ s t : List UInt8, repB b nw (s ++ t) = repB b nw s ++ repB b nw t
  | [], t => rfl
  | c :: r, t => by simp only [List.cons_append, repB, repB_app b nw r t, List.append_assoc]
theorem repB_none (b : UInt8) (nw : List UInt8) : ∀ s : List UInt8, s.count b = 0 → repB b nw s = s
  | [], _ => rfl
  | c :: r, h => by
    have hc : c ≠ b := fun e => by rw [e, List.count_cons_self] at h; omega
    rw [List.count_cons_of_ne hc] at h
    rw [repB, if_neg hc, repB_none b nw r h, List.singleton_append]
theorem repB_len (b : UInt8) {nw : List UInt8} {k : Nat} (hk : nw.length ≤ k) (h1 : 1 ≤ k) : ∀ s : List UInt8, (repB b nw s).length ≤ k * s.length
  | [] => by simp [repB]
  | c :: r => by
    have := repB_len b hk h1 r
    rw [repB, List.length_append, List.length_cons, Nat.mul_add, Nat.mul_one]
    split
    · omega
    · rw [List.length_singleton]; omega
theorem index_split (c : UInt8) : ∀ s : List UInt8, 0 < s.count c → ∃ p r, s = p ++ c :: r ∧ p.count c = 0 ∧ Lib.indexByte s c = (p.length : Int)
  | [], h => by simp at h
  | d :: s, h => by
    by_cases hd : d = c
    · subst hd
      exact ⟨[], s, rfl, rfl, by simp [Lib.indexByte]⟩
    · rw [List.count_cons_of_ne hd] at h
      obtain ⟨p, r, h1, h2, h3⟩ := index_split c s h
      refine ⟨d :: p, r, by rw [h1]; rfl, by rw [List.count_cons_of_ne hd, h2], ?_⟩
      rw [Lib.indexByte, if_neg (by simpa using hd), h3, if_neg (by simp only [beq_iff_eq]; omega), List.length_cons]
      omega
end Ab
