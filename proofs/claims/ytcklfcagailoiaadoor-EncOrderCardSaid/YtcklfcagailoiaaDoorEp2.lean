/- Numbers as bytes, the highest first. No program in sight. -/
import Derived.Test.YtcklfcagailoiaaDoorEp1
namespace Go.Proofs.YtcklfcagailoiaaDoor
open Go
set_option linter.unusedVariables false
set_option linter.unusedSimpArgs false

/-- So many bytes of a number, the highest first. -/
def beB : Nat → Nat → List UInt8
  | 0, _ => []
  | n+1, x => UInt8.ofNat (x / 256 ^ n % 256) :: beB n x
def beV : List UInt8 → Nat
  | [] => 0
  | b :: r => b.toNat * 256 ^ r.length + beV r
theorem beB_len : ∀ (n x : Nat), (beB n x).length = n
  | 0, _ => rfl
  | n+1, x => by rw [beB, List.length_cons, beB_len n]
theorem beV_lt : ∀ s : List UInt8, beV s < 256 ^ s.length
  | [] => by simp [beV]
  | b :: r => by
    have := beV_lt r
    have hb := b.toNat_lt
    rw [beV, List.length_cons, Nat.pow_succ]
    have h2 : (b.toNat + 1) * 256 ^ r.length ≤ 256 * 256 ^ r.length := Nat.mul_le_mul_right _ (by omega)
    rw [Nat.add_mul, Nat.one_mul] at h2
    rw [Nat.mul_comm (256 ^ r.length)]
    omega
theorem beV_append : ∀ (a b : List UInt8), beV (a ++ b) = beV a * 256 ^ b.length + beV b
  | [], b => by simp [beV]
  | c :: r, b => by
    rw [List.cons_append, beV, beV, beV_append r b, List.length_append, Nat.pow_add, Nat.add_mul, Nat.mul_assoc]
    omega
theorem beV_snoc (a : List UInt8) (c : UInt8) : beV (a ++ [c]) = beV a * 256 + c.toNat := by
  rw [beV_append]; simp [beV]
theorem beV_beB : ∀ (n x : Nat), beV (beB n x) = x % 256 ^ n
  | 0, x => by simp [beB, beV, Nat.mod_one]
  | n+1, x => by
    rw [beB, beV, beB_len, beV_beB n x, Nat.pow_succ, Nat.mod_mul]
    have : (UInt8.ofNat (x / 256 ^ n % 256)).toNat = x / 256 ^ n % 256 := by simp
    rw [this, Nat.mul_comm]
    omega
theorem beB_beV : ∀ (s : List UInt8) (y : Nat), beB s.length (y * 256 ^ s.length + beV s) = s
  | [], y => rfl
  | b :: r, y => by
    rw [List.length_cons, beB, beV]
    have hlt := beV_lt r
    have hp : 0 < 256 ^ r.length := Nat.pow_pos (by decide)
    have e : y * 256 ^ (r.length + 1) + (b.toNat * 256 ^ r.length + beV r) = (y * 256 + b.toNat) * 256 ^ r.length + beV r := by
      rw [Nat.pow_succ, Nat.add_mul, Nat.mul_assoc, Nat.mul_comm 256]
      omega
    rw [e, beB_beV r]
    congr 1
    rw [Nat.mul_comm, Nat.mul_add_div hp, Nat.div_eq_of_lt hlt, Nat.add_zero]
    have hb := b.toNat_lt
    have : (y * 256 + b.toNat) % 256 = b.toNat := by omega
    rw [this]
    simp
theorem beB_of_beV (s : List UInt8) : beB s.length (beV s) = s := by have := beB_beV s 0; simpa using this
theorem beV_inj {a b : List UInt8} (hl : a.length = b.length) (h : beV a = beV b) : a = b := by
  rw [← beB_of_beV a, ← beB_of_beV b, hl, h]
/-- Texts of one length stand as their numbers. -/
theorem less_beV : ∀ {a b : List UInt8}, a.length = b.length → Op.bytesLess a b = decide (beV a < beV b)
  | [], [], _ => rfl
  | [], _ :: _, h => by cases h
  | _ :: _, [], h => by cases h
  | c :: r, d :: u, h => by
    have hl : r.length = u.length := by simpa using h
    have ih := less_beV hl
    have h1 := beV_lt r
    have h2 := beV_lt u
    rw [less_cons, ih, beV, beV, hl]
    rw [hl] at h1
    generalize 256 ^ u.length = p at *
    by_cases hc : c < d
    · have hc' := UInt8.lt_iff_toNat_lt.1 hc
      have : (c.toNat + 1) * p ≤ d.toNat * p := Nat.mul_le_mul_right _ hc'
      rw [Nat.add_mul, Nat.one_mul] at this
      simp only [hc, decide_true, Bool.true_or]
      symm; rw [decide_eq_true_eq]; omega
    · by_cases he : c = d
      · subst he
        simp [UInt8.lt_irrefl]
      · have hne : (c == d) = false := beq_eq_false_iff_ne.2 he
        have hc' : d.toNat < c.toNat := by
          have : ¬ c.toNat < d.toNat := fun h => hc (UInt8.lt_iff_toNat_lt.2 h)
          have : c.toNat ≠ d.toNat := fun h => he (UInt8.toNat_inj.1 h)
          omega
        have : (d.toNat + 1) * p ≤ c.toNat * p := Nat.mul_le_mul_right _ hc'
        rw [Nat.add_mul, Nat.one_mul] at this
        simp only [hc, hne, decide_false, Bool.false_or, Bool.false_and]
        symm; rw [decide_eq_false_iff_not]; omega
end Go.Proofs.YtcklfcagailoiaaDoor
