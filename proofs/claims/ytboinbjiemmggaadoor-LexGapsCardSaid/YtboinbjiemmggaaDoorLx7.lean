/- Letters as they are decoded, and apostrophes. No program in sight. -/
import Derived.Test.YtboinbjiemmggaaDoorLx5
import Derived.Lib.TrimAscii
namespace Go.Proofs.YtboinbjiemmggaaDoor
open Go.Lib
theorem decodeL_q (r : List UInt8) : decodeL (39 :: r) = (39, 1) := decodeL_ascii 39 r (by decide)
theorem decode39 {c : UInt8} {r : List UInt8} (h : c ≠ 39) : (decodeL (c :: r)).1 ≠ 39 := by
  by_cases hc : c.toNat < 128
  · rw [decodeL_ascii c r hc]
    intro e
    exact h (UInt8.toNat_inj.1 e)
  · rw [decodeL_N]
    simp only [List.getD_cons_zero]
    unfold decodeN
    repeat' split
    all_goals (dsimp only; omega)
theorem decode_pos (s : List UInt8) (pos : Nat) : Utf8.decode ⟨s.toArray⟩ pos = decodeL (s.drop pos) := by
  have := decodeL_drop ⟨s.toArray⟩ pos
  rw [← this]
theorem drop_cons {s : List UInt8} {pos : Nat} (h : pos < s.length) : s.drop pos = s.getD pos 0 :: s.drop (pos + 1) := by
  rw [List.drop_eq_getElem_cons h]
  simp [List.getD, h]
theorem textGo_char {f i : Nat} {l buf : List UInt8} {bad : Bool} (hne : l ≠ []) (h : l.getD 0 0 ≠ 39) :
    textGo (f + 1) l i bad buf = textGo f (l.drop (decodeL l).2) (i + (decodeL l).2) (bad || ((decodeL l).1 == 65533 && (decodeL l).2 == 1)) (buf ++ l.take (decodeL l).2) := by
  cases l with
  | nil => exact absurd rfl hne
  | cons c r => rw [textGo, if_pos (show c ≠ 39 from h)]
theorem textGo_two {f i : Nat} {l buf : List UInt8} {bad : Bool} (h0 : l.getD 0 0 = 39) (h1 : l.getD 1 0 = 39) : textGo (f + 1) l i bad buf = textGo f (l.drop 2) (i + 2) bad (buf ++ [39]) := by
  cases l with
  | nil => exact absurd h0 (by decide)
  | cons c r =>
    rw [textGo, if_neg (by simpa using h0), if_pos (show r.getD 0 0 = 39 from h1)]
    rfl
theorem textGo_end {f i : Nat} {l buf : List UInt8} {bad : Bool} (h0 : l.getD 0 0 = 39) (h1 : l.getD 1 0 ≠ 39) : textGo (f + 1) l i bad buf = if bad then .err 232 else if 64 < buf.length then .err 3 else .ok ⟨3, buf, 0⟩ (i + 1) := by
  cases l with
  | nil => exact absurd h0 (by decide)
  | cons c r => rw [textGo, if_neg (by simpa using h0), if_neg (show ¬ r.getD 0 0 = 39 from h1)]
theorem textGo_nil (f i : Nat) (bad : Bool) (buf : List UInt8) : textGo f [] i bad buf = .err 231 := by cases f <;> rfl
theorem qq_iff {l : List UInt8} : ([39, 39] : List UInt8).isPrefixOf l = true ↔ l.getD 0 0 = 39 ∧ l.getD 1 0 = 39 := by
  match l with
  | [] => simp [List.isPrefixOf]
  | [a] => simp [List.isPrefixOf]
  | a :: b :: r =>
    show ((39 : UInt8) == a && ((39 : UInt8) == b && true)) = true ↔ a = 39 ∧ b = 39
    simp only [Bool.and_eq_true, beq_iff_eq, and_true]
    exact ⟨fun h => ⟨h.1.symm, h.2.symm⟩, fun h => ⟨h.1.symm, h.2.symm⟩⟩
theorem getD_drop (s : List UInt8) (p j : Nat) : (s.drop p).getD j 0 = s.getD (p + j) 0 := by
  simp [List.getD, List.getElem?_drop]
theorem int_beq (a b : Nat) : ((a : Int) == (b : Int)) = (a == b) := by
  rw [Bool.eq_iff_iff]; simp; omega
end Go.Proofs.YtboinbjiemmggaaDoor
