/- Numbers of digits as the library reads them; where a cut fails. No program in sight. -/
import Derived.Test.YtboinbjiemmggaaDoorLx4
import Derived.Lib.ParseIntB
namespace Go.Proofs.YtboinbjiemmggaaDoor
open Go.Lib
theorem foldl_ge : ∀ (l : List UInt8) (acc : Nat), acc ≤ l.foldl (fun n c => 10 * n + (c.toNat - 48)) acc
  | [], _ => Nat.le_refl _
  | c :: r, acc => by
    rw [List.foldl_cons]
    exact Nat.le_trans (by omega) (foldl_ge r _)
theorem isDigit_iff {c : UInt8} : isDigit c = true ↔ 48 ≤ c.toNat ∧ c.toNat ≤ 57 := by
  unfold isDigit
  simp only [Bool.and_eq_true, decide_eq_true_eq, UInt8.le_iff_toNat_le]
  exact Iff.rfl
theorem parse_digits : ∀ (l : List UInt8) (acc : Nat), (∀ c ∈ l, isDigit c = true) → acc < 18446744073709551616 →
    parseUintM 18446744073709551615 acc l = if l.foldl (fun n c => 10 * n + (c.toNat - 48)) acc < 18446744073709551616 then .ok (l.foldl (fun n c => 10 * n + (c.toNat - 48)) acc) else .range
  | [], acc, _, ha => by simp [parseUintM, ha]
  | c :: r, acc, h, ha => by
    have hc := isDigit_iff.1 (h c (by simp))
    rw [parseUintM, if_pos hc, List.foldl_cons]
    have hg := foldl_ge r (10 * acc + (c.toNat - 48))
    split
    · rw [if_neg (by omega)]
    · split
      · rw [if_neg (by omega)]
      · rw [Nat.mul_comm acc 10]
        exact parse_digits r _ (fun d hd => h d (by simp [hd])) (by omega)
theorem parse_num {l : List UInt8} (hne : l ≠ []) (h : ∀ c ∈ l, isDigit c = true) : parseUintB 64 l = if numOf l < 18446744073709551616 then .ok (numOf l) else .range := by
  unfold parseUintB
  rw [if_neg hne]
  exact parse_digits l 0 h (by decide)
theorem mem_takeWhile {p : UInt8 → Bool} : ∀ {l : List UInt8} {c : UInt8}, c ∈ l.takeWhile p → p c = true
  | [], _, h => by simp at h
  | a :: r, c, h => by
    rw [List.takeWhile_cons] at h
    split at h
    · rcases List.mem_cons.1 h with rfl | h
      · assumption
      · exact mem_takeWhile h
    · simp at h
theorem tw_lt {p : UInt8 → Bool} : ∀ {l : List UInt8} {n : Nat}, n ≤ (l.takeWhile p).length → n < l.length → (p (l.getD n 0) = true ↔ n < (l.takeWhile p).length)
  | [], n, _, h => by simp at h
  | a :: r, 0, _, _ => by
    rw [List.takeWhile_cons]
    show p a = true ↔ _
    split
    · rename_i h; simp [h]
    · rename_i h; simp [h]
  | a :: r, n + 1, h1, h2 => by
    rw [List.takeWhile_cons] at h1 ⊢
    split
    · rename_i h
      rw [if_pos h] at h1
      have := tw_lt (p := p) (l := r) (n := n) (by simpa using h1) (by simpa using h2)
      simpa using this
    · rename_i h
      rw [if_neg h] at h1
      simp at h1
theorem tw_take {p : UInt8 → Bool} : ∀ (l : List UInt8), l.take (l.takeWhile p).length = l.takeWhile p
  | [] => by simp
  | a :: r => by
    rw [List.takeWhile_cons]
    split
    · rw [List.length_cons, List.take_succ_cons, tw_take r]
    · simp
theorem lexGo_err : ∀ (f : Nat) (s : List UInt8) (p : Nat) (e : Int) (a : Nat), lexGo f s p = .error (e, a) → p ≤ a ∧ a < p + s.length
  | 0, _, _, _, _, h => by simp [lexGo] at h
  | f+1, [], _, _, _, h => by simp [lexGo] at h
  | f+1, c :: r, p, e, a, h => by
    rw [lexGo] at h
    simp only [List.length_cons]
    split at h
    · have := lexGo_err f r (p + 1) e a h
      omega
    · split at h
      · cases h; omega
      · rename_i x n ho
        obtain ⟨h1, h2, _⟩ := oneL_cut ho
        split at h
        · rename_i e' hl
          cases h
          have := lexGo_err f _ _ e a hl
          rw [List.length_drop] at this
          simp only [List.length_cons] at this h2
          omega
        · cases h
end Go.Proofs.YtboinbjiemmggaaDoor
