/- Tuples read: texts, values. No program in sight. -/
import Derived.Test.YtcklfcagailoiaaDoorEp4
import Derived.Test.YtcklfcagailoiaaDoorEp2
import Derived.Test.YtcklfcagailoiaaDoorVp
namespace Go.Proofs.YtcklfcagailoiaaDoor
open Go Ab
set_option linter.unusedVariables false
set_option linter.unusedSimpArgs false
/-- A Text's bytes, and how many they are. -/
def txtB : List UInt8 → Option (List UInt8 × Nat)
  | c :: d :: r => if c ≠ 0 then (txtB (d :: r)).map (fun p => (c :: p.1, p.2 + 1)) else if d = 1 then some ([], 2) else if d = 255 then (txtB r).map (fun p => (0 :: p.1, p.2 + 2)) else none
  | [_] => none
  | [] => none
theorem drop2 {s : List UInt8} {i : Nat} (h : i + 1 < s.length) : s.drop i = s.getD i 0 :: s.getD (i + 1) 0 :: s.drop (i + 2) := by
  rw [List.drop_eq_getElem_cons (by omega), List.drop_eq_getElem_cons h]
  simp [List.getD, h, show i < s.length by omega]
theorem drop1 {s : List UInt8} {i : Nat} (h : i < s.length) : s.drop i = s.getD i 0 :: s.drop (i + 1) := by
  rw [List.drop_eq_getElem_cons h]
  simp [List.getD, h]
theorem txt_step {s : List UInt8} {i : Nat} (h : i + 1 < s.length) : txtB (s.drop i) =
    if s.getD i 0 ≠ 0 then (txtB (s.drop (i + 1))).map (fun p => (s.getD i 0 :: p.1, p.2 + 1)) else if s.getD (i + 1) 0 = 1 then some ([], 2) else if s.getD (i + 1) 0 = 255 then (txtB (s.drop (i + 2))).map (fun p => (0 :: p.1, p.2 + 2)) else none := by
  rw [drop2 h, txtB, drop1 (i := i + 1) h]
theorem txt_end {s : List UInt8} {i : Nat} (h : ¬ i + 1 < s.length) : txtB (s.drop i) = none := by
  by_cases h1 : i < s.length
  · rw [drop1 h1, List.drop_of_length_le (by omega)]; rfl
  · rw [List.drop_of_length_le (by omega)]; rfl
theorem txt_len : ∀ {s t : List UInt8} {n : Nat}, txtB s = some (t, n) → 2 ≤ n ∧ n ≤ s.length ∧ t.length ≤ s.length
  | c :: d :: r, t, n, h => by
    unfold txtB at h
    split at h
    · cases hq : txtB (d :: r) with
      | none => rw [hq] at h; cases h
      | some p =>
        rw [hq] at h
        obtain ⟨t', n'⟩ := p
        cases h
        have := txt_len hq
        simp only [List.length_cons] at this ⊢
        omega
    · split at h
      · cases h; simp
      · split at h
        · cases hq : txtB r with
          | none => rw [hq] at h; cases h
          | some p =>
            rw [hq] at h
            obtain ⟨t', n'⟩ := p
            cases h
            have := txt_len hq
            simp only [List.length_cons] at this ⊢
            omega
        · cases h
  | [_], t, n, h => by cases h
  | [], t, n, h => by cases h
theorem txt_go {s : List UInt8} {i : Nat} (h : i + 1 < s.length) (hc : s.getD i 0 ≠ 0) : txtB (s.drop i) = (txtB (s.drop (i + 1))).map (fun p => ([s.getD i 0] ++ p.1, 1 + p.2)) := by
  rw [txt_step h, if_pos hc]
  congr 1
  funext p
  rw [Nat.add_comm]; rfl
theorem txt_zero {s : List UInt8} {i : Nat} (h : i + 1 < s.length) (hc : ¬ s.getD i 0 ≠ 0) (hd : s.getD (i + 1) 0 ≠ 1) (hd2 : s.getD (i + 1) 0 = 255) : txtB (s.drop i) = (txtB (s.drop (i + 2))).map (fun p => ([0] ++ p.1, 2 + p.2)) := by
  rw [txt_step h, if_neg hc, if_neg hd, if_pos hd2]
  congr 1
  funext p
  rw [Nat.add_comm]; rfl
theorem txt_fin {s : List UInt8} {i : Nat} (h : i + 1 < s.length) (hc : ¬ s.getD i 0 ≠ 0) (hd : s.getD (i + 1) 0 = 1) : txtB (s.drop i) = some ([], 2) := by
  rw [txt_step h, if_neg hc, if_pos hd]
theorem txt_bad {s : List UInt8} {i : Nat} (h : i + 1 < s.length) (hc : ¬ s.getD i 0 ≠ 0) (hd : s.getD (i + 1) 0 ≠ 1) (hd2 : s.getD (i + 1) 0 ≠ 255) : txtB (s.drop i) = none := by
  rw [txt_step h, if_neg hc, if_neg hd, if_neg hd2]
theorem txt_comb {A B C : Option (List UInt8 × Nat)} {o o' : List UInt8} {i j : Nat} (h1 : A = B.map (fun p => (o ++ p.1, i + p.2))) (h2 : B = C.map (fun p => (o' ++ p.1, j + p.2))) : A = C.map (fun p => ((o ++ o') ++ p.1, (i + j) + p.2)) := by
  subst h1; subst h2
  cases C with
  | none => rfl
  | some p => simp [List.append_assoc, Nat.add_assoc]
def txT (s : List UInt8) : List UInt8 := match txtB s with | some p => p.1 | none => []
def txN (s : List UInt8) : Nat := match txtB s with | some p => p.2 | none => 0
def txO (s : List UInt8) : Bool := (txtB s).isSome
/-- What a text begins with: 1 to 4, the kinds; 0: nothing. -/
def vk (s : List UInt8) : Nat :=
  if (s.getD 0 0).toNat = 1 then 1
  else if (s.getD 0 0).toNat = 2 ∧ 1 < s.length ∧ (s.getD 1 0).toNat ≤ 1 then 2
  else if (s.getD 0 0).toNat = 3 ∧ 8 < s.length then 3
  else if (s.getD 0 0).toNat = 4 then 4 else 0
def vlV (s : List UInt8) : V := match vk s with
  | 1 => ⟨0, 0, []⟩
  | 2 => ⟨1, (s.getD 1 0).toNat, []⟩
  | 3 => ⟨2, (beV ((s.drop 1).take 8) : Int) - 9223372036854775808, []⟩
  | 4 => ⟨3, 0, txT (s.drop 1)⟩
  | _ => ⟨IntKind.u8.wrap (((s.getD 0 0).toNat : Int) - 1), 0, []⟩
def vlN (s : List UInt8) : Nat := match vk s with
  | 1 => 1
  | 2 => 2
  | 3 => 9
  | 4 => txN (s.drop 1) + 1
  | _ => 0
def vlO (s : List UInt8) : Bool := match vk s with
  | 1 => true
  | 2 => true
  | 3 => true
  | 4 => txO (s.drop 1) && decide (((txT (s.drop 1)).length : Int) ≤ 64)
  | _ => false
theorem txN_le (s : List UInt8) : txN s ≤ s.length := by
  unfold txN
  cases h : txtB s with
  | none => exact Nat.zero_le _
  | some p => obtain ⟨t, n⟩ := p; exact (txt_len h).2.1
theorem vk_cases (s : List UInt8) : (vk s = 1 ∧ (s.getD 0 0).toNat = 1) ∨ (vk s = 2 ∧ (s.getD 0 0).toNat = 2 ∧ 1 < s.length ∧ (s.getD 1 0).toNat ≤ 1) ∨ (vk s = 3 ∧ (s.getD 0 0).toNat = 3 ∧ 8 < s.length) ∨ (vk s = 4 ∧ (s.getD 0 0).toNat = 4) ∨
    (vk s = 0 ∧ (s.getD 0 0).toNat ≠ 1 ∧ ((s.getD 0 0).toNat = 2 → ¬ (1 < s.length ∧ (s.getD 1 0).toNat ≤ 1)) ∧ ((s.getD 0 0).toNat = 3 → ¬ 8 < s.length) ∧ (s.getD 0 0).toNat ≠ 4) := by
  unfold vk
  split
  · exact .inl ⟨rfl, by assumption⟩
  split
  · rename_i h; exact .inr (.inl ⟨rfl, h⟩)
  split
  · rename_i h; exact .inr (.inr (.inl ⟨rfl, h⟩))
  split
  · rename_i h; exact .inr (.inr (.inr (.inl ⟨rfl, h⟩)))
  · refine .inr (.inr (.inr (.inr ⟨rfl, by assumption, ?_, ?_, by assumption⟩))) <;> omega
theorem vl_1 {s : List UInt8} (h : vk s = 1) : vlV s = ⟨0, 0, []⟩ ∧ vlN s = 1 ∧ vlO s = true := by unfold vlV vlN vlO; rw [h]; exact ⟨rfl, rfl, rfl⟩
theorem vl_2 {s : List UInt8} (h : vk s = 2) : vlV s = ⟨1, (s.getD 1 0).toNat, []⟩ ∧ vlN s = 2 ∧ vlO s = true := by unfold vlV vlN vlO; rw [h]; exact ⟨rfl, rfl, rfl⟩
theorem vl_3 {s : List UInt8} (h : vk s = 3) : vlV s = ⟨2, (beV ((s.drop 1).take 8) : Int) - 9223372036854775808, []⟩ ∧ vlN s = 9 ∧ vlO s = true := by unfold vlV vlN vlO; rw [h]; exact ⟨rfl, rfl, rfl⟩
theorem vl_4 {s : List UInt8} (h : vk s = 4) : vlV s = ⟨3, 0, txT (s.drop 1)⟩ ∧ vlN s = txN (s.drop 1) + 1 ∧ vlO s = (txO (s.drop 1) && decide (((txT (s.drop 1)).length : Int) ≤ 64)) := by unfold vlV vlN vlO; rw [h]; exact ⟨rfl, rfl, rfl⟩
theorem vl_0 {s : List UInt8} (h : vk s = 0) : vlV s = ⟨IntKind.u8.wrap (((s.getD 0 0).toNat : Int) - 1), 0, []⟩ ∧ vlN s = 0 ∧ vlO s = false := by unfold vlV vlN vlO; rw [h]; exact ⟨rfl, rfl, rfl⟩
theorem vlO_n {s : List UInt8} (h0 : 0 < s.length) (h : vlO s = true) : 0 < vlN s ∧ vlN s ≤ s.length := by
  have := txN_le (s.drop 1)
  have hd : (s.drop 1).length = s.length - 1 := List.length_drop
  rcases vk_cases s with ⟨hk, q1⟩ | ⟨hk, q1, q2, q3⟩ | ⟨hk, q1, q2⟩ | ⟨hk, q1⟩ | ⟨hk, q1⟩
  · rw [(vl_1 hk).2.1]; omega
  · rw [(vl_2 hk).2.1]; omega
  · rw [(vl_3 hk).2.1]; omega
  · rw [(vl_4 hk).2.1]; omega
  · rw [(vl_0 hk).2.2] at h; cases h
/-- A tuple's values, read. -/
def vlsB : Nat → List UInt8 → Option (List V)
  | _, [] => some []
  | 0, _ :: _ => none
  | f+1, c :: r => if vlO (c :: r) then (vlsB f ((c :: r).drop (vlN (c :: r)))).map (vlV (c :: r) :: ·) else none
end Go.Proofs.YtcklfcagailoiaaDoor
