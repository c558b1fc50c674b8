/- The lexer's letters, digits, words and numbers: contracts. -/
import Derived.Test.YtboinbjiemmggaaDoorLy2
namespace Go.Proofs.YtboinbjiemmggaaDoor
open Ab Go.RowKit
set_option maxRecDepth 100000
set_option linter.unusedVariables false
set_option linter.unusedSimpArgs false
set_option maxHeartbeats 4000000
set_option pp.maxSteps 3000
def letterI (m : Int) : Bool := (decide (97 ≤ bitsI .or .u8 m 32) && decide (bitsI .or .u8 m 32 ≤ 122)) || m == 95
theorem letterI_eq (c : UInt8) : letterI (c.toNat : Int) = isLetter c := by
  have : ∀ n : Fin 256, letterI ((UInt8.ofNat n.val).toNat : Int) = isLetter (UInt8.ofNat n.val) := by decide +kernel
  have h := this ⟨c.toNat, UInt8.toNat_lt c⟩
  simpa using h
theorem letter_int (m : Int) : PCall Tryd.prog 12 [.int .u8 m] (.bool (letterI m)) := by
  refine pcall_of (lits1 (.int _ _)) (call12 rfl ?_)
  iterate 16 (all_goals (try conv => whnf); all_goals (try first | with_reducible refine brY (by assumption) ?_ | with_reducible refine brN (by assumption) ?_ | (with_reducible refine brT ?_ ?_; · (simp only [Bool.and_eq_true, Bool.not_eq_true', decide_eq_true_eq, decide_eq_false_iff_not, beq_iff_eq, beq_eq_false_iff_ne, ne_eq] at *; omega)) | with_reducible refine br (fun _ => ?_) (fun _ => ?_) | with_reducible refine ⟨rfl, ?_⟩ | with_reducible refine ARound.succ ?_))
  all_goals refine leaf ?_ (.bool _)
  all_goals (simp only [letterI]; simp_all; try omega)
theorem letter_any (c : UInt8) : PCall Tryd.prog 12 [.int .u8 (c.toNat : Int)] (.bool (isLetter c)) := by
  rw [← letterI_eq]; exact letter_int _
def digI (m : Int) : Bool := decide (48 ≤ m) && decide (m ≤ 57)
theorem digI_eq (c : UInt8) : digI (c.toNat : Int) = isDigit c := by
  have : ∀ n : Fin 256, digI ((UInt8.ofNat n.val).toNat : Int) = isDigit (UInt8.ofNat n.val) := by decide +kernel
  have h := this ⟨c.toNat, UInt8.toNat_lt c⟩
  simpa using h
theorem digit_int (m : Int) : PCall Tryd.prog 14 [.int .u8 m] (.bool (digI m)) := by
  refine pcall_of (lits1 (.int _ _)) (call14 rfl ?_)
  iterate 16 (all_goals (try conv => whnf); all_goals (try first | with_reducible refine brY (by assumption) ?_ | with_reducible refine brN (by assumption) ?_ | (with_reducible refine brT ?_ ?_; · (simp only [Bool.and_eq_true, Bool.not_eq_true', decide_eq_true_eq, decide_eq_false_iff_not, beq_iff_eq, beq_eq_false_iff_ne, ne_eq] at *; omega)) | with_reducible refine br (fun _ => ?_) (fun _ => ?_) | with_reducible refine ⟨rfl, ?_⟩ | with_reducible refine ARound.succ ?_))
  all_goals refine leaf ?_ (.bool _)
  all_goals (simp only [digI]; simp_all; try omega)
theorem digit_any (c : UInt8) : PCall Tryd.prog 14 [.int .u8 (c.toNat : Int)] (.bool (isDigit c)) := by
  rw [← digI_eq]; exact digit_int _
def isWordC (c : UInt8) : Bool := isLetter c || isDigit c
theorem wordL_eq (s : List UInt8) : wordL s = if 32 < (s.takeWhile isWordC).length then .err 3 else .ok ⟨1, (s.takeWhile isWordC).map lowB, 0⟩ (s.takeWhile isWordC).length := rfl
theorem low_eq : Lib.lowerB = lowB := by
  funext c
  have : ∀ n : Fin 256, Lib.lowerB (UInt8.ofNat n.val) = lowB (UInt8.ofNat n.val) := by decide +kernel
  have h := this ⟨c.toNat, UInt8.toNat_lt c⟩
  simpa using h
theorem wordC_ascii : ∀ c : UInt8, isWordC c = true → c.toNat < 128 := by
  intro c hc
  have : ∀ n : Fin 256, isWordC (UInt8.ofNat n.val) = true → (UInt8.ofNat n.val).toNat < 128 := by decide +kernel
  have h := this ⟨c.toNat, UInt8.toNat_lt c⟩
  simp only [UInt8.ofNat_toNat] at h
  exact h hc
theorem word_any {s : List UInt8} (hs : s.length ≤ 100000) : PCall Tryd.prog 13 [.str s] (oneS (wordL s)) := by
  refine pcall_of (lits1 (.str _)) (call13 rfl ?_)
  have hle := takeWhile_le (p := isWordC) s
  iterate 4 (all_goals (try conv => whnf); all_goals (try first | with_reducible refine brY (by assumption) ?_ | with_reducible refine brN (by assumption) ?_ | (with_reducible refine brT ?_ ?_; · (simp only [Bool.and_eq_true, Bool.not_eq_true', decide_eq_true_eq, decide_eq_false_iff_not, beq_iff_eq, beq_eq_false_iff_ne, ne_eq] at *; omega)) | with_reducible refine br (fun _ => ?_) (fun _ => ?_) | with_reducible refine ⟨rfl, ?_⟩ | with_reducible refine ARound.succ ?_))
  refine loop_ind (σ := {i : Nat // i ≤ (s.takeWhile isWordC).length}) (fun x => [(0, SV.str s), (2, SV.ref 0 0 0 0), (3, SV.int IntKind.i64 0), (4, SV.int IntKind.i64 0), (5, SV.int IntKind.i64 x.1)])
    (fun _ => ⟨1, [(0, .vec 0 4 [tokP tnull] ⟨false, some 32⟩)]⟩) (fun x => s.length - x.1) ?_ ⟨0, by omega⟩
  rintro ⟨i, hi⟩
  dsimp only
  have e7 : IntKind.i64.wrap ((i : Int) + 1) = ((i + 1 : Nat) : Int) := w64add (by omega)
  have et := Int.toNat_natCast i
  have hex : i = (s.takeWhile isWordC).length → PCall Tryd.prog 20 [.str (List.take ((i : Int).toNat - Int.toNat 0) (List.drop (Int.toNat 0) s))] (.str ((s.takeWhile isWordC).map lowB)) := fun hW => by
    have e : List.take ((i : Int).toNat - Int.toNat 0) (List.drop (Int.toNat 0) s) = s.takeWhile isWordC := by
      rw [et, show Int.toNat 0 = 0 from rfl, List.drop_zero, Nat.sub_zero, hW, tw_take]
    have h := toLower_any (s := s.takeWhile isWordC) (by omega) fun c hc => wordC_ascii c (mem_takeWhile hc)
    rw [e, ← low_eq]
    exact h
  have fin1 : i = (s.takeWhile isWordC).length → decide ((32 : Int) < (i : Int)) = true → oneS (wordL s) = oneS (.err 3) := fun hW h => by
    rw [wordL_eq, if_pos (by have := of_decide_eq_true h; omega)]
  have fin2 : i = (s.takeWhile isWordC).length → decide ((32 : Int) < (i : Int)) = false → oneS (wordL s) = oneS (.ok ⟨1, (s.takeWhile isWordC).map lowB, 0⟩ i) := fun hW h => by
    rw [wordL_eq, if_neg (by have := of_decide_eq_false h; omega), ← hW]
  by_cases hil : i < s.length
  · have hd : decide ((i : Int) < (s.length : Int)) = true := decide_eq_true (by omega)
    have ht := tw_lt hi hil
    have hl := letter_any (s.getD (i : Int).toNat 0)
    have hg := digit_any (s.getD (i : Int).toNat 0)
    by_cases hw : isWordC (s.getD i 0) = true
    · have hi2 := ht.1 hw
      rw [← et] at hw
      iterate 12 (all_goals (try conv => whnf); all_goals (try first | with_reducible refine brY (by assumption) ?_ | with_reducible refine brN (by assumption) ?_ | (with_reducible refine brT ?_ ?_; · (simp only [Bool.and_eq_true, Bool.not_eq_true', decide_eq_true_eq, decide_eq_false_iff_not, beq_iff_eq, beq_eq_false_iff_ne, ne_eq] at *; omega)) | with_reducible refine br (fun _ => ?_) (fun _ => ?_) | with_reducible refine ⟨rfl, ?_⟩ | with_reducible refine ARound.succ ?_ | with_reducible refine PCall.call (hl) ?_ | with_reducible refine PCall.call (hg) ?_))
      all_goals first
        | exact ⟨⟨i + 1, hi2⟩, by dsimp only; omega, by rw [e7], rfl⟩
        | (exfalso; simp_all [isWordC]; done)
    · have hW : i = (s.takeWhile isWordC).length := by
        rcases Nat.lt_or_ge i (s.takeWhile isWordC).length with h | h
        · exact absurd (ht.2 h) hw
        · omega
      have cl := hex hW
      rw [← et] at hw
      iterate 20 (all_goals (try conv => whnf); all_goals (try first | with_reducible refine brY (by assumption) ?_ | with_reducible refine brN (by assumption) ?_ | (with_reducible refine brT ?_ ?_; · (simp only [Bool.and_eq_true, Bool.not_eq_true', decide_eq_true_eq, decide_eq_false_iff_not, beq_iff_eq, beq_eq_false_iff_ne, ne_eq] at *; omega)) | with_reducible refine br (fun _ => ?_) (fun _ => ?_) | with_reducible refine ⟨rfl, ?_⟩ | with_reducible refine ARound.succ ?_ | with_reducible refine PCall.call (hl) ?_ | with_reducible refine PCall.call (hg) ?_ | with_reducible refine PCall.call (cl) ?_))
      all_goals first
        | (refine leaf ?_ (oneS_lit _); first | (rw [fin1 hW (by assumption)]; rfl) | (rw [fin2 hW (by assumption)]; rfl))
        | (exfalso; simp_all [isWordC]; done)
  · have hd : decide ((i : Int) < (s.length : Int)) = false := decide_eq_false (by omega)
    have hW : i = (s.takeWhile isWordC).length := by omega
    have cl := hex hW
    iterate 20 (all_goals (try conv => whnf); all_goals (try first | with_reducible refine brY (by assumption) ?_ | with_reducible refine brN (by assumption) ?_ | (with_reducible refine brT ?_ ?_; · (simp only [Bool.and_eq_true, Bool.not_eq_true', decide_eq_true_eq, decide_eq_false_iff_not, beq_iff_eq, beq_eq_false_iff_ne, ne_eq] at *; omega)) | with_reducible refine br (fun _ => ?_) (fun _ => ?_) | with_reducible refine ⟨rfl, ?_⟩ | with_reducible refine ARound.succ ?_ | with_reducible refine PCall.call (cl) ?_))
    all_goals (refine leaf ?_ (oneS_lit _); first | (rw [fin1 hW (by assumption)]; rfl) | (rw [fin2 hW (by assumption)]; rfl))
theorem number_any {s : List UInt8} (hs : s.length ≤ 100000) (h0 : isDigit (s.getD 0 0) = true) (hne : s ≠ []) : PCall Tryd.prog 15 [.str s] (oneS (numberL s)) := by
  refine pcall_of (lits1 (.str _)) (call15 rfl ?_)
  have hle := takeWhile_le (p := isDigit) s
  have hw0 : s.takeWhile isDigit ≠ [] := by
    cases s with
    | nil => exact absurd rfl hne
    | cons a r => rw [List.takeWhile_cons, if_pos (show isDigit a = true from h0)]; simp
  have hp := parse_num hw0 fun c hc => mem_takeWhile hc
  have hneq : numberL s = if 9223372036854775808 < numOf (s.takeWhile isDigit) then .err 233 else .ok ⟨2, [], numOf (s.takeWhile isDigit)⟩ (s.takeWhile isDigit).length := rfl
  iterate 4 (all_goals (try conv => whnf); all_goals (try first | with_reducible refine brY (by assumption) ?_ | with_reducible refine brN (by assumption) ?_ | (with_reducible refine brT ?_ ?_; · (simp only [Bool.and_eq_true, Bool.not_eq_true', decide_eq_true_eq, decide_eq_false_iff_not, beq_iff_eq, beq_eq_false_iff_ne, ne_eq] at *; omega)) | with_reducible refine br (fun _ => ?_) (fun _ => ?_) | with_reducible refine ⟨rfl, ?_⟩ | with_reducible refine ARound.succ ?_))
  refine loop_ind (σ := {i : Nat // i ≤ (s.takeWhile isDigit).length}) (fun x => [(0, SV.str s), (2, SV.ref 0 0 0 0), (3, SV.int IntKind.i64 0), (4, SV.int IntKind.i64 0), (5, SV.int IntKind.i64 x.1)])
    (fun _ => ⟨1, [(0, .vec 0 4 [tokP tnull] ⟨false, some 32⟩)]⟩) (fun x => s.length - x.1) ?_ ⟨0, by omega⟩
  rintro ⟨i, hi⟩
  dsimp only
  have e7 : IntKind.i64.wrap ((i : Int) + 1) = ((i + 1 : Nat) : Int) := w64add (by omega)
  have et := Int.toNat_natCast i
  have e : i = (s.takeWhile isDigit).length → List.take ((i : Int).toNat - Int.toNat 0) (List.drop (Int.toNat 0) s) = s.takeWhile isDigit := fun hW => by
    rw [et, show Int.toNat 0 = 0 from rfl, List.drop_zero, Nat.sub_zero, hW, tw_take]
  have more : ∀ hW : i = (s.takeWhile isDigit).length, numOf (s.takeWhile isDigit) < 18446744073709551616 → PCall Tryd.prog 21 [.str (List.take ((i : Int).toNat - Int.toNat 0) (List.drop (Int.toNat 0) s)), .int .i64 10, .int .i64 64] (.tup [.int .u64 (numOf (s.takeWhile isDigit) : Nat), .nili]) := fun hW hlt => by
    rw [e hW]
    exact parse_ok (by omega) (by rw [hp, if_pos hlt])
  have less : ∀ hW : i = (s.takeWhile isDigit).length, ¬ numOf (s.takeWhile isDigit) < 18446744073709551616 → ∃ t, PCall Tryd.prog 21 [.str (List.take ((i : Int).toNat - Int.toNat 0) (List.drop (Int.toNat 0) s)), .int .i64 10, .int .i64 64] (.tup [.int .u64 18446744073709551615, .iface t .undef]) := fun hW hlt => by
    rw [e hW]
    exact parse_range (by omega) (by rw [hp, if_neg hlt])
  by_cases hil : i < s.length
  · have hd : decide ((i : Int) < (s.length : Int)) = true := decide_eq_true (by omega)
    have ht := tw_lt hi hil
    have hg := digit_any (s.getD (i : Int).toNat 0)
    by_cases hw : isDigit (s.getD i 0) = true
    · have hi2 := ht.1 hw
      rw [← et] at hw
      iterate 12 (all_goals (try conv => whnf); all_goals (try first | with_reducible refine brY (by assumption) ?_ | with_reducible refine brN (by assumption) ?_ | (with_reducible refine brT ?_ ?_; · (simp only [Bool.and_eq_true, Bool.not_eq_true', decide_eq_true_eq, decide_eq_false_iff_not, beq_iff_eq, beq_eq_false_iff_ne, ne_eq] at *; omega)) | with_reducible refine br (fun _ => ?_) (fun _ => ?_) | with_reducible refine ⟨rfl, ?_⟩ | with_reducible refine ARound.succ ?_ | with_reducible refine PCall.call (hg) ?_))
      exact ⟨⟨i + 1, hi2⟩, by dsimp only; omega, by rw [e7], rfl⟩
    · have hW : i = (s.takeWhile isDigit).length := by
        rcases Nat.lt_or_ge i (s.takeWhile isDigit).length with h | h
        · exact absurd (ht.2 h) hw
        · omega
      rw [← et] at hw
      have hw : isDigit (s.getD (i : Int).toNat 0) = false := by simpa using hw
      by_cases hlt : numOf (s.takeWhile isDigit) < 18446744073709551616
      · have cm := more hW hlt
        iterate 20 (all_goals (try conv => whnf); all_goals (try first | with_reducible refine brY (by assumption) ?_ | with_reducible refine brN (by assumption) ?_ | (with_reducible refine brT ?_ ?_; · (simp only [Bool.and_eq_true, Bool.not_eq_true', decide_eq_true_eq, decide_eq_false_iff_not, beq_iff_eq, beq_eq_false_iff_ne, ne_eq] at *; omega)) | with_reducible refine br (fun _ => ?_) (fun _ => ?_) | with_reducible refine ⟨rfl, ?_⟩ | with_reducible refine ARound.succ ?_ | with_reducible refine PCall.call (hg) ?_ | with_reducible refine PCall.call (cm) ?_))
        · have h := of_decide_eq_true (by assumption : decide ((9223372036854775808 : Int) < ((numOf (s.takeWhile isDigit) : Nat) : Int)) = true)
          exact leaf (by rw [hneq, if_pos (by omega)]; rfl) (oneS_lit _)
        · have h := of_decide_eq_false (by assumption : decide ((9223372036854775808 : Int) < ((numOf (s.takeWhile isDigit) : Nat) : Int)) = false)
          exact leaf (by rw [hneq, if_neg (by omega), ← hW]; rfl) (oneS_lit _)
      · obtain ⟨t, cm⟩ := less hW hlt
        iterate 20 (all_goals (try conv => whnf); all_goals (try first | with_reducible refine brY (by assumption) ?_ | with_reducible refine brN (by assumption) ?_ | (with_reducible refine brT ?_ ?_; · (simp only [Bool.and_eq_true, Bool.not_eq_true', decide_eq_true_eq, decide_eq_false_iff_not, beq_iff_eq, beq_eq_false_iff_ne, ne_eq] at *; omega)) | with_reducible refine br (fun _ => ?_) (fun _ => ?_) | with_reducible refine ⟨rfl, ?_⟩ | with_reducible refine ARound.succ ?_ | with_reducible refine PCall.call (hg) ?_ | with_reducible refine PCall.call (cm) ?_))
        exact leaf (by rw [hneq, if_pos (by omega)]; rfl) (oneS_lit _)
  · have hd : decide ((i : Int) < (s.length : Int)) = false := decide_eq_false (by omega)
    have hW : i = (s.takeWhile isDigit).length := by omega
    by_cases hlt : numOf (s.takeWhile isDigit) < 18446744073709551616
    · have cm := more hW hlt
      iterate 20 (all_goals (try conv => whnf); all_goals (try first | with_reducible refine brY (by assumption) ?_ | with_reducible refine brN (by assumption) ?_ | (with_reducible refine brT ?_ ?_; · (simp only [Bool.and_eq_true, Bool.not_eq_true', decide_eq_true_eq, decide_eq_false_iff_not, beq_iff_eq, beq_eq_false_iff_ne, ne_eq] at *; omega)) | with_reducible refine br (fun _ => ?_) (fun _ => ?_) | with_reducible refine ⟨rfl, ?_⟩ | with_reducible refine ARound.succ ?_ | with_reducible refine PCall.call (cm) ?_))
      · have h := of_decide_eq_true (by assumption : decide ((9223372036854775808 : Int) < ((numOf (s.takeWhile isDigit) : Nat) : Int)) = true)
        exact leaf (by rw [hneq, if_pos (by omega)]; rfl) (oneS_lit _)
      · have h := of_decide_eq_false (by assumption : decide ((9223372036854775808 : Int) < ((numOf (s.takeWhile isDigit) : Nat) : Int)) = false)
        exact leaf (by rw [hneq, if_neg (by omega), ← hW]; rfl) (oneS_lit _)
    · obtain ⟨t, cm⟩ := less hW hlt
      iterate 20 (all_goals (try conv => whnf); all_goals (try first | with_reducible refine brY (by assumption) ?_ | with_reducible refine brN (by assumption) ?_ | (with_reducible refine brT ?_ ?_; · (simp only [Bool.and_eq_true, Bool.not_eq_true', decide_eq_true_eq, decide_eq_false_iff_not, beq_iff_eq, beq_eq_false_iff_ne, ne_eq] at *; omega)) | with_reducible refine br (fun _ => ?_) (fun _ => ?_) | with_reducible refine ⟨rfl, ?_⟩ | with_reducible refine ARound.succ ?_ | with_reducible refine PCall.call (cm) ?_))
      exact leaf (by rw [hneq, if_pos (by omega)]; rfl) (oneS_lit _)
end Go.Proofs.YtboinbjiemmggaaDoor
