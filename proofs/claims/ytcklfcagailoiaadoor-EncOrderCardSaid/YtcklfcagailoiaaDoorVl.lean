/- enc.value: its contract. -/
import Derived.Test.YtcklfcagailoiaaDoorTx
import Derived.Test.YtcklfcagailoiaaDoorE4
namespace Go.Proofs.YtcklfcagailoiaaDoor
open Ab Go.RowKit
set_option maxRecDepth 100000
set_option linter.unusedVariables false
set_option linter.unusedSimpArgs false
set_option pp.maxSteps 3000
theorem xor_back {x : Nat} (hx : x < 18446744073709551616) : IntKind.i64.wrap (bitsI .xor .u64 (x : Int) 9223372036854775808) = (x : Int) - 9223372036854775808 := by
  by_cases h : x < 9223372036854775808
  · have e1 : (x : Int) = IntKind.u64.wrap (x : Int) := (wu64 (by omega) (by omega)).symm
    have e2 := top_xor (n := (x : Int)) (by omega) (by omega)
    rw [← e1] at e2
    rw [e2, IntKind.wrap_i64]
    omega
  · have e1 : (x : Int) = IntKind.u64.wrap ((x : Int) - 18446744073709551616) := by rw [IntKind.wrap_u64]; omega
    have e2 := top_xor (n := (x : Int) - 18446744073709551616) (by omega) (by omega)
    rw [← e1] at e2
    rw [e2, IntKind.wrap_i64]
    omega
@[reducible] def va3 (v : V) (n : Int) (b : Bool) : SV := .tup [v.sv, .int .i64 n, .bool b]
theorem va3_lit {v : V} {n : Int} {b : Bool} : LitV (va3 v n b) := .tup (by simp; exact ⟨V.lit _, .int _ _, .bool _⟩)
theorem value_any {s : List UInt8} (h0 : 0 < s.length) (hs : s.length ≤ 140737488351232) : PCall Tryd.prog 74 [.str s] (va3 (vlV s) (vlN s) (vlO s)) := by
  refine pcall_of (lits1 (.str _)) (call74 rfl ?_)
  have hsl : (s.drop 1).take ((s.length : Int).toNat - Int.toNat 1) = s.drop 1 := by
    rw [Int.toNat_natCast]; exact List.take_of_length_le (by rw [List.length_drop]; show s.length - 1 ≤ s.length - 1; omega)
  have hd1 : (s.drop 1).length = s.length - 1 := List.length_drop
  have ct := text_any (q := s.drop 1) (by omega)
  have ct : PCall Tryd.prog 96 [.str ((s.drop (Int.toNat 1)).take ((s.length : Int).toNat - Int.toNat 1))] (tx3 (txT (s.drop 1)) (txN (s.drop 1)) (txO (s.drop 1))) := by
    show PCall _ _ [.str ((s.drop 1).take ((s.length : Int).toNat - Int.toNat 1))] _
    rw [hsl]; exact ct
  have hl8 : ((s.drop 1).take 8).length ≤ 8 := by rw [List.length_take]; omega
  have cu := unfixed_any hl8
  have cu : PCall Tryd.prog 66 [.str ((s.drop (Int.toNat 1)).take (Int.toNat 9 - Int.toNat 1))] (.int .u64 (beV ((s.drop 1).take 8))) := cu
  have hbv : beV ((s.drop 1).take 8) < 18446744073709551616 := by
    have := beV_lt ((s.drop 1).take 8)
    have h2 : 256 ^ ((s.drop 1).take 8).length ≤ 256 ^ 8 := Nat.pow_le_pow_right (by decide) hl8
    have e : (256 : Nat) ^ 8 = 18446744073709551616 := by decide
    omega
  have e63 := xor_back hbv
  have b0 := (s.getD 0 0).toNat_lt
  have b1 := (s.getD 1 0).toNat_lt
  iterate 40 (all_goals (try conv => whnf); all_goals (try first | with_reducible refine brY (by assumption) ?_ | with_reducible refine brN (by assumption) ?_ | (with_reducible refine brT ?_ ?_; · (simp only [Bool.and_eq_true, Bool.not_eq_true', decide_eq_true_eq, decide_eq_false_iff_not, beq_iff_eq, beq_eq_false_iff_ne, ne_eq] at *; omega)) | with_reducible refine br (fun _ => ?_) (fun _ => ?_) | with_reducible refine ⟨rfl, ?_⟩ | with_reducible refine ARound.succ ?_ | with_reducible refine PCall.call (ct) ?_ | with_reducible refine PCall.call (cu) ?_))
  all_goals simp only [beq_iff_eq, beq_eq_false_iff_ne, ne_eq, decide_eq_true_eq, decide_eq_false_iff_not, Bool.and_eq_true, show Int.toNat 0 = 0 from rfl, show Int.toNat 1 = 1 from rfl] at *
  all_goals (rcases vk_cases s with ⟨hk, q1⟩ | ⟨hk, q1, q2, q3⟩ | ⟨hk, q1, q2⟩ | ⟨hk, q1⟩ | ⟨hk, q1, q2, q3, q4⟩)
  all_goals try (exfalso; omega)
  all_goals refine leaf ?_ va3_lit
  all_goals have hn1 : IntKind.i64.wrap ((txN (s.drop 1) : Int) + 1) = ((txN (s.drop 1) + 1 : Nat) : Int) := w64add (by have := txN_le (s.drop 1); omega)
  all_goals have hn2 : IntKind.i64.wrap ((s.getD 1 0).toNat : Int) = ((s.getD 1 0).toNat : Int) := w64 (by omega) (by omega)
  all_goals first
    | (obtain ⟨r1, r2, r3⟩ := vl_1 hk; rw [r1, r2, r3, q1]; rfl)
    | (obtain ⟨r1, r2, r3⟩ := vl_2 hk; rw [r1, r2, r3, q1, hn2]; rfl)
    | (obtain ⟨r1, r2, r3⟩ := vl_3 hk; rw [r1, r2, r3, q1, e63]; rfl)
    | (obtain ⟨r1, r2, r3⟩ := vl_4 hk; rw [r1, r2, r3, q1, hn1, show txO (s.drop 1) = true by assumption]; rfl)
    | (obtain ⟨r1, r2, r3⟩ := vl_4 hk; rw [r1, r2, r3, q1, hn1, show txO (s.drop 1) = false by assumption]; rfl)
    | (obtain ⟨r1, r2, r3⟩ := vl_0 hk; rw [r1, r2, r3]; rfl)
    | trace_state
end Go.Proofs.YtcklfcagailoiaaDoor
