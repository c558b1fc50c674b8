/- Numbers of a few bytes: the contract of reading; bytes compared. -/
import Derived.Test.YtcklfcagailoiaaDoorEr1
namespace Go.Proofs.YtcklfcagailoiaaDoor
open Ab Go.RowKit
set_option maxRecDepth 100000
set_option linter.unusedVariables false
set_option linter.unusedSimpArgs false
set_option pp.maxSteps 3000
@[reducible] def rd3 (x n e : Int) : SV := .tup [.int .u64 x, .int .i64 n, .int .i64 e]
def rdX (b : List UInt8) : Nat := match readB b 10 0 0 with | some p => p.1 | none => 0
def rdN (b : List UInt8) : Nat := match readB b 10 0 0 with | some p => p.2 | none => 0
def rdE (b : List UInt8) : Int := match readB b 10 0 0 with | some p => 0 | none => 5
theorem lit3' {x n e : Int} : LitV (rd3 x n e) := .tup (by simp; exact ⟨.int _ _, .int _ _, .int _ _⟩)
theorem low7 {c : UInt8} : IntKind.u64.wrap (bitsI .andNot .u8 (c.toNat : Int) 128) = ((c.toNat % 128 : Nat) : Int) := by
  have hc := c.toNat_lt
  have e : bitsI .andNot .u8 (c.toNat : Int) 128 = ((c.toNat % 128 : Nat) : Int) := by
    show IntKind.u8.wrap ((BitVec.ofInt 8 (c.toNat : Int) &&& ~~~BitVec.ofInt 8 128).toNat : Int) = _
    have key : ∀ v : BitVec 8, (v &&& ~~~BitVec.ofInt 8 128).toNat = v.toNat % 128 := by decide
    rw [key, BitVec.ofInt_natCast, IntKind.wrap_u8]
    simp
    omega
  rw [e, wu64 (by omega) (by omega)]
theorem shl_or {x c n : Nat} (hx : x < 128 ^ n) (hn : n ≤ 9) (h9 : n = 9 → c ≤ 1) (hc : c < 128) :
    bitsI .or .u64 (x : Int) (IntKind.u64.wrap ((c : Int) * 2 ^ (min (IntKind.i64.wrap (7 * (n : Int))).toNat IntKind.u64.bits))) = ((x + c * 128 ^ n : Nat) : Int) := by
  have e1 : (IntKind.i64.wrap (7 * (n : Int))).toNat = 7 * n := by rw [w64 (by omega) (by omega)]; omega
  have e2 : min (7 * n) IntKind.u64.bits = 7 * n := by show min (7 * n) 64 = 7 * n; omega
  have e3 : (2 : Nat) ^ (7 * n) = 128 ^ n := by rw [Nat.pow_mul]
  have hp := pow128 hn
  have hb : c * 128 ^ n < 18446744073709551616 := by
    by_cases h : n = 9
    · have : c * 128 ^ n ≤ 1 * 128 ^ n := Nat.mul_le_mul_right _ (h9 h)
      omega
    · have h1 : c * 128 ^ n ≤ 127 * 128 ^ n := Nat.mul_le_mul_right _ (by omega)
      have h2 : (128 : Nat) ^ n ≤ 128 ^ 8 := Nat.pow_le_pow_right (by decide) (by omega)
      have e : (128 : Nat) ^ 8 = 72057594037927936 := by decide
      omega
  have hb2 : x + c * 128 ^ n < 18446744073709551616 := by
    by_cases h : n = 9
    · have h1 : c * 128 ^ n ≤ 1 * 128 ^ n := Nat.mul_le_mul_right _ (h9 h)
      omega
    · have h1 : c * 128 ^ n ≤ 127 * 128 ^ n := Nat.mul_le_mul_right _ (by omega)
      have h2 : (128 : Nat) ^ n ≤ 128 ^ 8 := Nat.pow_le_pow_right (by decide) (by omega)
      have e : (128 : Nat) ^ 8 = 72057594037927936 := by decide
      omega
  rw [e1, e2]
  have e4 : (c : Int) * 2 ^ (7 * n) = ((c * 128 ^ n : Nat) : Int) := by rw [← e3]; norm_cast
  rw [e4, wu64 (by omega) (by omega)]
  show IntKind.u64.wrap ((BitVec.ofInt 64 (x : Int) ||| BitVec.ofInt 64 ((c * 128 ^ n : Nat) : Int)).toNat : Int) = _
  have e5 : ∀ y : Nat, y < 18446744073709551616 → (BitVec.ofInt 64 (y : Int)).toNat = y := fun y hy => by
    rw [BitVec.ofInt_natCast, BitVec.toNat_ofNat]
    exact Nat.mod_eq_of_lt (by omega)
  rw [BitVec.toNat_or, e5 _ (by omega), e5 _ (by omega)]
  have e6 : x ||| c * 128 ^ n = x + c * 128 ^ n := by
    have := Nat.shiftLeft_add_eq_or_of_lt (b := x) (i := 7 * n) (by rw [e3]; exact hx) c
    rw [Nat.shiftLeft_eq, e3] at this
    rw [Nat.or_comm, ← this, Nat.add_comm]
  rw [e6, wu64 (by omega) (by omega)]
theorem readB_bad {b : List UInt8} {f n x : Nat} (h : n < b.length) (hb : (n = 9 ∧ 1 < (b.getD n 0).toNat) ∨ (0 < n ∧ (b.getD n 0).toNat = 0)) : readB b (f + 1) n x = none := by
  unfold readB; rw [if_pos h, if_pos hb]
theorem readB_fin {b : List UInt8} {f n x : Nat} (h : n < b.length) (hb : ¬ ((n = 9 ∧ 1 < (b.getD n 0).toNat) ∨ (0 < n ∧ (b.getD n 0).toNat = 0))) (hc : (b.getD n 0).toNat < 128) : readB b (f + 1) n x = some (x + (b.getD n 0).toNat * 128 ^ n, n + 1) := by
  unfold readB; rw [if_pos h, if_neg hb, if_pos hc]
theorem readB_go {b : List UInt8} {f n x : Nat} (h : n < b.length) (hb : ¬ ((n = 9 ∧ 1 < (b.getD n 0).toNat) ∨ (0 < n ∧ (b.getD n 0).toNat = 0))) (hc : ¬ (b.getD n 0).toNat < 128) : readB b (f + 1) n x = readB b f (n + 1) (x + ((b.getD n 0).toNat - 128) * 128 ^ n) := by
  conv => lhs; unfold readB
  rw [if_pos h, if_neg hb, if_neg hc]
/-- Reading: the state of its loop. -/
structure RdS (b : List UInt8) where
  n : Nat
  x : Nat
  hn : n ≤ 10
  hx : x < 128 ^ n
  he : readB b 10 0 0 = readB b (10 - n) n x
theorem read_any {b : List UInt8} (hb : b.length ≤ 4611686018427387904) : PCall Tryd.prog 15 [lstB b] (rd3 (rdX b) (rdN b) (rdE b)) := by
  refine pcall_of (lits1 (.lst _ _ _)) (call15 rfl ?_)
  iterate 1 (all_goals (try conv => whnf); all_goals (try first | with_reducible refine brY (by assumption) ?_ | with_reducible refine brN (by assumption) ?_ | (with_reducible refine brT ?_ ?_; · (simp only [Bool.and_eq_true, Bool.not_eq_true', decide_eq_true_eq, decide_eq_false_iff_not, beq_iff_eq, beq_eq_false_iff_ne, ne_eq] at *; omega)) | with_reducible refine br (fun _ => ?_) (fun _ => ?_) | with_reducible refine ⟨rfl, ?_⟩ | with_reducible refine ARound.succ ?_))
  refine loop_ind (σ := RdS b) (fun s => [(0, lstB b), (2, SV.int IntKind.u64 s.x), (3, SV.int IntKind.i64 s.n), (4, SV.int IntKind.i64 0)]) (fun _ => ⟨0, []⟩) (fun s => 10 - s.n) ?_ ⟨0, 0, by omega, by decide, rfl⟩
  rintro ⟨n, x, hn, hx, he⟩
  dsimp only
  have no : readB b 10 0 0 = none → rd3 0 0 5 = rd3 (rdX b) (rdN b) (rdE b) := fun h => by unfold rdX rdN rdE; rw [h]; rfl
  have yes : ∀ X N, readB b 10 0 0 = some (X, N) → rd3 X N 0 = rd3 (rdX b) (rdN b) (rdE b) := fun X N h => by unfold rdX rdN rdE; rw [h]
  have hc := (b.getD n 0).toNat_lt
  by_cases hlen : ¬ n < b.length
  · have hd : decide ((n : Int) < (b.length : Int)) = false := decide_eq_false (by omega)
    have hnone : readB b 10 0 0 = none := by
      rw [he]
      cases hk : 10 - n with
      | zero => rfl
      | succ f => unfold readB; rw [if_neg (by omega)]
    iterate 8 (all_goals (try conv => whnf); all_goals (try first | with_reducible refine brY (by assumption) ?_ | with_reducible refine brN (by assumption) ?_ | (with_reducible refine brT ?_ ?_; · (simp only [Bool.and_eq_true, Bool.not_eq_true', decide_eq_true_eq, decide_eq_false_iff_not, beq_iff_eq, beq_eq_false_iff_ne, ne_eq] at *; omega)) | with_reducible refine br (fun _ => ?_) (fun _ => ?_) | with_reducible refine ⟨rfl, ?_⟩ | with_reducible refine ARound.succ ?_))
    exact leaf (no hnone) lit3'
  have hlen : n < b.length := by omega
  have hd : decide ((n : Int) < (b.length : Int)) = true := decide_eq_true (by omega)
  by_cases h10 : ¬ n < 10
  · have hd2 : decide ((n : Int) < 10) = false := decide_eq_false (by omega)
    have hnone : readB b 10 0 0 = none := by
      rw [he, show 10 - n = 0 by omega]
      rfl
    iterate 8 (all_goals (try conv => whnf); all_goals (try first | with_reducible refine brY (by assumption) ?_ | with_reducible refine brN (by assumption) ?_ | (with_reducible refine brT ?_ ?_; · (simp only [Bool.and_eq_true, Bool.not_eq_true', decide_eq_true_eq, decide_eq_false_iff_not, beq_iff_eq, beq_eq_false_iff_ne, ne_eq] at *; omega)) | with_reducible refine br (fun _ => ?_) (fun _ => ?_) | with_reducible refine ⟨rfl, ?_⟩ | with_reducible refine ARound.succ ?_))
    exact leaf (no hnone) lit3'
  have h10 : n < 10 := by omega
  have hd2 : decide ((n : Int) < 10) = true := decide_eq_true (by omega)
  have he : readB b 10 0 0 = readB b ((9 - n) + 1) n x := by rw [he, show 10 - n = (9 - n) + 1 by omega]
  have e7 : IntKind.i64.wrap ((n : Int) + 1) = ((n + 1 : Nat) : Int) := w64add (by omega)
  have hw : 0 ≤ IntKind.i64.wrap (7 * (n : Int)) := by rw [w64 (by omega) (by omega)]; omega
  iterate 16 (all_goals (try conv => whnf); all_goals (try first | with_reducible refine brY (by assumption) ?_ | with_reducible refine brN (by assumption) ?_ | (with_reducible refine brT ?_ ?_; · (simp only [Bool.and_eq_true, Bool.not_eq_true', decide_eq_true_eq, decide_eq_false_iff_not, beq_iff_eq, beq_eq_false_iff_ne, ne_eq] at *; omega)) | with_reducible refine br (fun _ => ?_) (fun _ => ?_) | with_reducible refine ⟨rfl, ?_⟩ | with_reducible refine ARound.succ ?_))
  all_goals simp only [Int.toNat_natCast, decide_eq_true_eq, decide_eq_false_iff_not, beq_iff_eq, beq_eq_false_iff_ne, ne_eq, Bool.and_eq_true] at *
  all_goals first
    | (exfalso; omega)
    | (refine leaf (no ?_) lit3'
       rw [he, readB_bad hlen (by omega)])
    | (rw [low7, e7, shl_or hx (by omega) (by omega) (by omega)]
       refine leaf (yes _ _ ?_) lit3'
       rw [he, readB_fin hlen (by omega) (by omega), Nat.mod_eq_of_lt (by omega)])
    | (rw [low7, e7, shl_or hx (by omega) (by omega) (by omega)]
       refine ⟨⟨n + 1, x + (b.getD n 0).toNat % 128 * 128 ^ n, by omega, ?_, ?_⟩, by dsimp only; omega, rfl, trivial⟩
       · have h1 : (b.getD n 0).toNat % 128 * 128 ^ n ≤ 127 * 128 ^ n := Nat.mul_le_mul_right _ (by omega)
         rw [pow128_succ]; omega
       · rw [he, readB_go hlen (by omega) (by omega), show 10 - (n + 1) = 9 - n by omega, show (b.getD n 0).toNat % 128 = (b.getD n 0).toNat - 128 by omega])
    | trace_state
/-- Comparing bytes: the state of its loop. -/
structure SbS (a b : List UInt8) where
  k : Nat
  hk : k ≤ a.length
  he : a.take k = b.take k
theorem sameBytes_any {a b : List UInt8} (ha : a.length ≤ 4611686018427387904) : PCall Tryd.prog 16 [lstB a, lstB b] (.bool (a == b)) := by
  refine pcall_of (lits2 (.lst _ _ _) (.lst _ _ _)) (call16 rfl ?_)
  by_cases hlen : ¬ a.length = b.length
  · have hd : ((a.length : Int) != (b.length : Int)) = true := by rw [bne_iff_ne]; omega
    iterate 4 (all_goals (try conv => whnf); all_goals (try first | with_reducible refine brY (by assumption) ?_ | with_reducible refine brN (by assumption) ?_ | (with_reducible refine brT ?_ ?_; · (simp only [Bool.and_eq_true, Bool.not_eq_true', decide_eq_true_eq, decide_eq_false_iff_not, beq_iff_eq, beq_eq_false_iff_ne, ne_eq] at *; omega)) | with_reducible refine br (fun _ => ?_) (fun _ => ?_) | with_reducible refine ⟨rfl, ?_⟩ | with_reducible refine ARound.succ ?_))
    refine leaf ?_ (.bool _)
    have : (a == b) = false := beq_eq_false_iff_ne.2 fun h => hlen (by rw [h])
    rw [this]
  have hlen : a.length = b.length := by omega
  have hd : ((a.length : Int) != (b.length : Int)) = false := by rw [bne_eq_false_iff_eq]; omega
  iterate 3 (all_goals (try conv => whnf); all_goals (try first | with_reducible refine brY (by assumption) ?_ | with_reducible refine brN (by assumption) ?_ | (with_reducible refine brT ?_ ?_; · (simp only [Bool.and_eq_true, Bool.not_eq_true', decide_eq_true_eq, decide_eq_false_iff_not, beq_iff_eq, beq_eq_false_iff_ne, ne_eq] at *; omega)) | with_reducible refine br (fun _ => ?_) (fun _ => ?_) | with_reducible refine ⟨rfl, ?_⟩ | with_reducible refine ARound.succ ?_))
  refine loop_ind (σ := SbS a b) (fun s => [(0, lstB a), (1, lstB b), (4, SV.bool false), (10, SV.bool false), (5, SV.int IntKind.i64 s.k)]) (fun _ => ⟨0, []⟩) (fun s => a.length - s.k) ?_ ⟨0, by omega, rfl⟩
  rintro ⟨k, hk, he⟩
  dsimp only
  have e7 : k < a.length → IntKind.i64.wrap ((k : Int) + 1) = ((k + 1 : Nat) : Int) := fun _ => w64add (by omega)
  iterate 12 (all_goals (try conv => whnf); all_goals (try first | with_reducible refine brY (by assumption) ?_ | with_reducible refine brN (by assumption) ?_ | (with_reducible refine brT ?_ ?_; · (simp only [Bool.and_eq_true, Bool.not_eq_true', decide_eq_true_eq, decide_eq_false_iff_not, beq_iff_eq, beq_eq_false_iff_ne, ne_eq] at *; omega)) | with_reducible refine br (fun _ => ?_) (fun _ => ?_) | with_reducible refine ⟨rfl, ?_⟩ | with_reducible refine ARound.succ ?_))
  all_goals simp only [Int.toNat_natCast, decide_eq_true_eq, decide_eq_false_iff_not, bne_iff_ne, bne_eq_false_iff_eq, ne_eq] at *
  · rename_i h1 h2
    refine leaf ?_ (.bool _)
    have : (a == b) = false := beq_eq_false_iff_ne.2 fun h => h2 (by rw [h])
    rw [this]
  · rename_i h1 h2
    have h1 : k < a.length := by omega
    refine ⟨⟨k + 1, h1, ?_⟩, by dsimp only; omega, by rw [e7 h1], trivial⟩
    rw [take_succ_getD h1, take_succ_getD (by omega), he]
    have h3 : a.getD k 0 = b.getD k 0 := UInt8.toNat_inj.1 (by omega)
    rw [h3]
  · rename_i h1
    refine leaf ?_ (.bool _)
    rw [List.take_of_length_le (by omega), List.take_of_length_le (by omega)] at he
    rw [he, beq_self_eq_true]
end Go.Proofs.YtcklfcagailoiaaDoor
