/- Stamps read back, and put in order: contracts. -/
import Derived.Test.YtcklfcagailoiaaDoorE3
import Derived.Test.YtcklfcagailoiaaDoorEc
namespace Go.Proofs.YtcklfcagailoiaaDoor
open Ab
set_option maxRecDepth 100000
set_option linter.unusedVariables false
set_option linter.unusedSimpArgs false
set_option pp.maxSteps 3000
theorem bits_or {x b : Nat} (hx : x < 72057594037927936) (hb : b < 256) : bitsI .or .u64 (IntKind.u64.wrap ((x : Int) * 2 ^ 8)) (b : Int) = ((x * 256 + b : Nat) : Int) := by
  have e1 : IntKind.u64.wrap ((x : Int) * 2 ^ 8) = ((x * 256 : Nat) : Int) := by rw [wu64 (by omega) (by omega)]; omega
  rw [e1]
  show IntKind.u64.wrap ((BitVec.ofInt 64 ((x * 256 : Nat) : Int) ||| BitVec.ofInt 64 (b : Int)).toNat : Int) = _
  have e2 : ∀ y : Nat, y < 18446744073709551616 → (BitVec.ofInt 64 (y : Int)).toNat = y := fun y hy => by
    rw [BitVec.ofInt_natCast, BitVec.toNat_ofNat]
    exact Nat.mod_eq_of_lt (by omega)
  rw [BitVec.toNat_or, e2 _ (by omega), e2 _ (by omega)]
  have e3 : x * 256 ||| b = x * 256 + b := by
    have := Nat.shiftLeft_add_eq_or_of_lt (b := b) (i := 8) (by omega) x
    rw [Nat.shiftLeft_eq] at this
    exact this.symm
  rw [e3, wu64 (by omega) (by omega)]
theorem beV_take {s : List UInt8} {k : Nat} (h : k < s.length) : beV (s.take (k + 1)) = beV (s.take k) * 256 + (s.getD k 0).toNat := by
  rw [take_succ_getD h, beV_snoc]
theorem beV_take_lt (s : List UInt8) (k : Nat) : beV (s.take k) < 256 ^ k := by
  have h := beV_lt (s.take k)
  have : 256 ^ (s.take k).length ≤ 256 ^ k := Nat.pow_le_pow_right (by decide) (by simp; omega)
  omega
theorem unfixed_any {s : List UInt8} (hs : s.length ≤ 8) : PCall Tryd.prog 66 [.str s] (.int .u64 (beV s)) := by
  refine pcall_of (lits1 (.str _)) (call66 rfl ?_)
  iterate 1 (all_goals (try conv => whnf); all_goals (try first | with_reducible refine brY (by assumption) ?_ | with_reducible refine brN (by assumption) ?_ | (with_reducible refine brT ?_ ?_; · (simp only [Bool.and_eq_true, Bool.not_eq_true', decide_eq_true_eq, decide_eq_false_iff_not, beq_iff_eq, beq_eq_false_iff_ne, ne_eq] at *; omega)) | with_reducible refine br (fun _ => ?_) (fun _ => ?_) | with_reducible refine ⟨rfl, ?_⟩ | with_reducible refine ARound.succ ?_))
  refine loop_ind (σ := {k : Nat // k ≤ s.length}) (fun q => [(0, SV.str s), (2, SV.int IntKind.u64 0), (3, SV.int IntKind.u64 (beV (s.take q.1))), (6, SV.int IntKind.i64 s.length), (7, SV.int IntKind.i64 q.1)]) (fun _ => ⟨0, []⟩) (fun q => s.length - q.1) ?_ ⟨0, Nat.zero_le _⟩
  rintro ⟨k, hk⟩
  dsimp only
  iterate 10 (all_goals (try conv => whnf); all_goals (try first | with_reducible refine brY (by assumption) ?_ | with_reducible refine brN (by assumption) ?_ | (with_reducible refine brT ?_ ?_; · (simp only [Bool.and_eq_true, Bool.not_eq_true', decide_eq_true_eq, decide_eq_false_iff_not, beq_iff_eq, beq_eq_false_iff_ne, ne_eq] at *; omega)) | with_reducible refine br (fun _ => ?_) (fun _ => ?_) | with_reducible refine ⟨rfl, ?_⟩ | with_reducible refine ARound.succ ?_))
  · rename_i h
    have hk' : k < s.length := by have := of_decide_eq_true h; omega
    refine ⟨⟨k + 1, hk'⟩, by dsimp only; omega, ?_, rfl⟩
    have hb := (s.getD k 0).toNat_lt
    have hlt := beV_take_lt s k
    have hp : 256 ^ k ≤ 256 ^ 7 := Nat.pow_le_pow_right (by decide) (by omega)
    have hp7 : (256 : Nat) ^ 7 = 72057594037927936 := by decide
    have e1 : IntKind.u64.wrap ((s.getD k 0).toNat : Int) = ((s.getD k 0).toNat : Int) := wu64 (by omega) (by omega)
    have e2 : bitsI .or .u64 (IntKind.u64.wrap ((beV (s.take k) : Int) * 2 ^ 8)) ((s.getD k 0).toNat : Int) = (beV (s.take (k + 1)) : Int) := by
      rw [bits_or (by omega) (by omega), beV_take hk']
    have e3 : IntKind.i64.wrap ((k : Int) + 1) = ((k + 1 : Nat) : Int) := w64add (by omega)
    simp only [Int.toNat_natCast] at *
    rw [e1, e3]
    have e4 : min (Int.toNat 8) IntKind.u64.bits = 8 := by decide
    rw [e4, e2]
  · rename_i h
    have hk' : k = s.length := by have := of_decide_eq_false h; omega
    subst hk'
    exact leaf (by rw [List.take_length]) (.int _ _)

def unW (s : List UInt8) : Int := 9223372036854775807 - (beV (s.take 8) : Int)
def unL (s : List UInt8) : Int := 2147483647 - (beV ((s.drop 8).take 4) : Int)
def unG (s : List UInt8) : Int := 2147483647 - (beV ((s.drop 12).take 4) : Int)
def unOk (s : List UInt8) : Bool := decide (s.length = 16 ∧ beV (s.take 8) ≤ 9223372036854775807 ∧ beV ((s.drop 8).take 4) ≤ 2147483647 ∧ beV ((s.drop 12).take 4) ≤ 2147483647 ∧ stOk (unW s) (unL s) (unG s) = true)
@[reducible] def unV (s : List UInt8) : SV := .tup [stV (if unOk s then unW s else 0) (if unOk s then unL s else 0) (if unOk s then unG s else 0), .int .i64 (if unOk s then 0 else 5)]
theorem unV_no {s : List UInt8} (h : unOk s = false) : unV s = .tup [stV 0 0 0, .int .i64 5] := by simp [unV, h]
theorem unV_yes {s : List UInt8} (h : unOk s = true) : unV s = .tup [stV (unW s) (unL s) (unG s), .int .i64 0] := by simp [unV, h]
theorem unlit (s : List UInt8) : LitV (unV s) := lit2 (stLit _ _ _) (.int _ _)
theorem uw {x : Nat} (h : x ≤ 9223372036854775807) : IntKind.i64.wrap (9223372036854775807 - IntKind.i64.wrap (x : Int)) = 9223372036854775807 - (x : Int) := by
  rw [w64 (x := (x : Int)) (by omega) (by omega), w64 (by omega) (by omega)]
theorem ul {x : Nat} (h : x ≤ 2147483647) : IntKind.i32.wrap (2147483647 - IntKind.i32.wrap (x : Int)) = 2147483647 - (x : Int) := by
  rw [IntKind.wrap_i32, IntKind.wrap_i32]; omega
theorem unstamp_any (s : List UInt8) : PCall Tryd.prog 30 [.str s] (unV s) := by
  refine pcall_of (lits1 (.str _)) (call30 rfl ?_)
  by_cases h16 : ¬ s.length = 16
  · have hno : unOk s = false := by unfold unOk; simp [h16]
    have hb : ((s.length : Int) != 16) = true := by rw [bne_iff_ne]; omega
    iterate 6 (all_goals (try conv => whnf); all_goals (try first | with_reducible refine brY (by assumption) ?_ | with_reducible refine brN (by assumption) ?_ | (with_reducible refine brT ?_ ?_; · (simp only [Bool.and_eq_true, Bool.not_eq_true', decide_eq_true_eq, decide_eq_false_iff_not, beq_iff_eq, beq_eq_false_iff_ne, ne_eq] at *; omega)) | with_reducible refine br (fun _ => ?_) (fun _ => ?_) | with_reducible refine ⟨rfl, ?_⟩ | with_reducible refine ARound.succ ?_))
    exact leaf (unV_no hno).symm (unlit s)
  have h16 : s.length = 16 := by omega
  have key : beV (s.take 8) ≤ 9223372036854775807 → beV ((s.drop 8).take 4) ≤ 2147483647 → beV ((s.drop 12).take 4) ≤ 2147483647 → unOk s = stOk (unW s) (unL s) (unG s) := fun a b c => by
    unfold unOk
    cases hk : stOk (unW s) (unL s) (unG s)
    · rw [decide_eq_false_iff_not]; rintro ⟨_, _, _, _, h⟩; exact Bool.noConfusion h
    · rw [decide_eq_true_eq]; exact ⟨h16, a, b, c, rfl⟩
  have c1 := unfixed_any (s := (s.drop (Int.toNat 0)).take (Int.toNat 8 - Int.toNat 0)) (by simp; omega)
  have c2 := unfixed_any (s := (s.drop (Int.toNat 8)).take (Int.toNat 12 - Int.toNat 8)) (by simp; omega)
  have c3 := unfixed_any (s := (s.drop (Int.toNat 12)).take (Int.toNat (s.length : Int) - Int.toNat 12)) (by simp; omega)
  iterate 14 (all_goals (try conv => whnf); all_goals (try first | with_reducible refine brY (by assumption) ?_ | with_reducible refine brN (by assumption) ?_ | (with_reducible refine brT ?_ ?_; · (simp only [Bool.and_eq_true, Bool.not_eq_true', decide_eq_true_eq, decide_eq_false_iff_not, beq_iff_eq, beq_eq_false_iff_ne, ne_eq] at *; omega)) | with_reducible refine br (fun _ => ?_) (fun _ => ?_) | with_reducible refine ⟨rfl, ?_⟩ | with_reducible refine ARound.succ ?_ | with_reducible refine PCall.call (c1) ?_ | with_reducible refine PCall.call (c2) ?_ | with_reducible refine PCall.call (c3) ?_ | with_reducible refine PCall.call (stamp_any _ _ _) ?_))
  all_goals clear c1 c2 c3
  all_goals simp only [Int.toNat_natCast, h16, Int.reduceToNat, Nat.reduceSub, List.drop_zero, decide_eq_true_eq, decide_eq_false_iff_not, Bool.not_eq_true', Bool.not_eq_false'] at *
  all_goals first
    | (refine leaf ((unV_no ?_).symm) (unlit s); unfold unOk; rw [decide_eq_false_iff_not]; omega)
    | skip
  · exfalso; rename_i h; exact absurd h (by decide)
  · rename_i h1 h2 h3 h4
    refine leaf ((unV_no ?_).symm) (unlit s)
    rw [uw (by omega), ul (by omega), ul (by omega)] at h4
    unfold unOk
    rw [decide_eq_false_iff_not]
    rintro ⟨_, _, _, _, h5⟩
    exact Bool.noConfusion (h4.symm.trans h5)
  · rename_i h1 h2 h3 h4
    rw [uw (by omega), ul (by omega), ul (by omega)] at *
    refine leaf ((unV_yes ?_).symm) (unlit s)
    rw [key (by omega) (by omega) (by omega)]
    exact h4
end Go.Proofs.YtcklfcagailoiaaDoor
