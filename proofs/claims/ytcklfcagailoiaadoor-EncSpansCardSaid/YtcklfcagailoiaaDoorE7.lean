/- The document's own answers on spans and stamps: contracts. -/
import Derived.Test.YtcklfcagailoiaaDoorE6
import Derived.Test.YtcklfcagailoiaaDoorE1
import Derived.Test.YtcklfcagailoiaaDoorAbL
namespace Go.Proofs.YtcklfcagailoiaaDoor
open Ab Go.RowKit
set_option maxRecDepth 100000
set_option linter.unusedVariables false
set_option linter.unusedSimpArgs false
set_option pp.maxSteps 3000
theorem refIn_any (k a b : List UInt8) : PCall Tryd.prog 35 [.str k, .agg [.str a, .str b]] (.bool (inB k a b)) := by
  refine pcall_of (lits2 (.str _) (.agg (by simp; exact ⟨.str _, .str _⟩))) (call35 rfl ?_)
  iterate 10 (all_goals (try conv => whnf); all_goals (try first | with_reducible refine brY (by assumption) ?_ | with_reducible refine brN (by assumption) ?_ | (with_reducible refine brT ?_ ?_; · (simp only [Bool.and_eq_true, Bool.not_eq_true', decide_eq_true_eq, decide_eq_false_iff_not, beq_iff_eq, beq_eq_false_iff_ne, ne_eq] at *; omega)) | with_reducible refine br (fun _ => ?_) (fun _ => ?_) | with_reducible refine ⟨rfl, ?_⟩ | with_reducible refine ARound.succ ?_))
  · rename_i h1 h2
    exact leaf (by unfold inB strLess at *; rw [h1, h2]; rfl) (.bool _)
  · rename_i h1 h2
    exact leaf (by unfold inB strLess at *; rw [h1, h2]; simp) (.bool _)
  · rename_i h1
    exact leaf (by unfold inB strLess at *; rw [h1]; rfl) (.bool _)
theorem refLater_any (w l g w' l' g' : Int) : PCall Tryd.prog 36 [stV w l g, stV w' l' g'] (.bool (laterB w l g w' l' g')) := by
  refine pcall_of (lits2 (stLit _ _ _) (stLit _ _ _)) (call36 rfl ?_)
  iterate 10 (all_goals (try conv => whnf); all_goals (try first | with_reducible refine brY (by assumption) ?_ | with_reducible refine brN (by assumption) ?_ | (with_reducible refine brT ?_ ?_; · (simp only [Bool.and_eq_true, Bool.not_eq_true', decide_eq_true_eq, decide_eq_false_iff_not, beq_iff_eq, beq_eq_false_iff_ne, ne_eq] at *; omega)) | with_reducible refine br (fun _ => ?_) (fun _ => ?_) | with_reducible refine ⟨rfl, ?_⟩ | with_reducible refine ARound.succ ?_))
  all_goals (refine leaf ?_ (.bool _); congr 1; unfold laterB or3 cmpI; symm)
  all_goals simp only [bne_iff_ne, ne_eq, bne_eq_false_iff_eq] at *
  all_goals first
    | (rw [decide_eq_decide]; split <;> (try split) <;> (try split) <;> (try split) <;> (try split) <;> (try split) <;> omega)
theorem refAfter_any {s : List UInt8} (hs : s.length ≤ 9223372036854775807) : PCall Tryd.prog 34 [.str s] (.str (afterR s)) := by
  refine pcall_of (lits1 (.str _)) (call34 rfl ?_)
  iterate 1 (all_goals (try conv => whnf); all_goals (try first | with_reducible refine brY (by assumption) ?_ | with_reducible refine brN (by assumption) ?_ | (with_reducible refine brT ?_ ?_; · (simp only [Bool.and_eq_true, Bool.not_eq_true', decide_eq_true_eq, decide_eq_false_iff_not, beq_iff_eq, beq_eq_false_iff_ne, ne_eq] at *; omega)) | with_reducible refine br (fun _ => ?_) (fun _ => ?_) | with_reducible refine ⟨rfl, ?_⟩ | with_reducible refine ARound.succ ?_))
  refine loop_ind (σ := AftS s) (fun q => [(0, SV.str s), (2, SV.str []), (3, SV.int IntKind.i64 q.n)]) (fun _ => ⟨0, []⟩) (fun q => q.n) ?_ ⟨s.length, Nat.le_refl _, by rw [List.take_length]⟩
  rintro ⟨n, hn, he⟩
  dsimp only
  by_cases h0 : n = 0
  · subst h0
    iterate 3 (all_goals (try conv => whnf); all_goals (try first | with_reducible refine brY (by assumption) ?_ | with_reducible refine brN (by assumption) ?_ | (with_reducible refine brT ?_ ?_; · (simp only [Bool.and_eq_true, Bool.not_eq_true', decide_eq_true_eq, decide_eq_false_iff_not, beq_iff_eq, beq_eq_false_iff_ne, ne_eq] at *; omega)) | with_reducible refine br (fun _ => ?_) (fun _ => ?_) | with_reducible refine ⟨rfl, ?_⟩ | with_reducible refine ARound.succ ?_))
    refine leaf ?_ (.str _)
    rw [he]; rfl
  have e1 : IntKind.i64.wrap ((n : Int) - 1) = ((n - 1 : Nat) : Int) := w64sub (by omega) (by omega)
  have et := take_succ_getD (s := s) (n := n - 1) (by omega)
  rw [show n - 1 + 1 = n by omega] at et
  rw [et, afterR_snoc] at he
  iterate 10 (all_goals (try conv => whnf); all_goals (try first | with_reducible refine brY (by assumption) ?_ | with_reducible refine brN (by assumption) ?_ | (with_reducible refine brT ?_ ?_; · (simp only [Bool.and_eq_true, Bool.not_eq_true', decide_eq_true_eq, decide_eq_false_iff_not, beq_iff_eq, beq_eq_false_iff_ne, ne_eq] at *; omega)) | with_reducible refine br (fun _ => ?_) (fun _ => ?_) | with_reducible refine ⟨rfl, ?_⟩ | with_reducible refine ARound.succ ?_))
  all_goals simp only [e1, Int.toNat_natCast, Int.toNat_zero, Nat.sub_zero, List.drop_zero, Bool.and_eq_true, Bool.and_eq_false_iff, decide_eq_true_eq, decide_eq_false_iff_not, List.length_take, List.length_singleton, beq_iff_eq, beq_eq_false_iff_ne, ne_eq] at *
  · rename_i h2 h3
    have h5 : ¬ s.getD (n - 1) 0 < 255 := fun h => by have h := u8_lt_iff.1 h; have : (255 : UInt8).toNat = 255 := rfl; omega
    exact ⟨⟨n - 1, by omega, by rw [he, if_neg h5]⟩, by dsimp only; omega, rfl, trivial⟩
  · omega
  · rename_i h2 h3 h4 h5
    have hb := (s.getD (n - 1) 0).toNat_lt
    have h5 : s.getD (n - 1) 0 < 255 := u8_lt_iff.2 (by have : (255 : UInt8).toNat = 255 := rfl; omega)
    refine leaf ?_ (.str _)
    rw [he, if_pos h5, u8_succ h5]
  · omega
  all_goals omega
theorem mul_add_by {x : Nat} (b : UInt8) (hx : x < 72057594037927936) : IntKind.u64.wrap (IntKind.u64.wrap ((x : Int) * 256) + IntKind.u64.wrap (b.toNat : Int)) = ((x * 256 + b.toNat : Nat) : Int) := by
  have hb := b.toNat_lt
  rw [wu64 (x := (x : Int) * 256) (by omega) (by omega), wu64 (x := (b.toNat : Int)) (by omega) (by omega), wu64 (by omega) (by omega)]
  omega
theorem refUnstamp_any (s : List UInt8) : PCall Tryd.prog 33 [.str s] (unV s) := by
  refine pcall_of (lits1 (.str _)) (call33 rfl ?_)
  by_cases h16 : ¬ s.length = 16
  · have hno : unOk s = false := by unfold unOk; simp [h16]
    have hb : ((s.length : Int) != 16) = true := by rw [bne_iff_ne]; omega
    iterate 6 (all_goals (try conv => whnf); all_goals (try first | with_reducible refine brY (by assumption) ?_ | with_reducible refine brN (by assumption) ?_ | (with_reducible refine brT ?_ ?_; · (simp only [Bool.and_eq_true, Bool.not_eq_true', decide_eq_true_eq, decide_eq_false_iff_not, beq_iff_eq, beq_eq_false_iff_ne, ne_eq] at *; omega)) | with_reducible refine br (fun _ => ?_) (fun _ => ?_) | with_reducible refine ⟨rfl, ?_⟩ | with_reducible refine ARound.succ ?_))
    exact leaf (unV_no hno).symm (unlit s)
  have h16 : s.length = 16 := by omega
  have hb : ((s.length : Int) != 16) = false := by rw [bne_eq_false_iff_eq]; omega
  have key : beV (s.take 8) ≤ 9223372036854775807 → beV ((s.drop 8).take 4) ≤ 2147483647 → beV ((s.drop 12).take 4) ≤ 2147483647 → unOk s = stOk (unW s) (unL s) (unG s) := fun a b c => by
    unfold unOk
    cases hk : stOk (unW s) (unL s) (unG s)
    · rw [decide_eq_false_iff_not]; rintro ⟨_, _, _, _, h⟩; exact Bool.noConfusion h
    · rw [decide_eq_true_eq]; exact ⟨h16, a, b, c, rfl⟩
  iterate 2 (all_goals (try conv => whnf); all_goals (try first | with_reducible refine brY (by assumption) ?_ | with_reducible refine brN (by assumption) ?_ | (with_reducible refine brT ?_ ?_; · (simp only [Bool.and_eq_true, Bool.not_eq_true', decide_eq_true_eq, decide_eq_false_iff_not, beq_iff_eq, beq_eq_false_iff_ne, ne_eq] at *; omega)) | with_reducible refine br (fun _ => ?_) (fun _ => ?_) | with_reducible refine ⟨rfl, ?_⟩ | with_reducible refine ARound.succ ?_))
  have p8 : (256 : Nat) ^ 8 = 18446744073709551616 := by decide
  have p7 : (256 : Nat) ^ 7 = 72057594037927936 := by decide
  have p4 : (256 : Nat) ^ 4 = 4294967296 := by decide
  refine loop_ind (σ := {k : Nat // k ≤ 8}) (fun q => [(0, SV.str s), (2, SV.ref 0 0 0 0), (3, SV.int IntKind.i64 0), (12, SV.bool false), (4, SV.int IntKind.u64 (beV (s.take q.1))), (5, SV.int IntKind.u64 0), (6, SV.int IntKind.u64 0), (7, SV.int IntKind.i64 q.1)])
    (fun _ => ⟨1, [(0, .vec 0 3 [.agg [.int .i64 0, .int .i32 0, .int .i32 0]] ⟨false, some 51⟩)]⟩) (fun q => 8 - q.1) ?_ ⟨0, Nat.zero_le _⟩
  rintro ⟨k, hk⟩
  dsimp only
  by_cases hk8 : k < 8
  · have hd : decide ((k : Int) < 8) = true := decide_eq_true (by omega)
    have hlt := beV_take_lt s k
    have hpk : 256 ^ k ≤ 256 ^ 7 := Nat.pow_le_pow_right (by decide) (by omega)
    have e2 := mul_add_by (x := beV (s.take k)) (s.getD k 0) (by omega)
    rw [← beV_take (by omega)] at e2
    have e3 : IntKind.i64.wrap ((k : Int) + 1) = ((k + 1 : Nat) : Int) := w64add (by omega)
    iterate 10 (all_goals (try conv => whnf); all_goals (try first | with_reducible refine brY (by assumption) ?_ | with_reducible refine brN (by assumption) ?_ | (with_reducible refine brT ?_ ?_; · (simp only [Bool.and_eq_true, Bool.not_eq_true', decide_eq_true_eq, decide_eq_false_iff_not, beq_iff_eq, beq_eq_false_iff_ne, ne_eq] at *; omega)) | with_reducible refine br (fun _ => ?_) (fun _ => ?_) | with_reducible refine ⟨rfl, ?_⟩ | with_reducible refine ARound.succ ?_))
    refine ⟨⟨k + 1, by omega⟩, by dsimp only; omega, ?_, rfl⟩
    rw [e3, Int.toNat_natCast, e2]
  have hk8 : k = 8 := by omega
  subst hk8
  have hd : decide (((8 : Nat) : Int) < 8) = false := by decide
  iterate 4 (all_goals (try conv => whnf); all_goals (try first | with_reducible refine brY (by assumption) ?_ | with_reducible refine brN (by assumption) ?_ | (with_reducible refine brT ?_ ?_; · (simp only [Bool.and_eq_true, Bool.not_eq_true', decide_eq_true_eq, decide_eq_false_iff_not, beq_iff_eq, beq_eq_false_iff_ne, ne_eq] at *; omega)) | with_reducible refine br (fun _ => ?_) (fun _ => ?_) | with_reducible refine ⟨rfl, ?_⟩ | with_reducible refine ARound.succ ?_))
  refine loop_ind (σ := {k : Nat // k ≤ 4}) (fun q => [(0, SV.str s), (2, SV.ref 0 0 0 0), (3, SV.int IntKind.i64 0), (12, SV.bool false), (4, SV.int IntKind.u64 (beV (s.take 8))), (5, SV.int IntKind.u64 (beV ((s.drop 8).take q.1))), (6, SV.int IntKind.u64 (beV ((s.drop 12).take q.1))), (7, SV.int IntKind.i64 ((8 : Nat) : Int)), (15, SV.bool false), (8, SV.int IntKind.i64 ((8 + q.1 : Nat) : Int))])
    (fun _ => ⟨1, [(0, .vec 0 3 [.agg [.int .i64 0, .int .i32 0, .int .i32 0]] ⟨false, some 51⟩)]⟩) (fun q => 4 - q.1) ?_ ⟨0, Nat.zero_le _⟩
  rintro ⟨k, hk⟩
  dsimp only
  by_cases hk4 : k < 4
  · have hd : decide (((8 + k : Nat) : Int) < 12) = true := decide_eq_true (by omega)
    have hpk : 256 ^ k ≤ 256 ^ 4 := Nat.pow_le_pow_right (by decide) (by omega)
    have hlt := beV_take_lt (s.drop 8) k
    have hlt' := beV_take_lt (s.drop 12) k
    have g1 : (s.drop 8).getD k 0 = s.getD (8 + k) 0 := by simp [List.getD]
    have g2 : (s.drop 12).getD k 0 = s.getD (12 + k) 0 := by simp [List.getD]
    have e2 := mul_add_by (x := beV ((s.drop 8).take k)) (s.getD (8 + k) 0) (by omega)
    rw [← g1, ← beV_take (by simp; omega), g1] at e2
    have e2' := mul_add_by (x := beV ((s.drop 12).take k)) (s.getD (12 + k) 0) (by omega)
    rw [← g2, ← beV_take (by simp; omega), g2] at e2'
    have e3 : IntKind.i64.wrap (((8 + k : Nat) : Int) + 1) = ((8 + (k + 1) : Nat) : Int) := w64add (by omega)
    have e4 : IntKind.i64.wrap (((8 + k : Nat) : Int) + 4) = ((12 + k : Nat) : Int) := by rw [w64 (by omega) (by omega)]; omega
    iterate 12 (all_goals (try conv => whnf); all_goals (try first | with_reducible refine brY (by assumption) ?_ | with_reducible refine brN (by assumption) ?_ | (with_reducible refine brT ?_ ?_; · (simp only [Bool.and_eq_true, Bool.not_eq_true', decide_eq_true_eq, decide_eq_false_iff_not, beq_iff_eq, beq_eq_false_iff_ne, ne_eq] at *; omega)) | with_reducible refine br (fun _ => ?_) (fun _ => ?_) | with_reducible refine ⟨rfl, ?_⟩ | with_reducible refine ARound.succ ?_))
    refine ⟨⟨k + 1, by omega⟩, by dsimp only; omega, ?_, rfl⟩
    rw [e3, e4, Int.toNat_natCast, Int.toNat_natCast, e2, e2']
  have hk4 : k = 4 := by omega
  subst hk4
  have hd : decide (((8 + 4 : Nat) : Int) < 12) = false := by decide
  have b1 := beV_take_lt s 8
  have b2 := beV_take_lt (s.drop 8) 4
  have b3 := beV_take_lt (s.drop 12) 4
  have uw' : ∀ x : Nat, x ≤ 9223372036854775807 → IntKind.i64.wrap (IntKind.u64.wrap (9223372036854775807 - (x : Int))) = 9223372036854775807 - (x : Int) := fun x h => by rw [wu64 (by omega) (by omega), w64 (by omega) (by omega)]
  have ul' : ∀ x : Nat, x ≤ 2147483647 → IntKind.i32.wrap (IntKind.u64.wrap (2147483647 - (x : Int))) = 2147483647 - (x : Int) := fun x h => by rw [wu64 (by omega) (by omega), IntKind.wrap_i32]; omega
  iterate 12 (all_goals (try conv => whnf); all_goals (try first | with_reducible refine brY (by assumption) ?_ | with_reducible refine brN (by assumption) ?_ | (with_reducible refine brT ?_ ?_; · (simp only [Bool.and_eq_true, Bool.not_eq_true', decide_eq_true_eq, decide_eq_false_iff_not, beq_iff_eq, beq_eq_false_iff_ne, ne_eq] at *; omega)) | with_reducible refine br (fun _ => ?_) (fun _ => ?_) | with_reducible refine ⟨rfl, ?_⟩ | with_reducible refine ARound.succ ?_))
  all_goals simp only [decide_eq_true_eq, decide_eq_false_iff_not] at *
  all_goals first
    | (refine leaf ((unV_no ?_).symm) (unlit s); unfold unOk; rw [decide_eq_false_iff_not]; omega)
    | skip
  all_goals have q1 := uw' (beV (s.take 8)) (by omega)
  all_goals have q2 := ul' (beV ((s.drop 8).take 4)) (by omega)
  all_goals have q3 := ul' (beV ((s.drop 12).take 4)) (by omega)
  all_goals have q4 := key (by omega) (by omega) (by omega)
  all_goals first
    | (refine leaf ((unV_no ?_).symm) (unlit s); rw [q4]; unfold stOk unW unL unG; rw [decide_eq_false_iff_not]; omega)
    | (rw [q1, q2, q3]; refine leaf ((unV_yes ?_).symm) (unlit s); rw [q4]; unfold stOk unW unL unG; rw [decide_eq_true_eq]; omega)
    | trace_state
end Go.Proofs.YtcklfcagailoiaaDoor
