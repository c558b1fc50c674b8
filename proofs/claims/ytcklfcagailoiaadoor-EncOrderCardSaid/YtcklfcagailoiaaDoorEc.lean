/- Comparing and checking values: contracts. -/
import Derived.Test.YtcklfcagailoiaaDoorCE
import Derived.Test.YtcklfcagailoiaaDoorVp
import Derived.Test.YtcklfcagailoiaaDoorEh
namespace Go.Proofs.YtcklfcagailoiaaDoor
open Ab Go.RowKit
set_option maxRecDepth 100000
set_option linter.unusedSimpArgs false
set_option linter.unusedVariables false

@[reducible] def V.sv (v : V) : SV := .agg [.int .u8 v.k, .int .i64 v.n, .str v.t]
theorem V.lit (v : V) : LitV v.sv := .agg (by simp only [List.mem_cons, List.not_mem_nil, or_false]; rintro _ (rfl | rfl | rfl) <;> constructor)
@[reducible] def V.two (p : V × Int) : SV := .tup [p.1.sv, .int .i64 p.2]
theorem V.two_lit (p : V × Int) : LitV (V.two p) := lit2 (V.lit _) (.int _ _)

theorem check_any (v : V) : PCall Tryd.prog 44 [v.sv] (.int .i64 (chk v)) := by
  obtain ⟨k, n, t⟩ := v
  refine pcall_of (lits1 (V.lit _)) (call44 rfl ?_)
  iterate 12 (all_goals (try conv => whnf); all_goals (try with_reducible refine br (fun _ => ?_) (fun _ => ?_)))
  all_goals (refine leaf ?_ (.int _ _); simp_all [chk, okV])
  all_goals omega

theorem nanK (a : Int) : PCall Tryd.prog 93 [.int .u8 a] (.bool false) := by
  refine pcall_of (lits1 (.int _ _)) (call93 rfl ?_)
  iterate 1 (all_goals (try conv => whnf); all_goals (try first | with_reducible refine brY (by assumption) ?_ | with_reducible refine brN (by assumption) ?_ | (with_reducible refine brT ?_ ?_; · (simp only [Bool.and_eq_true, Bool.not_eq_true', decide_eq_true_eq, decide_eq_false_iff_not, beq_iff_eq, beq_eq_false_iff_ne, ne_eq] at *; omega)) | with_reducible refine br (fun _ => ?_) (fun _ => ?_) | with_reducible refine ⟨rfl, ?_⟩ | with_reducible refine ARound.succ ?_))
  exact leaf (by simp) (.bool _)
theorem nan64 (a : Int) : PCall Tryd.prog 91 [.int .i64 a] (.bool false) := by
  refine pcall_of (lits1 (.int _ _)) (call91 rfl ?_)
  iterate 1 (all_goals (try conv => whnf); all_goals (try first | with_reducible refine brY (by assumption) ?_ | with_reducible refine brN (by assumption) ?_ | (with_reducible refine brT ?_ ?_; · (simp only [Bool.and_eq_true, Bool.not_eq_true', decide_eq_true_eq, decide_eq_false_iff_not, beq_iff_eq, beq_eq_false_iff_ne, ne_eq] at *; omega)) | with_reducible refine br (fun _ => ?_) (fun _ => ?_) | with_reducible refine ⟨rfl, ?_⟩ | with_reducible refine ARound.succ ?_))
  exact leaf (by simp) (.bool _)
theorem nanS (a : List UInt8) : PCall Tryd.prog 94 [.str a] (.bool false) := by
  refine pcall_of (lits1 (.str _)) (call94 rfl ?_)
  iterate 1 (all_goals (try conv => whnf); all_goals (try first | with_reducible refine brY (by assumption) ?_ | with_reducible refine brN (by assumption) ?_ | (with_reducible refine brT ?_ ?_; · (simp only [Bool.and_eq_true, Bool.not_eq_true', decide_eq_true_eq, decide_eq_false_iff_not, beq_iff_eq, beq_eq_false_iff_ne, ne_eq] at *; omega)) | with_reducible refine br (fun _ => ?_) (fun _ => ?_) | with_reducible refine ⟨rfl, ?_⟩ | with_reducible refine ARound.succ ?_))
  exact leaf (by simp) (.bool _)
theorem nanI (a : Int) : PCall Tryd.prog 95 [.int .i64 a] (.bool false) := by
  refine pcall_of (lits1 (.int _ _)) (call95 rfl ?_)
  iterate 1 (all_goals (try conv => whnf); all_goals (try first | with_reducible refine brY (by assumption) ?_ | with_reducible refine brN (by assumption) ?_ | (with_reducible refine brT ?_ ?_; · (simp only [Bool.and_eq_true, Bool.not_eq_true', decide_eq_true_eq, decide_eq_false_iff_not, beq_iff_eq, beq_eq_false_iff_ne, ne_eq] at *; omega)) | with_reducible refine br (fun _ => ?_) (fun _ => ?_) | with_reducible refine ⟨rfl, ?_⟩ | with_reducible refine ARound.succ ?_))
  exact leaf (by simp) (.bool _)

theorem cmpK_any (a b : Int) : PCall Tryd.prog 71 [.int .u8 a, .int .u8 b] (.int .i64 (cmpI a b)) := by
  refine pcall_of (lits2 (.int _ _) (.int _ _)) (call71 rfl ?_)
  iterate 8 (all_goals (try conv => whnf); all_goals (try first | with_reducible refine brY (by assumption) ?_ | with_reducible refine brN (by assumption) ?_ | (with_reducible refine brT ?_ ?_; · (simp only [Bool.and_eq_true, Bool.not_eq_true', decide_eq_true_eq, decide_eq_false_iff_not, beq_iff_eq, beq_eq_false_iff_ne, ne_eq] at *; omega)) | with_reducible refine br (fun _ => ?_) (fun _ => ?_) | with_reducible refine ⟨rfl, ?_⟩ | with_reducible refine ARound.succ ?_ | with_reducible refine PCall.call (nanK _) ?_))
  all_goals (refine leaf ?_ (.int _ _); simp_all [cmpI])
  all_goals omega
theorem cmp64_any (a b : Int) : PCall Tryd.prog 68 [.int .i64 a, .int .i64 b] (.int .i64 (cmpI a b)) := by
  refine pcall_of (lits2 (.int _ _) (.int _ _)) (call68 rfl ?_)
  iterate 8 (all_goals (try conv => whnf); all_goals (try first | with_reducible refine brY (by assumption) ?_ | with_reducible refine brN (by assumption) ?_ | (with_reducible refine brT ?_ ?_; · (simp only [Bool.and_eq_true, Bool.not_eq_true', decide_eq_true_eq, decide_eq_false_iff_not, beq_iff_eq, beq_eq_false_iff_ne, ne_eq] at *; omega)) | with_reducible refine br (fun _ => ?_) (fun _ => ?_) | with_reducible refine ⟨rfl, ?_⟩ | with_reducible refine ARound.succ ?_ | with_reducible refine PCall.call (nan64 _) ?_))
  all_goals (refine leaf ?_ (.int _ _); simp_all [cmpI])
  all_goals omega
theorem nan32 (a : Int) : PCall Tryd.prog 92 [.int .i32 a] (.bool false) := by
  refine pcall_of (lits1 (.int _ _)) (call92 rfl ?_)
  iterate 1 (all_goals (try conv => whnf); all_goals (try first | with_reducible refine brY (by assumption) ?_ | with_reducible refine brN (by assumption) ?_ | (with_reducible refine brT ?_ ?_; · (simp only [Bool.and_eq_true, Bool.not_eq_true', decide_eq_true_eq, decide_eq_false_iff_not, beq_iff_eq, beq_eq_false_iff_ne, ne_eq] at *; omega)) | with_reducible refine br (fun _ => ?_) (fun _ => ?_) | with_reducible refine ⟨rfl, ?_⟩ | with_reducible refine ARound.succ ?_))
  exact leaf (by simp) (.bool _)
theorem cmp32_any (a b : Int) : PCall Tryd.prog 69 [.int .i32 a, .int .i32 b] (.int .i64 (cmpI a b)) := by
  refine pcall_of (lits2 (.int _ _) (.int _ _)) (call69 rfl ?_)
  iterate 8 (all_goals (try conv => whnf); all_goals (try first | with_reducible refine brY (by assumption) ?_ | with_reducible refine brN (by assumption) ?_ | (with_reducible refine brT ?_ ?_; · (simp only [Bool.and_eq_true, Bool.not_eq_true', decide_eq_true_eq, decide_eq_false_iff_not, beq_iff_eq, beq_eq_false_iff_ne, ne_eq] at *; omega)) | with_reducible refine br (fun _ => ?_) (fun _ => ?_) | with_reducible refine ⟨rfl, ?_⟩ | with_reducible refine ARound.succ ?_ | with_reducible refine PCall.call (nan32 _) ?_))
  all_goals (refine leaf ?_ (.int _ _); simp_all [cmpI])
  all_goals omega
theorem cmpInt_any (a b : Int) : PCall Tryd.prog 73 [.int .i64 a, .int .i64 b] (.int .i64 (cmpI a b)) := by
  refine pcall_of (lits2 (.int _ _) (.int _ _)) (call73 rfl ?_)
  iterate 8 (all_goals (try conv => whnf); all_goals (try first | with_reducible refine brY (by assumption) ?_ | with_reducible refine brN (by assumption) ?_ | (with_reducible refine brT ?_ ?_; · (simp only [Bool.and_eq_true, Bool.not_eq_true', decide_eq_true_eq, decide_eq_false_iff_not, beq_iff_eq, beq_eq_false_iff_ne, ne_eq] at *; omega)) | with_reducible refine br (fun _ => ?_) (fun _ => ?_) | with_reducible refine ⟨rfl, ?_⟩ | with_reducible refine ARound.succ ?_ | with_reducible refine PCall.call (nanI _) ?_))
  all_goals (refine leaf ?_ (.int _ _); simp_all [cmpI])
  all_goals omega
theorem cmpS_any (a b : List UInt8) : PCall Tryd.prog 72 [.str a, .str b] (.int .i64 (cmpS a b)) := by
  refine pcall_of (lits2 (.str _) (.str _)) (call72 rfl ?_)
  iterate 8 (all_goals (try conv => whnf); all_goals (try first | with_reducible refine brY (by assumption) ?_ | with_reducible refine brN (by assumption) ?_ | (with_reducible refine brT ?_ ?_; · (simp only [Bool.and_eq_true, Bool.not_eq_true', decide_eq_true_eq, decide_eq_false_iff_not, beq_iff_eq, beq_eq_false_iff_ne, ne_eq] at *; omega)) | with_reducible refine br (fun _ => ?_) (fun _ => ?_) | with_reducible refine ⟨rfl, ?_⟩ | with_reducible refine ARound.succ ?_ | with_reducible refine PCall.call (nanS _) ?_))
  all_goals (refine leaf ?_ (.int _ _); simp_all [cmpS, strLess])

theorem hard3 {A : Heap} {i g : Nat} {cap : Option Nat} {sk : Sk} {a b c : Int} (ho : A.obj i = some (.vec g 1 [.int .i64 a, .int .i64 b, .int .i64 c] sk)) :
    Hard A (.sl i g 1 0 3 cap) (.lst 1 3 fun i => .int .i64 (List.getD [a, b, c] i 0)) :=
  hard_all ho ⟨rfl, .int _ _, rfl, .int _ _, rfl, .int _ _, trivial⟩
theorem or_any (a b c : Int) : PCall Tryd.prog 67 [.lst 1 3 fun i => .int .i64 (List.getD [a, b, c] i 0)] (.int .i64 (or3 a b c)) := by
  refine pcall_of (lits1 (.lst _ _ _)) (call67 rfl ?_)
  iterate 14 (all_goals (try conv => whnf); all_goals (try first | with_reducible refine brY (by assumption) ?_ | with_reducible refine brN (by assumption) ?_ | (with_reducible refine brT ?_ ?_; · (simp only [Bool.and_eq_true, Bool.not_eq_true', decide_eq_true_eq, decide_eq_false_iff_not, beq_iff_eq, beq_eq_false_iff_ne, ne_eq] at *; omega)) | with_reducible refine br (fun _ => ?_) (fun _ => ?_) | with_reducible refine ⟨rfl, ?_⟩ | with_reducible refine ARound.succ ?_ | with_reducible refine loop_rounds 5 ?_))
  all_goals (refine leaf ?_ (.int _ _); simp_all [or3, IntKind.wrap_i64])

@[reducible] def lstV (l : List V) : SV := .lst 3 l.length fun i => (l.getD i vnull).sv

theorem cmpL_end {xs ys : List V} {k : Nat} (ha : k ≤ xs.length) (hb : k ≤ ys.length) (hk : k = xs.length ∨ k = ys.length) (he : cmpL xs ys = cmpL (xs.drop k) (ys.drop k)) : cmpL xs ys = cmpI xs.length ys.length := by
  rw [he]
  have key : cmpL (xs.drop k) (ys.drop k) = cmpI (xs.drop k).length (ys.drop k).length := by
    rcases hk with h | h
    · rw [List.drop_eq_nil_of_le (by omega)]; cases ys.drop k <;> rfl
    · rw [show ys.drop k = [] from List.drop_eq_nil_of_le (by omega)]; cases xs.drop k <;> rfl
  rw [key, List.length_drop, List.length_drop]
  simp only [cmpI]
  split <;> split <;> (try split) <;> omega
theorem cmpL_step {xs ys : List V} {k : Nat} (ha : k < xs.length) (hb : k < ys.length) : cmpL (xs.drop k) (ys.drop k) = if cmpV (xs.getD k vnull) (ys.getD k vnull) ≠ 0 then cmpV (xs.getD k vnull) (ys.getD k vnull) else cmpL (xs.drop (k + 1)) (ys.drop (k + 1)) := by
  rw [List.drop_eq_getElem_cons ha, List.drop_eq_getElem_cons hb, List.getD_eq_getElem?_getD, List.getD_eq_getElem?_getD, List.getElem?_eq_getElem ha, List.getElem?_eq_getElem hb]
  rfl

structure CmpS (xs ys : List V) where
  k : Nat
  ha : k ≤ xs.length
  hb : k ≤ ys.length
  he : cmpL xs ys = cmpL (xs.drop k) (ys.drop k)

theorem compare_any (xs ys : List V) (hx : xs.length ≤ 4611686018427387904) : PCall Tryd.prog 37 [lstV xs, lstV ys] (.int .i64 (cmpL xs ys)) := by
  refine pcall_of (lits2 (.lst _ _ _) (.lst _ _ _)) (call37 rfl ?_)
  iterate 1 (all_goals (try conv => whnf); all_goals (try first | with_reducible refine brY (by assumption) ?_ | with_reducible refine brN (by assumption) ?_ | (with_reducible refine brT ?_ ?_; · (simp only [Bool.and_eq_true, Bool.not_eq_true', decide_eq_true_eq, decide_eq_false_iff_not, beq_iff_eq, beq_eq_false_iff_ne, ne_eq] at *; omega)) | with_reducible refine br (fun _ => ?_) (fun _ => ?_) | with_reducible refine ⟨rfl, ?_⟩ | with_reducible refine ARound.succ ?_))
  refine loop_ind (σ := CmpS xs ys) (fun s => [(0, lstV xs), (1, lstV ys), (4, SV.int IntKind.i64 0), (11, SV.int IntKind.i64 (if (ys.length : Int) < xs.length then ys.length else xs.length)), (12, SV.int IntKind.i64 s.k)]) (fun _ => ⟨0, []⟩) (fun s => xs.length - s.k) ?_ ⟨0, by omega, by omega, rfl⟩
  rintro ⟨k, ha, hb, he⟩
  dsimp only
  iterate 40 (all_goals (try conv => whnf); all_goals (try first | with_reducible refine brY (by assumption) ?_ | with_reducible refine brN (by assumption) ?_ | (with_reducible refine brT ?_ ?_; · (simp only [Bool.and_eq_true, Bool.not_eq_true', decide_eq_true_eq, decide_eq_false_iff_not, beq_iff_eq, beq_eq_false_iff_ne, ne_eq] at *; omega)) | with_reducible refine br (fun _ => ?_) (fun _ => ?_) | with_reducible refine ⟨rfl, ?_⟩ | with_reducible refine ARound.succ ?_ | with_reducible refine PCall.call (cmpK_any _ _) ?_ | with_reducible refine PCall.call (cmp64_any _ _) ?_ | with_reducible refine PCall.call (cmpS_any _ _) ?_ | with_reducible refine PCall.call (cmpInt_any _ _) ?_ | with_reducible refine PCall.call (or_any _ _ _) ?_ | (with_reducible refine ACall.frz (fun i => Nat.beq i 0) (.cons (hard3 rfl) .nil) ?_)))
  all_goals rename_i h
  all_goals simp only [Int.toNat_natCast, bne_iff_ne, ne_eq, decide_eq_true_eq, decide_eq_false_iff_not, bne_eq_false_iff_eq] at *
  · refine leaf ?_ (.int _ _)
    rw [he, cmpL_step (by omega) (by omega), if_pos (by exact h)]
    rfl
  · refine ⟨⟨k + 1, by omega, by omega, ?_⟩, by dsimp only; omega, ?_, by trivial⟩
    · rw [he, cmpL_step (by omega) (by omega), if_neg (by intro hh; exact hh h)]
    · rw [IntKind.wrap_i64]
      have e : ((k : Int) + 1 + 9223372036854775808) % 18446744073709551616 - 9223372036854775808 = ((k + 1 : Nat) : Int) := by omega
      rw [e]
  · refine leaf ?_ (.int _ _)
    rw [cmpL_end ha hb (by omega) he]
end Go.Proofs.YtcklfcagailoiaaDoor
