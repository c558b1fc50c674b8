/- The contracts of the small functions over values. -/
import Derived.Test.YtcklfcagailoiaaCodeA
import Derived.Test.YtcklfcagailoiaaVp
namespace Go.Proofs.Ytcklfcagailoiaa
open Ab Go.RowKit
set_option maxRecDepth 100000
set_option linter.unusedSimpArgs false

@[reducible] def V.sv (v : V) : SV := .agg [.int .u8 v.k, .int .i64 v.n, .str v.t]
theorem V.lit (v : V) : LitV v.sv := .agg (by simp only [List.mem_cons, List.not_mem_nil, or_false]; rintro _ (rfl | rfl | rfl) <;> constructor)
@[reducible] def V.two (p : V × Int) : SV := .tup [p.1.sv, .int .i64 p.2]
theorem V.two_lit (p : V × Int) : LitV (V.two p) := lit2 (V.lit _) (.int _ _)

theorem truth_any (b : Bool) : PCall Try.prog 18 [.bool b] (vbool b).sv := by
  refine pcall_of (lits1 (.bool b)) (call18 rfl ?_)
  cases b
  · conv => whnf
    exact leaf rfl (V.lit _)
  · conv => whnf
    exact leaf rfl (V.lit _)

theorem check_any (v : V) : PCall Try.prog 11 [v.sv] (.int .i64 (chk v)) := by
  obtain ⟨k, n, t⟩ := v
  refine pcall_of (lits1 (V.lit _)) (call11 rfl ?_)
  iterate 12 (all_goals (try conv => whnf); all_goals (try with_reducible refine br (fun _ => ?_) (fun _ => ?_)))
  all_goals (refine leaf ?_ (.int _ _); simp_all [chk, okV])
  all_goals omega

theorem holds_any (op c : Int) : PCall Try.prog 22 [.int .u8 op, .int .i64 c] (.bool (holdsI op c)) := by
  refine pcall_of (lits2 (.int _ _) (.int _ _)) (call22 rfl ?_)
  iterate 12 (all_goals (try conv => whnf); all_goals (try with_reducible refine br (fun _ => ?_) (fun _ => ?_)))
  all_goals (refine leaf ?_ (.bool _); simp_all [holdsI])

theorem takes_any (op : Int) : PCall Try.prog 17 [.int .u8 op] (.int .i64 (takes op)) := by
  refine pcall_of (lits1 (.int _ _)) (call17 rfl ?_)
  iterate 24 (all_goals (try conv => whnf); all_goals (try with_reducible refine br (fun _ => ?_) (fun _ => ?_)))
  all_goals (refine leaf ?_ (.int _ _); simp only [beq_iff_eq, beq_eq_false_iff_ne, ne_eq] at *; congr 1; unfold takes; split <;> first | omega | (split <;> omega))

theorem true_any (v : V) : PCall Try.prog 20 [v.sv] (.bool (isT v)) := by
  refine pcall_of (lits1 (V.lit _)) (call20 rfl ?_)
  iterate 4 (all_goals (try conv => whnf); all_goals (try first | with_reducible refine brY (by assumption) ?_ | with_reducible refine brN (by assumption) ?_ | (with_reducible refine brT ?_ ?_; · (simp only [Bool.and_eq_true, Bool.not_eq_true', decide_eq_true_eq, decide_eq_false_iff_not, beq_iff_eq, beq_eq_false_iff_ne, ne_eq] at *; omega)) | with_reducible refine br (fun _ => ?_) (fun _ => ?_) | with_reducible refine ⟨rfl, ?_⟩ | with_reducible refine ARound.succ ?_ | with_reducible refine PCall.call (truth_any _) ?_))
  exact leaf rfl (.bool _)

theorem false0_any (v : V) : PCall Try.prog 19 [v.sv] (.bool (isF v)) := by
  refine pcall_of (lits1 (V.lit _)) (call19 rfl ?_)
  iterate 3 (all_goals (try conv => whnf); all_goals (try first | with_reducible refine brY (by assumption) ?_ | with_reducible refine brN (by assumption) ?_ | (with_reducible refine brT ?_ ?_; · (simp only [Bool.and_eq_true, Bool.not_eq_true', decide_eq_true_eq, decide_eq_false_iff_not, beq_iff_eq, beq_eq_false_iff_ne, ne_eq] at *; omega)) | with_reducible refine br (fun _ => ?_) (fun _ => ?_) | with_reducible refine ⟨rfl, ?_⟩ | with_reducible refine ARound.succ ?_))
  all_goals (refine leaf ?_ (.bool _); simp_all [isF])

theorem wrap_left (n : Int) : IntKind.i64.wrap n = wrap64 n := by rw [IntKind.wrap_i64]; unfold wrap64; rfl
section
variable {a b : Int} (ha : -9223372036854775808 ≤ a) (ha' : a ≤ 9223372036854775807) (hb : -9223372036854775808 ≤ b) (hb' : b ≤ 9223372036854775807)
include ha ha' hb hb'

theorem number4 {op : Int} (hop : op = 4 ∨ op = 18) : PCall Try.prog 21 [.int .u8 op, .int .i64 a, .int .i64 b] (V.two (numV op a b)) := by
  refine pcall_of (lits3 (.int _ _) (.int _ _) (.int _ _)) (call21 rfl ?_)
  have yes := dif_yes ha ha' hb hb' hop
  have no := dif_no ha ha' hb hb' hop
  rcases hop with rfl | rfl
  all_goals iterate 3 (all_goals (try conv => whnf); all_goals (try first | with_reducible refine brY (by assumption) ?_ | with_reducible refine brN (by assumption) ?_ | (with_reducible refine brT ?_ ?_; · (simp only [Bool.and_eq_true, Bool.not_eq_true', decide_eq_true_eq, decide_eq_false_iff_not, beq_iff_eq, beq_eq_false_iff_ne, ne_eq] at *; omega)) | with_reducible refine br (fun _ => ?_) (fun _ => ?_) | with_reducible refine ⟨rfl, ?_⟩ | with_reducible refine ARound.succ ?_))
  all_goals rename_i h
  all_goals simp only [wrap_left] at *
  all_goals simp only [Bool.not_eq_true', Bool.not_eq_false', beq_iff_eq, beq_eq_false_iff_ne, ne_eq, decide_eq_decide] at h
  · exact leaf (congrArg V.two (no (by omega)).symm) (V.two_lit _)
  · exact leaf (congrArg V.two (yes (by omega)).symm) (V.two_lit _)
  · exact leaf (congrArg V.two (no (by omega)).symm) (V.two_lit _)
  · exact leaf (congrArg V.two (yes (by omega)).symm) (V.two_lit _)

theorem number3 : PCall Try.prog 21 [.int .u8 3, .int .i64 a, .int .i64 b] (V.two (numV 3 a b)) := by
  refine pcall_of (lits3 (.int _ _) (.int _ _) (.int _ _)) (call21 rfl ?_)
  have yes := sum_yes ha ha' hb hb'
  have no := sum_no ha ha' hb hb'
  iterate 3 (all_goals (try conv => whnf); all_goals (try first | with_reducible refine brY (by assumption) ?_ | with_reducible refine brN (by assumption) ?_ | (with_reducible refine brT ?_ ?_; · (simp only [Bool.and_eq_true, Bool.not_eq_true', decide_eq_true_eq, decide_eq_false_iff_not, beq_iff_eq, beq_eq_false_iff_ne, ne_eq] at *; omega)) | with_reducible refine br (fun _ => ?_) (fun _ => ?_) | with_reducible refine ⟨rfl, ?_⟩ | with_reducible refine ARound.succ ?_))
  all_goals rename_i h
  all_goals simp only [wrap_left] at *
  all_goals simp only [Bool.not_eq_true', Bool.not_eq_false', beq_iff_eq, beq_eq_false_iff_ne, ne_eq, decide_eq_decide] at h
  · exact leaf (congrArg V.two (no (by omega)).symm) (V.two_lit _)
  · exact leaf (congrArg V.two (yes (by omega)).symm) (V.two_lit _)

theorem number5 : PCall Try.prog 21 [.int .u8 5, .int .i64 a, .int .i64 b] (V.two (numV 5 a b)) := by
  refine pcall_of (lits3 (.int _ _) (.int _ _) (.int _ _)) (call21 rfl ?_)
  have zero := mul_zero_ b
  have yes := mul_yes ha ha' hb hb'
  have no := mul_no ha ha' hb hb'
  iterate 8 (all_goals (try conv => whnf); all_goals (try first | with_reducible refine brY (by assumption) ?_ | with_reducible refine brN (by assumption) ?_ | (with_reducible refine brT ?_ ?_; · (simp only [Bool.and_eq_true, Bool.not_eq_true', decide_eq_true_eq, decide_eq_false_iff_not, beq_iff_eq, beq_eq_false_iff_ne, ne_eq] at *; omega)) | with_reducible refine br (fun _ => ?_) (fun _ => ?_) | with_reducible refine ⟨rfl, ?_⟩ | with_reducible refine ARound.succ ?_))
  all_goals try simp only [wrap_left] at *
  all_goals simp only [Bool.not_eq_true', Bool.not_eq_false', beq_iff_eq, beq_eq_false_iff_ne, ne_eq, decide_eq_true_eq, decide_eq_false_iff_not, cond_true, cond_false, Bool.not_true, Bool.not_false] at *
  · rename_i h; subst h; exact leaf (by rw [zero, Int.zero_mul, show wrap64 0 = 0 by unfold wrap64; omega]; rfl) (V.two_lit _)
  · exact leaf (congrArg V.two (no (by omega) (by omega)).symm) (V.two_lit _)
  · exact leaf (congrArg V.two (yes (by omega) (by omega) (by omega)).symm) (V.two_lit _)
  · exact leaf (congrArg V.two (yes (by omega) (by omega) (by omega)).symm) (V.two_lit _)
  · exact leaf (congrArg V.two (no (by omega) (by omega)).symm) (V.two_lit _)

theorem number6 : PCall Try.prog 21 [.int .u8 6, .int .i64 a, .int .i64 b] (V.two (numV 6 a b)) := by
  refine pcall_of (lits3 (.int _ _) (.int _ _) (.int _ _)) (call21 rfl ?_)
  iterate 5 (all_goals (try conv => whnf); all_goals (try first | with_reducible refine brY (by assumption) ?_ | with_reducible refine brN (by assumption) ?_ | (with_reducible refine brT ?_ ?_; · (simp only [Bool.and_eq_true, Bool.not_eq_true', decide_eq_true_eq, decide_eq_false_iff_not, beq_iff_eq, beq_eq_false_iff_ne, ne_eq] at *; omega)) | with_reducible refine br (fun _ => ?_) (fun _ => ?_) | with_reducible refine ⟨rfl, ?_⟩ | with_reducible refine ARound.succ ?_ | with_reducible refine PCall.call (number4 (by omega) (by omega) ha ha' (.inl rfl)) ?_))
  all_goals simp only [Bool.not_eq_true', Bool.not_eq_false', beq_iff_eq, beq_eq_false_iff_ne, ne_eq, decide_eq_true_eq, decide_eq_false_iff_not] at *
  · rename_i h; subst h; exact leaf (by rw [div_none (.inl rfl)]; rfl) (V.two_lit _)
  · rename_i h; subst h; exact leaf (by rw [div_neg]) (V.two_lit _)
  · refine leaf ?_ (V.two_lit _)
    rw [div_yes ha ha' hb hb' (by omega) (by omega), wrap_left]
    have := tdiv_in ha ha' hb hb' (by omega) (by omega)
    rw [show wrap64 (a.tdiv b) = a.tdiv b by unfold wrap64; omega]
    rfl

omit ha ha' in
theorem number7 : PCall Try.prog 21 [.int .u8 7, .int .i64 a, .int .i64 b] (V.two (numV 7 a b)) := by
  refine pcall_of (lits3 (.int _ _) (.int _ _) (.int _ _)) (call21 rfl ?_)
  iterate 5 (all_goals (try conv => whnf); all_goals (try first | with_reducible refine brY (by assumption) ?_ | with_reducible refine brN (by assumption) ?_ | (with_reducible refine brT ?_ ?_; · (simp only [Bool.and_eq_true, Bool.not_eq_true', decide_eq_true_eq, decide_eq_false_iff_not, beq_iff_eq, beq_eq_false_iff_ne, ne_eq] at *; omega)) | with_reducible refine br (fun _ => ?_) (fun _ => ?_) | with_reducible refine ⟨rfl, ?_⟩ | with_reducible refine ARound.succ ?_))
  all_goals simp only [Bool.not_eq_true', Bool.not_eq_false', beq_iff_eq, beq_eq_false_iff_ne, ne_eq, decide_eq_true_eq, decide_eq_false_iff_not] at *
  · rename_i h; subst h; exact leaf (by rw [div_none (.inr rfl)]; rfl) (V.two_lit _)
  · rename_i h; subst h; exact leaf (by rw [mod_yes (by omega), Int.tmod_neg, Int.tmod_one]; rfl) (V.two_lit _)
  · exact leaf (by rw [mod_yes (by omega)]; rfl) (V.two_lit _)
end
end Go.Proofs.Ytcklfcagailoiaa
