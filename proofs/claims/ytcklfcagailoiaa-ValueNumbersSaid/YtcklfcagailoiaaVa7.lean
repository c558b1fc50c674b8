/- Sums, products and quotients are those of whole numbers, or are refused: the law's run. -/
import Derived.Test.YtcklfcagailoiaaVa5
namespace Go.Proofs.Ytcklfcagailoiaa
open Ab Go.RowKit
set_option maxRecDepth 100000
set_option linter.unusedSimpArgs false
set_option maxHeartbeats 4000000

theorem doV_int (op a b : Int) (h0 : 3 ≤ op) (h1 : op ≤ 7) : doV op [vint a, vint b] = numV op a b := by
  have ht : takes op = 2 := by unfold takes; rw [if_pos (by omega)]
  have hg : (givesI op [2, 2]).2 = 0 := by
    unfold givesI
    simp only [ht]
    rw [if_neg (by simp), if_neg (by simp), if_pos (.inl ⟨h0, h1⟩)]
    rfl
  unfold doV
  rw [if_neg (by rw [ht]; simp), if_neg (by simp [okV, vint]), if_neg (by simpa [vint] using hg)]
  exact doOn_num h0 h1 rfl

theorem num3 {a b : Int} (h : -9223372036854775808 ≤ a + b ∧ a + b ≤ 9223372036854775807) : numV 3 a b = (vint (a + b), 0) :=
  numV_ok (by unfold numI; rw [if_pos rfl, if_pos (inI_iff.2 h)])
theorem num3n {a b : Int} (h : ¬ (-9223372036854775808 ≤ a + b ∧ a + b ≤ 9223372036854775807)) : numV 3 a b = (vnull, 221) :=
  numV_no (by decide) (by unfold numI; rw [if_pos rfl, if_neg (by rw [inI_not.2 h]; decide)])
theorem num4 {a b : Int} (h : -9223372036854775808 ≤ a - b ∧ a - b ≤ 9223372036854775807) : numV 4 a b = (vint (a - b), 0) :=
  numV_ok (by unfold numI; rw [if_neg (by decide), if_pos (.inl rfl), if_pos (inI_iff.2 h)])
theorem num5 {a b : Int} (h : -9223372036854775808 ≤ a * b ∧ a * b ≤ 9223372036854775807) : numV 5 a b = (vint (a * b), 0) :=
  numV_ok (by unfold numI; rw [if_neg (by decide), if_neg (by decide), if_pos rfl, if_pos (inI_iff.2 h)])
theorem num5n {a b : Int} (h : ¬ (-9223372036854775808 ≤ a * b ∧ a * b ≤ 9223372036854775807)) : numV 5 a b = (vnull, 221) :=
  numV_no (by decide) (by unfold numI; rw [if_neg (by decide), if_neg (by decide), if_pos rfl, if_neg (by rw [inI_not.2 h]; decide)])
theorem num6 {a b : Int} (h0 : b ≠ 0) (h : -9223372036854775808 ≤ a.tdiv b ∧ a.tdiv b ≤ 9223372036854775807) : numV 6 a b = (vint (a.tdiv b), 0) :=
  numV_ok (by unfold numI; rw [if_neg (by decide), if_neg (by decide), if_neg (by decide), if_neg h0, if_neg (by decide), if_pos (inI_iff.2 h)])
theorem num7 {a b : Int} (h0 : b ≠ 0) : numV 7 a b = (vint (a.tmod b), 0) := mod_yes h0
theorem num6o : numV 6 (-9223372036854775808) (-1) = (vnull, 221) := numV_no (by decide) (by decide +kernel)
theorem num7o : numV 7 (-9223372036854775808) (-1) = (vint 0, 0) := numV_ok (by decide +kernel)
theorem tmod_sign {a b : Int} (h : a.tmod b ≠ 0) : (a.tmod b < 0) ↔ (a < 0) := by
  constructor
  · intro h1
    by_cases h2 : a < 0
    · exact h2
    · have := Int.tmod_nonneg b (a := a) (by omega); omega
  · intro h1
    by_cases h2 : a.tmod b < 0
    · exact h2
    · exfalso
      have h3 : 0 ≤ (-a).tmod b := Int.tmod_nonneg b (by omega)
      rw [Int.neg_tmod] at h3
      omega
theorem tmod_in {a b : Int} (ha : -9223372036854775808 ≤ a) (ha' : a ≤ 9223372036854775807) : -9223372036854775808 ≤ a.tmod b ∧ a.tmod b ≤ 9223372036854775807 := by
  have h : (a.tmod b).natAbs ≤ a.natAbs := by rw [Int.natAbs_tmod]; exact Nat.mod_le _ _
  by_cases h0 : a.tmod b = 0
  · omega
  · have := tmod_sign h0
    omega
theorem quo_rem (a b : Int) : a.tdiv b * b + a.tmod b = a := by
  have h1 := Int.mul_tdiv_add_tmod a b
  rw [Int.mul_comm] at h1
  exact h1
theorem quo_back {a b : Int} (ha : -9223372036854775808 ≤ a) (ha' : a ≤ 9223372036854775807) : -9223372036854775808 ≤ a.tdiv b * b ∧ a.tdiv b * b ≤ 9223372036854775807 := by
  have h1 := quo_rem a b
  by_cases hr : a.tmod b = 0
  · omega
  · have := tmod_sign hr
    have h : (a.tmod b).natAbs ≤ a.natAbs := by rw [Int.natAbs_tmod]; exact Nat.mod_le _ _
    omega
theorem small_mul {a b : Int} (h1 : -2147483648 < a) (h2 : a < 2147483648) (h3 : -2147483648 < b) (h4 : b < 2147483648) : -9223372036854775808 ≤ a * b ∧ a * b ≤ 9223372036854775807 := by
  have h : (a * b).natAbs ≤ 2147483648 * 2147483648 := by rw [Int.natAbs_mul]; exact Nat.mul_le_mul (by omega) (by omega)
  omega

/-- An operation on two numbers that come to what is told. -/
theorem do_int {op a b : Int} {p : V × Int} (h0 : 3 ≤ op) (h1 : op ≤ 7) (ha : -9223372036854775808 ≤ a ∧ a ≤ 9223372036854775807) (hb : -9223372036854775808 ≤ b ∧ b ≤ 9223372036854775807) (hp : numV op a b = p) :
    PCall Try.prog 9 [.int .u8 op, twoV (vint a) (vint b)] (V.two p) := by
  have h := do2 (x := vint a) (y := vint b) ha.1 ha.2 hb.1 hb.2 (op := op) (by unfold takes; rw [if_pos (by omega)])
  rw [doV_int op a b h0 h1, hp] at h
  exact h
theorem is_int {op a b c : Int} (h0 : 3 ≤ op) (h1 : op ≤ 7) (ha : -9223372036854775808 ≤ a ∧ a ≤ 9223372036854775807) (hb : -9223372036854775808 ≤ b ∧ b ≤ 9223372036854775807) (hp : numV op a b = (vint c, 0)) :
    PCall Try.prog 10 [.int .u8 op, (vint a).sv, (vint b).sv, (vint c).sv] (.bool true) := by
  have h := is_any (op := op) (by unfold takes; rw [if_pos (by omega)]) (vint_in ha.1 ha.2) (vint_in hb.1 hb.2) (vint c)
  unfold isV at h
  rw [doV_int op a b h0 h1, hp] at h
  have e : ((vint c, (0 : Int)).2 == 0 && eqV (vint c, (0 : Int)).1 (vint c)) = true := by simp [eqV, eq3]
  rw [e] at h
  exact h

section
variable {a b : Int} (ha : -9223372036854775808 ≤ a ∧ a ≤ 9223372036854775807) (hb : -9223372036854775808 ≤ b ∧ b ≤ 9223372036854775807)
include ha hb
theorem numbers_fit (h3 : (-9223372036854775808 ≤ a + b ∧ a + b ≤ 9223372036854775807)) (h5 : (-9223372036854775808 ≤ a * b ∧ a * b ≤ 9223372036854775807)) (hz : b ≠ 0)
    {q r : Int} (h6 : numV 6 a b = (vint q, 0)) (h7 : numV 7 a b = (vint r, 0)) (hq : -9223372036854775808 ≤ q ∧ q ≤ 9223372036854775807) (hr : -9223372036854775808 ≤ r ∧ r ≤ 9223372036854775807)
    (ht : -9223372036854775808 ≤ q * b ∧ q * b ≤ 9223372036854775807) (hs : r ≠ 0 → (r < 0 ↔ a < 0)) (hqr : q * b + r = a) :
    PCall Try.prog 3 [.int .i64 a, .int .i64 b] (.bool true) := by
  have e3 : IntKind.i64.wrap (a + b) = a + b := by rw [IntKind.wrap_i64]; omega
  have e5 : IntKind.i64.wrap (a * b) = a * b := by rw [IntKind.wrap_i64]; generalize a * b = p at *; omega
  refine pcall_of (lits2 (.int _ _) (.int _ _)) (call3 rfl ?_)
  have c3 := do_int (op := 3) (by decide) (by decide) ha hb (num3 h3)
  have c5 := do_int (op := 5) (by decide) (by decide) ha hb (num5 h5)
  have c6 := do_int (op := 6) (by decide) (by decide) ha hb h6
  have c7 := do_int (op := 7) (by decide) (by decide) ha hb h7
  have ct := do_int (op := 5) (by decide) (by decide) hq hb (num5 ht)
  have i3 := is_int (op := 3) (c := a) (by decide) (by decide) ht hr (by rw [num3 (by rw [hqr]; exact ha), hqr])
  have i4 := is_int (op := 4) (c := a) (by decide) (by decide) h3 hb (by rw [num4 (by omega)]; congr 2; omega)
  have i6 := is_int (op := 6) (c := a) (by decide) (by decide) h5 hb (by rw [num6 hz (by rw [Int.mul_tdiv_cancel a hz]; exact ha), Int.mul_tdiv_cancel a hz])
  iterate 60 (all_goals (try conv => whnf); all_goals (try first | with_reducible refine brY (by assumption) ?_ | with_reducible refine brN (by assumption) ?_ | (with_reducible refine brT ?_ ?_; · (simp only [Bool.and_eq_true, Bool.not_eq_true', decide_eq_true_eq, decide_eq_false_iff_not, beq_iff_eq, beq_eq_false_iff_ne, ne_eq] at *; omega)) | with_reducible refine br (fun _ => ?_) (fun _ => ?_) | with_reducible refine ⟨rfl, ?_⟩ | with_reducible refine ARound.succ ?_ | with_reducible refine PCall.call (lives_any) ?_ | with_reducible refine PCall.call (numberL_any _) ?_ | (refine ACall.frz2 (.int _ _) (hardV2 (x := vint a) (y := vint b) rfl) ?_) | (refine ACall.frz2 (.int _ _) (hardV2 (x := vint q) (y := vint b) rfl) ?_) | (refine PCall.call c3 ?_) | (refine PCall.call c5 ?_) | (refine PCall.call c6 ?_) | (refine PCall.call c7 ?_) | (refine PCall.call ct ?_) | (refine PCall.call i3 ?_) | (refine PCall.call i4 ?_) | (refine PCall.call i6 ?_)))
  all_goals first
    | exact leaf rfl (.bool _)
    | (exfalso; clear h6 h7 c3 c5 c6 c7 ct i3 i4 i6; simp [vint, vnull, e3, e5] at *; done)
    | (exfalso; clear h6 h7 c3 c5 c6 c7 ct i3 i4 i6; simp [vint, vnull, e3, e5] at *; rename_i hx; apply hx; have hs1 := hs (by assumption); by_cases hr0 : r < 0 <;> by_cases ha0 : a < 0 <;> simp [hr0, ha0] <;> omega)
    | (exfalso; clear h6 h7 c3 c5 c6 c7 ct i3 i4 i6; simp [vint, vnull, e3, e5] at *; omega)
    | (exfalso; exact e5 (of_decide_eq_true (by assumption)) (of_decide_eq_true (by assumption)) (of_decide_eq_true (by assumption)) (of_decide_eq_true (by assumption)))
theorem numbers_zero (hz : b = 0) : PCall Try.prog 3 [.int .i64 a, .int .i64 b] (.bool true) := by
  have h3 : -9223372036854775808 ≤ a + b ∧ a + b ≤ 9223372036854775807 := by omega
  have h5 : -9223372036854775808 ≤ a * b ∧ a * b ≤ 9223372036854775807 := by subst hz; simp
  have e3 : IntKind.i64.wrap (a + b) = a + b := by rw [IntKind.wrap_i64]; omega
  have e5 : IntKind.i64.wrap (a * b) = a * b := by rw [IntKind.wrap_i64]; generalize a * b = p at *; omega
  have z1 : (b != 0) = false := by simp [hz]
  have z2 : (b == 0) = true := by simp [hz]
  refine pcall_of (lits2 (.int _ _) (.int _ _)) (call3 rfl ?_)
  have c3 := do_int (op := 3) (by decide) (by decide) ha hb (num3 h3)
  have c5 := do_int (op := 5) (by decide) (by decide) ha hb (num5 h5)
  have c6 := do_int (op := 6) (p := (vnull, 222)) (by decide) (by decide) ha hb (by subst hz; exact div_none (.inl rfl))
  have c7 := do_int (op := 7) (p := (vnull, 222)) (by decide) (by decide) ha hb (by subst hz; exact div_none (.inr rfl))
  have i4 := is_int (op := 4) (c := a) (by decide) (by decide) h3 hb (by rw [num4 (by omega)]; congr 2; omega)
  iterate 60 (all_goals (try conv => whnf); all_goals (try first | with_reducible refine brY (by assumption) ?_ | with_reducible refine brN (by assumption) ?_ | (with_reducible refine brT ?_ ?_; · (simp only [Bool.and_eq_true, Bool.not_eq_true', decide_eq_true_eq, decide_eq_false_iff_not, beq_iff_eq, beq_eq_false_iff_ne, ne_eq] at *; omega)) | with_reducible refine br (fun _ => ?_) (fun _ => ?_) | with_reducible refine ⟨rfl, ?_⟩ | with_reducible refine ARound.succ ?_ | with_reducible refine PCall.call (lives_any) ?_ | with_reducible refine PCall.call (numberL_any _) ?_ | (refine ACall.frz2 (.int _ _) (hardV2 (x := vint a) (y := vint b) rfl) ?_) | (refine PCall.call c3 ?_) | (refine PCall.call c5 ?_) | (refine PCall.call c6 ?_) | (refine PCall.call c7 ?_) | (refine PCall.call i4 ?_)))
  all_goals first
    | exact leaf rfl (.bool _)
    | (exfalso; clear c3 c5 c6 c7 i4; simp [vint, vnull, e3, e5] at *; done)
    | (exfalso; clear c3 c5 c6 c7 i4; simp [vint, vnull, e3, e5] at *; rename_i hx; apply hx; have hs1 := hs (by assumption); by_cases hr0 : r < 0 <;> by_cases ha0 : a < 0 <;> simp [hr0, ha0] <;> omega)
    | (exfalso; clear c3 c5 c6 c7 i4; simp [vint, vnull, e3, e5] at *; omega)
    | (exfalso; exact e5 (of_decide_eq_true (by assumption)) (of_decide_eq_true (by assumption)) (of_decide_eq_true (by assumption)) (of_decide_eq_true (by assumption)))
end
theorem numbers_least : PCall Try.prog 3 [.int .i64 (-9223372036854775808), .int .i64 (-1)] (.bool true) := by
  refine pcall_of (lits2 (.int _ _) (.int _ _)) (call3 rfl ?_)
  have c3 := do_int (op := 3) (a := -9223372036854775808) (b := -1) (by decide) (by decide) (by decide) (by decide) (num3n (by decide))
  have c5 := do_int (op := 5) (a := -9223372036854775808) (b := -1) (by decide) (by decide) (by decide) (by decide) (num5n (by decide))
  have c6 := do_int (op := 6) (a := -9223372036854775808) (b := -1) (by decide) (by decide) (by decide) (by decide) num6o
  have c7 := do_int (op := 7) (a := -9223372036854775808) (b := -1) (by decide) (by decide) (by decide) (by decide) num7o
  iterate 60 (all_goals (try conv => whnf); all_goals (try first | with_reducible refine brY (by assumption) ?_ | with_reducible refine brN (by assumption) ?_ | (with_reducible refine brT ?_ ?_; · (simp only [Bool.and_eq_true, Bool.not_eq_true', decide_eq_true_eq, decide_eq_false_iff_not, beq_iff_eq, beq_eq_false_iff_ne, ne_eq] at *; omega)) | with_reducible refine br (fun _ => ?_) (fun _ => ?_) | with_reducible refine ⟨rfl, ?_⟩ | with_reducible refine ARound.succ ?_ | with_reducible refine PCall.call (lives_any) ?_ | with_reducible refine PCall.call (numberL_any _) ?_ | (refine ACall.frz2 (.int _ _) (hardV2 (x := vint (-9223372036854775808)) (y := vint (-1)) rfl) ?_) | (refine PCall.call c3 ?_) | (refine PCall.call c5 ?_) | (refine PCall.call c6 ?_) | (refine PCall.call c7 ?_)))
  all_goals exact leaf rfl (.bool _)
end Go.Proofs.Ytcklfcagailoiaa
