/- Of two values of a kind just one of less, equal and greater is true: the law's run. -/
import Derived.Test.YtcklfcagailoiaaVa5
namespace Go.Proofs.Ytcklfcagailoiaa
open Ab Go.RowKit
set_option maxRecDepth 100000
set_option linter.unusedSimpArgs false
set_option maxHeartbeats 4000000

theorem bytesLess_irrefl : ∀ t : List UInt8, Op.bytesLess t t = false
  | [] => rfl
  | a :: r => by simp [Op.bytesLess, bytesLess_irrefl r]
theorem cmpI_zero {a b : Int} : cmpI a b = 0 ↔ a = b := by unfold cmpI; (repeat' split) <;> omega
theorem cmpS_zero {s t : List UInt8} : cmpS s t = 0 ↔ s = t := by
  unfold cmpS
  split
  · rename_i h
    constructor
    · intro h'; omega
    · intro h'; subst h'; rw [bytesLess_irrefl] at h; cases h
  · split
    · rename_i h; simp at h; simp [h]
    · rename_i h; simp at h; simp [h]
theorem or3_zero {a b c : Int} : or3 a b c = 0 ↔ a = 0 ∧ b = 0 ∧ c = 0 := by unfold or3; (repeat' split) <;> omega
theorem cmpL_one (a b : V) : cmpL [a] [b] = cmpV a b := by
  unfold cmpL
  split
  · rfl
  · rename_i h
    simp only [ne_eq, Decidable.not_not] at h
    rw [h]
    rfl
theorem cmp_eq (a b : V) : (cmpL [a] [b] == 0) = eqV a b := by
  rw [cmpL_one]
  unfold cmpV eqV eq3
  rw [Bool.eq_iff_iff]
  simp only [beq_iff_eq, Bool.and_eq_true, or3_zero, cmpI_zero, cmpS_zero]
theorem eqV_refl (a : V) : eqV a a = true := by simp [eqV, eq3]
theorem okV_kind {a : V} (h : okV a = true) : a.k = 0 ∨ a.k = 1 ∨ a.k = 2 ∨ a.k = 3 := by
  unfold okV at h
  (repeat' split at h) <;> first | omega | cases h

theorem takes_cmp {op : Int} (h0 : 9 ≤ op) (h1 : op ≤ 14) : takes op = 2 := by unfold takes; rw [if_pos (by omega)]
theorem gives_cmp {op x y : Int} (h0 : 9 ≤ op) (h1 : op ≤ 14) (hx : x ≤ 3) (hy : y ≤ 3) (hx0 : 0 ≤ x) (hy0 : 0 ≤ y) : givesI op [x, y] = if x = y ∨ x = 0 ∨ y = 0 then (1, 0) else (0, 220) := by
  unfold givesI
  rw [takes_cmp h0 h1]
  simp only [List.length_cons, List.length_nil, List.any_cons, List.any_nil, Bool.or_false, Bool.or_eq_true, decide_eq_true_eq, List.getD_cons_zero, List.getD_cons_succ, allK, List.all_cons, List.all_nil, Bool.and_true, Bool.and_eq_true, beq_iff_eq]
  rw [if_neg (by omega), if_neg (by omega), if_neg (by omega), if_neg (by omega), if_neg (by omega), if_neg (by omega)]
  by_cases h : x = y ∨ x = 0 ∨ y = 0
  · rw [if_pos h, if_pos (by omega)]
  · rw [if_neg h, if_neg (by omega)]
theorem doV_bad {op : Int} {a b : V} (h0 : 9 ≤ op) (h1 : op ≤ 14) (ha : okV a = true) (hb : okV b = true) (hk : a.k ≠ b.k) (ha0 : a.k ≠ 0) (hb0 : b.k ≠ 0) : doV op [a, b] = (vnull, 220) := by
  have hg := gives_cmp (x := a.k) (y := b.k) h0 h1 (by have := okV_kind ha; omega) (by have := okV_kind hb; omega) (by have := okV_kind ha; omega) (by have := okV_kind hb; omega)
  rw [if_neg (by omega)] at hg
  unfold doV
  rw [takes_cmp h0 h1, if_neg (by simp), if_neg (by simp [ha, hb])]
  simp only [List.map_cons, List.map_nil, hg]
  rfl
theorem doV_null {op : Int} {a b : V} (h0 : 9 ≤ op) (h1 : op ≤ 14) (ha : okV a = true) (hb : okV b = true) (hk : a.k = 0 ∨ b.k = 0) : doV op [a, b] = (vnull, 0) := by
  have hg := gives_cmp (x := a.k) (y := b.k) h0 h1 (by have := okV_kind ha; omega) (by have := okV_kind hb; omega) (by have := okV_kind ha; omega) (by have := okV_kind hb; omega)
  rw [if_pos (by omega)] at hg
  unfold doV
  rw [takes_cmp h0 h1, if_neg (by simp), if_neg (by simp [ha, hb])]
  simp only [List.map_cons, List.map_nil, hg]
  rw [if_neg (by decide)]
  exact doOn_null (by omega) h1 (by simpa using hk)
theorem doV_cmp {op : Int} {a b : V} (h0 : 9 ≤ op) (h1 : op ≤ 14) (ha : okV a = true) (hb : okV b = true) (hk : a.k = b.k) (ha0 : a.k ≠ 0) (hb0 : b.k ≠ 0) : doV op [a, b] = (vbool (holdsI op (cmpL [a] [b])), 0) := by
  have hg := gives_cmp (x := a.k) (y := b.k) h0 h1 (by have := okV_kind ha; omega) (by have := okV_kind hb; omega) (by have := okV_kind ha; omega) (by have := okV_kind hb; omega)
  rw [if_pos (by omega)] at hg
  unfold doV
  rw [takes_cmp h0 h1, if_neg (by simp), if_neg (by simp [ha, hb])]
  simp only [List.map_cons, List.map_nil, hg]
  rw [if_neg (by decide)]
  exact doOn_cmp h0 h1 (by simp [ha0, hb0])

theorem is_yes {op : Int} (h : takes op = 2) {a b w : V} (ha : a.In) (hb : b.In) (e : isV op a b w = true) : PCall Try.prog 10 [.int .u8 op, a.sv, b.sv, w.sv] (.bool true) := by
  have h := is_any h ha hb w
  rw [e] at h
  exact h
theorem fails_yes {op : Int} (h : takes op = 2) {a b : V} {e : Int} (ha : a.In) (hb : b.In) (he : failsV op a b e = true) : PCall Try.prog 12 [.int .u8 op, a.sv, b.sv, .int .i64 e] (.bool true) := by
  have h := fails_any h ha hb e
  rw [he] at h
  exact h
theorem isV_of {op : Int} {a b w : V} (h : doV op [a, b] = (w, 0)) : isV op a b w = true := by unfold isV; rw [h]; simp [eqV_refl]
theorem failsV_of {op : Int} {a b : V} {e : Int} (h : doV op [a, b] = (vnull, e)) : failsV op a b e = true := by unfold failsV; rw [h]; simp [eqV_refl]

theorem order_bad {x y : V} (h : (chk x != 0) = true ∨ (chk x != 0) = false ∧ (chk y != 0) = true) : PCall Try.prog 4 [x.sv, y.sv] (.bool true) := by
  refine pcall_of (lits2 (V.lit _) (V.lit _)) (call4 rfl ?_)
  rcases h with h | ⟨h, h'⟩
  all_goals iterate 14 (all_goals (try conv => whnf); all_goals (try first | with_reducible refine brY (by assumption) ?_ | with_reducible refine brN (by assumption) ?_ | (with_reducible refine brT ?_ ?_; · (simp only [Bool.and_eq_true, Bool.not_eq_true', decide_eq_true_eq, decide_eq_false_iff_not, beq_iff_eq, beq_eq_false_iff_ne, ne_eq] at *; omega)) | with_reducible refine br (fun _ => ?_) (fun _ => ?_) | with_reducible refine ⟨rfl, ?_⟩ | with_reducible refine ARound.succ ?_ | with_reducible refine PCall.call (lives_any) ?_ | with_reducible refine PCall.call (check_any x) ?_ | with_reducible refine PCall.call (check_any y) ?_))
  all_goals exact leaf rfl (.bool _)
section
variable {x y : V} (hx : x.In) (hy : y.In) (cx : (chk x != 0) = false) (cy : (chk y != 0) = false)
include hx hy cx cy
theorem order_null (ox : okV x = true) (oy : okV y = true) (h : (x.k == 0) = true ∨ (x.k == 0) = false ∧ (y.k == 0) = true) : PCall Try.prog 4 [x.sv, y.sv] (.bool true) := by
  have hk : x.k = 0 ∨ y.k = 0 := by
    rcases h with h | ⟨_, h⟩
    · exact .inl (by simpa using h)
    · exact .inr (by simpa using h)
  have i11 := is_yes (op := 11) rfl hx hy (isV_of (doV_null (by decide) (by decide) ox oy hk))
  have i9 := is_yes (op := 9) rfl hx hy (isV_of (doV_null (by decide) (by decide) ox oy hk))
  have i14 := is_yes (op := 14) rfl hx hy (isV_of (doV_null (by decide) (by decide) ox oy hk))
  refine pcall_of (lits2 (V.lit _) (V.lit _)) (call4 rfl ?_)
  rcases h with h | ⟨h, h'⟩
  all_goals iterate 30 (all_goals (try conv => whnf); all_goals (try first | with_reducible refine brY (by assumption) ?_ | with_reducible refine brN (by assumption) ?_ | (with_reducible refine brT ?_ ?_; · (simp only [Bool.and_eq_true, Bool.not_eq_true', decide_eq_true_eq, decide_eq_false_iff_not, beq_iff_eq, beq_eq_false_iff_ne, ne_eq] at *; omega)) | with_reducible refine br (fun _ => ?_) (fun _ => ?_) | with_reducible refine ⟨rfl, ?_⟩ | with_reducible refine ARound.succ ?_ | with_reducible refine PCall.call (lives_any) ?_ | with_reducible refine PCall.call (check_any x) ?_ | with_reducible refine PCall.call (check_any y) ?_ | (refine PCall.call i11 ?_) | (refine PCall.call i9 ?_) | (refine PCall.call i14 ?_)))
  all_goals exact leaf rfl (.bool _)
theorem order_apart (ox : okV x = true) (oy : okV y = true) (hx0 : (x.k == 0) = false) (hy0 : (y.k == 0) = false) (hk : (x.k != y.k) = true) : PCall Try.prog 4 [x.sv, y.sv] (.bool true) := by
  have i11 := fails_yes (op := 11) rfl hx hy (failsV_of (doV_bad (by decide) (by decide) ox oy (by simpa using hk) (by simpa using hx0) (by simpa using hy0)))
  have i9 := fails_yes (op := 9) rfl hx hy (failsV_of (doV_bad (by decide) (by decide) ox oy (by simpa using hk) (by simpa using hx0) (by simpa using hy0)))
  refine pcall_of (lits2 (V.lit _) (V.lit _)) (call4 rfl ?_)
  iterate 30 (all_goals (try conv => whnf); all_goals (try first | with_reducible refine brY (by assumption) ?_ | with_reducible refine brN (by assumption) ?_ | (with_reducible refine brT ?_ ?_; · (simp only [Bool.and_eq_true, Bool.not_eq_true', decide_eq_true_eq, decide_eq_false_iff_not, beq_iff_eq, beq_eq_false_iff_ne, ne_eq] at *; omega)) | with_reducible refine br (fun _ => ?_) (fun _ => ?_) | with_reducible refine ⟨rfl, ?_⟩ | with_reducible refine ARound.succ ?_ | with_reducible refine PCall.call (lives_any) ?_ | with_reducible refine PCall.call (check_any x) ?_ | with_reducible refine PCall.call (check_any y) ?_ | (refine PCall.call i11 ?_) | (refine PCall.call i9 ?_)))
  all_goals exact leaf rfl (.bool _)
theorem order_same (ox : okV x = true) (oy : okV y = true) (hx0 : (x.k == 0) = false) (hy0 : (y.k == 0) = false) (hk : (x.k != y.k) = false) : PCall Try.prog 4 [x.sv, y.sv] (.bool true) := by
  have e : ∀ op : Int, 9 ≤ op → op ≤ 14 → doV op [x, y] = (vbool (holdsI op (cmpL [x] [y])), 0) := fun op h0 h1 => doV_cmp h0 h1 ox oy (by simpa using hk) (by simpa using hx0) (by simpa using hy0)
  have e9 : holdsI 9 (cmpL [x] [y]) = eqV x y := by rw [← cmp_eq]; rfl
  have e10 : holdsI 10 (cmpL [x] [y]) = !eqV x y := by rw [← cmp_eq]; rfl
  have i11 := is_yes (op := 11) (w := vbool (decide (cmpL [x] [y] < 0))) rfl hx hy (isV_of (e 11 (by decide) (by decide)))
  have i9 := is_yes (op := 9) (w := vbool (eqV x y)) rfl hx hy (isV_of (by rw [← e9]; exact e 9 (by decide) (by decide)))
  have i13 := is_yes (op := 13) (w := vbool (decide (0 < cmpL [x] [y]))) rfl hx hy (isV_of (e 13 (by decide) (by decide)))
  have i10 := is_yes (op := 10) (w := vbool (!eqV x y)) rfl hx hy (isV_of (by rw [← e10]; exact e 10 (by decide) (by decide)))
  have i12 := is_yes (op := 12) (w := vbool (decide (cmpL [x] [y] ≤ 0))) rfl hx hy (isV_of (e 12 (by decide) (by decide)))
  have i14 := is_yes (op := 14) (w := vbool (decide (0 ≤ cmpL [x] [y]))) rfl hx hy (isV_of (e 14 (by decide) (by decide)))
  refine pcall_of (lits2 (V.lit _) (V.lit _)) (call4 rfl ?_)
  iterate 60 (all_goals (try conv => whnf); all_goals (try first | with_reducible refine brY (by assumption) ?_ | with_reducible refine brN (by assumption) ?_ | (with_reducible refine brT ?_ ?_; · (simp only [Bool.and_eq_true, Bool.not_eq_true', decide_eq_true_eq, decide_eq_false_iff_not, beq_iff_eq, beq_eq_false_iff_ne, ne_eq] at *; omega)) | with_reducible refine br (fun _ => ?_) (fun _ => ?_) | with_reducible refine ⟨rfl, ?_⟩ | with_reducible refine ARound.succ ?_ | with_reducible refine PCall.call (lives_any) ?_ | with_reducible refine PCall.call (check_any x) ?_ | with_reducible refine PCall.call (check_any y) ?_ | (refine PCall.call (compare_any [x] [y] (by simp)) ?_) | (refine ACall.freeze (fun i => (Nat.beq i 2).or (Nat.beq i 3)) (.cons (hardV1 (x := x) rfl) (.cons (hardV1 (x := y) rfl) .nil)) ?_) | with_reducible refine PCall.call (truthL_any _) ?_ | (refine PCall.call (truthL_any (eqV x y)) ?_) | (refine PCall.call (truthL_any (!eqV x y)) ?_) | (refine PCall.call i11 ?_) | (refine PCall.call i9 ?_) | (refine PCall.call i13 ?_) | (refine PCall.call i10 ?_) | (refine PCall.call i12 ?_) | (refine PCall.call i14 ?_)))
  all_goals first | exact leaf rfl (.bool _) | skip
end
theorem order_any {x y : V} (hx : x.In) (hy : y.In) : PCall Try.prog 4 [x.sv, y.sv] (.bool true) := by
  cases ox : okV x with
  | false => exact order_bad (.inl (by simp [chk, ox]))
  | true =>
  have cx : (chk x != 0) = false := by simp [chk, ox]
  cases oy : okV y with
  | false => exact order_bad (.inr ⟨cx, by simp [chk, oy]⟩)
  | true =>
  have cy : (chk y != 0) = false := by simp [chk, oy]
  cases hx0 : x.k == 0 with
  | true => exact order_null hx hy cx cy ox oy (.inl hx0)
  | false =>
  cases hy0 : y.k == 0 with
  | true => exact order_null hx hy cx cy ox oy (.inr ⟨hx0, hy0⟩)
  | false =>
  cases hk : x.k != y.k with
  | true => exact order_apart hx hy cx cy ox oy hx0 hy0 hk
  | false => exact order_same hx hy cx cy ox oy hx0 hy0 hk
end Go.Proofs.Ytcklfcagailoiaa
