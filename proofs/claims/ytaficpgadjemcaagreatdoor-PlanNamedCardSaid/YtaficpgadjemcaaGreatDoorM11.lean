/- Parts of the proof of PnP, one behind the other. -/
import Derived.Test.YtaficpgadjemcaaGreatDoorM10
import Derived.Test.YtaficpgadjemcaaGreatDoorM6
namespace Go.Proofs.YtaficpgadjemcaaGreatDoor
set_option linter.unusedVariables false
set_option linter.unusedSimpArgs false
inductive Xp where
  | mk (op : Int) (v : V) (tb nm : List UInt8) (slot kd : Int) (args : List Xp)
def xnull : Xp := .mk 0 vnull [] [] 0 0 []
mutual
def sizeX : Xp → Nat → Nat
  | .mk _ _ _ _ _ _ args, most => sizesX args 1 most
def sizesX : List Xp → Nat → Nat → Nat
  | [], n, _ => n
  | y :: r, n, most => if n < most then sizesX r (n + sizeX y (most - n)) most else n
end
mutual
def totX : Xp → Nat
  | .mk _ _ _ _ _ _ args => totsX args + 1
def totsX : List Xp → Nat
  | [] => 0
  | y :: r => totX y + totsX r
end
theorem totX_pos : ∀ x, 1 ≤ totX x
  | .mk _ _ _ _ _ _ args => by rw [totX]; omega
theorem tots_len : ∀ l : List Xp, l.length ≤ totsX l
  | [] => Nat.le_refl _
  | y :: r => by rw [totsX, List.length_cons]; have := tots_len r; have := totX_pos y; omega
mutual
/-- It is counted up to most; what is below is all. -/
theorem sizeX_le : ∀ (x : Xp) (most : Nat), 1 ≤ most → 1 ≤ sizeX x most ∧ sizeX x most ≤ most ∧ (sizeX x most < most → sizeX x most = totX x)
  | .mk _ _ _ _ _ _ args, most, h => by
    rw [sizeX, totX]
    have := sizesX_le args 1 most h
    omega
theorem sizesX_le : ∀ (l : List Xp) (n most : Nat), n ≤ most → n ≤ sizesX l n most ∧ sizesX l n most ≤ most ∧ (sizesX l n most < most → sizesX l n most = n + totsX l)
  | [], n, most, h => by rw [sizesX, totsX]; omega
  | y :: r, n, most, h => by
    rw [sizesX, totsX]
    by_cases hn : n < most
    · rw [if_pos hn]
      have h1 := sizeX_le y (most - n) (by omega)
      have h2 := sizesX_le r (n + sizeX y (most - n)) most (by omega)
      refine ⟨by omega, h2.2.1, fun h3 => ?_⟩
      have h4 := h2.2.2 h3
      have h5 := h1.2.2 (by omega)
      omega
    · rw [if_neg hn]; omega
end
mutual
def namedX : Xp → Int → Bool
  | .mk op _ _ _ slot _ args, s => namedsX args s || (op == 2 && slot == s)
def namedsX : List Xp → Int → Bool
  | [], _ => false
  | y :: r, s => namedX y s || namedsX r s
end
mutual
def evalX : Xp → List V → V × Int
  | .mk op v _ _ slot _ args, row =>
    if op = 1 then (v, 0)
    else if op = 2 then (if 0 ≤ slot ∧ slot < (row.length : Int) then (row.getD slot.toNat vnull, 0) else (vnull, 2))
    else if takes op = 0 then (vnull, 2)
    else if (evalsX args row).1 = 0 then doV op (evalsX args row).2 else (vnull, (evalsX args row).1)
/-- The first error; the values. -/
def evalsX : List Xp → List V → Int × List V
  | [], _ => (0, [])
  | y :: r, row => if (evalX y row).2 = 0 then ((evalsX r row).1, (evalX y row).1 :: (evalsX r row).2) else ((evalX y row).2, [])
end
mutual
theorem evalX_named : ∀ (x : Xp) (a b : List V), a.length = b.length → (∀ i : Nat, i < a.length → namedX x (i : Int) = true → a.getD i vnull = b.getD i vnull) → evalX x a = evalX x b
  | .mk op v tb nm slot kd args, a, b, hl, h => by
    rw [evalX, evalX, hl]
    by_cases h1 : op = 1
    · rw [if_pos h1, if_pos h1]
    rw [if_neg h1, if_neg h1]
    by_cases h2 : op = 2
    · rw [if_pos h2, if_pos h2]
      by_cases h3 : 0 ≤ slot ∧ slot < (b.length : Int)
      · rw [if_pos h3, if_pos h3]
        have := h slot.toNat (by omega) (by rw [namedX]; subst h2; rw [show ((slot.toNat : Nat) : Int) = slot by omega]; simp)
        rw [this]
      · rw [if_neg h3, if_neg h3]
    rw [if_neg h2, if_neg h2]
    have he := evalsX_named args a b hl fun i hi hn => h i hi (by rw [namedX, hn]; rfl)
    rw [he]
theorem evalsX_named : ∀ (l : List Xp) (a b : List V), a.length = b.length → (∀ i : Nat, i < a.length → namedsX l (i : Int) = true → a.getD i vnull = b.getD i vnull) → evalsX l a = evalsX l b
  | [], a, b, hl, h => by rw [evalsX, evalsX]
  | y :: r, a, b, hl, h => by
    rw [evalsX, evalsX, evalX_named y a b hl fun i hi hn => h i hi (by rw [namedsX, hn]; rfl), evalsX_named r a b hl fun i hi hn => h i hi (by rw [namedsX, hn, Bool.or_true])]
end
/-- A row with the values of another one at some slots. -/
def mixV (p : Nat → Bool) (a b : List V) : Nat → List V
  | 0 => b
  | n+1 => if p n then (mixV p a b n).set n (a.getD n vnull) else mixV p a b n
theorem mixV_len (p : Nat → Bool) (a b : List V) : ∀ n, (mixV p a b n).length = b.length
  | 0 => rfl
  | n+1 => by rw [mixV]; split <;> simp [mixV_len p a b n]
theorem mixV_get (p : Nat → Bool) (a b : List V) : ∀ (n i : Nat), i < n → i < b.length → p i = true → (mixV p a b n).getD i vnull = a.getD i vnull
  | 0, i, h, _, _ => by omega
  | n+1, i, h, hb, hp => by
    rw [mixV]
    by_cases e : i = n
    · subst e
      rw [if_pos hp]
      simp [List.getD, List.getElem?_set, mixV_len, hb]
    · have ih := mixV_get p a b n i (by omega) hb hp
      split
      · rw [← ih]
        simp [List.getD, List.getElem?_set, Ne.symm e]
      · exact ih
theorem mixV_mem (p : Nat → Bool) (a b : List V) : ∀ n, n ≤ a.length → ∀ v ∈ mixV p a b n, v ∈ a ∨ v ∈ b
  | 0, _, v, h => .inr h
  | n+1, hn, v, h => by
    rw [mixV] at h
    split at h
    · rcases List.mem_or_eq_of_mem_set h with h | h
      · exact mixV_mem p a b n (by omega) v h
      · refine .inl ?_
        subst h
        rw [show a.getD n vnull = a[n]'(by omega) by simp [List.getD, show n < a.length by omega]]
        exact List.getElem_mem _
    · exact mixV_mem p a b n (by omega) v h
/-- The law. -/
theorem evalX_mix (x : Xp) (a b : List V) (hl : a.length = b.length) : evalX x a = evalX x (mixV (fun i => namedX x (i : Int)) a b a.length) :=
  evalX_named x a _ (by rw [mixV_len, hl]) fun i hi hn => (mixV_get _ a b a.length i hi (by omega) hn).symm
end Go.Proofs.YtaficpgadjemcaaGreatDoor
namespace Go.Proofs.YtaficpgadjemcaaGreatDoor
open Ab Go.RowKit
set_option maxRecDepth 100000
set_option linter.unusedVariables false
set_option linter.unusedSimpArgs false
set_option maxHeartbeats 4000000
structure V.In (v : V) : Prop where
  k0 : 0 ≤ v.k
  lo : -9223372036854775808 ≤ v.n
  hi : v.n ≤ 9223372036854775807
theorem vint_in {n : Int} (h : -9223372036854775808 ≤ n) (h' : n ≤ 9223372036854775807) : (vint n).In := ⟨by show (0:Int) ≤ 2; decide, h, h'⟩
theorem vbool_in (b : Bool) : (vbool b).In := ⟨by cases b <;> decide, by cases b <;> decide, by cases b <;> decide⟩
theorem vnull_in : vnull.In := ⟨by decide, by decide, by decide⟩
theorem numI_in {op a b : Int} (ha : -9223372036854775808 ≤ a) (ha' : a ≤ 9223372036854775807) (hb : -9223372036854775808 ≤ b) (hb' : b ≤ 9223372036854775807) : -9223372036854775808 ≤ (numI op a b).1 ∧ (numI op a b).1 ≤ 9223372036854775807 := by
  unfold numI
  split
  · split
    · rename_i h; exact inI_iff.1 h
    · exact ⟨by decide, by decide⟩
  split
  · split
    · rename_i h; exact inI_iff.1 h
    · exact ⟨by decide, by decide⟩
  split
  · split
    · rename_i h; exact inI_iff.1 h
    · exact ⟨by decide, by decide⟩
  split
  · exact ⟨by decide, by decide⟩
  split
  · rename_i h0 h7
    have : (a.tmod b).natAbs < b.natAbs := by
      rw [Int.natAbs_tmod]; exact Nat.mod_lt _ (by omega)
    show -9223372036854775808 ≤ a.tmod b ∧ a.tmod b ≤ 9223372036854775807
    omega
  split
  · rename_i h; exact inI_iff.1 h
  · exact ⟨by decide, by decide⟩
theorem numV_in {op a b : Int} (ha : -9223372036854775808 ≤ a) (ha' : a ≤ 9223372036854775807) (hb : -9223372036854775808 ≤ b) (hb' : b ≤ 9223372036854775807) : (numV op a b).1.In := by
  unfold numV
  split
  · exact vint_in (numI_in ha ha' hb hb').1 (numI_in ha ha' hb hb').2
  · exact vnull_in
theorem getD_in {l : List V} (h : ∀ v ∈ l, v.In) (i : Nat) : (l.getD i vnull).In := by
  rcases Nat.lt_or_ge i l.length with hi | hi
  · rw [show l.getD i vnull = l[i] by simp [List.getD, hi]]
    exact h _ (List.getElem_mem _)
  · rw [show l.getD i vnull = vnull by simp [List.getD, hi]]
    exact vnull_in
theorem join_in (t : List UInt8) : (⟨3, 0, t⟩ : V).In := ⟨by show (0:Int) ≤ 3; decide, by show (-9223372036854775808:Int) ≤ 0; decide, by show (0:Int) ≤ 9223372036854775807; decide⟩
theorem ite_in {c : Prop} [Decidable c] {p q : V × Int} (hp : p.1.In) (hq : q.1.In) : (if c then p else q).1.In := by split <;> assumption
theorem doOn_in {op : Int} {l : List V} (h : ∀ v ∈ l, v.In) : (doOn op l).1.In := by
  have hx := getD_in h 0
  have hy := getD_in h 1
  unfold doOn
  dsimp only
  repeat' (first | exact vbool_in _ | exact vnull_in | exact numV_in (by decide) (by decide) hx.lo hx.hi | exact numV_in hx.lo hx.hi hy.lo hy.hi | exact join_in _ | refine ite_in ?_ ?_)
theorem doV_in {op : Int} {l : List V} (h : ∀ v ∈ l, v.In) : (doV op l).1.In := by
  unfold doV
  repeat' (first | exact vnull_in | exact doOn_in h | refine ite_in ?_ ?_)
theorem takes_le (op : Int) : takes op = 0 ∨ takes op = 1 ∨ takes op = 2 := by unfold takes; (repeat' split) <;> omega
theorem do_any (op : Int) (vs : List V) (h : ∀ v ∈ vs, v.In) : PCall Tryz.prog 12 [.int .u8 op, lstV vs] (V.two (doV op vs)) := by
  by_cases hb : takes op = 0 ∨ (vs.length : Int) ≠ takes op
  · exact do_bad op vs hb
  · rcases takes_le op with h0 | h0 | h0
    · omega
    · match vs, h, hb with
      | [x], h, hb => exact do1 (h x (by simp)).lo (h x (by simp)).hi h0
      | [], _, hb => simp at hb; omega
      | _ :: _ :: _, _, hb => simp at hb; omega
    · match vs, h, hb with
      | [x, y], h, hb => exact do2 (h x (by simp)).lo (h x (by simp)).hi (h y (by simp)).lo (h y (by simp)).hi h0
      | [], _, hb => simp at hb; omega
      | [_], _, hb => simp at hb; omega
      | _ :: _ :: _ :: _, _, hb => simp at hb; omega
/-- All values in an expression are in range. -/
inductive Xp.In : Xp → Prop
  | mk {op : Int} {v : V} {tb nm : List UInt8} {slot kd : Int} {args : List Xp} (hv : v.In) (hs : -9223372036854775808 ≤ slot ∧ slot ≤ 9223372036854775807) (hl : args.length ≤ 9223372036854775807) (ha : ∀ y ∈ args, y.In) : Xp.In (.mk op v tb nm slot kd args)
mutual
theorem evalX_in : ∀ (x : Xp) (row : List V), x.In → (∀ v ∈ row, v.In) → (evalX x row).1.In
  | .mk op v tb nm slot kd args, row, hx, hr => by
    obtain ⟨hv, hs, hl, ha⟩ := hx
    rw [evalX]
    (repeat' split)
    · exact hv
    · exact getD_in hr _
    · exact vnull_in
    · exact vnull_in
    · exact doV_in (evalsX_in args row ha hr)
    · exact vnull_in
theorem evalsX_in : ∀ (l : List Xp) (row : List V), (∀ y ∈ l, y.In) → (∀ v ∈ row, v.In) → ∀ v ∈ (evalsX l row).2, v.In
  | [], row, hl, hr => by rw [evalsX]; intro v h; simp at h
  | y :: r, row, hl, hr => by
    rw [evalsX]
    split
    · intro v h
      rcases List.mem_cons.1 h with rfl | h
      · exact evalX_in y row (hl y (List.mem_cons_self ..)) hr
      · exact evalsX_in r row (fun z hz => hl z (List.mem_cons_of_mem _ hz)) hr v h
    · intro v h; simp at h
end
end Go.Proofs.YtaficpgadjemcaaGreatDoor
namespace Go.Proofs.YtaficpgadjemcaaGreatDoor
open Ab Go.RowKit
set_option linter.unusedVariables false
set_option linter.unusedSimpArgs false
theorem w64 {x : Int} (h : -9223372036854775808 ≤ x) (h' : x ≤ 9223372036854775807) : IntKind.i64.wrap x = x := by rw [IntKind.wrap_i64]; omega
theorem wu64 {x : Int} (h : 0 ≤ x) (h' : x < 18446744073709551616) : IntKind.u64.wrap x = x := by rw [IntKind.wrap_u64]; omega
theorem wu8 {x : Int} (h : 0 ≤ x) (h' : x < 256) : IntKind.u8.wrap x = x := by rw [IntKind.wrap_u8]; omega
theorem w64sub {n : Nat} (h : 0 < n) (h' : n ≤ 9223372036854775807) : IntKind.i64.wrap ((n : Int) - 1) = ((n - 1 : Nat) : Int) := by rw [w64 (by omega) (by omega)]; omega
theorem w64add {n : Nat} (h' : n < 9223372036854775807) : IntKind.i64.wrap ((n : Int) + 1) = ((n + 1 : Nat) : Int) := by rw [w64 (by omega) (by omega)]; omega
theorem u8_back (b : UInt8) : UInt8.ofNat b.toNat = b := by simp
theorem u8_succ {b : UInt8} (h : b < 255) : UInt8.ofNat (IntKind.u8.wrap ((b.toNat : Int) + 1)).toNat = b + 1 := by
  rw [UInt8.lt_iff_toNat_lt] at h
  have : (255 : UInt8).toNat = 255 := rfl
  rw [wu8 (by omega) (by omega)]
  apply UInt8.toNat_inj.1
  rw [UInt8.toNat_add]
  have : (1 : UInt8).toNat = 1 := rfl
  simp
theorem u8_lt_iff {b c : UInt8} : b < c ↔ b.toNat < c.toNat := UInt8.lt_iff_toNat_lt
theorem take_succ_getD {s : List UInt8} {n : Nat} (h : n < s.length) : s.take (n + 1) = s.take n ++ [s.getD n 0] := by
  rw [List.take_add_one, List.getElem?_eq_getElem h, List.getD_eq_getElem?_getD, List.getElem?_eq_getElem h]; rfl
end Go.Proofs.YtaficpgadjemcaaGreatDoor
namespace Go.Proofs.YtaficpgadjemcaaGreatDoor
open Ab Go.RowKit
set_option maxRecDepth 100000
set_option linter.unusedVariables false
set_option linter.unusedSimpArgs false
set_option maxHeartbeats 4000000
set_option pp.maxSteps 3000
/-- The element at a place. -/
@[irreducible] def getS (l : List SV) (i : Nat) : SV := l.getD i .undef
mutual
def xS : Xp → SV
  | .mk op v tb nm slot kd args => .agg [.int .u8 op, .int .u8 v.k, .int .i64 v.n, .str v.t, .str tb, .str nm, .int .i64 slot, .int .u8 kd, .lst 9 args.length (getS (xsS args))]
def xsS : List Xp → List SV
  | [] => []
  | x :: r => xS x :: xsS r
end
theorem xsS_get : ∀ (l : List Xp) (i : Nat), i < l.length → getS (xsS l) i = xS (l.getD i xnull)
  | [], i, h => by simp at h
  | x :: r, 0, _ => by rw [xsS]; unfold getS; rfl
  | x :: r, i + 1, h => by
    have := xsS_get r i (by simpa using h)
    unfold getS at this ⊢
    rw [xsS]
    simpa using this
theorem xS_lit (x : Xp) : LitV (xS x) := by
  cases x
  rw [xS]
  refine .agg ?_
  simp only [List.mem_cons, List.not_mem_nil, or_false]
  rintro _ (rfl | rfl | rfl | rfl | rfl | rfl | rfl | rfl | rfl) <;> constructor
theorem xS_mk (op : Int) (v : V) (tb nm : List UInt8) (slot kd : Int) (args : List Xp) : xS (.mk op v tb nm slot kd args) = .agg [.int .u8 op, .int .u8 v.k, .int .i64 v.n, .str v.t, .str tb, .str nm, .int .i64 slot, .int .u8 kd, .lst 9 args.length (getS (xsS args))] := by rw [xS]
theorem drop_get {args : List Xp} {i : Nat} (h : i < args.length) : args.drop i = args.getD i xnull :: args.drop (i + 1) := by
  rw [List.drop_eq_getElem_cons h]
  simp [List.getD, h]
theorem getD_mem {args : List Xp} {i : Nat} (h : i < args.length) : args.getD i xnull ∈ args := by
  rw [show args.getD i xnull = args[i] by simp [List.getD, h]]
  exact List.getElem_mem _
theorem tot_mem : ∀ {args : List Xp} {y : Xp}, y ∈ args → totX y ≤ totsX args
  | z :: r, y, h => by
    rw [totsX]
    rcases List.mem_cons.1 h with rfl | h
    · omega
    · have := tot_mem h; omega
/-- How many there are in one, up to most. -/
structure SzS (args : List Xp) (most r : Nat) where
  i : Nat
  n : Nat
  hi : i ≤ args.length
  hn : n ≤ most
  h1 : 1 ≤ n
  h : sizesX (args.drop i) n most = r
theorem size_any : ∀ (k : Nat) (x : Xp) (most : Nat), most ≤ k → 1 ≤ most → most ≤ 1000 → x.In → PCall Tryz.prog 5 [xS x, .int .i64 most] (.int .i64 (sizeX x most))
  | 0, x, most, h0, h1, _, _ => by omega
  | k + 1, .mk op v tb nm slot kd args, most, hk, h1, h2, hx => by
    obtain ⟨hv, hs, hlen, ha⟩ := hx
    have ih := size_any k
    rw [sizeX]
    generalize hr : sizesX args 1 most = r
    refine pcall_of (lits2 (xS_lit _) (.int _ _)) (call5 rfl ?_)
    rw [xS_mk]
    iterate 6 (all_goals (try conv => whnf); all_goals (try first | with_reducible refine brY (by assumption) ?_ | with_reducible refine brN (by assumption) ?_ | (with_reducible refine brT ?_ ?_; · (simp only [Bool.and_eq_true, Bool.not_eq_true', decide_eq_true_eq, decide_eq_false_iff_not, beq_iff_eq, beq_eq_false_iff_ne, ne_eq] at *; omega)) | with_reducible refine br (fun _ => ?_) (fun _ => ?_) | with_reducible refine ⟨rfl, ?_⟩ | with_reducible refine ARound.succ ?_))
    refine loop_ind (σ := SzS args most r) (fun s => [(0, .agg [.int .u8 op, .int .u8 v.k, .int .i64 v.n, .str v.t, .str tb, .str nm, .int .i64 slot, .int .u8 kd, .lst 9 args.length (getS (xsS args))]), (1, .int .i64 most), (2, .ref 0 0 0 0), (4, .int .i64 0), (5, .int .i64 (s.n : Int)), (6, .int .i64 (s.i : Int))])
      (fun _ => ⟨1, [(0, .vec 0 9 [.agg [.int .u8 op, .int .u8 v.k, .int .i64 v.n, .str v.t, .str tb, .str nm, .int .i64 slot, .int .u8 kd, .lst 9 args.length (getS (xsS args))]] ⟨false, some 28⟩)]⟩) (fun s => args.length - s.i) ?_ ⟨0, 1, Nat.zero_le _, h1, Nat.le_refl _, hr⟩
    rintro ⟨i, n, hi, hn, h1, h⟩
    dsimp only
    by_cases hil : i < args.length
    · have hd : decide ((i : Int) < (args.length : Int)) = true := decide_eq_true (by omega)
      rw [drop_get hil, sizesX] at h
      by_cases hnm : n < most
      · have hd2 : decide ((n : Int) < (most : Int)) = true := decide_eq_true (by omega)
        rw [if_pos hnm] at h
        have c := ih (args.getD i xnull) (most - n) (by omega) (by omega) (by omega) (ha _ (getD_mem hil))
        have hz := sizeX_le (args.getD i xnull) (most - n) (by omega)
        have hy : getS (xsS args) (Int.toNat (i : Int)) = _ := (xsS_get args i hil)
        have hs1 : IntKind.i64.wrap ((most : Int) - (n : Int)) = ((most - n : Nat) : Int) := by rw [IntKind.wrap_i64]; omega
        generalize args.getD i xnull = y at c hy hz h
        obtain ⟨op', v', tb', nm', slot', kd', args'⟩ := y
        have e6 : IntKind.i64.wrap ((n : Int) + ((sizeX (.mk op' v' tb' nm' slot' kd' args') (most - n) : Nat) : Int)) = ((n + sizeX (.mk op' v' tb' nm' slot' kd' args') (most - n) : Nat) : Int) := by rw [IntKind.wrap_i64]; omega
        have e7 : IntKind.i64.wrap ((i : Int) + 1) = ((i + 1 : Nat) : Int) := w64add (by omega)
        rw [xS_mk] at c hy
        rw [← hs1] at c
        iterate 20 (all_goals (try conv => whnf); all_goals (try first | with_reducible refine brY (by assumption) ?_ | with_reducible refine brN (by assumption) ?_ | (with_reducible refine brT ?_ ?_; · (simp only [Bool.and_eq_true, Bool.not_eq_true', decide_eq_true_eq, decide_eq_false_iff_not, beq_iff_eq, beq_eq_false_iff_ne, ne_eq] at *; omega)) | with_reducible refine br (fun _ => ?_) (fun _ => ?_) | with_reducible refine ⟨rfl, ?_⟩ | with_reducible refine ARound.succ ?_ | (rw [hy]) | with_reducible refine PCall.call (c) ?_))
        exact ⟨⟨i + 1, _, hil, by omega, by omega, h⟩, by dsimp only; omega, by rw [e6, e7], rfl⟩
      · have hd2 : decide ((n : Int) < (most : Int)) = false := decide_eq_false (by omega)
        rw [if_neg hnm] at h
        iterate 20 (all_goals (try conv => whnf); all_goals (try first | with_reducible refine brY (by assumption) ?_ | with_reducible refine brN (by assumption) ?_ | (with_reducible refine brT ?_ ?_; · (simp only [Bool.and_eq_true, Bool.not_eq_true', decide_eq_true_eq, decide_eq_false_iff_not, beq_iff_eq, beq_eq_false_iff_ne, ne_eq] at *; omega)) | with_reducible refine br (fun _ => ?_) (fun _ => ?_) | with_reducible refine ⟨rfl, ?_⟩ | with_reducible refine ARound.succ ?_))
        subst h
        exact leaf rfl (.int _ _)
    · have hd : decide ((i : Int) < (args.length : Int)) = false := decide_eq_false (by omega)
      rw [List.drop_of_length_le (by omega), sizesX] at h
      iterate 20 (all_goals (try conv => whnf); all_goals (try first | with_reducible refine brY (by assumption) ?_ | with_reducible refine brN (by assumption) ?_ | (with_reducible refine brT ?_ ?_; · (simp only [Bool.and_eq_true, Bool.not_eq_true', decide_eq_true_eq, decide_eq_false_iff_not, beq_iff_eq, beq_eq_false_iff_ne, ne_eq] at *; omega)) | with_reducible refine br (fun _ => ?_) (fun _ => ?_) | with_reducible refine ⟨rfl, ?_⟩ | with_reducible refine ARound.succ ?_))
      subst h
      exact leaf rfl (.int _ _)
end Go.Proofs.YtaficpgadjemcaaGreatDoor
namespace Go.Proofs.YtaficpgadjemcaaGreatDoor
open Ab Go.RowKit
set_option maxRecDepth 100000
set_option linter.unusedVariables false
set_option linter.unusedSimpArgs false
set_option maxHeartbeats 4000000
set_option pp.maxSteps 3000
@[reducible] def xC (op : Int) (v : V) (tb nm : List UInt8) (slot kd : Int) (args : List Xp) : SV := .agg [.int .u8 op, .int .u8 v.k, .int .i64 v.n, .str v.t, .str tb, .str nm, .int .i64 slot, .int .u8 kd, .lst 9 args.length (getS (xsS args))]
structure NmS (args : List Xp) (s : Int) (b r : Bool) where
  i : Nat
  hi : i ≤ args.length
  h : (namedsX (args.drop i) s || b) = r
theorem named_any : ∀ (k : Nat) (x : Xp) (s : Int), totX x ≤ k → x.In → PCall Tryz.prog 6 [xS x, .int .i64 s] (.bool (namedX x s))
  | 0, x, s, h0, _ => by have := totX_pos x; omega
  | k + 1, .mk op v tb nm slot kd args, s, hk, hx => by
    obtain ⟨hv, hs, hlen, ha⟩ := hx
    rw [totX] at hk
    have ih := named_any k
    rw [namedX]
    generalize hr : (namedsX args s || (op == 2 && slot == s)) = r
    refine pcall_of (lits2 (xS_lit _) (.int _ _)) (call6 rfl ?_)
    rw [xS_mk]
    iterate 6 (all_goals (try conv => whnf); all_goals (try first | with_reducible refine brY (by assumption) ?_ | with_reducible refine brN (by assumption) ?_ | (with_reducible refine brT ?_ ?_; · (simp only [Bool.and_eq_true, Bool.not_eq_true', decide_eq_true_eq, decide_eq_false_iff_not, beq_iff_eq, beq_eq_false_iff_ne, ne_eq] at *; omega)) | with_reducible refine br (fun _ => ?_) (fun _ => ?_) | with_reducible refine ⟨rfl, ?_⟩ | with_reducible refine ARound.succ ?_))
    refine loop_ind (σ := NmS args s (op == 2 && slot == s) r) (fun t => [(0, xC op v tb nm slot kd args), (1, .int .i64 s), (2, .ref 0 0 0 0), (4, .bool false), (5, .int .i64 (t.i : Int))])
      (fun _ => ⟨1, [(0, .vec 0 9 [xC op v tb nm slot kd args] ⟨false, some 28⟩)]⟩) (fun t => args.length - t.i) ?_ ⟨0, Nat.zero_le _, hr⟩
    rintro ⟨i, hi, h⟩
    dsimp only
    by_cases hil : i < args.length
    · have hd : decide ((i : Int) < (args.length : Int)) = true := decide_eq_true (by omega)
      rw [drop_get hil, namedsX] at h
      have c := ih (args.getD i xnull) s (by have := tot_mem (getD_mem hil); omega) (ha _ (getD_mem hil))
      have hy : getS (xsS args) (Int.toNat (i : Int)) = _ := (xsS_get args i hil)
      cases hb : namedX (args.getD i xnull) s with
      | true =>
        rw [hb] at c h
        generalize args.getD i xnull = y at c hy h
        obtain ⟨op', v', tb', nm', slot', kd', args'⟩ := y
        rw [xS_mk] at c hy
        iterate 20 (all_goals (try conv => whnf); all_goals (try first | with_reducible refine brY (by assumption) ?_ | with_reducible refine brN (by assumption) ?_ | (with_reducible refine brT ?_ ?_; · (simp only [Bool.and_eq_true, Bool.not_eq_true', decide_eq_true_eq, decide_eq_false_iff_not, beq_iff_eq, beq_eq_false_iff_ne, ne_eq] at *; omega)) | with_reducible refine br (fun _ => ?_) (fun _ => ?_) | with_reducible refine ⟨rfl, ?_⟩ | with_reducible refine ARound.succ ?_ | (rw [hy]) | with_reducible refine PCall.call (c) ?_))
        subst h
        exact leaf rfl (.bool _)
      | false =>
        rw [hb] at c h
        generalize args.getD i xnull = y at c hy h
        obtain ⟨op', v', tb', nm', slot', kd', args'⟩ := y
        have e7 : IntKind.i64.wrap ((i : Int) + 1) = ((i + 1 : Nat) : Int) := w64add (by omega)
        rw [xS_mk] at c hy
        iterate 20 (all_goals (try conv => whnf); all_goals (try first | with_reducible refine brY (by assumption) ?_ | with_reducible refine brN (by assumption) ?_ | (with_reducible refine brT ?_ ?_; · (simp only [Bool.and_eq_true, Bool.not_eq_true', decide_eq_true_eq, decide_eq_false_iff_not, beq_iff_eq, beq_eq_false_iff_ne, ne_eq] at *; omega)) | with_reducible refine br (fun _ => ?_) (fun _ => ?_) | with_reducible refine ⟨rfl, ?_⟩ | with_reducible refine ARound.succ ?_ | (rw [hy]) | with_reducible refine PCall.call (c) ?_))
        exact ⟨⟨i + 1, hil, h⟩, by dsimp only; omega, by rw [e7], rfl⟩
    · have hd : decide ((i : Int) < (args.length : Int)) = false := decide_eq_false (by omega)
      rw [List.drop_of_length_le (by omega), namedsX, Bool.false_or] at h
      cases hb : (op == 2) with
      | true =>
        rw [hb] at h
        iterate 20 (all_goals (try conv => whnf); all_goals (try first | with_reducible refine brY (by assumption) ?_ | with_reducible refine brN (by assumption) ?_ | (with_reducible refine brT ?_ ?_; · (simp only [Bool.and_eq_true, Bool.not_eq_true', decide_eq_true_eq, decide_eq_false_iff_not, beq_iff_eq, beq_eq_false_iff_ne, ne_eq] at *; omega)) | with_reducible refine br (fun _ => ?_) (fun _ => ?_) | with_reducible refine ⟨rfl, ?_⟩ | with_reducible refine ARound.succ ?_))
        subst h
        exact leaf rfl (.bool _)
      | false =>
        rw [hb] at h
        iterate 20 (all_goals (try conv => whnf); all_goals (try first | with_reducible refine brY (by assumption) ?_ | with_reducible refine brN (by assumption) ?_ | (with_reducible refine brT ?_ ?_; · (simp only [Bool.and_eq_true, Bool.not_eq_true', decide_eq_true_eq, decide_eq_false_iff_not, beq_iff_eq, beq_eq_false_iff_ne, ne_eq] at *; omega)) | with_reducible refine br (fun _ => ?_) (fun _ => ?_) | with_reducible refine ⟨rfl, ?_⟩ | with_reducible refine ARound.succ ?_))
        subst h
        exact leaf rfl (.bool _)
end Go.Proofs.YtaficpgadjemcaaGreatDoor
namespace Go.Proofs.YtaficpgadjemcaaGreatDoor
open Ab Go.RowKit
set_option maxRecDepth 100000
set_option linter.unusedVariables false
set_option linter.unusedSimpArgs false
set_option maxHeartbeats 4000000
set_option pp.maxSteps 3000
attribute [local irreducible] allLtK
/-- The values that were worked out, and room for the rest. -/
def roomV (pre : List V) (n : Nat) : List SV := pre.map V.sv ++ List.replicate (n - pre.length) vnull.sv
theorem roomV_len {pre : List V} {n : Nat} (h : pre.length ≤ n) : (roomV pre n).length = n := by unfold roomV; simp; omega
theorem roomV_set {pre : List V} {n : Nat} {v : V} (h : pre.length < n) : (roomV pre n).set pre.length v.sv = roomV (pre ++ [v]) n := by
  unfold roomV
  obtain ⟨m, hm⟩ : ∃ m, n - pre.length = m + 1 := ⟨n - pre.length - 1, by omega⟩
  rw [List.set_append, if_neg (by simp), hm, List.replicate_succ]
  simp only [List.length_map, Nat.sub_self, List.set_cons_zero, List.map_append, List.map_cons, List.map_nil, List.length_append, List.length_cons, List.length_nil]
  rw [show n - (pre.length + (0 + 1)) = m by omega]
  simp
theorem roomV_full {pre : List V} : roomV pre pre.length = pre.map V.sv := by unfold roomV; simp
theorem roomV_nil (n : Nat) : roomV [] n = List.replicate n vnull.sv := by unfold roomV; simp
theorem store_room {pre : List V} {n idx : Nat} {v : V} {K : List SV → Prop} (hi : idx = pre.length) (h : pre.length < n) (hk : K (roomV (pre ++ [v]) n)) :
    (match getL (roomV pre n) idx with | some w => storeV w v.sv 0 (fun w' => setL (roomV pre n) idx w' K) | none => False) := by
  subst hi
  have e : getL (roomV pre n) pre.length = some vnull.sv := by
    rw [getL_eq]
    unfold roomV
    rw [List.getElem?_append_right (by simp)]
    rw [List.getElem?_replicate, List.length_map, Nat.sub_self, if_pos (by omega)]
  rw [e]
  show setL (roomV pre n) pre.length v.sv K
  exact setL_iff.2 ⟨by rw [roomV_len (by omega)]; exact h, by rw [roomV_set h]; exact hk⟩
theorem roomV_lt {pre : List V} {n m : Nat} : ∀ v ∈ roomV pre n, SV.lt 8 m v = true := fun v hv => by
  unfold roomV at hv
  rcases List.mem_append.1 hv with h | h
  · obtain ⟨b, _, rfl⟩ := List.mem_map.1 h
    rfl
  · rw [(List.mem_replicate.1 h).2]
    rfl
theorem lt_one1 {m : Nat} {a : SV} (h : SV.lt 8 m a = true) : ∀ v ∈ [a], SV.lt 8 m v = true := fun v hv => by
  rw [List.mem_singleton.1 hv]; exact h
theorem hard_vs {A : Heap} {i g : Nat} {cap : Option Nat} {vs : List V} {n : Nat} {sk : Sk} (ho : A.obj i = some (.vec g 3 (vs.map V.sv) sk)) (hn : n = vs.length) : Hard A (.sl i g 3 0 n cap) (lstV vs) := by
  subst hn
  refine .sl ho (by simp) fun j v hj hv => ?_
  rw [Nat.zero_add, List.getElem?_map, List.getElem?_eq_getElem hj] at hv
  cases hv
  rw [show vs.getD j vnull = vs[j] by simp [List.getD, hj]]
  exact .lit (V.lit _)
structure EvS (args : List Xp) (op : Int) (row : List V) (r : V × Int) where
  pre : List V
  hp : pre.length ≤ args.length
  hin : ∀ v ∈ pre, v.In
  h : (if (evalsX (args.drop pre.length) row).1 = 0 then doV op (pre ++ (evalsX (args.drop pre.length) row).2) else (vnull, (evalsX (args.drop pre.length) row).1)) = r
theorem eval_any : ∀ (k : Nat) (x : Xp) (row : List V), totX x ≤ k → k ≤ 1000 → x.In → (∀ v ∈ row, v.In) → PCall Tryz.prog 7 [xS x, lstV row] (V.two (evalX x row))
  | 0, x, row, h0, _, _, _ => by have := totX_pos x; omega
  | k + 1, .mk op v tb nm slot kd args, row, hk, h1000, hx, hrow => by
    obtain ⟨hv, hs, hlen, ha⟩ := hx
    rw [totX] at hk
    have ih := eval_any k
    have hal := tots_len args
    rw [evalX]
    refine pcall_of (lits2 (xS_lit _) (.lst _ _ _)) (call7 rfl ?_)
    rw [xS_mk]
    by_cases h1 : op = 1
    · subst h1
      rw [if_pos rfl]
      iterate 12 (all_goals (try conv => whnf); all_goals (try first | with_reducible refine brY (by assumption) ?_ | with_reducible refine brN (by assumption) ?_ | (with_reducible refine brT ?_ ?_; · (simp only [Bool.and_eq_true, Bool.not_eq_true', decide_eq_true_eq, decide_eq_false_iff_not, beq_iff_eq, beq_eq_false_iff_ne, ne_eq] at *; omega)) | with_reducible refine br (fun _ => ?_) (fun _ => ?_) | with_reducible refine ⟨rfl, ?_⟩ | with_reducible refine ARound.succ ?_))
      exact leaf rfl (V.two_lit _)
    have q1 : (op == 1) = false := beq_eq_false_iff_ne.2 h1
    rw [if_neg h1]
    by_cases h2 : op = 2
    · subst h2
      rw [if_pos rfl]
      by_cases h3 : 0 ≤ slot ∧ slot < (row.length : Int)
      · rw [if_pos h3]
        have d1 : decide (slot < 0) = false := decide_eq_false (by omega)
        have d2 : decide ((row.length : Int) ≤ slot) = false := decide_eq_false (by omega)
        iterate 20 (all_goals (try conv => whnf); all_goals (try first | with_reducible refine brY (by assumption) ?_ | with_reducible refine brN (by assumption) ?_ | (with_reducible refine brT ?_ ?_; · (simp only [Bool.and_eq_true, Bool.not_eq_true', decide_eq_true_eq, decide_eq_false_iff_not, beq_iff_eq, beq_eq_false_iff_ne, ne_eq] at *; omega)) | with_reducible refine br (fun _ => ?_) (fun _ => ?_) | with_reducible refine ⟨rfl, ?_⟩ | with_reducible refine ARound.succ ?_))
        exact leaf rfl (V.two_lit _)
      · rw [if_neg h3]
        by_cases h4 : slot < 0
        · have d1 : decide (slot < 0) = true := decide_eq_true h4
          iterate 20 (all_goals (try conv => whnf); all_goals (try first | with_reducible refine brY (by assumption) ?_ | with_reducible refine brN (by assumption) ?_ | (with_reducible refine brT ?_ ?_; · (simp only [Bool.and_eq_true, Bool.not_eq_true', decide_eq_true_eq, decide_eq_false_iff_not, beq_iff_eq, beq_eq_false_iff_ne, ne_eq] at *; omega)) | with_reducible refine br (fun _ => ?_) (fun _ => ?_) | with_reducible refine ⟨rfl, ?_⟩ | with_reducible refine ARound.succ ?_))
          exact leaf rfl (V.two_lit _)
        · have d1 : decide (slot < 0) = false := decide_eq_false h4
          have d2 : decide ((row.length : Int) ≤ slot) = true := decide_eq_true (by omega)
          iterate 20 (all_goals (try conv => whnf); all_goals (try first | with_reducible refine brY (by assumption) ?_ | with_reducible refine brN (by assumption) ?_ | (with_reducible refine brT ?_ ?_; · (simp only [Bool.and_eq_true, Bool.not_eq_true', decide_eq_true_eq, decide_eq_false_iff_not, beq_iff_eq, beq_eq_false_iff_ne, ne_eq] at *; omega)) | with_reducible refine br (fun _ => ?_) (fun _ => ?_) | with_reducible refine ⟨rfl, ?_⟩ | with_reducible refine ARound.succ ?_))
          exact leaf rfl (V.two_lit _)
    have q2 : (op == 2) = false := beq_eq_false_iff_ne.2 h2
    rw [if_neg h2]
    have ct := takes_any op
    by_cases h3 : takes op = 0
    · rw [if_pos h3]
      have q3 : (takes op == 0) = true := by rw [h3]; rfl
      iterate 20 (all_goals (try conv => whnf); all_goals (try first | with_reducible refine brY (by assumption) ?_ | with_reducible refine brN (by assumption) ?_ | (with_reducible refine brT ?_ ?_; · (simp only [Bool.and_eq_true, Bool.not_eq_true', decide_eq_true_eq, decide_eq_false_iff_not, beq_iff_eq, beq_eq_false_iff_ne, ne_eq] at *; omega)) | with_reducible refine br (fun _ => ?_) (fun _ => ?_) | with_reducible refine ⟨rfl, ?_⟩ | with_reducible refine ARound.succ ?_ | with_reducible refine PCall.call (ct) ?_))
      exact leaf rfl (V.two_lit _)
    rw [if_neg h3]
    have q3 : (takes op == 0) = false := beq_eq_false_iff_ne.2 h3
    generalize hr : (if (evalsX args row).1 = 0 then doV op (evalsX args row).2 else (vnull, (evalsX args row).1)) = r
    iterate 20 (all_goals (try conv => whnf); all_goals (try first | with_reducible refine brY (by assumption) ?_ | with_reducible refine brN (by assumption) ?_ | (with_reducible refine brT ?_ ?_; · (simp only [Bool.and_eq_true, Bool.not_eq_true', decide_eq_true_eq, decide_eq_false_iff_not, beq_iff_eq, beq_eq_false_iff_ne, ne_eq] at *; omega)) | with_reducible refine br (fun _ => ?_) (fun _ => ?_) | with_reducible refine ⟨rfl, ?_⟩ | with_reducible refine ARound.succ ?_ | with_reducible refine PCall.call (ct) ?_))
    refine loop_ind (σ := EvS args op row r) (fun t => [(0, xC op v tb nm slot kd args), (1, lstV row), (2, .ref 0 0 0 0), (4, .ref 1 0 0 0), (5, .int .i64 0), (11, .bool false), (17, .bool false), (37, .bool false), (6, .sl 2 0 3 0 args.length (some args.length)), (48, .lst 9 args.length (getS (xsS args))), (49, .int .i64 args.length), (50, .int .i64 (t.pre.length : Int))])
      (fun t => ⟨3, [(2, .vec 0 3 (roomV t.pre args.length) ⟨false, some 25⟩), (1, .vec 0 3 [vnull.sv] ⟨false, some 25⟩), (0, .vec 0 9 [xC op v tb nm slot kd args] ⟨false, some 28⟩)]⟩) (fun t => args.length - t.pre.length) ?_ ⟨[], Nat.zero_le _, (fun v h => by simp at h), hr⟩
    clear hr
    rintro ⟨pre, hp, hin, h⟩
    dsimp only
    by_cases hil : pre.length < args.length
    · have hd : decide ((pre.length : Int) < (args.length : Int)) = true := decide_eq_true (by omega)
      rw [drop_get hil, evalsX] at h
      have hym := getD_mem hil
      have c := ih (args.getD pre.length xnull) row (by have := tot_mem hym; omega) (by omega) (ha _ hym) hrow
      have hyin := evalX_in (args.getD pre.length xnull) row (ha _ hym) hrow
      have hy : getS (xsS args) (Int.toNat (pre.length : Int)) = _ := (xsS_get args pre.length hil)
      generalize evalX (args.getD pre.length xnull) row = p at c h hyin
      obtain ⟨⟨pk, pn, pt⟩, pe⟩ := p
      generalize args.getD pre.length xnull = y at c hy
      obtain ⟨op', v', tb', nm', slot', kd', args'⟩ := y
      rw [xS_mk] at c hy
      dsimp only at h hyin
      by_cases hpe : pe = 0
      · subst hpe
        rw [if_pos rfl] at h
        have e7 : IntKind.i64.wrap ((pre.length : Int) + 1) = ((pre.length + 1 : Nat) : Int) := w64add (by omega)
        iterate 40 (all_goals (try conv => whnf); all_goals (try first | with_reducible refine brY (by assumption) ?_ | with_reducible refine brN (by assumption) ?_ | (with_reducible refine brT ?_ ?_; · (simp only [Bool.and_eq_true, Bool.not_eq_true', decide_eq_true_eq, decide_eq_false_iff_not, beq_iff_eq, beq_eq_false_iff_ne, ne_eq] at *; omega)) | with_reducible refine br (fun _ => ?_) (fun _ => ?_) | with_reducible refine ⟨rfl, ?_⟩ | with_reducible refine ARound.succ ?_ | (rw [hy]) | with_reducible refine PCall.call (c) ?_ | (refine store_room (v := ⟨pk, pn, pt⟩) (by simp) hil ?_) | (refine allLtK_of roomV_lt ?_) | (refine allLtK_of (lt_one1 rfl) ?_)))
        refine ⟨⟨pre ++ [⟨pk, pn, pt⟩], by simp; omega, fun v hv => ?_, ?_⟩, by simp; omega, by simp [e7], rfl⟩
        · rcases List.mem_append.1 hv with hv | hv
          · exact hin v hv
          · rw [List.mem_singleton.1 hv]; exact hyin
        · rw [← h]
          simp only [List.length_append, List.length_cons, List.length_nil, List.append_assoc, List.cons_append, List.nil_append]
      · have q4 : (pe != 0) = true := by simpa using hpe
        rw [if_neg hpe] at h
        dsimp only at h
        rw [if_neg hpe] at h
        iterate 40 (all_goals (try conv => whnf); all_goals (try first | with_reducible refine brY (by assumption) ?_ | with_reducible refine brN (by assumption) ?_ | (with_reducible refine brT ?_ ?_; · (simp only [Bool.and_eq_true, Bool.not_eq_true', decide_eq_true_eq, decide_eq_false_iff_not, beq_iff_eq, beq_eq_false_iff_ne, ne_eq] at *; omega)) | with_reducible refine br (fun _ => ?_) (fun _ => ?_) | with_reducible refine ⟨rfl, ?_⟩ | with_reducible refine ARound.succ ?_ | (rw [hy]) | with_reducible refine PCall.call (c) ?_))
        subst h
        exact leaf rfl (V.two_lit _)
    · have hd : decide ((pre.length : Int) < (args.length : Int)) = false := decide_eq_false (by omega)
      have hpl : args.length = pre.length := by omega
      rw [List.drop_of_length_le (by omega), evalsX] at h
      dsimp only at h
      rw [if_pos rfl, List.append_nil] at h
      have cd := do_any op pre hin
      rw [h] at cd
      rw [show roomV pre args.length = pre.map V.sv by rw [hpl, roomV_full]]
      iterate 20 (all_goals (try conv => whnf); all_goals (try first | with_reducible refine brY (by assumption) ?_ | with_reducible refine brN (by assumption) ?_ | (with_reducible refine brT ?_ ?_; · (simp only [Bool.and_eq_true, Bool.not_eq_true', decide_eq_true_eq, decide_eq_false_iff_not, beq_iff_eq, beq_eq_false_iff_ne, ne_eq] at *; omega)) | with_reducible refine br (fun _ => ?_) (fun _ => ?_) | with_reducible refine ⟨rfl, ?_⟩ | with_reducible refine ARound.succ ?_ | (refine ACall.frz (fun j => Nat.beq j 2) (.cons (.lit (.int _ _)) (.cons (hard_vs (vs := pre) rfl hpl) .nil)) ?_) | with_reducible refine PCall.call (cd) ?_))
      exact leaf rfl (V.two_lit _)
end Go.Proofs.YtaficpgadjemcaaGreatDoor
namespace Go.Proofs.YtaficpgadjemcaaGreatDoor
open Ab
set_option maxRecDepth 1000000
def k1 : Know := ⟨48,q16,(.tup [q36,(.int .i64 6),(.int .i64 0)]),2,[]⟩
def k2 : Know := ⟨133,[(.str [60,62,32,60,61,32,62,61,32,124,124,32,40,32,41,32,44,32,59,32,46,32,42,32,43,32,45,32,47,32,37,32,61,32,60,32,62])],(.sl 0 0 1 0 17 (some 17)),1,[(0,(.vec 0 1 [(.str [60,62]),(.str [60,61]),(.str [62,61]),(.str [124,124]),(.str [40]),(.str [41]),(.str [44]),(.str [59]),(.str [46]),(.str [42]),(.str [43]),(.str [45]),(.str [47]),(.str [37]),(.str [61]),(.str [60]),(.str [62])] ⟨false,some 9⟩))]⟩
def k3 : Know := ⟨81,[],(.sl 0 0 1 0 17 (some 17)),1,[(0,(.vec 0 1 [(.str [60,62]),(.str [60,61]),(.str [62,61]),(.str [124,124]),(.str [40]),(.str [41]),(.str [44]),(.str [59]),(.str [46]),(.str [42]),(.str [43]),(.str [45]),(.str [47]),(.str [37]),(.str [61]),(.str [60]),(.str [62])] ⟨false,some 9⟩))]⟩
def k4 : Know := ⟨48,[(.str [42,32,102,114,111,109,32,116,32,119,104,101,114,101,32,97,32,61,32,49,32,97,110,100,32,50,32,60,61,32,98])],(.tup [(.agg [(.int .u8 4),(.str [42]),(.int .u64 0),(.int .i64 0)]),(.int .i64 1),(.int .i64 0)]),2,[]⟩
def k5 : Know := ⟨48,[(.str [102,114,111,109,32,116,32,119,104,101,114,101,32,97,32,61,32,49,32,97,110,100,32,50,32,60,61,32,98])],(.tup [q41,(.int .i64 4),(.int .i64 0)]),2,[]⟩
def k6 : Know := ⟨48,[(.str [116,32,119,104,101,114,101,32,97,32,61,32,49,32,97,110,100,32,50,32,60,61,32,98])],q26,2,[]⟩
def k7 : Know := ⟨48,[(.str [119,104,101,114,101,32,97,32,61,32,49,32,97,110,100,32,50,32,60,61,32,98])],(.tup [q39,(.int .i64 5),(.int .i64 0)]),2,[]⟩
def k8 : Know := ⟨48,[(.str [97,32,61,32,49,32,97,110,100,32,50,32,60,61,32,98])],q29,2,[]⟩
def k9 : Know := ⟨48,[(.str [61,32,49,32,97,110,100,32,50,32,60,61,32,98])],(.tup [(.agg [(.int .u8 4),(.str [61]),(.int .u64 0),(.int .i64 0)]),(.int .i64 1),(.int .i64 0)]),2,[]⟩
def k10 : Know := ⟨48,[(.str [49,32,97,110,100,32,50,32,60,61,32,98])],(.tup [(.agg [(.int .u8 2),(.str []),(.int .u64 1),(.int .i64 0)]),(.int .i64 1),(.int .i64 0)]),3,[]⟩
def k11 : Know := ⟨48,[(.str [97,110,100,32,50,32,60,61,32,98])],(.tup [(.agg [(.int .u8 1),(.str [97,110,100]),(.int .u64 0),(.int .i64 0)]),(.int .i64 3),(.int .i64 0)]),2,[]⟩
def k12 : Know := ⟨48,[(.str [50,32,60,61,32,98])],(.tup [(.agg [(.int .u8 2),(.str []),(.int .u64 2),(.int .i64 0)]),(.int .i64 1),(.int .i64 0)]),3,[]⟩
def k13 : Know := ⟨48,[(.str [60,61,32,98])],(.tup [(.agg [(.int .u8 4),(.str [60,61]),(.int .u64 0),(.int .i64 0)]),(.int .i64 2),(.int .i64 0)]),2,[]⟩
def k14 : Know := ⟨48,[(.str [98])],q31,2,[]⟩
def k15 : Know := ⟨25,q16,(.tup [(.sl 5 11 4 0 12 none),(.agg [(.int .i64 0),(.int .i64 0)])]),52,[(5,(.vec 11 4 [q36,(.agg [(.int .u8 4),(.str [42]),(.int .u64 0),(.int .i64 7)]),(.agg [(.int .u8 1),(.str [102,114,111,109]),(.int .u64 0),(.int .i64 9)]),(.agg [(.int .u8 1),(.str [116]),(.int .u64 0),(.int .i64 14)]),(.agg [(.int .u8 1),(.str [119,104,101,114,101]),(.int .u64 0),(.int .i64 16)]),(.agg [(.int .u8 1),(.str [97]),(.int .u64 0),(.int .i64 22)]),(.agg [(.int .u8 4),(.str [61]),(.int .u64 0),(.int .i64 24)]),(.agg [(.int .u8 2),(.str []),(.int .u64 1),(.int .i64 26)]),(.agg [(.int .u8 1),(.str [97,110,100]),(.int .u64 0),(.int .i64 28)]),(.agg [(.int .u8 2),(.str []),(.int .u64 2),(.int .i64 32)]),(.agg [(.int .u8 4),(.str [60,61]),(.int .u64 0),(.int .i64 34)]),(.agg [(.int .u8 1),(.str [98]),(.int .u64 0),(.int .i64 37)])] ⟨true,some 127⟩))]⟩
def k16 : Know := ⟨133,[(.str [97,110,100,32,97,115,32,97,115,99,32,98,101,103,105,110,32,98,111,111,108,32,98,121,32,99,111,109,109,105,116,32,99,111,117,110,116,32,99,114,101,97,116,101,32,100,101,108,101,116,101,32,100,101,115,99,32,102,97,108,115,101,32,102,114,111,109,32,103,114,111,117,112,32,105,110,100,101,120,32,105,110,115,101,114,116,32,105,110,116,32,105,110,116,111,32,105,115,32,106,111,105,110,32,107,101,121,32,108,105,109,105,116,32,109,97,120,32,109,105,110,32,110,111,116,32,110,117,108,108,32,111,110,32,111,114,32,111,114,100,101,114,32,112,114,105,109,97,114,121,32,114,111,108,108,98,97,99,107,32,115,97,118,101,112,111,105,110,116,32,115,101,108,101,99,116,32,115,101,116,32,115,117,109,32,116,97,98,108,101,32,116,101,120,116,32,116,111,32,116,114,117,101,32,117,110,105,113,117,101,32,117,112,100,97,116,101,32,118,97,108,117,101,115,32,119,104,101,114,101])],(.sl 0 0 1 0 43 (some 43)),1,[(0,(.vec 0 1 ((.str [97,110,100]) :: (.str [97,115]) :: (.str [97,115,99]) :: (.str [98,101,103,105,110]) :: (.str [98,111,111,108]) :: (.str [98,121]) :: (.str [99,111,109,109,105,116]) :: (.str [99,111,117,110,116]) :: (.str [99,114,101,97,116,101]) :: (.str [100,101,108,101,116,101]) :: (.str [100,101,115,99]) :: (.str [102,97,108,115,101]) :: (.str [102,114,111,109]) :: (.str [103,114,111,117,112]) :: (.str [105,110,100,101,120]) :: (.str [105,110,115,101,114,116]) :: (.str [105,110,116]) :: (.str [105,110,116,111]) :: (.str [105,115]) :: (.str [106,111,105,110]) :: (.str [107,101,121]) :: (.str [108,105,109,105,116]) :: (.str [109,97,120]) :: (.str [109,105,110]) :: (.str [110,111,116]) :: (.str [110,117,108,108]) :: (.str [111,110]) :: (.str [111,114]) :: (.str [111,114,100,101,114]) :: (.str [112,114,105,109,97,114,121]) :: (.str [114,111,108,108,98,97,99,107]) :: (.str [115,97,118,101,112,111,105,110,116]) :: (.str [115,101,108,101,99,116]) :: (.str [115,101,116]) :: (.str [115,117,109]) :: (.str [116,97,98,108,101]) :: (.str [116,101,120,116]) :: (.str [116,111]) :: (.str [116,114,117,101]) :: (.str [117,110,105,113,117,101]) :: (.str [117,112,100,97,116,101]) :: (.str [118,97,108,117,101,115]) :: (.str [119,104,101,114,101]) :: []) ⟨false,some 9⟩))]⟩
def k17 : Know := ⟨139,[],(.sl 0 0 1 0 43 (some 43)),1,[(0,(.vec 0 1 ((.str [97,110,100]) :: (.str [97,115]) :: (.str [97,115,99]) :: (.str [98,101,103,105,110]) :: (.str [98,111,111,108]) :: (.str [98,121]) :: (.str [99,111,109,109,105,116]) :: (.str [99,111,117,110,116]) :: (.str [99,114,101,97,116,101]) :: (.str [100,101,108,101,116,101]) :: (.str [100,101,115,99]) :: (.str [102,97,108,115,101]) :: (.str [102,114,111,109]) :: (.str [103,114,111,117,112]) :: (.str [105,110,100,101,120]) :: (.str [105,110,115,101,114,116]) :: (.str [105,110,116]) :: (.str [105,110,116,111]) :: (.str [105,115]) :: (.str [106,111,105,110]) :: (.str [107,101,121]) :: (.str [108,105,109,105,116]) :: (.str [109,97,120]) :: (.str [109,105,110]) :: (.str [110,111,116]) :: (.str [110,117,108,108]) :: (.str [111,110]) :: (.str [111,114]) :: (.str [111,114,100,101,114]) :: (.str [112,114,105,109,97,114,121]) :: (.str [114,111,108,108,98,97,99,107]) :: (.str [115,97,118,101,112,111,105,110,116]) :: (.str [115,101,108,101,99,116]) :: (.str [115,101,116]) :: (.str [115,117,109]) :: (.str [116,97,98,108,101]) :: (.str [116,101,120,116]) :: (.str [116,111]) :: (.str [116,114,117,101]) :: (.str [117,110,105,113,117,101]) :: (.str [117,112,100,97,116,101]) :: (.str [118,97,108,117,101,115]) :: (.str [119,104,101,114,101]) :: []) ⟨false,some 9⟩))]⟩
def k18 : Know := ⟨99,[(.str [116])],(.bool false),1,[]⟩
def k19 : Know := ⟨99,[(.str [97])],(.bool false),1,[]⟩
def k20 : Know := ⟨99,[(.str [98])],(.bool false),1,[]⟩
def k21 : Know := ⟨13,q16,(.tup [(.agg [(.int .u8 1),(.str []),(.str []),.nils,.nils,(.bool false),.nils,.nils,(.sl 67 0 11 0 1 none),(.sl 81 0 11 0 1 none),(.int .u8 15),(.int .u8 0),(.int .i64 0),(.str []),(.str []),(.str []),(.int .i64 0),(.int .u8 0),(.sl 230 0 9 0 2 (some 2)),.nils,.nils,(.int .i64 (-1)),.nils]),(.agg [(.int .i64 0),(.int .i64 0)])]),244,[(67,(.vec 0 11 [(.agg [(.bool true),(.int .u8 0),(.int .u8 0),(.int .i64 0),(.str []),(.str []),(.str []),(.int .i64 0),(.int .u8 0),.nils,(.str [])])] ⟨true,some 165⟩)),(81,(.vec 0 11 q13 ⟨true,some 96⟩)),(159,(.vec 0 9 q7 ⟨false,some 28⟩)),(229,(.vec 0 9 q8 ⟨false,some 28⟩)),(230,(.vec 0 9 [(.agg [(.int .u8 9),(.int .u8 0),(.int .i64 0),(.str []),(.str []),(.str []),(.int .i64 0),(.int .u8 0),(.sl 159 0 9 0 2 (some 2))]),(.agg [(.int .u8 12),(.int .u8 0),(.int .i64 0),(.str []),(.str []),(.str []),(.int .i64 0),(.int .u8 0),(.sl 229 0 9 0 2 (some 2))])] ⟨false,some 28⟩))]⟩
def k22 : Know := ⟨48,q3,q20,2,[]⟩
def k23 : Know := ⟨48,[(.str [116,97,98,108,101,32,116,32,40,32,97,32,105,110,116,32,44,32,98,32,105,110,116,32,44,32,99,32,105,110,116,32,44,32,112,114,105,109,97,114,121,32,107,101,121,32,40,32,97,32,44,32,98,32,41,32,41,32,59,32,99,114,101,97,116,101,32,105,110,100,101,120,32,105,32,111,110,32,116,32,40,32,99,32,41,32,59])],q23,2,[]⟩
def k24 : Know := ⟨48,[(.str [116,32,40,32,97,32,105,110,116,32,44,32,98,32,105,110,116,32,44,32,99,32,105,110,116,32,44,32,112,114,105,109,97,114,121,32,107,101,121,32,40,32,97,32,44,32,98,32,41,32,41,32,59,32,99,114,101,97,116,101,32,105,110,100,101,120,32,105,32,111,110,32,116,32,40,32,99,32,41,32,59])],q26,2,[]⟩
def k25 : Know := ⟨48,[(.str [40,32,97,32,105,110,116,32,44,32,98,32,105,110,116,32,44,32,99,32,105,110,116,32,44,32,112,114,105,109,97,114,121,32,107,101,121,32,40,32,97,32,44,32,98,32,41,32,41,32,59,32,99,114,101,97,116,101,32,105,110,100,101,120,32,105,32,111,110,32,116,32,40,32,99,32,41,32,59])],q28,2,[]⟩
def k26 : Know := ⟨48,[(.str [97,32,105,110,116,32,44,32,98,32,105,110,116,32,44,32,99,32,105,110,116,32,44,32,112,114,105,109,97,114,121,32,107,101,121,32,40,32,97,32,44,32,98,32,41,32,41,32,59,32,99,114,101,97,116,101,32,105,110,100,101,120,32,105,32,111,110,32,116,32,40,32,99,32,41,32,59])],q29,2,[]⟩
def k27 : Know := ⟨48,[(.str [105,110,116,32,44,32,98,32,105,110,116,32,44,32,99,32,105,110,116,32,44,32,112,114,105,109,97,114,121,32,107,101,121,32,40,32,97,32,44,32,98,32,41,32,41,32,59,32,99,114,101,97,116,101,32,105,110,100,101,120,32,105,32,111,110,32,116,32,40,32,99,32,41,32,59])],q25,2,[]⟩
def k28 : Know := ⟨48,[(.str [44,32,98,32,105,110,116,32,44,32,99,32,105,110,116,32,44,32,112,114,105,109,97,114,121,32,107,101,121,32,40,32,97,32,44,32,98,32,41,32,41,32,59,32,99,114,101,97,116,101,32,105,110,100,101,120,32,105,32,111,110,32,116,32,40,32,99,32,41,32,59])],q27,2,[]⟩
def k29 : Know := ⟨48,[(.str [98,32,105,110,116,32,44,32,99,32,105,110,116,32,44,32,112,114,105,109,97,114,121,32,107,101,121,32,40,32,97,32,44,32,98,32,41,32,41,32,59,32,99,114,101,97,116,101,32,105,110,100,101,120,32,105,32,111,110,32,116,32,40,32,99,32,41,32,59])],q31,2,[]⟩
def k30 : Know := ⟨48,[(.str [105,110,116,32,44,32,99,32,105,110,116,32,44,32,112,114,105,109,97,114,121,32,107,101,121,32,40,32,97,32,44,32,98,32,41,32,41,32,59,32,99,114,101,97,116,101,32,105,110,100,101,120,32,105,32,111,110,32,116,32,40,32,99,32,41,32,59])],q25,2,[]⟩
def k31 : Know := ⟨48,[(.str [44,32,99,32,105,110,116,32,44,32,112,114,105,109,97,114,121,32,107,101,121,32,40,32,97,32,44,32,98,32,41,32,41,32,59,32,99,114,101,97,116,101,32,105,110,100,101,120,32,105,32,111,110,32,116,32,40,32,99,32,41,32,59])],q27,2,[]⟩
def k32 : Know := ⟨48,[(.str [99,32,105,110,116,32,44,32,112,114,105,109,97,114,121,32,107,101,121,32,40,32,97,32,44,32,98,32,41,32,41,32,59,32,99,114,101,97,116,101,32,105,110,100,101,120,32,105,32,111,110,32,116,32,40,32,99,32,41,32,59])],q32,2,[]⟩
def k33 : Know := ⟨48,[(.str [105,110,116,32,44,32,112,114,105,109,97,114,121,32,107,101,121,32,40,32,97,32,44,32,98,32,41,32,41,32,59,32,99,114,101,97,116,101,32,105,110,100,101,120,32,105,32,111,110,32,116,32,40,32,99,32,41,32,59])],q25,2,[]⟩
def k34 : Know := ⟨48,[(.str [44,32,112,114,105,109,97,114,121,32,107,101,121,32,40,32,97,32,44,32,98,32,41,32,41,32,59,32,99,114,101,97,116,101,32,105,110,100,101,120,32,105,32,111,110,32,116,32,40,32,99,32,41,32,59])],q27,2,[]⟩
def k35 : Know := ⟨48,[(.str [112,114,105,109,97,114,121,32,107,101,121,32,40,32,97,32,44,32,98,32,41,32,41,32,59,32,99,114,101,97,116,101,32,105,110,100,101,120,32,105,32,111,110,32,116,32,40,32,99,32,41,32,59])],q19,2,[]⟩
def k36 : Know := ⟨48,[(.str [107,101,121,32,40,32,97,32,44,32,98,32,41,32,41,32,59,32,99,114,101,97,116,101,32,105,110,100,101,120,32,105,32,111,110,32,116,32,40,32,99,32,41,32,59])],(.tup [q44,(.int .i64 3),(.int .i64 0)]),2,[]⟩
def k37 : Know := ⟨48,[(.str [40,32,97,32,44,32,98,32,41,32,41,32,59,32,99,114,101,97,116,101,32,105,110,100,101,120,32,105,32,111,110,32,116,32,40,32,99,32,41,32,59])],q28,2,[]⟩
def k38 : Know := ⟨48,[(.str [97,32,44,32,98,32,41,32,41,32,59,32,99,114,101,97,116,101,32,105,110,100,101,120,32,105,32,111,110,32,116,32,40,32,99,32,41,32,59])],q29,2,[]⟩
def k39 : Know := ⟨48,[(.str [44,32,98,32,41,32,41,32,59,32,99,114,101,97,116,101,32,105,110,100,101,120,32,105,32,111,110,32,116,32,40,32,99,32,41,32,59])],q27,2,[]⟩
def k40 : Know := ⟨48,[(.str [98,32,41,32,41,32,59,32,99,114,101,97,116,101,32,105,110,100,101,120,32,105,32,111,110,32,116,32,40,32,99,32,41,32,59])],q31,2,[]⟩
def k41 : Know := ⟨48,[(.str [41,32,41,32,59,32,99,114,101,97,116,101,32,105,110,100,101,120,32,105,32,111,110,32,116,32,40,32,99,32,41,32,59])],q30,2,[]⟩
def k42 : Know := ⟨48,[(.str [41,32,59,32,99,114,101,97,116,101,32,105,110,100,101,120,32,105,32,111,110,32,116,32,40,32,99,32,41,32,59])],q30,2,[]⟩
def k43 : Know := ⟨48,[(.str [59,32,99,114,101,97,116,101,32,105,110,100,101,120,32,105,32,111,110,32,116,32,40,32,99,32,41,32,59])],(.tup [(.agg [(.int .u8 4),(.str [59]),(.int .u64 0),(.int .i64 0)]),(.int .i64 1),(.int .i64 0)]),2,[]⟩
def k44 : Know := ⟨48,[(.str [99,114,101,97,116,101,32,105,110,100,101,120,32,105,32,111,110,32,116,32,40,32,99,32,41,32,59])],q20,2,[]⟩
def k45 : Know := ⟨48,[(.str [105,110,100,101,120,32,105,32,111,110,32,116,32,40,32,99,32,41,32,59])],q21,2,[]⟩
def k46 : Know := ⟨48,[(.str [105,32,111,110,32,116,32,40,32,99,32,41,32,59])],(.tup [q49,(.int .i64 1),(.int .i64 0)]),2,[]⟩
def k47 : Know := ⟨48,[(.str [111,110,32,116,32,40,32,99,32,41,32,59])],(.tup [q45,(.int .i64 2),(.int .i64 0)]),2,[]⟩
def k48 : Know := ⟨48,[(.str [116,32,40,32,99,32,41,32,59])],q26,2,[]⟩
def k49 : Know := ⟨48,[(.str [40,32,99,32,41,32,59])],q28,2,[]⟩
def k50 : Know := ⟨48,[(.str [99,32,41,32,59])],q32,2,[]⟩
def k51 : Know := ⟨48,[(.str [41,32,59])],q30,2,[]⟩
def k52 : Know := ⟨48,[(.str [59])],(.tup [(.agg [(.int .u8 4),(.str [59]),(.int .u64 0),(.int .i64 0)]),(.int .i64 1),(.int .i64 0)]),2,[]⟩
def k53 : Know := ⟨25,q3,(.tup [(.sl 5 30 4 0 31 none),(.agg [(.int .i64 0),(.int .i64 0)])]),126,[(5,(.vec 30 4 (q37 :: (.agg [(.int .u8 1),(.str [116,97,98,108,101]),(.int .u64 0),(.int .i64 7)]) :: (.agg [(.int .u8 1),(.str [116]),(.int .u64 0),(.int .i64 13)]) :: (.agg [(.int .u8 4),(.str [40]),(.int .u64 0),(.int .i64 15)]) :: (.agg [(.int .u8 1),(.str [97]),(.int .u64 0),(.int .i64 17)]) :: (.agg [(.int .u8 1),(.str [105,110,116]),(.int .u64 0),(.int .i64 19)]) :: (.agg [(.int .u8 4),(.str [44]),(.int .u64 0),(.int .i64 23)]) :: (.agg [(.int .u8 1),(.str [98]),(.int .u64 0),(.int .i64 25)]) :: (.agg [(.int .u8 1),(.str [105,110,116]),(.int .u64 0),(.int .i64 27)]) :: (.agg [(.int .u8 4),(.str [44]),(.int .u64 0),(.int .i64 31)]) :: (.agg [(.int .u8 1),(.str [99]),(.int .u64 0),(.int .i64 33)]) :: (.agg [(.int .u8 1),(.str [105,110,116]),(.int .u64 0),(.int .i64 35)]) :: (.agg [(.int .u8 4),(.str [44]),(.int .u64 0),(.int .i64 39)]) :: (.agg [(.int .u8 1),(.str [112,114,105,109,97,114,121]),(.int .u64 0),(.int .i64 41)]) :: (.agg [(.int .u8 1),(.str [107,101,121]),(.int .u64 0),(.int .i64 49)]) :: (.agg [(.int .u8 4),(.str [40]),(.int .u64 0),(.int .i64 53)]) :: (.agg [(.int .u8 1),(.str [97]),(.int .u64 0),(.int .i64 55)]) :: (.agg [(.int .u8 4),(.str [44]),(.int .u64 0),(.int .i64 57)]) :: (.agg [(.int .u8 1),(.str [98]),(.int .u64 0),(.int .i64 59)]) :: (.agg [(.int .u8 4),(.str [41]),(.int .u64 0),(.int .i64 61)]) :: (.agg [(.int .u8 4),(.str [41]),(.int .u64 0),(.int .i64 63)]) :: (.agg [(.int .u8 4),(.str [59]),(.int .u64 0),(.int .i64 65)]) :: (.agg [(.int .u8 1),(.str [99,114,101,97,116,101]),(.int .u64 0),(.int .i64 67)]) :: (.agg [(.int .u8 1),(.str [105,110,100,101,120]),(.int .u64 0),(.int .i64 74)]) :: (.agg [(.int .u8 1),(.str [105]),(.int .u64 0),(.int .i64 80)]) :: (.agg [(.int .u8 1),(.str [111,110]),(.int .u64 0),(.int .i64 82)]) :: (.agg [(.int .u8 1),(.str [116]),(.int .u64 0),(.int .i64 85)]) :: (.agg [(.int .u8 4),(.str [40]),(.int .u64 0),(.int .i64 87)]) :: (.agg [(.int .u8 1),(.str [99]),(.int .u64 0),(.int .i64 89)]) :: (.agg [(.int .u8 4),(.str [41]),(.int .u64 0),(.int .i64 91)]) :: (.agg [(.int .u8 4),(.str [59]),(.int .u64 0),(.int .i64 93)]) :: []) ⟨true,some 127⟩))]⟩
def k54 : Know := ⟨99,[(.str [99])],(.bool false),1,[]⟩
def k55 : Know := ⟨99,[(.str [105])],(.bool false),1,[]⟩
def k56 : Know := ⟨35,q3,(.tup [(.agg [(.sl 311 0 5 0 1 none)]),(.agg [(.int .i64 0),(.int .i64 0)])]),326,[(302,(.vec 1 1 [(.int .i64 0),(.int .i64 1)] ⟨true,some 3⟩)),(308,(.vec 0 3 q12 ⟨true,some 175⟩)),(311,(.vec 0 5 [(.agg [(.str [116]),(.int .i64 1),(.sl 308 0 3 0 3 none),(.sl 302 1 1 0 2 none),(.sl 325 0 4 0 1 none)])] ⟨true,some 100⟩)),(323,(.vec 0 1 [(.int .i64 2)] ⟨true,some 3⟩)),(325,(.vec 0 4 [(.agg [(.str [105]),(.int .i64 1),(.sl 323 0 1 0 1 none),(.bool false)])] ⟨true,some 146⟩))]⟩
def k57 : Know := ⟨193,[q37],(.str [99,114,101,97,116,101]),1,[]⟩
def k58 : Know := ⟨48,[(.str [99,114,101,97,116,101])],q20,2,[]⟩
def k59 : Know := ⟨25,[(.str [99,114,101,97,116,101])],q47,6,[(5,(.vec 0 4 [q37] ⟨true,some 127⟩))]⟩
def k60 : Know := ⟨192,[q37],(.bool true),9,[]⟩
def k61 : Know := ⟨193,[q40],(.str [116,97,98,108,101]),1,[]⟩
def k62 : Know := ⟨48,[(.str [116,97,98,108,101])],q23,2,[]⟩
def k63 : Know := ⟨25,[(.str [116,97,98,108,101])],q47,6,[(5,(.vec 0 4 [q40] ⟨true,some 127⟩))]⟩
def k64 : Know := ⟨192,[q40],(.bool true),9,[]⟩
def k65 : Know := ⟨193,[q48],(.str [116]),1,[]⟩
def k66 : Know := ⟨48,[(.str [116])],q26,2,[]⟩
def k67 : Know := ⟨25,[(.str [116])],q47,6,[(5,(.vec 0 4 [q48] ⟨true,some 127⟩))]⟩
def k68 : Know := ⟨192,[q48],(.bool true),9,[]⟩
def k69 : Know := ⟨193,[q54],(.str [40]),1,[]⟩
def k70 : Know := ⟨48,[(.str [40])],q28,2,[]⟩
def k71 : Know := ⟨25,[(.str [40])],q47,6,[(5,(.vec 0 4 [q54] ⟨true,some 127⟩))]⟩
def k72 : Know := ⟨192,[q54],(.bool true),9,[]⟩
def k73 : Know := ⟨193,[q55],(.str [97]),1,[]⟩
def k74 : Know := ⟨48,[(.str [97])],q29,2,[]⟩
def k75 : Know := ⟨25,[(.str [97])],q47,6,[(5,(.vec 0 4 [q55] ⟨true,some 127⟩))]⟩
def k76 : Know := ⟨192,[q55],(.bool true),9,[]⟩
def k77 : Know := ⟨193,q42,(.str [105,110,116]),1,[]⟩
def k78 : Know := ⟨48,[(.str [105,110,116])],q25,2,[]⟩
def k79 : Know := ⟨25,[(.str [105,110,116])],q47,6,[(5,(.vec 0 4 q42 ⟨true,some 127⟩))]⟩
def k80 : Know := ⟨192,q42,(.bool true),9,[]⟩
def k81 : Know := ⟨193,[q53],(.str [44]),1,[]⟩
def k82 : Know := ⟨48,[(.str [44])],q27,2,[]⟩
def k83 : Know := ⟨25,[(.str [44])],q47,6,[(5,(.vec 0 4 [q53] ⟨true,some 127⟩))]⟩
def k84 : Know := ⟨192,[q53],(.bool true),9,[]⟩
def k85 : Know := ⟨193,[q50],(.str [98]),1,[]⟩
def k86 : Know := ⟨25,[(.str [98])],q47,6,[(5,(.vec 0 4 [q50] ⟨true,some 127⟩))]⟩
def k87 : Know := ⟨192,[q50],(.bool true),9,[]⟩
def k88 : Know := ⟨193,[q52],(.str [99]),1,[]⟩
def k89 : Know := ⟨48,[(.str [99])],q32,2,[]⟩
def k90 : Know := ⟨25,[(.str [99])],q47,6,[(5,(.vec 0 4 [q52] ⟨true,some 127⟩))]⟩
def k91 : Know := ⟨192,[q52],(.bool true),9,[]⟩
def k92 : Know := ⟨193,[q35],(.str [112,114,105,109,97,114,121]),1,[]⟩
def k93 : Know := ⟨48,[(.str [112,114,105,109,97,114,121])],q19,2,[]⟩
def k94 : Know := ⟨25,[(.str [112,114,105,109,97,114,121])],q47,6,[(5,(.vec 0 4 [q35] ⟨true,some 127⟩))]⟩
def k95 : Know := ⟨192,[q35],(.bool true),9,[]⟩
def k96 : Know := ⟨193,[q44],(.str [107,101,121]),1,[]⟩
def k97 : Know := ⟨48,[(.str [107,101,121])],(.tup [q44,(.int .i64 3),(.int .i64 0)]),2,[]⟩
def k98 : Know := ⟨25,[(.str [107,101,121])],q47,6,[(5,(.vec 0 4 [q44] ⟨true,some 127⟩))]⟩
def k99 : Know := ⟨192,[q44],(.bool true),9,[]⟩
def k100 : Know := ⟨193,[q51],(.str [41]),1,[]⟩
def k101 : Know := ⟨48,[(.str [41])],q30,2,[]⟩
def k102 : Know := ⟨25,[(.str [41])],q47,6,[(5,(.vec 0 4 [q51] ⟨true,some 127⟩))]⟩
def k103 : Know := ⟨192,[q51],(.bool true),9,[]⟩
def k104 : Know := ⟨142,[(lstOf 4 [q37,q40,q48,q54,q55,q43,q53,q50,q43,q53,q52,q43,q53,q35,q44,q54,q55,q53,q50,q51,q51])],(.tup [q11,(.agg [(.int .i64 0),(.int .i64 0)])]),235,[]⟩
def k105 : Know := ⟨48,q10,q20,2,[]⟩
def k106 : Know := ⟨48,[(.str [116,97,98,108,101,32,116,32,40,32,97,32,105,110,116,32,44,32,98,32,105,110,116,32,44,32,99,32,105,110,116,32,44,32,112,114,105,109,97,114,121,32,107,101,121,32,40,32,97,32,44,32,98,32,41,32,41])],q23,2,[]⟩
def k107 : Know := ⟨48,[(.str [116,32,40,32,97,32,105,110,116,32,44,32,98,32,105,110,116,32,44,32,99,32,105,110,116,32,44,32,112,114,105,109,97,114,121,32,107,101,121,32,40,32,97,32,44,32,98,32,41,32,41])],q26,2,[]⟩
def k108 : Know := ⟨48,[(.str [40,32,97,32,105,110,116,32,44,32,98,32,105,110,116,32,44,32,99,32,105,110,116,32,44,32,112,114,105,109,97,114,121,32,107,101,121,32,40,32,97,32,44,32,98,32,41,32,41])],q28,2,[]⟩
def k109 : Know := ⟨48,[(.str [97,32,105,110,116,32,44,32,98,32,105,110,116,32,44,32,99,32,105,110,116,32,44,32,112,114,105,109,97,114,121,32,107,101,121,32,40,32,97,32,44,32,98,32,41,32,41])],q29,2,[]⟩
def k110 : Know := ⟨48,[(.str [105,110,116,32,44,32,98,32,105,110,116,32,44,32,99,32,105,110,116,32,44,32,112,114,105,109,97,114,121,32,107,101,121,32,40,32,97,32,44,32,98,32,41,32,41])],q25,2,[]⟩
def k111 : Know := ⟨48,[(.str [44,32,98,32,105,110,116,32,44,32,99,32,105,110,116,32,44,32,112,114,105,109,97,114,121,32,107,101,121,32,40,32,97,32,44,32,98,32,41,32,41])],q27,2,[]⟩
def k112 : Know := ⟨48,[(.str [98,32,105,110,116,32,44,32,99,32,105,110,116,32,44,32,112,114,105,109,97,114,121,32,107,101,121,32,40,32,97,32,44,32,98,32,41,32,41])],q31,2,[]⟩
def k113 : Know := ⟨48,[(.str [105,110,116,32,44,32,99,32,105,110,116,32,44,32,112,114,105,109,97,114,121,32,107,101,121,32,40,32,97,32,44,32,98,32,41,32,41])],q25,2,[]⟩
def k114 : Know := ⟨48,[(.str [44,32,99,32,105,110,116,32,44,32,112,114,105,109,97,114,121,32,107,101,121,32,40,32,97,32,44,32,98,32,41,32,41])],q27,2,[]⟩
def k115 : Know := ⟨48,[(.str [99,32,105,110,116,32,44,32,112,114,105,109,97,114,121,32,107,101,121,32,40,32,97,32,44,32,98,32,41,32,41])],q32,2,[]⟩
def k116 : Know := ⟨48,[(.str [105,110,116,32,44,32,112,114,105,109,97,114,121,32,107,101,121,32,40,32,97,32,44,32,98,32,41,32,41])],q25,2,[]⟩
def k117 : Know := ⟨48,[(.str [44,32,112,114,105,109,97,114,121,32,107,101,121,32,40,32,97,32,44,32,98,32,41,32,41])],q27,2,[]⟩
def k118 : Know := ⟨48,[(.str [112,114,105,109,97,114,121,32,107,101,121,32,40,32,97,32,44,32,98,32,41,32,41])],q19,2,[]⟩
def k119 : Know := ⟨48,[(.str [107,101,121,32,40,32,97,32,44,32,98,32,41,32,41])],(.tup [q44,(.int .i64 3),(.int .i64 0)]),2,[]⟩
def k120 : Know := ⟨48,[(.str [40,32,97,32,44,32,98,32,41,32,41])],q28,2,[]⟩
def k121 : Know := ⟨48,[(.str [97,32,44,32,98,32,41,32,41])],q29,2,[]⟩
def k122 : Know := ⟨48,[(.str [44,32,98,32,41,32,41])],q27,2,[]⟩
def k123 : Know := ⟨48,[(.str [98,32,41,32,41])],q31,2,[]⟩
def k124 : Know := ⟨48,[(.str [41,32,41])],q30,2,[]⟩
def k125 : Know := ⟨25,q10,(.tup [(.sl 5 20 4 0 21 none),(.agg [(.int .i64 0),(.int .i64 0)])]),86,[(5,(.vec 20 4 [q37,(.agg [(.int .u8 1),(.str [116,97,98,108,101]),(.int .u64 0),(.int .i64 7)]),(.agg [(.int .u8 1),(.str [116]),(.int .u64 0),(.int .i64 13)]),(.agg [(.int .u8 4),(.str [40]),(.int .u64 0),(.int .i64 15)]),(.agg [(.int .u8 1),(.str [97]),(.int .u64 0),(.int .i64 17)]),(.agg [(.int .u8 1),(.str [105,110,116]),(.int .u64 0),(.int .i64 19)]),(.agg [(.int .u8 4),(.str [44]),(.int .u64 0),(.int .i64 23)]),(.agg [(.int .u8 1),(.str [98]),(.int .u64 0),(.int .i64 25)]),(.agg [(.int .u8 1),(.str [105,110,116]),(.int .u64 0),(.int .i64 27)]),(.agg [(.int .u8 4),(.str [44]),(.int .u64 0),(.int .i64 31)]),(.agg [(.int .u8 1),(.str [99]),(.int .u64 0),(.int .i64 33)]),(.agg [(.int .u8 1),(.str [105,110,116]),(.int .u64 0),(.int .i64 35)]),(.agg [(.int .u8 4),(.str [44]),(.int .u64 0),(.int .i64 39)]),(.agg [(.int .u8 1),(.str [112,114,105,109,97,114,121]),(.int .u64 0),(.int .i64 41)]),(.agg [(.int .u8 1),(.str [107,101,121]),(.int .u64 0),(.int .i64 49)]),(.agg [(.int .u8 4),(.str [40]),(.int .u64 0),(.int .i64 53)]),(.agg [(.int .u8 1),(.str [97]),(.int .u64 0),(.int .i64 55)]),(.agg [(.int .u8 4),(.str [44]),(.int .u64 0),(.int .i64 57)]),(.agg [(.int .u8 1),(.str [98]),(.int .u64 0),(.int .i64 59)]),(.agg [(.int .u8 4),(.str [41]),(.int .u64 0),(.int .i64 61)]),(.agg [(.int .u8 4),(.str [41]),(.int .u64 0),(.int .i64 63)])] ⟨true,some 127⟩))]⟩
def k126 : Know := ⟨13,q10,(.tup [(.agg [(.int .u8 5),(.str [116]),(.str []),(.sl 123 2 3 0 3 none),(.sl 171 1 1 0 2 none),(.bool false),.nils,.nils,.nils,.nils,(.int .u8 0),(.int .u8 0),(.int .i64 0),(.str []),(.str []),(.str []),(.int .i64 0),(.int .u8 0),.nils,.nils,.nils,(.int .i64 0),.nils]),(.agg [(.int .i64 0),(.int .i64 0)])]),188,[(123,(.vec 2 3 [(.agg [(.str [97]),(.int .u8 2),(.bool false)]),(.agg [(.str [98]),(.int .u8 2),(.bool false)]),(.agg [(.str [99]),(.int .u8 2),(.bool false)])] ⟨true,some 175⟩)),(171,(.vec 1 1 [(.str [97]),(.str [98])] ⟨true,some 9⟩))]⟩
def k127 : Know := ⟨102,[(.agg [(.int .u8 5),(.str [116]),(.str []),(lstOf 3 [(.agg [(.str [97]),(.int .u8 2),(.bool false)]),(.agg [(.str [98]),(.int .u8 2),(.bool false)]),(.agg [(.str [99]),(.int .u8 2),(.bool false)])]),(lstOf 1 [(.str [97]),(.str [98])]),(.bool false),.nils,.nils,.nils,.nils,(.int .u8 0),(.int .u8 0),(.int .i64 0),(.str []),(.str []),(.str []),(.int .i64 0),(.int .u8 0),.nils,.nils,.nils,(.int .i64 0),.nils])],(.tup [q11,(.int .i64 0)]),483,[]⟩
def k128 : Know := ⟨193,[(.agg [(.int .u8 1),(.str [105,110,100,101,120]),(.int .u64 0),(.int .i64 0)])],(.str [105,110,100,101,120]),1,[]⟩
def k129 : Know := ⟨48,[(.str [105,110,100,101,120])],q21,2,[]⟩
def k130 : Know := ⟨25,[(.str [105,110,100,101,120])],q47,6,[(5,(.vec 0 4 [(.agg [(.int .u8 1),(.str [105,110,100,101,120]),(.int .u64 0),(.int .i64 0)])] ⟨true,some 127⟩))]⟩
def k131 : Know := ⟨192,[(.agg [(.int .u8 1),(.str [105,110,100,101,120]),(.int .u64 0),(.int .i64 0)])],(.bool true),9,[]⟩
def k132 : Know := ⟨193,[q49],(.str [105]),1,[]⟩
def k133 : Know := ⟨48,[(.str [105])],(.tup [q49,(.int .i64 1),(.int .i64 0)]),2,[]⟩
def k134 : Know := ⟨25,[(.str [105])],q47,6,[(5,(.vec 0 4 [q49] ⟨true,some 127⟩))]⟩
def k135 : Know := ⟨192,[q49],(.bool true),9,[]⟩
def k136 : Know := ⟨193,[q45],(.str [111,110]),1,[]⟩
def k137 : Know := ⟨48,[(.str [111,110])],(.tup [q45,(.int .i64 2),(.int .i64 0)]),2,[]⟩
def k138 : Know := ⟨25,[(.str [111,110])],q47,6,[(5,(.vec 0 4 [q45] ⟨true,some 127⟩))]⟩
def k139 : Know := ⟨192,[q45],(.bool true),9,[]⟩
def k140 : Know := ⟨142,[(lstOf 4 [q37,(.agg [(.int .u8 1),(.str [105,110,100,101,120]),(.int .u64 0),(.int .i64 0)]),q49,q45,q48,q54,q52,q51])],(.tup [q33,(.agg [(.int .i64 0),(.int .i64 0)])]),92,[]⟩
def k141 : Know := ⟨48,[q33],q20,2,[]⟩
def k142 : Know := ⟨48,[(.str [105,110,100,101,120,32,105,32,111,110,32,116,32,40,32,99,32,41])],q21,2,[]⟩
def k143 : Know := ⟨48,[(.str [105,32,111,110,32,116,32,40,32,99,32,41])],(.tup [q49,(.int .i64 1),(.int .i64 0)]),2,[]⟩
def k144 : Know := ⟨48,[(.str [111,110,32,116,32,40,32,99,32,41])],(.tup [q45,(.int .i64 2),(.int .i64 0)]),2,[]⟩
def k145 : Know := ⟨48,[(.str [116,32,40,32,99,32,41])],q26,2,[]⟩
def k146 : Know := ⟨48,[(.str [40,32,99,32,41])],q28,2,[]⟩
def k147 : Know := ⟨48,[(.str [99,32,41])],q32,2,[]⟩
def k148 : Know := ⟨25,[q33],(.tup [(.sl 5 7 4 0 8 none),(.agg [(.int .i64 0),(.int .i64 0)])]),34,[(5,(.vec 7 4 [q37,(.agg [(.int .u8 1),(.str [105,110,100,101,120]),(.int .u64 0),(.int .i64 7)]),(.agg [(.int .u8 1),(.str [105]),(.int .u64 0),(.int .i64 13)]),(.agg [(.int .u8 1),(.str [111,110]),(.int .u64 0),(.int .i64 15)]),(.agg [(.int .u8 1),(.str [116]),(.int .u64 0),(.int .i64 18)]),(.agg [(.int .u8 4),(.str [40]),(.int .u64 0),(.int .i64 20)]),(.agg [(.int .u8 1),(.str [99]),(.int .u64 0),(.int .i64 22)]),(.agg [(.int .u8 4),(.str [41]),(.int .u64 0),(.int .i64 24)])] ⟨true,some 127⟩))]⟩
def k149 : Know := ⟨13,[q33],(.tup [(.agg [(.int .u8 6),(.str [105]),(.str [116]),.nils,.nils,(.bool false),(.sl 75 0 1 0 1 none),.nils,.nils,.nils,(.int .u8 0),(.int .u8 0),(.int .i64 0),(.str []),(.str []),(.str []),(.int .i64 0),(.int .u8 0),.nils,.nils,.nils,(.int .i64 0),.nils]),(.agg [(.int .i64 0),(.int .i64 0)])]),83,[(75,(.vec 0 1 [(.str [99])] ⟨true,some 9⟩))]⟩
def k150 : Know := ⟨102,[(.agg [(.int .u8 6),(.str [105]),(.str [116]),.nils,.nils,(.bool false),(lstOf 1 [(.str [99])]),.nils,.nils,.nils,(.int .u8 0),(.int .u8 0),(.int .i64 0),(.str []),(.str []),(.str []),(.int .i64 0),(.int .u8 0),.nils,.nils,.nils,(.int .i64 0),.nils])],(.tup [q33,(.int .i64 0)]),201,[]⟩
def k151 : Know := ⟨48,q2,q20,2,[]⟩
def k152 : Know := ⟨48,[(.str [116,97,98,108,101,32,116,32,40,32,97,32,105,110,116,32,44,32,98,32,105,110,116,32,44,32,99,32,105,110,116,32,44,32,112,114,105,109,97,114,121,32,107,101,121,32,40,32,97,32,44,32,98,32,41,32,41,32,59,10,99,114,101,97,116,101,32,105,110,100,101,120,32,105,32,111,110,32,116,32,40,32,99,32,41,32,59,10])],q23,2,[]⟩
def k153 : Know := ⟨48,[(.str [116,32,40,32,97,32,105,110,116,32,44,32,98,32,105,110,116,32,44,32,99,32,105,110,116,32,44,32,112,114,105,109,97,114,121,32,107,101,121,32,40,32,97,32,44,32,98,32,41,32,41,32,59,10,99,114,101,97,116,101,32,105,110,100,101,120,32,105,32,111,110,32,116,32,40,32,99,32,41,32,59,10])],q26,2,[]⟩
def k154 : Know := ⟨48,[(.str [40,32,97,32,105,110,116,32,44,32,98,32,105,110,116,32,44,32,99,32,105,110,116,32,44,32,112,114,105,109,97,114,121,32,107,101,121,32,40,32,97,32,44,32,98,32,41,32,41,32,59,10,99,114,101,97,116,101,32,105,110,100,101,120,32,105,32,111,110,32,116,32,40,32,99,32,41,32,59,10])],q28,2,[]⟩
def k155 : Know := ⟨48,[(.str [97,32,105,110,116,32,44,32,98,32,105,110,116,32,44,32,99,32,105,110,116,32,44,32,112,114,105,109,97,114,121,32,107,101,121,32,40,32,97,32,44,32,98,32,41,32,41,32,59,10,99,114,101,97,116,101,32,105,110,100,101,120,32,105,32,111,110,32,116,32,40,32,99,32,41,32,59,10])],q29,2,[]⟩
def k156 : Know := ⟨48,[(.str [105,110,116,32,44,32,98,32,105,110,116,32,44,32,99,32,105,110,116,32,44,32,112,114,105,109,97,114,121,32,107,101,121,32,40,32,97,32,44,32,98,32,41,32,41,32,59,10,99,114,101,97,116,101,32,105,110,100,101,120,32,105,32,111,110,32,116,32,40,32,99,32,41,32,59,10])],q25,2,[]⟩
def k157 : Know := ⟨48,[(.str [44,32,98,32,105,110,116,32,44,32,99,32,105,110,116,32,44,32,112,114,105,109,97,114,121,32,107,101,121,32,40,32,97,32,44,32,98,32,41,32,41,32,59,10,99,114,101,97,116,101,32,105,110,100,101,120,32,105,32,111,110,32,116,32,40,32,99,32,41,32,59,10])],q27,2,[]⟩
def k158 : Know := ⟨48,[(.str [98,32,105,110,116,32,44,32,99,32,105,110,116,32,44,32,112,114,105,109,97,114,121,32,107,101,121,32,40,32,97,32,44,32,98,32,41,32,41,32,59,10,99,114,101,97,116,101,32,105,110,100,101,120,32,105,32,111,110,32,116,32,40,32,99,32,41,32,59,10])],q31,2,[]⟩
def k159 : Know := ⟨48,[(.str [105,110,116,32,44,32,99,32,105,110,116,32,44,32,112,114,105,109,97,114,121,32,107,101,121,32,40,32,97,32,44,32,98,32,41,32,41,32,59,10,99,114,101,97,116,101,32,105,110,100,101,120,32,105,32,111,110,32,116,32,40,32,99,32,41,32,59,10])],q25,2,[]⟩
def k160 : Know := ⟨48,[(.str [44,32,99,32,105,110,116,32,44,32,112,114,105,109,97,114,121,32,107,101,121,32,40,32,97,32,44,32,98,32,41,32,41,32,59,10,99,114,101,97,116,101,32,105,110,100,101,120,32,105,32,111,110,32,116,32,40,32,99,32,41,32,59,10])],q27,2,[]⟩
def k161 : Know := ⟨48,[(.str [99,32,105,110,116,32,44,32,112,114,105,109,97,114,121,32,107,101,121,32,40,32,97,32,44,32,98,32,41,32,41,32,59,10,99,114,101,97,116,101,32,105,110,100,101,120,32,105,32,111,110,32,116,32,40,32,99,32,41,32,59,10])],q32,2,[]⟩
def k162 : Know := ⟨48,[(.str [105,110,116,32,44,32,112,114,105,109,97,114,121,32,107,101,121,32,40,32,97,32,44,32,98,32,41,32,41,32,59,10,99,114,101,97,116,101,32,105,110,100,101,120,32,105,32,111,110,32,116,32,40,32,99,32,41,32,59,10])],q25,2,[]⟩
def k163 : Know := ⟨48,[(.str [44,32,112,114,105,109,97,114,121,32,107,101,121,32,40,32,97,32,44,32,98,32,41,32,41,32,59,10,99,114,101,97,116,101,32,105,110,100,101,120,32,105,32,111,110,32,116,32,40,32,99,32,41,32,59,10])],q27,2,[]⟩
def k164 : Know := ⟨48,[(.str [112,114,105,109,97,114,121,32,107,101,121,32,40,32,97,32,44,32,98,32,41,32,41,32,59,10,99,114,101,97,116,101,32,105,110,100,101,120,32,105,32,111,110,32,116,32,40,32,99,32,41,32,59,10])],q19,2,[]⟩
def k165 : Know := ⟨48,[(.str [107,101,121,32,40,32,97,32,44,32,98,32,41,32,41,32,59,10,99,114,101,97,116,101,32,105,110,100,101,120,32,105,32,111,110,32,116,32,40,32,99,32,41,32,59,10])],(.tup [q44,(.int .i64 3),(.int .i64 0)]),2,[]⟩
def k166 : Know := ⟨48,[(.str [40,32,97,32,44,32,98,32,41,32,41,32,59,10,99,114,101,97,116,101,32,105,110,100,101,120,32,105,32,111,110,32,116,32,40,32,99,32,41,32,59,10])],q28,2,[]⟩
def k167 : Know := ⟨48,[(.str [97,32,44,32,98,32,41,32,41,32,59,10,99,114,101,97,116,101,32,105,110,100,101,120,32,105,32,111,110,32,116,32,40,32,99,32,41,32,59,10])],q29,2,[]⟩
def k168 : Know := ⟨48,[(.str [44,32,98,32,41,32,41,32,59,10,99,114,101,97,116,101,32,105,110,100,101,120,32,105,32,111,110,32,116,32,40,32,99,32,41,32,59,10])],q27,2,[]⟩
def k169 : Know := ⟨48,[(.str [98,32,41,32,41,32,59,10,99,114,101,97,116,101,32,105,110,100,101,120,32,105,32,111,110,32,116,32,40,32,99,32,41,32,59,10])],q31,2,[]⟩
def k170 : Know := ⟨48,[(.str [41,32,41,32,59,10,99,114,101,97,116,101,32,105,110,100,101,120,32,105,32,111,110,32,116,32,40,32,99,32,41,32,59,10])],q30,2,[]⟩
def k171 : Know := ⟨48,[(.str [41,32,59,10,99,114,101,97,116,101,32,105,110,100,101,120,32,105,32,111,110,32,116,32,40,32,99,32,41,32,59,10])],q30,2,[]⟩
def k172 : Know := ⟨48,[(.str [59,10,99,114,101,97,116,101,32,105,110,100,101,120,32,105,32,111,110,32,116,32,40,32,99,32,41,32,59,10])],(.tup [(.agg [(.int .u8 4),(.str [59]),(.int .u64 0),(.int .i64 0)]),(.int .i64 1),(.int .i64 0)]),2,[]⟩
def k173 : Know := ⟨48,[(.str [99,114,101,97,116,101,32,105,110,100,101,120,32,105,32,111,110,32,116,32,40,32,99,32,41,32,59,10])],q20,2,[]⟩
def k174 : Know := ⟨48,[(.str [105,110,100,101,120,32,105,32,111,110,32,116,32,40,32,99,32,41,32,59,10])],q21,2,[]⟩
def k175 : Know := ⟨48,[(.str [105,32,111,110,32,116,32,40,32,99,32,41,32,59,10])],(.tup [q49,(.int .i64 1),(.int .i64 0)]),2,[]⟩
def k176 : Know := ⟨48,[(.str [111,110,32,116,32,40,32,99,32,41,32,59,10])],(.tup [q45,(.int .i64 2),(.int .i64 0)]),2,[]⟩
def k177 : Know := ⟨48,[(.str [116,32,40,32,99,32,41,32,59,10])],q26,2,[]⟩
def k178 : Know := ⟨48,[(.str [40,32,99,32,41,32,59,10])],q28,2,[]⟩
def k179 : Know := ⟨48,[(.str [99,32,41,32,59,10])],q32,2,[]⟩
def k180 : Know := ⟨48,[(.str [41,32,59,10])],q30,2,[]⟩
def k181 : Know := ⟨48,[(.str [59,10])],(.tup [(.agg [(.int .u8 4),(.str [59]),(.int .u64 0),(.int .i64 0)]),(.int .i64 1),(.int .i64 0)]),2,[]⟩
def k182 : Know := ⟨25,q2,(.tup [(.sl 5 30 4 0 31 none),(.agg [(.int .i64 0),(.int .i64 0)])]),126,[(5,(.vec 30 4 (q37 :: (.agg [(.int .u8 1),(.str [116,97,98,108,101]),(.int .u64 0),(.int .i64 7)]) :: (.agg [(.int .u8 1),(.str [116]),(.int .u64 0),(.int .i64 13)]) :: (.agg [(.int .u8 4),(.str [40]),(.int .u64 0),(.int .i64 15)]) :: (.agg [(.int .u8 1),(.str [97]),(.int .u64 0),(.int .i64 17)]) :: (.agg [(.int .u8 1),(.str [105,110,116]),(.int .u64 0),(.int .i64 19)]) :: (.agg [(.int .u8 4),(.str [44]),(.int .u64 0),(.int .i64 23)]) :: (.agg [(.int .u8 1),(.str [98]),(.int .u64 0),(.int .i64 25)]) :: (.agg [(.int .u8 1),(.str [105,110,116]),(.int .u64 0),(.int .i64 27)]) :: (.agg [(.int .u8 4),(.str [44]),(.int .u64 0),(.int .i64 31)]) :: (.agg [(.int .u8 1),(.str [99]),(.int .u64 0),(.int .i64 33)]) :: (.agg [(.int .u8 1),(.str [105,110,116]),(.int .u64 0),(.int .i64 35)]) :: (.agg [(.int .u8 4),(.str [44]),(.int .u64 0),(.int .i64 39)]) :: (.agg [(.int .u8 1),(.str [112,114,105,109,97,114,121]),(.int .u64 0),(.int .i64 41)]) :: (.agg [(.int .u8 1),(.str [107,101,121]),(.int .u64 0),(.int .i64 49)]) :: (.agg [(.int .u8 4),(.str [40]),(.int .u64 0),(.int .i64 53)]) :: (.agg [(.int .u8 1),(.str [97]),(.int .u64 0),(.int .i64 55)]) :: (.agg [(.int .u8 4),(.str [44]),(.int .u64 0),(.int .i64 57)]) :: (.agg [(.int .u8 1),(.str [98]),(.int .u64 0),(.int .i64 59)]) :: (.agg [(.int .u8 4),(.str [41]),(.int .u64 0),(.int .i64 61)]) :: (.agg [(.int .u8 4),(.str [41]),(.int .u64 0),(.int .i64 63)]) :: (.agg [(.int .u8 4),(.str [59]),(.int .u64 0),(.int .i64 65)]) :: (.agg [(.int .u8 1),(.str [99,114,101,97,116,101]),(.int .u64 0),(.int .i64 67)]) :: (.agg [(.int .u8 1),(.str [105,110,100,101,120]),(.int .u64 0),(.int .i64 74)]) :: (.agg [(.int .u8 1),(.str [105]),(.int .u64 0),(.int .i64 80)]) :: (.agg [(.int .u8 1),(.str [111,110]),(.int .u64 0),(.int .i64 82)]) :: (.agg [(.int .u8 1),(.str [116]),(.int .u64 0),(.int .i64 85)]) :: (.agg [(.int .u8 4),(.str [40]),(.int .u64 0),(.int .i64 87)]) :: (.agg [(.int .u8 1),(.str [99]),(.int .u64 0),(.int .i64 89)]) :: (.agg [(.int .u8 4),(.str [41]),(.int .u64 0),(.int .i64 91)]) :: (.agg [(.int .u8 4),(.str [59]),(.int .u64 0),(.int .i64 93)]) :: []) ⟨true,some 127⟩))]⟩
def k183 : Know := ⟨35,q2,(.tup [(.agg [(.sl 311 0 5 0 1 none)]),(.agg [(.int .i64 0),(.int .i64 0)])]),326,[(302,(.vec 1 1 [(.int .i64 0),(.int .i64 1)] ⟨true,some 3⟩)),(308,(.vec 0 3 q12 ⟨true,some 175⟩)),(311,(.vec 0 5 [(.agg [(.str [116]),(.int .i64 1),(.sl 308 0 3 0 3 none),(.sl 302 1 1 0 2 none),(.sl 325 0 4 0 1 none)])] ⟨true,some 100⟩)),(323,(.vec 0 1 [(.int .i64 2)] ⟨true,some 3⟩)),(325,(.vec 0 4 [(.agg [(.str [105]),(.int .i64 1),(.sl 323 0 1 0 1 none),(.bool false)])] ⟨true,some 146⟩))]⟩
def k184 : Know := ⟨140,[q1],(.tup [(.str [99,114,101,97,116,101,32,116,97,98,108,101,32,116,32,40,32,97,32,105,110,116,32,44,32,98,32,105,110,116,32,44,32,99,32,105,110,116,32,44,32,112,114,105,109,97,114,121,32,107,101,121,32,40,32,97,32,44,32,98,32,41,32,41,32,59,10,99,114,101,97,116,101,32,105,110,100,101,120,32,105,32,111,110,32,116,32,40,32,99,32,41,32,59,10]),(.int .i64 0)]),1041,[]⟩
def k185 : Know := ⟨101,[q1],(.int .i64 0),1042,[]⟩
def k186 : Know := ⟨193,[q36],(.str [115,101,108,101,99,116]),1,[]⟩
def k187 : Know := ⟨48,[(.str [115,101,108,101,99,116])],(.tup [q36,(.int .i64 6),(.int .i64 0)]),2,[]⟩
def k188 : Know := ⟨25,[(.str [115,101,108,101,99,116])],q47,6,[(5,(.vec 0 4 [q36] ⟨true,some 127⟩))]⟩
def k189 : Know := ⟨192,[q36],(.bool true),9,[]⟩
def k190 : Know := ⟨193,[(.agg [(.int .u8 4),(.str [42]),(.int .u64 0),(.int .i64 0)])],(.str [42]),1,[]⟩
def k191 : Know := ⟨48,[(.str [42])],(.tup [(.agg [(.int .u8 4),(.str [42]),(.int .u64 0),(.int .i64 0)]),(.int .i64 1),(.int .i64 0)]),2,[]⟩
def k192 : Know := ⟨25,[(.str [42])],q47,6,[(5,(.vec 0 4 [(.agg [(.int .u8 4),(.str [42]),(.int .u64 0),(.int .i64 0)])] ⟨true,some 127⟩))]⟩
def k193 : Know := ⟨192,[(.agg [(.int .u8 4),(.str [42]),(.int .u64 0),(.int .i64 0)])],(.bool true),9,[]⟩
def k194 : Know := ⟨193,[q41],(.str [102,114,111,109]),1,[]⟩
def k195 : Know := ⟨48,[(.str [102,114,111,109])],(.tup [q41,(.int .i64 4),(.int .i64 0)]),2,[]⟩
def k196 : Know := ⟨25,[(.str [102,114,111,109])],q47,6,[(5,(.vec 0 4 [q41] ⟨true,some 127⟩))]⟩
def k197 : Know := ⟨192,[q41],(.bool true),9,[]⟩
def k198 : Know := ⟨193,[q39],(.str [119,104,101,114,101]),1,[]⟩
def k199 : Know := ⟨48,[(.str [119,104,101,114,101])],(.tup [q39,(.int .i64 5),(.int .i64 0)]),2,[]⟩
def k200 : Know := ⟨25,[(.str [119,104,101,114,101])],q47,6,[(5,(.vec 0 4 [q39] ⟨true,some 127⟩))]⟩
def k201 : Know := ⟨192,[q39],(.bool true),9,[]⟩
def k202 : Know := ⟨193,[(.agg [(.int .u8 4),(.str [61]),(.int .u64 0),(.int .i64 0)])],(.str [61]),1,[]⟩
def k203 : Know := ⟨48,[(.str [61])],(.tup [(.agg [(.int .u8 4),(.str [61]),(.int .u64 0),(.int .i64 0)]),(.int .i64 1),(.int .i64 0)]),2,[]⟩
def k204 : Know := ⟨25,[(.str [61])],q47,6,[(5,(.vec 0 4 [(.agg [(.int .u8 4),(.str [61]),(.int .u64 0),(.int .i64 0)])] ⟨true,some 127⟩))]⟩
def k205 : Know := ⟨192,[(.agg [(.int .u8 4),(.str [61]),(.int .u64 0),(.int .i64 0)])],(.bool true),9,[]⟩
def k206 : Know := ⟨192,[(.agg [(.int .u8 2),(.str []),(.int .u64 1),(.int .i64 0)])],(.bool true),1,[]⟩
def k207 : Know := ⟨193,[(.agg [(.int .u8 2),(.str []),(.int .u64 1),(.int .i64 0)])],(.str [49]),1,[]⟩
def k208 : Know := ⟨193,[(.agg [(.int .u8 1),(.str [97,110,100]),(.int .u64 0),(.int .i64 0)])],(.str [97,110,100]),1,[]⟩
def k209 : Know := ⟨48,[(.str [97,110,100])],(.tup [(.agg [(.int .u8 1),(.str [97,110,100]),(.int .u64 0),(.int .i64 0)]),(.int .i64 3),(.int .i64 0)]),2,[]⟩
def k210 : Know := ⟨25,[(.str [97,110,100])],q47,6,[(5,(.vec 0 4 [(.agg [(.int .u8 1),(.str [97,110,100]),(.int .u64 0),(.int .i64 0)])] ⟨true,some 127⟩))]⟩
def k211 : Know := ⟨192,[(.agg [(.int .u8 1),(.str [97,110,100]),(.int .u64 0),(.int .i64 0)])],(.bool true),9,[]⟩
def k212 : Know := ⟨192,[(.agg [(.int .u8 2),(.str []),(.int .u64 2),(.int .i64 0)])],(.bool true),1,[]⟩
def k213 : Know := ⟨193,[(.agg [(.int .u8 2),(.str []),(.int .u64 2),(.int .i64 0)])],(.str [50]),1,[]⟩
def k214 : Know := ⟨193,[(.agg [(.int .u8 4),(.str [60,61]),(.int .u64 0),(.int .i64 0)])],(.str [60,61]),1,[]⟩
def k215 : Know := ⟨48,[(.str [60,61])],(.tup [(.agg [(.int .u8 4),(.str [60,61]),(.int .u64 0),(.int .i64 0)]),(.int .i64 2),(.int .i64 0)]),2,[]⟩
def k216 : Know := ⟨25,[(.str [60,61])],q47,6,[(5,(.vec 0 4 [(.agg [(.int .u8 4),(.str [60,61]),(.int .u64 0),(.int .i64 0)])] ⟨true,some 127⟩))]⟩
def k217 : Know := ⟨192,[(.agg [(.int .u8 4),(.str [60,61]),(.int .u64 0),(.int .i64 0)])],(.bool true),9,[]⟩
def k218 : Know := ⟨142,[(lstOf 4 [q36,(.agg [(.int .u8 4),(.str [42]),(.int .u64 0),(.int .i64 0)]),q41,q48,q39,q55,(.agg [(.int .u8 4),(.str [61]),(.int .u64 0),(.int .i64 0)]),(.agg [(.int .u8 2),(.str []),(.int .u64 1),(.int .i64 0)]),(.agg [(.int .u8 1),(.str [97,110,100]),(.int .u64 0),(.int .i64 0)]),(.agg [(.int .u8 2),(.str []),(.int .u64 2),(.int .i64 0)]),(.agg [(.int .u8 4),(.str [60,61]),(.int .u64 0),(.int .i64 0)]),q50])],(.tup [q17,(.agg [(.int .i64 0),(.int .i64 0)])]),120,[]⟩
def k219 : Know := ⟨102,[(.agg [(.int .u8 1),(.str []),(.str []),.nils,.nils,(.bool false),.nils,.nils,(lstOf 11 [(.agg [(.bool true),(.int .u8 0),(.int .u8 0),(.int .i64 0),(.str []),(.str []),(.str []),(.int .i64 0),(.int .u8 0),.nils,(.str [])])]),(lstOf 11 q13),(.int .u8 15),(.int .u8 0),(.int .i64 0),(.str []),(.str []),(.str []),(.int .i64 0),(.int .u8 0),(lstOf 9 [(.agg [(.int .u8 9),(.int .u8 0),(.int .i64 0),(.str []),(.str []),(.str []),(.int .i64 0),(.int .u8 0),(lstOf 9 q7)]),(.agg [(.int .u8 12),(.int .u8 0),(.int .i64 0),(.str []),(.str []),(.str []),(.int .i64 0),(.int .u8 0),(lstOf 9 q8)])]),.nils,.nils,(.int .i64 (-1)),.nils])],(.tup [q17,(.int .i64 0)]),482,[]⟩
def k220 : Know := ⟨31,[q1,(.agg [(.int .u8 1),(.str []),(.str []),.nils,.nils,(.bool false),.nils,.nils,(lstOf 11 [(.agg [(.bool true),(.int .u8 0),(.int .u8 0),(.int .i64 0),(.str []),(.str []),(.str []),(.int .i64 0),(.int .u8 0),.nils,(.str [])])]),(lstOf 11 q13),(.int .u8 15),(.int .u8 0),(.int .i64 0),(.str []),(.str []),(.str []),(.int .i64 0),(.int .u8 0),(lstOf 9 [(.agg [(.int .u8 9),(.int .u8 0),(.int .i64 0),(.str []),(.str []),(.str []),(.int .i64 0),(.int .u8 0),(lstOf 9 q7)]),(.agg [(.int .u8 12),(.int .u8 0),(.int .i64 0),(.str []),(.str []),(.str []),(.int .i64 0),(.int .u8 0),(lstOf 9 q8)])]),.nils,.nils,(.int .i64 (-1)),.nils])],(.tup [(.agg [(.int .u8 1),(.str []),(.str []),.nils,.nils,(.bool false),.nils,.nils,(.sl 1635 2 11 0 3 none),(.sl 1554 0 11 0 1 none),(.int .u8 15),(.int .u8 0),(.int .i64 0),(.str []),(.str []),(.str []),(.int .i64 0),(.int .u8 1),(.sl 1566 0 9 0 2 none),.nils,.nils,(.int .i64 (-1)),.nils]),(.int .i64 0)]),1659,[(1554,(.vec 0 11 q13 ⟨true,some 96⟩)),(1566,(.vec 0 9 [(.agg [(.int .u8 9),(.int .u8 0),(.int .i64 0),(.str []),(.str []),(.str []),(.int .i64 0),(.int .u8 1),(.sl 1572 0 9 0 2 none)]),(.agg [(.int .u8 12),(.int .u8 0),(.int .i64 0),(.str []),(.str []),(.str []),(.int .i64 0),(.int .u8 1),(.sl 1593 0 9 0 2 none)])] ⟨true,some 28⟩)),(1572,(.vec 0 9 [(.agg [(.int .u8 2),(.int .u8 0),(.int .i64 0),(.str []),(.str []),(.str [97]),(.int .i64 0),(.int .u8 2),.nils]),(.agg [(.int .u8 1),(.int .u8 2),(.int .i64 1),(.str []),(.str []),(.str []),(.int .i64 0),(.int .u8 2),.nils])] ⟨true,some 28⟩)),(1593,(.vec 0 9 [(.agg [(.int .u8 1),(.int .u8 2),(.int .i64 2),(.str []),(.str []),(.str []),(.int .i64 0),(.int .u8 2),.nils]),(.agg [(.int .u8 2),(.int .u8 0),(.int .i64 0),(.str []),(.str []),(.str [98]),(.int .i64 1),(.int .u8 2),.nils])] ⟨true,some 28⟩)),(1635,(.vec 2 11 [(.agg [(.bool false),(.int .u8 2),(.int .u8 0),(.int .i64 0),(.str []),(.str [116]),(.str [97]),(.int .i64 0),(.int .u8 2),.nils,(.str [97])]),(.agg [(.bool false),(.int .u8 2),(.int .u8 0),(.int .i64 0),(.str []),(.str [116]),(.str [98]),(.int .i64 1),(.int .u8 2),.nils,(.str [98])]),(.agg [(.bool false),(.int .u8 2),(.int .u8 0),(.int .i64 0),(.str []),(.str [116]),(.str [99]),(.int .i64 2),(.int .u8 2),.nils,(.str [99])])] ⟨true,some 165⟩))]⟩
def k221 : Know := ⟨7,[(.agg [(.int .u8 1),(.int .u8 2),(.int .i64 1),(.str []),(.str []),(.str []),(.int .i64 0),(.int .u8 2),.nils]),.nils],(.tup [(.agg [(.int .u8 2),(.int .i64 1),(.str [])]),(.int .i64 0)]),2,[]⟩
def k222 : Know := ⟨7,[(.agg [(.int .u8 1),(.int .u8 2),(.int .i64 2),(.str []),(.str []),(.str []),(.int .i64 0),(.int .u8 2),.nils]),.nils],(.tup [(.agg [(.int .u8 2),(.int .i64 2),(.str [])]),(.int .i64 0)]),2,[]⟩
def k223 : Know := ⟨63,[(.int .i64 0),(lstOf 1 [(.int .i64 0),(.int .i64 1)]),(lstOf 5 [(.agg [(.int .i64 0),(.int .u8 9),(.int .u8 2),(.int .i64 1),(.str [])]),(.agg [(.int .i64 1),(.int .u8 14),(.int .u8 2),(.int .i64 2),(.str [])])])],(.agg [(.int .i64 0),(.sl 9 0 3 0 1 none),(.bool true),(.int .i64 1)]),23,[(9,(.vec 0 3 [(.agg [(.int .u8 2),(.int .i64 1),(.str [])])] ⟨true,some 25⟩))]⟩
def k224 : Know := ⟨63,[(.int .i64 1),(lstOf 1 [(.int .i64 2)]),(lstOf 5 [(.agg [(.int .i64 0),(.int .u8 9),(.int .u8 2),(.int .i64 1),(.str [])]),(.agg [(.int .i64 1),(.int .u8 14),(.int .u8 2),(.int .i64 2),(.str [])])])],(.agg [(.int .i64 1),.nils,(.bool false),(.int .i64 2)]),15,[]⟩
def k225 : Know := ⟨16,[(lstOf 3 [(.agg [(.int .u8 2),(.int .i64 1),(.str [])]),(.agg [(.int .u8 2),(.int .i64 0),(.str [])]),(.agg [(.int .u8 2),(.int .i64 1),(.str [])])])],(.tup [(.str [3,128,0,0,0,0,0,0,1,3,128,0,0,0,0,0,0,0,3,128,0,0,0,0,0,0,1]),(.int .i64 0)]),35,[]⟩
def k226 : Know := ⟨16,[(lstOf 3 [(.agg [(.int .u8 2),(.int .i64 1),(.str [])]),(.agg [(.int .u8 2),(.int .i64 0),(.str [])]),(.agg [(.int .u8 2),(.int .i64 1),(.str [])]),(.agg [(.int .u8 0),(.int .i64 0),(.str [])])])],(.tup [(.str [3,128,0,0,0,0,0,0,1,3,128,0,0,0,0,0,0,0,3,128,0,0,0,0,0,0,1,1]),(.int .i64 0)]),38,[]⟩
def k227 : Know := ⟨16,[(lstOf 3 [(.agg [(.int .u8 2),(.int .i64 1),(.str [])]),(.agg [(.int .u8 2),(.int .i64 0),(.str [])]),(.agg [(.int .u8 2),(.int .i64 1),(.str [])]),(.agg [(.int .u8 2),(.int .i64 2),(.str [])])])],(.tup [(.str [3,128,0,0,0,0,0,0,1,3,128,0,0,0,0,0,0,0,3,128,0,0,0,0,0,0,1,3,128,0,0,0,0,0,0,2]),(.int .i64 0)]),46,[]⟩
def k228 : Know := ⟨34,[(.agg [(.str [116]),(.int .i64 1),(lstOf 3 q12),(lstOf 1 [(.int .i64 0),(.int .i64 1)]),(lstOf 4 [(.agg [(.str [105]),(.int .i64 1),(lstOf 1 [(.int .i64 2)]),(.bool false)])])]),(.int .i64 0),(.int .i64 0),(lstOf 9 [(.agg [(.int .u8 9),(.int .u8 0),(.int .i64 0),(.str []),(.str []),(.str []),(.int .i64 0),(.int .u8 1),(lstOf 9 [(.agg [(.int .u8 2),(.int .u8 0),(.int .i64 0),(.str []),(.str []),(.str [97]),(.int .i64 0),(.int .u8 2),.nils]),(.agg [(.int .u8 1),(.int .u8 2),(.int .i64 1),(.str []),(.str []),(.str []),(.int .i64 0),(.int .u8 2),.nils])])]),(.agg [(.int .u8 12),(.int .u8 0),(.int .i64 0),(.str []),(.str []),(.str []),(.int .i64 0),(.int .u8 1),(lstOf 9 [(.agg [(.int .u8 1),(.int .u8 2),(.int .i64 2),(.str []),(.str []),(.str []),(.int .i64 0),(.int .u8 2),.nils]),(.agg [(.int .u8 2),(.int .u8 0),(.int .i64 0),(.str []),(.str []),(.str [98]),(.int .i64 1),(.int .u8 2),.nils])])])])],(.agg [(.int .i64 0),(.int .i64 0),(.int .i64 0),(.str [3,128,0,0,0,0,0,0,1,3,128,0,0,0,0,0,0,0,3,128,0,0,0,0,0,0,1,3,128,0,0,0,0,0,0,2]),(.str [3,128,0,0,0,0,0,0,1,3,128,0,0,0,0,0,0,0,3,128,0,0,0,0,0,0,2]),(.bool false)]),231,[]⟩
def k229 : Know := ⟨8,q16,(.agg [(.int .i64 0),(.int .i64 0),(.int .i64 0),(.str [3,128,0,0,0,0,0,0,1,3,128,0,0,0,0,0,0,0,3,128,0,0,0,0,0,0,1,3,128,0,0,0,0,0,0,2]),(.str [3,128,0,0,0,0,0,0,1,3,128,0,0,0,0,0,0,0,3,128,0,0,0,0,0,0,2]),(.bool false)]),2490,[]⟩
end Go.Proofs.YtaficpgadjemcaaGreatDoor
namespace Go.Proofs.YtaficpgadjemcaaGreatDoor
open Ab
set_option maxRecDepth 1000000
set_option maxHeartbeats 0
theorem e8 : K0 [] k8 = KT := by kernel_rfl
theorem e16 : K0 [] k16 = KT := by kernel_rfl
theorem e47 : K0 [] k47 = KT := by kernel_rfl
theorem e48 : K0 [] k48 = KT := by kernel_rfl
theorem e65 : K0 [] k65 = KT := by kernel_rfl
theorem e80 : K0 [k79,k77] k80 = KT := by kernel_rfl
theorem e86 : K0 [k14] k86 = KT := by kernel_rfl
theorem e88 : K0 [] k88 = KT := by kernel_rfl
theorem e120 : K0 [k3] k120 = KT := by kernel_rfl
theorem e133 : K0 [] k133 = KT := by kernel_rfl
theorem e135 : K0 [k134,k132] k135 = KT := by kernel_rfl
theorem e143 : K0 [] k143 = KT := by kernel_rfl
theorem e169 : K0 [] k169 = KT := by kernel_rfl
theorem e188 : K0 [k187] k188 = KT := by kernel_rfl
theorem e190 : K0 [] k190 = KT := by kernel_rfl
theorem e212 : K0 [] k212 = KT := by kernel_rfl
theorem e217 : K0 [k216,k214] k217 = KT := by kernel_rfl
end Go.Proofs.YtaficpgadjemcaaGreatDoor
namespace Go.Proofs.YtaficpgadjemcaaGreatDoor
open Ab
set_option maxRecDepth 1000000
set_option maxHeartbeats 0
theorem e3 : K0 [k2] k3 = KT := by kernel_rfl
theorem e6 : K0 [] k6 = KT := by kernel_rfl
theorem e11 : K0 [] k11 = KT := by kernel_rfl
theorem e23 : K0 [] k23 = KT := by kernel_rfl
theorem e26 : K0 [] k26 = KT := by kernel_rfl
theorem e31 : K0 [k3] k31 = KT := by kernel_rfl
theorem e62 : K0 [] k62 = KT := by kernel_rfl
theorem e67 : K0 [k66] k67 = KT := by kernel_rfl
theorem e68 : K0 [k67,k65] k68 = KT := by kernel_rfl
theorem e81 : K0 [] k81 = KT := by kernel_rfl
theorem e91 : K0 [k90,k88] k91 = KT := by kernel_rfl
theorem e98 : K0 [k97] k98 = KT := by kernel_rfl
theorem e105 : K0 [] k105 = KT := by kernel_rfl
theorem e107 : K0 [] k107 = KT := by kernel_rfl
theorem e108 : K0 [k3] k108 = KT := by kernel_rfl
theorem e116 : K0 [] k116 = KT := by kernel_rfl
theorem e122 : K0 [k3] k122 = KT := by kernel_rfl
theorem e136 : K0 [] k136 = KT := by kernel_rfl
theorem e140 : K0 [k139,k136,k135,k132,k131,k128,k103,k100,k91,k88,k72,k69,k68,k65,k60,k57] k140 = KT := by kernel_rfl
theorem e147 : K0 [] k147 = KT := by kernel_rfl
theorem e164 : K0 [] k164 = KT := by kernel_rfl
theorem e177 : K0 [] k177 = KT := by kernel_rfl
theorem e180 : K0 [k3] k180 = KT := by kernel_rfl
theorem e185 : K0 [k184] k185 = KT := by kernel_rfl
theorem e193 : K0 [k192,k190] k193 = KT := by kernel_rfl
theorem e195 : K0 [] k195 = KT := by kernel_rfl
theorem e200 : K0 [k199] k200 = KT := by kernel_rfl
theorem e209 : K0 [] k209 = KT := by kernel_rfl
theorem e220 : K0 [k219,k185] k220 = KT := by kernel_rfl
theorem e226 : K0 [] k226 = KT := by kernel_rfl
end Go.Proofs.YtaficpgadjemcaaGreatDoor
namespace Go.Proofs.YtaficpgadjemcaaGreatDoor
open Ab
set_option maxRecDepth 1000000
set_option maxHeartbeats 0
theorem e20 : K0 [k17] k20 = KT := by kernel_rfl
theorem e29 : K0 [] k29 = KT := by kernel_rfl
theorem e51 : K0 [k3] k51 = KT := by kernel_rfl
theorem e56 : K0 [k55,k54,k53,k20,k19,k18] k56 = KT := by kernel_rfl
theorem e69 : K0 [] k69 = KT := by kernel_rfl
theorem e71 : K0 [k70] k71 = KT := by kernel_rfl
theorem e72 : K0 [k71,k69] k72 = KT := by kernel_rfl
theorem e78 : K0 [] k78 = KT := by kernel_rfl
theorem e95 : K0 [k94,k92] k95 = KT := by kernel_rfl
theorem e100 : K0 [] k100 = KT := by kernel_rfl
theorem e102 : K0 [k101] k102 = KT := by kernel_rfl
theorem e106 : K0 [] k106 = KT := by kernel_rfl
theorem e109 : K0 [] k109 = KT := by kernel_rfl
theorem e110 : K0 [] k110 = KT := by kernel_rfl
theorem e114 : K0 [k3] k114 = KT := by kernel_rfl
theorem e125 : K0 [k124,k123,k122,k121,k120,k119,k118,k117,k116,k115,k114,k113,k112,k111,k110,k109,k108,k107,k106,k105,k101] k125 = KT := by kernel_rfl
theorem e148 : K0 [k147,k146,k145,k144,k143,k142,k141,k101] k148 = KT := by kernel_rfl
theorem e151 : K0 [] k151 = KT := by kernel_rfl
theorem e153 : K0 [] k153 = KT := by kernel_rfl
theorem e154 : K0 [k3] k154 = KT := by kernel_rfl
theorem e165 : K0 [] k165 = KT := by kernel_rfl
theorem e172 : K0 [k3] k172 = KT := by kernel_rfl
theorem e176 : K0 [] k176 = KT := by kernel_rfl
theorem e179 : K0 [] k179 = KT := by kernel_rfl
theorem e197 : K0 [k196,k194] k197 = KT := by kernel_rfl
theorem e202 : K0 [] k202 = KT := by kernel_rfl
theorem e203 : K0 [k3] k203 = KT := by kernel_rfl
theorem e204 : K0 [k203] k204 = KT := by kernel_rfl
theorem e221 : K0 [] k221 = KT := by kernel_rfl
theorem e223 : K0 [] k223 = KT := by kernel_rfl
end Go.Proofs.YtaficpgadjemcaaGreatDoor
namespace Go.Proofs.YtaficpgadjemcaaGreatDoor
open Ab
set_option maxRecDepth 1000000
set_option maxHeartbeats 0
theorem e17 : K0 [k16] k17 = KT := by kernel_rfl
theorem e22 : K0 [] k22 = KT := by kernel_rfl
theorem e28 : K0 [k3] k28 = KT := by kernel_rfl
theorem e35 : K0 [] k35 = KT := by kernel_rfl
theorem e43 : K0 [k3] k43 = KT := by kernel_rfl
theorem e46 : K0 [] k46 = KT := by kernel_rfl
theorem e49 : K0 [k3] k49 = KT := by kernel_rfl
theorem e61 : K0 [] k61 = KT := by kernel_rfl
theorem e76 : K0 [k75,k73] k76 = KT := by kernel_rfl
theorem e79 : K0 [k78] k79 = KT := by kernel_rfl
theorem e85 : K0 [] k85 = KT := by kernel_rfl
theorem e89 : K0 [] k89 = KT := by kernel_rfl
theorem e97 : K0 [] k97 = KT := by kernel_rfl
theorem e103 : K0 [k102,k100] k103 = KT := by kernel_rfl
theorem e113 : K0 [] k113 = KT := by kernel_rfl
theorem e117 : K0 [k3] k117 = KT := by kernel_rfl
theorem e123 : K0 [] k123 = KT := by kernel_rfl
theorem e129 : K0 [] k129 = KT := by kernel_rfl
theorem e134 : K0 [k133] k134 = KT := by kernel_rfl
theorem e137 : K0 [] k137 = KT := by kernel_rfl
theorem e150 : K0 [k149,k140] k150 = KT := by kernel_rfl
theorem e167 : K0 [] k167 = KT := by kernel_rfl
theorem e170 : K0 [k3] k170 = KT := by kernel_rfl
theorem e181 : K0 [k3] k181 = KT := by kernel_rfl
theorem e183 : K0 [k182,k55,k54,k20,k19,k18] k183 = KT := by kernel_rfl
theorem e186 : K0 [] k186 = KT := by kernel_rfl
theorem e187 : K0 [] k187 = KT := by kernel_rfl
theorem e205 : K0 [k204,k202] k205 = KT := by kernel_rfl
theorem e216 : K0 [k215] k216 = KT := by kernel_rfl
theorem e218 : K0 [k217,k214,k213,k212,k211,k208,k207,k206,k205,k202,k201,k198,k197,k194,k193,k190,k189,k186,k87,k85,k76,k73,k68,k65] k218 = KT := by kernel_rfl
end Go.Proofs.YtaficpgadjemcaaGreatDoor
namespace Go.Proofs.YtaficpgadjemcaaGreatDoor
open Ab
set_option maxRecDepth 1000000
set_option maxHeartbeats 0
theorem e1 : K0 [] k1 = KT := by kernel_rfl
theorem e2 : K0 [] k2 = KT := by kernel_rfl
theorem e12 : K0 [] k12 = KT := by kernel_rfl
theorem e30 : K0 [] k30 = KT := by kernel_rfl
theorem e37 : K0 [k3] k37 = KT := by kernel_rfl
theorem e39 : K0 [k3] k39 = KT := by kernel_rfl
theorem e40 : K0 [] k40 = KT := by kernel_rfl
theorem e55 : K0 [k17] k55 = KT := by kernel_rfl
theorem e63 : K0 [k62] k63 = KT := by kernel_rfl
theorem e64 : K0 [k63,k61] k64 = KT := by kernel_rfl
theorem e74 : K0 [] k74 = KT := by kernel_rfl
theorem e87 : K0 [k86,k85] k87 = KT := by kernel_rfl
theorem e94 : K0 [k93] k94 = KT := by kernel_rfl
theorem e96 : K0 [] k96 = KT := by kernel_rfl
theorem e121 : K0 [] k121 = KT := by kernel_rfl
theorem e124 : K0 [k3] k124 = KT := by kernel_rfl
theorem e149 : K0 [k148,k55,k54,k18] k149 = KT := by kernel_rfl
theorem e152 : K0 [] k152 = KT := by kernel_rfl
theorem e156 : K0 [] k156 = KT := by kernel_rfl
theorem e160 : K0 [k3] k160 = KT := by kernel_rfl
theorem e161 : K0 [] k161 = KT := by kernel_rfl
theorem e173 : K0 [] k173 = KT := by kernel_rfl
theorem e178 : K0 [k3] k178 = KT := by kernel_rfl
theorem e189 : K0 [k188,k186] k189 = KT := by kernel_rfl
theorem e191 : K0 [k3] k191 = KT := by kernel_rfl
theorem e196 : K0 [k195] k196 = KT := by kernel_rfl
theorem e198 : K0 [] k198 = KT := by kernel_rfl
theorem e213 : K0 [] k213 = KT := by kernel_rfl
theorem e219 : K0 [k218,k21] k219 = KT := by kernel_rfl
theorem e229 : K0 [k228,k220,k56,k21] k229 = KT := by kernel_rfl
end Go.Proofs.YtaficpgadjemcaaGreatDoor
namespace Go.Proofs.YtaficpgadjemcaaGreatDoor
open Ab
set_option maxRecDepth 1000000
set_option maxHeartbeats 0
theorem e5 : K0 [] k5 = KT := by kernel_rfl
theorem e7 : K0 [] k7 = KT := by kernel_rfl
theorem e14 : K0 [] k14 = KT := by kernel_rfl
theorem e21 : K0 [k20,k19,k18,k15] k21 = KT := by kernel_rfl
theorem e32 : K0 [] k32 = KT := by kernel_rfl
theorem e33 : K0 [] k33 = KT := by kernel_rfl
theorem e41 : K0 [k3] k41 = KT := by kernel_rfl
theorem e44 : K0 [] k44 = KT := by kernel_rfl
theorem e70 : K0 [k3] k70 = KT := by kernel_rfl
theorem e73 : K0 [] k73 = KT := by kernel_rfl
theorem e82 : K0 [k3] k82 = KT := by kernel_rfl
theorem e83 : K0 [k82] k83 = KT := by kernel_rfl
theorem e112 : K0 [] k112 = KT := by kernel_rfl
theorem e118 : K0 [] k118 = KT := by kernel_rfl
theorem e127 : KL [⟨15,3,[6,7,91,92,93,94,95,96,97,98,99,100,101,102,103],[14],[(1,(.vec 0 2 [(.agg [(.sl 6 5 4 0 6 none),(.bool false)])] ⟨false,some 221⟩)),(6,(.vec 5 4 [q37,q40,q48,q54,q55,q43] ⟨true,some 127⟩))],[(15,(.vec 0 1 [(.str [105,110,116])] ⟨false,some 9⟩)),(16,(.vec 0 4 q42 ⟨false,some 127⟩))],17⟩,⟨24,3,[6,7,91,92,93,94,95,96,97,98,99,100,101,102,103],[23],[(1,(.vec 0 2 [(.agg [(.sl 6 8 4 0 9 none),(.bool false)])] ⟨false,some 221⟩)),(6,(.vec 8 4 [q37,q40,q48,q54,q55,q43,q53,q50,q43] ⟨true,some 127⟩))],[(24,(.vec 0 1 [(.str [105,110,116])] ⟨false,some 9⟩)),(25,(.vec 0 4 q42 ⟨false,some 127⟩))],26⟩,⟨33,3,[6,7,91,92,93,94,95,96,97,98,99,100,101,102,103],[32],[(1,(.vec 0 2 [(.agg [(.sl 6 11 4 0 12 none),(.bool false)])] ⟨false,some 221⟩)),(6,(.vec 11 4 [q37,q40,q48,q54,q55,q43,q53,q50,q43,q53,q52,q43] ⟨true,some 127⟩))],[(33,(.vec 0 1 [(.str [105,110,116])] ⟨false,some 9⟩)),(34,(.vec 0 4 q42 ⟨false,some 127⟩))],35⟩] [k126,k104] k127 = mapsP (true = true) [3,3,3] := by kernel_rfl
theorem e128 : K0 [] k128 = KT := by kernel_rfl
theorem e131 : K0 [k130,k128] k131 = KT := by kernel_rfl
theorem e138 : K0 [k137] k138 = KT := by kernel_rfl
theorem e155 : K0 [] k155 = KT := by kernel_rfl
theorem e159 : K0 [] k159 = KT := by kernel_rfl
theorem e163 : K0 [k3] k163 = KT := by kernel_rfl
theorem e171 : K0 [k3] k171 = KT := by kernel_rfl
theorem e174 : K0 [] k174 = KT := by kernel_rfl
theorem e184 : K0 [k183,k150,k127] k184 = KT := by kernel_rfl
theorem e206 : K0 [] k206 = KT := by kernel_rfl
theorem e208 : K0 [] k208 = KT := by kernel_rfl
theorem e211 : K0 [k210,k208] k211 = KT := by kernel_rfl
theorem e215 : K0 [k3] k215 = KT := by kernel_rfl
theorem e222 : K0 [] k222 = KT := by kernel_rfl
theorem e224 : K0 [] k224 = KT := by kernel_rfl
theorem e228 : K0 [k227,k226,k225,k224,k223,k222,k221] k228 = KT := by kernel_rfl
end Go.Proofs.YtaficpgadjemcaaGreatDoor
namespace Go.Proofs.YtaficpgadjemcaaGreatDoor
open Ab
set_option maxRecDepth 1000000
set_option maxHeartbeats 0
theorem e4 : K0 [k3] k4 = KT := by kernel_rfl
theorem e10 : K0 [] k10 = KT := by kernel_rfl
theorem e15 : K0 [k14,k13,k12,k11,k10,k9,k8,k7,k6,k5,k4,k1] k15 = KT := by kernel_rfl
theorem e25 : K0 [k3] k25 = KT := by kernel_rfl
theorem e27 : K0 [] k27 = KT := by kernel_rfl
theorem e34 : K0 [k3] k34 = KT := by kernel_rfl
theorem e38 : K0 [] k38 = KT := by kernel_rfl
theorem e53 : K0 [k52,k51,k50,k49,k48,k47,k46,k45,k44,k43,k42,k41,k40,k39,k38,k37,k36,k35,k34,k33,k32,k31,k30,k29,k28,k27,k26,k25,k24,k23,k22] k53 = KT := by kernel_rfl
theorem e54 : K0 [k17] k54 = KT := by kernel_rfl
theorem e58 : K0 [] k58 = KT := by kernel_rfl
theorem e59 : K0 [k58] k59 = KT := by kernel_rfl
theorem e60 : K0 [k59,k57] k60 = KT := by kernel_rfl
theorem e66 : K0 [] k66 = KT := by kernel_rfl
theorem e84 : K0 [k83,k81] k84 = KT := by kernel_rfl
theorem e90 : K0 [k89] k90 = KT := by kernel_rfl
theorem e92 : K0 [] k92 = KT := by kernel_rfl
theorem e93 : K0 [] k93 = KT := by kernel_rfl
theorem e101 : K0 [k3] k101 = KT := by kernel_rfl
theorem e104 : K0 [k103,k100,k99,k96,k95,k92,k91,k88,k87,k85,k84,k81,k80,k77,k76,k73,k72,k69,k68,k65,k64,k61,k60,k57] k104 = KT := by kernel_rfl
theorem e115 : K0 [] k115 = KT := by kernel_rfl
theorem e119 : K0 [] k119 = KT := by kernel_rfl
theorem e139 : K0 [k138,k136] k139 = KT := by kernel_rfl
theorem e142 : K0 [] k142 = KT := by kernel_rfl
theorem e157 : K0 [k3] k157 = KT := by kernel_rfl
theorem e158 : K0 [] k158 = KT := by kernel_rfl
theorem e166 : K0 [k3] k166 = KT := by kernel_rfl
theorem e192 : K0 [k191] k192 = KT := by kernel_rfl
theorem e194 : K0 [] k194 = KT := by kernel_rfl
theorem e207 : K0 [] k207 = KT := by kernel_rfl
theorem e225 : K0 [] k225 = KT := by kernel_rfl
end Go.Proofs.YtaficpgadjemcaaGreatDoor
namespace Go.Proofs.YtaficpgadjemcaaGreatDoor
open Ab
set_option maxRecDepth 1000000
set_option maxHeartbeats 0
theorem e9 : K0 [k3] k9 = KT := by kernel_rfl
theorem e13 : K0 [k3] k13 = KT := by kernel_rfl
theorem e18 : K0 [k17] k18 = KT := by kernel_rfl
theorem e19 : K0 [k17] k19 = KT := by kernel_rfl
theorem e24 : K0 [] k24 = KT := by kernel_rfl
theorem e36 : K0 [] k36 = KT := by kernel_rfl
theorem e42 : K0 [k3] k42 = KT := by kernel_rfl
theorem e45 : K0 [] k45 = KT := by kernel_rfl
theorem e50 : K0 [] k50 = KT := by kernel_rfl
theorem e52 : K0 [k3] k52 = KT := by kernel_rfl
theorem e57 : K0 [] k57 = KT := by kernel_rfl
theorem e75 : K0 [k74] k75 = KT := by kernel_rfl
theorem e77 : K0 [] k77 = KT := by kernel_rfl
theorem e99 : K0 [k98,k96] k99 = KT := by kernel_rfl
theorem e111 : K0 [k3] k111 = KT := by kernel_rfl
theorem e126 : K0 [k125,k54,k20,k19,k18] k126 = KT := by kernel_rfl
theorem e130 : K0 [k129] k130 = KT := by kernel_rfl
theorem e132 : K0 [] k132 = KT := by kernel_rfl
theorem e141 : K0 [] k141 = KT := by kernel_rfl
theorem e144 : K0 [] k144 = KT := by kernel_rfl
theorem e145 : K0 [] k145 = KT := by kernel_rfl
theorem e146 : K0 [k3] k146 = KT := by kernel_rfl
theorem e162 : K0 [] k162 = KT := by kernel_rfl
theorem e168 : K0 [k3] k168 = KT := by kernel_rfl
theorem e175 : K0 [] k175 = KT := by kernel_rfl
theorem e182 : K0 [k181,k180,k179,k178,k177,k176,k175,k174,k173,k172,k171,k170,k169,k168,k167,k166,k165,k164,k163,k162,k161,k160,k159,k158,k157,k156,k155,k154,k153,k152,k151] k182 = KT := by kernel_rfl
theorem e199 : K0 [] k199 = KT := by kernel_rfl
theorem e201 : K0 [k200,k198] k201 = KT := by kernel_rfl
theorem e210 : K0 [k209] k210 = KT := by kernel_rfl
theorem e214 : K0 [] k214 = KT := by kernel_rfl
theorem e227 : K0 [] k227 = KT := by kernel_rfl
end Go.Proofs.YtaficpgadjemcaaGreatDoor
namespace Go.Proofs.YtaficpgadjemcaaGreatDoor
open Ab
set_option maxRecDepth 1000000
theorem r1 : KR k1 := kn .nil e1
theorem r2 : KR k2 := kn .nil e2
theorem r3 : KR k3 := kn (kc r2 .nil) e3
theorem r4 : KR k4 := kn (kc r3 .nil) e4
theorem r5 : KR k5 := kn .nil e5
theorem r6 : KR k6 := kn .nil e6
theorem r7 : KR k7 := kn .nil e7
theorem r8 : KR k8 := kn .nil e8
theorem r9 : KR k9 := kn (kc r3 .nil) e9
theorem r10 : KR k10 := kn .nil e10
theorem r11 : KR k11 := kn .nil e11
theorem r12 : KR k12 := kn .nil e12
theorem r13 : KR k13 := kn (kc r3 .nil) e13
theorem r14 : KR k14 := kn .nil e14
theorem r15 : KR k15 := kn (kc r14 (kc r13 (kc r12 (kc r11 (kc r10 (kc r9 (kc r8 (kc r7 (kc r6 (kc r5 (kc r4 (kc r1 .nil)))))))))))) e15
theorem r16 : KR k16 := kn .nil e16
theorem r17 : KR k17 := kn (kc r16 .nil) e17
theorem r18 : KR k18 := kn (kc r17 .nil) e18
theorem r19 : KR k19 := kn (kc r17 .nil) e19
theorem r20 : KR k20 := kn (kc r17 .nil) e20
theorem r21 : KR k21 := kn (kc r20 (kc r19 (kc r18 (kc r15 .nil)))) e21
theorem r22 : KR k22 := kn .nil e22
theorem r23 : KR k23 := kn .nil e23
theorem r24 : KR k24 := kn .nil e24
theorem r25 : KR k25 := kn (kc r3 .nil) e25
theorem r26 : KR k26 := kn .nil e26
theorem r27 : KR k27 := kn .nil e27
theorem r28 : KR k28 := kn (kc r3 .nil) e28
theorem r29 : KR k29 := kn .nil e29
theorem r30 : KR k30 := kn .nil e30
theorem r31 : KR k31 := kn (kc r3 .nil) e31
theorem r32 : KR k32 := kn .nil e32
theorem r33 : KR k33 := kn .nil e33
theorem r34 : KR k34 := kn (kc r3 .nil) e34
theorem r35 : KR k35 := kn .nil e35
theorem r36 : KR k36 := kn .nil e36
theorem r37 : KR k37 := kn (kc r3 .nil) e37
theorem r38 : KR k38 := kn .nil e38
theorem r39 : KR k39 := kn (kc r3 .nil) e39
theorem r40 : KR k40 := kn .nil e40
theorem r41 : KR k41 := kn (kc r3 .nil) e41
theorem r42 : KR k42 := kn (kc r3 .nil) e42
theorem r43 : KR k43 := kn (kc r3 .nil) e43
theorem r44 : KR k44 := kn .nil e44
theorem r45 : KR k45 := kn .nil e45
theorem r46 : KR k46 := kn .nil e46
theorem r47 : KR k47 := kn .nil e47
theorem r48 : KR k48 := kn .nil e48
theorem r49 : KR k49 := kn (kc r3 .nil) e49
theorem r50 : KR k50 := kn .nil e50
theorem r51 : KR k51 := kn (kc r3 .nil) e51
theorem r52 : KR k52 := kn (kc r3 .nil) e52
theorem r53 : KR k53 := kn (kc r52 (kc r51 (kc r50 (kc r49 (kc r48 (kc r47 (kc r46 (kc r45 (kc r44 (kc r43 (kc r42 (kc r41 (kc r40 (kc r39 (kc r38 (kc r37 (kc r36 (kc r35 (kc r34 (kc r33 (kc r32 (kc r31 (kc r30 (kc r29 (kc r28 (kc r27 (kc r26 (kc r25 (kc r24 (kc r23 (kc r22 .nil))))))))))))))))))))))))))))))) e53
theorem r54 : KR k54 := kn (kc r17 .nil) e54
theorem r55 : KR k55 := kn (kc r17 .nil) e55
theorem r56 : KR k56 := kn (kc r55 (kc r54 (kc r53 (kc r20 (kc r19 (kc r18 .nil)))))) e56
theorem r57 : KR k57 := kn .nil e57
theorem r58 : KR k58 := kn .nil e58
theorem r59 : KR k59 := kn (kc r58 .nil) e59
theorem r60 : KR k60 := kn (kc r59 (kc r57 .nil)) e60
theorem r61 : KR k61 := kn .nil e61
theorem r62 : KR k62 := kn .nil e62
theorem r63 : KR k63 := kn (kc r62 .nil) e63
theorem r64 : KR k64 := kn (kc r63 (kc r61 .nil)) e64
theorem r65 : KR k65 := kn .nil e65
theorem r66 : KR k66 := kn .nil e66
theorem r67 : KR k67 := kn (kc r66 .nil) e67
theorem r68 : KR k68 := kn (kc r67 (kc r65 .nil)) e68
theorem r69 : KR k69 := kn .nil e69
theorem r70 : KR k70 := kn (kc r3 .nil) e70
theorem r71 : KR k71 := kn (kc r70 .nil) e71
theorem r72 : KR k72 := kn (kc r71 (kc r69 .nil)) e72
theorem r73 : KR k73 := kn .nil e73
theorem r74 : KR k74 := kn .nil e74
theorem r75 : KR k75 := kn (kc r74 .nil) e75
theorem r76 : KR k76 := kn (kc r75 (kc r73 .nil)) e76
theorem r77 : KR k77 := kn .nil e77
theorem r78 : KR k78 := kn .nil e78
theorem r79 : KR k79 := kn (kc r78 .nil) e79
theorem r80 : KR k80 := kn (kc r79 (kc r77 .nil)) e80
theorem r81 : KR k81 := kn .nil e81
theorem r82 : KR k82 := kn (kc r3 .nil) e82
theorem r83 : KR k83 := kn (kc r82 .nil) e83
theorem r84 : KR k84 := kn (kc r83 (kc r81 .nil)) e84
theorem r85 : KR k85 := kn .nil e85
theorem r86 : KR k86 := kn (kc r14 .nil) e86
theorem r87 : KR k87 := kn (kc r86 (kc r85 .nil)) e87
theorem r88 : KR k88 := kn .nil e88
theorem r89 : KR k89 := kn .nil e89
theorem r90 : KR k90 := kn (kc r89 .nil) e90
theorem r91 : KR k91 := kn (kc r90 (kc r88 .nil)) e91
theorem r92 : KR k92 := kn .nil e92
theorem r93 : KR k93 := kn .nil e93
theorem r94 : KR k94 := kn (kc r93 .nil) e94
theorem r95 : KR k95 := kn (kc r94 (kc r92 .nil)) e95
theorem r96 : KR k96 := kn .nil e96
theorem r97 : KR k97 := kn .nil e97
theorem r98 : KR k98 := kn (kc r97 .nil) e98
theorem r99 : KR k99 := kn (kc r98 (kc r96 .nil)) e99
theorem r100 : KR k100 := kn .nil e100
theorem r101 : KR k101 := kn (kc r3 .nil) e101
theorem r102 : KR k102 := kn (kc r101 .nil) e102
theorem r103 : KR k103 := kn (kc r102 (kc r100 .nil)) e103
theorem r104 : KR k104 := kn (kc r103 (kc r100 (kc r99 (kc r96 (kc r95 (kc r92 (kc r91 (kc r88 (kc r87 (kc r85 (kc r84 (kc r81 (kc r80 (kc r77 (kc r76 (kc r73 (kc r72 (kc r69 (kc r68 (kc r65 (kc r64 (kc r61 (kc r60 (kc r57 .nil)))))))))))))))))))))))) e104
theorem r105 : KR k105 := kn .nil e105
theorem r106 : KR k106 := kn .nil e106
theorem r107 : KR k107 := kn .nil e107
theorem r108 : KR k108 := kn (kc r3 .nil) e108
theorem r109 : KR k109 := kn .nil e109
theorem r110 : KR k110 := kn .nil e110
theorem r111 : KR k111 := kn (kc r3 .nil) e111
theorem r112 : KR k112 := kn .nil e112
theorem r113 : KR k113 := kn .nil e113
theorem r114 : KR k114 := kn (kc r3 .nil) e114
theorem r115 : KR k115 := kn .nil e115
theorem r116 : KR k116 := kn .nil e116
theorem r117 : KR k117 := kn (kc r3 .nil) e117
theorem r118 : KR k118 := kn .nil e118
theorem r119 : KR k119 := kn .nil e119
theorem r120 : KR k120 := kn (kc r3 .nil) e120
theorem r121 : KR k121 := kn .nil e121
theorem r122 : KR k122 := kn (kc r3 .nil) e122
theorem r123 : KR k123 := kn .nil e123
theorem r124 : KR k124 := kn (kc r3 .nil) e124
theorem r125 : KR k125 := kn (kc r124 (kc r123 (kc r122 (kc r121 (kc r120 (kc r119 (kc r118 (kc r117 (kc r116 (kc r115 (kc r114 (kc r113 (kc r112 (kc r111 (kc r110 (kc r109 (kc r108 (kc r107 (kc r106 (kc r105 (kc r101 .nil))))))))))))))))))))) e125
theorem r126 : KR k126 := kn (kc r125 (kc r54 (kc r20 (kc r19 (kc r18 .nil))))) e126
theorem r127 : KR k127 := km (kc r126 (kc r104 .nil)) e127
theorem r128 : KR k128 := kn .nil e128
theorem r129 : KR k129 := kn .nil e129
theorem r130 : KR k130 := kn (kc r129 .nil) e130
theorem r131 : KR k131 := kn (kc r130 (kc r128 .nil)) e131
theorem r132 : KR k132 := kn .nil e132
theorem r133 : KR k133 := kn .nil e133
theorem r134 : KR k134 := kn (kc r133 .nil) e134
theorem r135 : KR k135 := kn (kc r134 (kc r132 .nil)) e135
theorem r136 : KR k136 := kn .nil e136
theorem r137 : KR k137 := kn .nil e137
theorem r138 : KR k138 := kn (kc r137 .nil) e138
theorem r139 : KR k139 := kn (kc r138 (kc r136 .nil)) e139
theorem r140 : KR k140 := kn (kc r139 (kc r136 (kc r135 (kc r132 (kc r131 (kc r128 (kc r103 (kc r100 (kc r91 (kc r88 (kc r72 (kc r69 (kc r68 (kc r65 (kc r60 (kc r57 .nil)))))))))))))))) e140
theorem r141 : KR k141 := kn .nil e141
theorem r142 : KR k142 := kn .nil e142
theorem r143 : KR k143 := kn .nil e143
theorem r144 : KR k144 := kn .nil e144
theorem r145 : KR k145 := kn .nil e145
theorem r146 : KR k146 := kn (kc r3 .nil) e146
theorem r147 : KR k147 := kn .nil e147
theorem r148 : KR k148 := kn (kc r147 (kc r146 (kc r145 (kc r144 (kc r143 (kc r142 (kc r141 (kc r101 .nil)))))))) e148
theorem r149 : KR k149 := kn (kc r148 (kc r55 (kc r54 (kc r18 .nil)))) e149
theorem r150 : KR k150 := kn (kc r149 (kc r140 .nil)) e150
theorem r151 : KR k151 := kn .nil e151
theorem r152 : KR k152 := kn .nil e152
theorem r153 : KR k153 := kn .nil e153
theorem r154 : KR k154 := kn (kc r3 .nil) e154
theorem r155 : KR k155 := kn .nil e155
theorem r156 : KR k156 := kn .nil e156
theorem r157 : KR k157 := kn (kc r3 .nil) e157
theorem r158 : KR k158 := kn .nil e158
theorem r159 : KR k159 := kn .nil e159
theorem r160 : KR k160 := kn (kc r3 .nil) e160
theorem r161 : KR k161 := kn .nil e161
theorem r162 : KR k162 := kn .nil e162
theorem r163 : KR k163 := kn (kc r3 .nil) e163
theorem r164 : KR k164 := kn .nil e164
theorem r165 : KR k165 := kn .nil e165
theorem r166 : KR k166 := kn (kc r3 .nil) e166
theorem r167 : KR k167 := kn .nil e167
theorem r168 : KR k168 := kn (kc r3 .nil) e168
theorem r169 : KR k169 := kn .nil e169
theorem r170 : KR k170 := kn (kc r3 .nil) e170
theorem r171 : KR k171 := kn (kc r3 .nil) e171
theorem r172 : KR k172 := kn (kc r3 .nil) e172
theorem r173 : KR k173 := kn .nil e173
theorem r174 : KR k174 := kn .nil e174
theorem r175 : KR k175 := kn .nil e175
theorem r176 : KR k176 := kn .nil e176
theorem r177 : KR k177 := kn .nil e177
theorem r178 : KR k178 := kn (kc r3 .nil) e178
theorem r179 : KR k179 := kn .nil e179
theorem r180 : KR k180 := kn (kc r3 .nil) e180
theorem r181 : KR k181 := kn (kc r3 .nil) e181
theorem r182 : KR k182 := kn (kc r181 (kc r180 (kc r179 (kc r178 (kc r177 (kc r176 (kc r175 (kc r174 (kc r173 (kc r172 (kc r171 (kc r170 (kc r169 (kc r168 (kc r167 (kc r166 (kc r165 (kc r164 (kc r163 (kc r162 (kc r161 (kc r160 (kc r159 (kc r158 (kc r157 (kc r156 (kc r155 (kc r154 (kc r153 (kc r152 (kc r151 .nil))))))))))))))))))))))))))))))) e182
theorem r183 : KR k183 := kn (kc r182 (kc r55 (kc r54 (kc r20 (kc r19 (kc r18 .nil)))))) e183
theorem r184 : KR k184 := kn (kc r183 (kc r150 (kc r127 .nil))) e184
theorem r185 : KR k185 := kn (kc r184 .nil) e185
theorem r186 : KR k186 := kn .nil e186
theorem r187 : KR k187 := kn .nil e187
theorem r188 : KR k188 := kn (kc r187 .nil) e188
theorem r189 : KR k189 := kn (kc r188 (kc r186 .nil)) e189
theorem r190 : KR k190 := kn .nil e190
theorem r191 : KR k191 := kn (kc r3 .nil) e191
theorem r192 : KR k192 := kn (kc r191 .nil) e192
theorem r193 : KR k193 := kn (kc r192 (kc r190 .nil)) e193
theorem r194 : KR k194 := kn .nil e194
theorem r195 : KR k195 := kn .nil e195
theorem r196 : KR k196 := kn (kc r195 .nil) e196
theorem r197 : KR k197 := kn (kc r196 (kc r194 .nil)) e197
theorem r198 : KR k198 := kn .nil e198
theorem r199 : KR k199 := kn .nil e199
theorem r200 : KR k200 := kn (kc r199 .nil) e200
theorem r201 : KR k201 := kn (kc r200 (kc r198 .nil)) e201
theorem r202 : KR k202 := kn .nil e202
theorem r203 : KR k203 := kn (kc r3 .nil) e203
theorem r204 : KR k204 := kn (kc r203 .nil) e204
theorem r205 : KR k205 := kn (kc r204 (kc r202 .nil)) e205
theorem r206 : KR k206 := kn .nil e206
theorem r207 : KR k207 := kn .nil e207
theorem r208 : KR k208 := kn .nil e208
theorem r209 : KR k209 := kn .nil e209
theorem r210 : KR k210 := kn (kc r209 .nil) e210
theorem r211 : KR k211 := kn (kc r210 (kc r208 .nil)) e211
theorem r212 : KR k212 := kn .nil e212
theorem r213 : KR k213 := kn .nil e213
theorem r214 : KR k214 := kn .nil e214
theorem r215 : KR k215 := kn (kc r3 .nil) e215
theorem r216 : KR k216 := kn (kc r215 .nil) e216
theorem r217 : KR k217 := kn (kc r216 (kc r214 .nil)) e217
theorem r218 : KR k218 := kn (kc r217 (kc r214 (kc r213 (kc r212 (kc r211 (kc r208 (kc r207 (kc r206 (kc r205 (kc r202 (kc r201 (kc r198 (kc r197 (kc r194 (kc r193 (kc r190 (kc r189 (kc r186 (kc r87 (kc r85 (kc r76 (kc r73 (kc r68 (kc r65 .nil)))))))))))))))))))))))) e218
theorem r219 : KR k219 := kn (kc r218 (kc r21 .nil)) e219
theorem r220 : KR k220 := kn (kc r219 (kc r185 .nil)) e220
theorem r221 : KR k221 := kn .nil e221
theorem r222 : KR k222 := kn .nil e222
theorem r223 : KR k223 := kn .nil e223
theorem r224 : KR k224 := kn .nil e224
theorem r225 : KR k225 := kn .nil e225
theorem r226 : KR k226 := kn .nil e226
theorem r227 : KR k227 := kn .nil e227
theorem r228 : KR k228 := kn (kc r227 (kc r226 (kc r225 (kc r224 (kc r223 (kc r222 (kc r221 .nil))))))) e228
theorem r229 : KR k229 := kn (kc r228 (kc r220 (kc r56 (kc r21 .nil)))) e229
end Go.Proofs.YtaficpgadjemcaaGreatDoor
namespace Go.Proofs.YtaficpgadjemcaaGreatDoor
open Ab
set_option maxRecDepth 1000000
attribute [local irreducible] lvm
def hints : List Hint := []
theorem run : (lvm Tryz.prog tabs tabsD [k229,k227,k225] hints 600).1.call 4 [] ⟨0,[]⟩ (fun r _ => r = .ret (.bool true)) :=
  Eq.mpr (show _ = mapsP (AEnd.ret (SV.bool true) = AEnd.ret (SV.bool true)) [] by kernel_rfl) (mapsP_ok rfl _)
theorem any : PCall Tryz.prog 4 [] (.bool true) := pcall_lvm (P := Tryz.prog) (L := [k229,k227,k225]) hints mixed tabsOk tabsDOk (.cons r229 (.cons r227 (.cons r225 (.nil)))) 600 (f := 4) (args := []) (v := .bool true) (fun _ h => by simp at h) (.bool _) run
end Go.Proofs.YtaficpgadjemcaaGreatDoor
namespace Ab
set_option linter.unusedVariables false
set_option linter.unusedSimpArgs false
open Go

/-- What a slice, or a text, holds. -/
def Elems (h : Heap) (sz : Nat) (x : SV) (xs : List SV) : Prop := ∀ k : List SV → Prop, k xs → elemsK h sz x k
@[reducible] def byS (b : UInt8) : SV := .int .u8 b.toNat
theorem elems_run {h : Heap} {sz : Nat} {x : SV} {xs : List SV} {k : List SV → Prop} (hx : Elems h sz x xs) (hk : k xs) : elemsK h sz x k := hx k hk
theorem elems_str {h : Heap} (s : List UInt8) : Elems h 1 (.str s) (s.map byS) := fun k hk => by
  show asr (Nat.beq 1 1) (strK s k)
  rw [asr_iff, strK_eq]
  exact ⟨rfl, hk⟩
theorem elems_lst {h : Heap} {sz n : Nat} {get : Nat → SV} : Elems h sz (.lst sz n get) ((List.range n).map get) := fun k hk => by
  show asr (Nat.beq sz sz) (rangeK get n 0 k)
  rw [asr_iff, rangeK_eq, Nat.beq_refl]
  exact ⟨rfl, by rw [← List.range_eq_range']; exact hk⟩
theorem elems_bytes {h : Heap} {s : List UInt8} : Elems h 1 (.lst 1 s.length fun i => byS (s.getD i 0)) (s.map byS) := fun k hk => by
  refine elems_lst k ?_
  have e : (List.range s.length).map (fun i => byS (s.getD i 0)) = s.map byS := by
    apply List.ext_getElem
    · simp
    · intro i h1 h2
      simp only [List.length_map] at h2
      simp [h2]
  rw [e]; exact hk
theorem elems_sl {m : Nat} {l : List (Nat × AObj)} {i g sz off len szo : Nat} {cap : Option Nat} {elems : List SV} {sk : Sk} (ho : objL l i = some (.vec g szo elems sk)) (hle : off + len ≤ elems.length) :
    Elems ⟨m, l⟩ sz (.sl i g sz off len cap) ((elems.drop off).take len) := fun k hk => by
  show asr (Nat.beq sz sz) (lookO l i (fun o => match o with
      | .vec g' _ elems _ => asr (Nat.beq g' g) (dropN elems off fun l => takeN l len k)
      | _ => False) False)
  rw [asr_iff, lookO_eq, ho]
  refine ⟨Nat.beq_refl _, ?_⟩
  dsimp only
  rw [asr_iff, dropN_iff, takeN_iff]
  exact ⟨Nat.beq_refl _, by omega, by rw [List.length_drop]; omega, hk⟩
theorem elems_all {m : Nat} {l : List (Nat × AObj)} {i g sz n szo : Nat} {cap : Option Nat} {elems : List SV} {sk : Sk} (ho : objL l i = some (.vec g szo elems sk)) (hn : n = elems.length) :
    Elems ⟨m, l⟩ sz (.sl i g sz 0 n cap) elems := fun k hk => by
  refine elems_sl ho (by omega) k ?_
  rw [List.drop_zero, List.take_of_length_le (by omega)]; exact hk
theorem elems_whole {m : Nat} {l : List (Nat × AObj)} {i g sz off len szo : Nat} {cap : Option Nat} {elems xs : List SV} {sk : Sk} (ho : objL l i = some (.vec g szo elems sk)) (hle : off + len ≤ elems.length) (hxs : (elems.drop off).take len = xs) :
    Elems ⟨m, l⟩ sz (.sl i g sz off len cap) xs := hxs ▸ elems_sl ho hle

theorem allOnes_by : ∀ s : List UInt8, allOnes (s.map byS) = true
  | [] => rfl
  | b :: r => by
    show (allOne (byS b).cells && allOnes (r.map byS)) = true
    rw [allOnes_by r]; rfl

theorem append_none {ty : TypeId} {sz bytes : Nat} {h : Heap} {x : SV} {k : SV → Heap → Prop} (hx : Elems h sz x []) (hk : k .nils h) : appendK ty sz bytes h .nils x k := by
  unfold appendK
  exact hx _ hk
theorem append_noneS {ty : TypeId} {sz bytes : Nat} {m : Nat} {l : List (Nat × AObj)} {x : SV} {k : SV → Heap → Prop} {i g sz' off len szo : Nat} {cap : Option Nat} {elems : List SV} {sk : Sk} (hx : Elems ⟨m, l⟩ sz x []) (ho : objL l i = some (.vec g szo elems sk))
    (hk : k (.sl i g sz' off len cap) ⟨m, l⟩) : appendK ty sz bytes ⟨m, l⟩ (.sl i g sz' off len cap) x k := by
  unfold appendK
  refine hx _ ?_
  show liveK ⟨m, l⟩ i g _
  unfold liveK
  dsimp only
  rw [lookO_eq, ho]
  dsimp only
  rw [asr_iff]
  exact ⟨Nat.beq_refl _, hk⟩
theorem append_new {ty : TypeId} {sz bytes m : Nat} {l : List (Nat × AObj)} {x : SV} {xs : List SV} {k : SV → Heap → Prop} (hx : Elems ⟨m, l⟩ sz x xs) (h0 : 0 < xs.length) (h1 : allOnes xs = true)
    (hl : xs.length * bytes ≤ 140737488355328) (hl' : xs.length ≤ 9223372036854775807) (hk : k (.sl m 0 sz 0 xs.length none) ⟨m + 1, (m, .vec 0 sz xs ⟨true, some ty⟩) :: l⟩) : appendK ty sz bytes ⟨m, l⟩ .nils x k := by
  unfold appendK
  refine hx _ ?_
  cases xs with
  | nil => simp at h0
  | cons x0 xr =>
    dsimp only
    rw [asr_iff, asr_iff]
    exact ⟨h1, by rw [decide_eq_true hl, decide_eq_true hl']; rfl, hk⟩
/-- Behind a row that the run made: it moves, or has room; its elder names mean nothing any more. -/
theorem append_mv {ty : TypeId} {sz bytes m : Nat} {l : List (Nat × AObj)} {x : SV} {xs : List SV} {k : SV → Heap → Prop} {i g len szo : Nat} {elems : List SV} {sk : Sk} (hx : Elems ⟨m, l⟩ sz x xs) (h0 : 0 < xs.length) (h1 : allOnes xs = true)
    (ho : objL l i = some (.vec g szo elems sk)) (hn : len = elems.length) (hl : (len + xs.length) * bytes ≤ 140737488355328) (hl' : len + xs.length ≤ 9223372036854775807)
    (hk : setO l i (.vec (g + 1) szo (elems ++ xs) ⟨true, joinTy sk.ty ty⟩) fun l' => k (.sl i (g + 1) sz 0 (len + xs.length) none) ⟨m, l'⟩) : appendK ty sz bytes ⟨m, l⟩ (.sl i g sz 0 len none) x k := by
  unfold appendK
  refine hx _ ?_
  cases xs with
  | nil => simp at h0
  | cons x0 xr =>
    dsimp only
    rw [asr_iff]
    refine ⟨h1, ?_⟩
    show asr (Nat.beq sz sz) _
    rw [asr_iff]
    refine ⟨Nat.beq_refl _, ?_⟩
    rw [lookO_eq, ho]
    dsimp only
    rw [asr_iff]
    refine ⟨Nat.beq_refl _, ?_⟩
    have hno : (Nat.blt 0 sz && Nat.ble (0 + len + (x0 :: xr).length) elems.length) = false := by
      cases hb : Nat.ble (0 + len + (x0 :: xr).length) elems.length with
      | false => rw [Bool.and_false]
      | true =>
        have := Nat.le_of_ble_eq_true hb
        rw [hn] at this
        simp only [List.length_cons] at this
        omega
    rw [hno]
    show asr _ _
    rw [asr_iff]
    refine ⟨?_, ?_⟩
    · rw [decide_eq_true hl, decide_eq_true hl', hn]
      simp only [Bool.and_true, Nat.beq_refl]
    · rw [appL_eq]
      exact hk
/-! The same where everything is written out: asked of the kernel. -/
theorem append_mvC {ty : TypeId} {sz bytes m : Nat} {l : List (Nat × AObj)} {x : SV} {k : SV → Heap → Prop} {i g len : Nat} {xs : List SV} {szo : Nat} {elems : List SV} {sk : Sk} (hx : ∀ k, elemsK ⟨m, l⟩ sz x k = k xs) (ho : objL l i = some (.vec g szo elems sk))
    (hb : (Nat.blt 0 xs.length && (allOnes xs && (Nat.beq len elems.length && (Nat.ble ((len + xs.length) * bytes) 140737488355328 && Nat.ble (len + xs.length) 9223372036854775807)))) = true)
    (hk : setO l i (.vec (g + 1) szo (elems ++ xs) ⟨true, joinTy sk.ty ty⟩) fun l' => k (.sl i (g + 1) sz 0 (len + xs.length) none) ⟨m, l'⟩) : appendK ty sz bytes ⟨m, l⟩ (.sl i g sz 0 len none) x k := by
  simp only [Bool.and_eq_true, Nat.blt_eq, Nat.beq_eq, Nat.ble_eq] at hb
  exact append_mv (fun k hk => by rw [hx]; exact hk) hb.1 hb.2.1 ho hb.2.2.1 hb.2.2.2.1 hb.2.2.2.2 hk
theorem append_newC {ty : TypeId} {sz bytes m : Nat} {l : List (Nat × AObj)} {x : SV} {k : SV → Heap → Prop} {xs : List SV} (hx : ∀ k, elemsK ⟨m, l⟩ sz x k = k xs)
    (hb : (Nat.blt 0 xs.length && (allOnes xs && (Nat.ble (xs.length * bytes) 140737488355328 && Nat.ble xs.length 9223372036854775807))) = true)
    (hk : k (.sl m 0 sz 0 xs.length none) ⟨m + 1, (m, .vec 0 sz xs ⟨true, some ty⟩) :: l⟩) : appendK ty sz bytes ⟨m, l⟩ .nils x k := by
  simp only [Bool.and_eq_true, Nat.blt_eq, Nat.ble_eq] at hb
  exact append_new (fun k hk => by rw [hx]; exact hk) hb.1 hb.2.1 hb.2.2.1 hb.2.2.2 hk
theorem strK_run {s : List UInt8} {k : List SV → Prop} (hk : k (s.map byS)) : strK s k := by rw [strK_eq]; exact hk
theorem bytesK_run {s : List UInt8} {k : List UInt8 → Prop} (hk : k s) : bytesK (s.map byS) k := by
  have e : s.map byS = (s.map fun b => (b.toNat : Int)).map (SV.int .u8) := by rw [List.map_map]; rfl
  rw [e]
  refine bytesK_of ?_
  have e2 : (s.map fun b => (b.toNat : Int)).map (fun n => UInt8.ofNat n.toNat) = s := by
    rw [List.map_map]
    conv => rhs; rw [← List.map_id s]
    apply List.map_congr_left
    intro b _
    simp
  rw [e2]; exact hk
theorem takeN_run {l : List SV} {n : Nat} {k : List SV → Prop} (h : n ≤ l.length) (hk : k (l.take n)) : takeN l n k := takeN_iff.2 ⟨h, hk⟩
theorem takeN_all {l : List SV} {n : Nat} {k : List SV → Prop} (h : n = l.length) (hk : k l) : takeN l n k := takeN_iff.2 ⟨by omega, by rw [List.take_of_length_le (by omega)]; exact hk⟩
theorem dropN_run {l : List SV} {n : Nat} {k : List SV → Prop} (h : n ≤ l.length) (hk : k (l.drop n)) : dropN l n k := dropN_iff.2 ⟨h, hk⟩
end Ab
namespace Ab
set_option linter.unusedVariables false
set_option linter.unusedSimpArgs false
open Go
@[reducible] def lstB (b : List UInt8) : SV := .lst 1 b.length fun i => byS (b.getD i 0)
theorem agree_by : ∀ (s : List UInt8) (k : Nat) (get : Nat → SV), (∀ j, j < s.length → get (k + j) = byS (s.getD j 0)) → agree (s.map byS) k get
  | [], _, _, _ => trivial
  | b :: r, k, get, h => by
    refine ⟨?_, .int _ _, agree_by r (k + 1) get fun j hj => ?_⟩
    · have := h 0 (by simp)
      simpa using this.symm
    · have := h (j + 1) (by simp; omega)
      rw [show k + 1 + j = k + (j + 1) by omega, this]
      simp [List.getD]
theorem hard_by {A : Heap} {i g : Nat} {cap : Option Nat} {s : List UInt8} {n : Nat} {sk : Sk} (ho : A.obj i = some (.vec g 1 (s.map byS) sk)) (hn : n = s.length) : Hard A (.sl i g 1 0 n cap) (lstB s) := by
  subst hn
  have := hard_all (cap := cap) (get := fun i => byS (s.getD i 0)) ho (agree_by s 0 _ fun j _ => by rw [Nat.zero_add])
  rw [List.length_map] at this
  exact this
theorem setO_skip {i j : Nat} {o o' : AObj} {l : List (Nat × AObj)} {k : List (Nat × AObj) → Prop} (h : Nat.beq j i = false) (hk : k ((j, o) :: (i, o') :: l)) {o2 : AObj} : setO ((j, o) :: (i, o2) :: l) i o' k := by
  unfold setO
  rw [h]
  show setO ((i, o2) :: l) i o' _
  unfold setO
  rw [Nat.beq_refl]
  exact hk
theorem nbeq {a b : Nat} (h : a ≠ b) : Nat.beq a b = false := by
  cases hh : Nat.beq a b
  · rfl
  · exact absurd (Nat.eq_of_beq_eq_true hh) h
theorem objL_hd {i : Nat} {o : AObj} {l : List (Nat × AObj)} : objL ((i, o) :: l) i = some o := by simp [objL]
theorem objL_nx {i j : Nat} {o : AObj} {l : List (Nat × AObj)} (h : j ≠ i) : objL ((j, o) :: l) i = objL l i := by simp [objL, h]
theorem hsub_skip {n i j : Nat} {o o' : AObj} {l : List (Nat × AObj)} (h : j ≠ i) : HSub ⟨n, [(i, o')]⟩ ⟨n, (j, o) :: (i, o') :: l⟩ := by
  refine ⟨rfl, fun a b hb => ?_⟩
  have hb : objL [(i, o')] a = some b := hb
  show objL ((j, o) :: (i, o') :: l) a = some b
  by_cases ha : i = a
  · subst ha
    rw [objL_hd] at hb
    rw [objL_nx h, objL_hd, hb]
  · rw [objL_nx ha] at hb
    cases hb
theorem hsub_hd {n i : Nat} {o : AObj} {l : List (Nat × AObj)} : HSub ⟨n, [(i, o)]⟩ ⟨n, (i, o) :: l⟩ := by
  refine ⟨rfl, fun a b hb => ?_⟩
  have hb : objL [(i, o)] a = some b := hb
  show objL ((i, o) :: l) a = some b
  by_cases ha : i = a
  · subst ha
    rw [objL_hd] at hb ⊢
    exact hb
  · rw [objL_nx ha] at hb
    cases hb
theorem fdiv7 {y : Nat} : (y : Int).fdiv (2 ^ min (Int.toNat 7) IntKind.u64.bits) = ((y / 128 : Nat) : Int) := by
  have e : min (Int.toNat 7) IntKind.u64.bits = 7 := by decide
  rw [e, Int.fdiv_eq_ediv_of_nonneg _ (by decide)]
  norm_cast
/-- All names and all that is spoken of lies below a number. -/
def ltH (l : List (Nat × AObj)) (n : Nat) : Prop := ∀ i o, objL l i = some o → i < n ∧ objLt n o
def LitEnd : AEnd → Prop
  | .ret v => LitV v
  | .pan v => LitV v
theorem rep_cut {c : Cx} {w : World} {h h' : Heap} (hr : Rep c h w) (hl : ∀ i o, h'.obj i = some o → h.obj i = some o ∧ i < h'.nxt ∧ objLt h'.nxt o) : Rep c h' w := by
  have hsub : ∀ i o, h'.obj i = some o → h.obj i = some o := fun i o ho => (hl i o ho).1
  refine ⟨fun i o ho => (hl i o ho).2.1, fun i o ho => ?_, fun i j o p ho hp' heq => hr.inj i j o p (hsub i o ho) (hsub j p hp') heq, fun i o ho => hr.apart i o (hsub i o ho), hr.im, hr.glob⟩
  have hor := hr.obj i o (hsub i o ho)
  have holt := (hl i o ho).2.2
  cases hor with
  | vec g sz elems slack C ty fz hw hle heq hty hc hf hcell =>
    refine .vec g sz elems slack C ty fz hw hle heq hty hc hf fun i j e v x h1 h2 h3 => ?_
    have hv := hcell i j e v x h1 h2 h3
    have hlte := holt e (List.mem_of_getElem? h1)
    by_cases hagg : ∃ l, e = .agg l
    · obtain ⟨l, rfl⟩ := hagg
      exact hv.cut hsub 7 (List.all_eq_true.1 hlte v (List.mem_of_getElem? h2))
    · have h1 : e.cells = [e] := by cases e <;> first | rfl | exact absurd ⟨_, rfl⟩ hagg
      rw [h1] at h2
      cases j with
      | zero => simp at h2; subst h2; exact hv.cut hsub 8 hlte
      | succ j => simp at h2
  | iter s pos hw => exact .iter s pos hw
  | map es cl hw hs => exact .map es cl hw hs
  | miter m since seen stepped r hw hm => exact .miter m since seen stepped r hw (hm.cut hsub 8 holt)
  | fro g ty xs C fz hw hle hc => exact .fro g ty xs C fz hw hle hc
theorem ACall.cut {P : Program} {f : FuncId} {args : List SV} {n N : Nat} {l : List (Nat × AObj)} {R : AEnd → Heap → Prop} (hn : n ≤ N)
    (hc : ACall P f args ⟨n, l⟩ fun r h' => ∃ l', (∀ i o, objL l' i = some o → h'.obj i = some o ∧ i < N ∧ objLt N o) ∧ LitEnd r ∧ R r ⟨N, l'⟩) : ACall P f args ⟨n, l⟩ R :=
  ⟨fun c w xs hr hs hv => (hc.calls c w xs hr hs hv).mono fun e w' ⟨c', h', r, ⟨l', hl, hlit, hR⟩, hr', hx', he⟩ => by
    refine ⟨c', ⟨N, l'⟩, r, hR, rep_cut hr' hl, ⟨hx'.os, hx'.tape, hx'.output, hx'.size, hx'.frame, hx'.shape, hx'.im, hx'.im', hn, fun i o' hi ho' => hx'.old i o' hi (hl i o' ho').1, fun i o' ho' => hx'.new i o' (hl i o' ho').1⟩, ?_⟩
    cases r with
    | ret v => obtain ⟨x, he, hx⟩ := he; exact ⟨x, he, .pure (hlit.vp hx)⟩
    | pan v => obtain ⟨x, he, hx⟩ := he; exact ⟨x, he, .pure (hlit.vp hx)⟩⟩
theorem lookO_run {l : List (Nat × AObj)} {i : Nat} {o : AObj} {k : AObj → Prop} {d : Prop} (h : objL l i = some o) (hk : k o) : lookO l i k d := by
  rw [lookO_eq, h]; exact hk
theorem setO_run {l : List (Nat × AObj)} {i : Nat} {o : AObj} {k : List (Nat × AObj) → Prop} (hk : k (putO l i o)) : setO l i o k := by
  rw [setO_eq]; exact hk
theorem dropO_run {k : List (Nat × AObj) → Prop} {l : List (Nat × AObj)} {i : Nat} (hk : ∀ l', k l') : dropO l i k := by
  induction l generalizing k with
  | nil => exact hk []
  | cons x r ih =>
    obtain ⟨s, o⟩ := x
    unfold dropO
    rcases beq_cases s i with ⟨h, _⟩ | ⟨h, _⟩ <;> rw [h]
    · exact ih hk
    · exact ih fun l' => hk _
theorem putO_putO : ∀ (l : List (Nat × AObj)) (i : Nat) (a b : AObj), putO (putO l i a) i b = putO l i b
  | [], i, a, b => rfl
  | (s, o) :: r, i, a, b => by
    by_cases h : s = i
    · simp only [putO, if_pos h]
    · simp only [putO, if_neg h, putO_putO r i a b]
theorem putO_comm : ∀ (l : List (Nat × AObj)) {i j : Nat} (a b : AObj), i ≠ j → putO (putO l i a) j b = putO (putO l j b) i a
  | [], i, j, a, b, _ => rfl
  | (s, o) :: r, i, j, a, b, h => by
    by_cases h1 : s = i
    · have h2 : s ≠ j := by omega
      simp only [putO, if_pos h1, if_neg h2]
    · by_cases h2 : s = j
      · simp only [putO, if_pos h2, if_neg h1]
      · simp only [putO, if_neg h1, if_neg h2, putO_comm r a b h]
theorem objL_put_same {l : List (Nat × AObj)} {i : Nat} {o o' : AObj} (h : objL l i = some o) : objL (putO l i o') i = some o' := objL_putS l i o o' h
theorem objL_put_ne {l : List (Nat × AObj)} {i j : Nat} {o' : AObj} (h : j ≠ i) : objL (putO l i o') j = objL l j := by rw [objL_put, if_neg h]
theorem nbeq_self (n : Nat) : Nat.beq n n = true := Nat.beq_refl n
theorem joinTy_self (t : TypeId) : joinTy (some t) t = some t := by show (bif Nat.beq t t then some t else none) = some t; rw [nbeq_self]; rfl
theorem append_one {ty : TypeId} {m g i : Nat} {o : List UInt8} {c : SV} {sk : Sk} {l : List (Nat × AObj)} {k : SV → Heap → Prop} (ho : objL l i = some (.vec g 1 (o.map byS) ⟨true, some ty⟩)) (him : i < m) (hc : allOne c.cells = true) (hlen : o.length + 1 ≤ 140737488355328)
    (hk : k (.sl i (g + 1) 1 0 (o.length + 1) none) ⟨m + 1, (m, .vec 0 1 [c] sk) :: putO l i (.vec (g + 1) 1 (o.map byS ++ [c]) ⟨true, some ty⟩)⟩) :
    appendK ty 1 1 ⟨m + 1, (m, .vec 0 1 [c] sk) :: l⟩ (.sl i g 1 0 o.length none) (.sl m 0 1 0 1 (some 1)) k := by
  refine append_mv (elems_all objL_hd rfl) (by simp) (by simp [allOnes, hc]) (by rw [objL_nx (by omega)]; exact ho) (by simp) (by simp; omega) (by simp; omega) ?_
  rw [setO_eq]
  unfold putO
  rw [if_neg (by omega), joinTy_self]
  exact hk
theorem append_str {ty : TypeId} {m g i : Nat} {o s : List UInt8} {l : List (Nat × AObj)} {k : SV → Heap → Prop} (ho : objL l i = some (.vec g 1 (o.map byS) ⟨true, some ty⟩)) (h0 : 0 < s.length) (hlen : o.length + s.length ≤ 140737488355328)
    (hk : k (.sl i (g + 1) 1 0 (o.length + s.length) none) ⟨m, putO l i (.vec (g + 1) 1 (o.map byS ++ s.map byS) ⟨true, some ty⟩)⟩) :
    appendK ty 1 1 ⟨m, l⟩ (.sl i g 1 0 o.length none) (.str s) k := by
  refine append_mv (elems_str s) (by simpa using h0) (allOnes_by s) ho (by simp) (by simp; omega) (by simp; omega) ?_
  rw [setO_eq, List.length_map, joinTy_self]
  exact hk
/-- Behind a slice whose room is told, and too small: a new row. -/
theorem append_cap {ty : TypeId} {sz bytes m : Nat} {l : List (Nat × AObj)} {x : SV} {xs : List SV} {k : SV → Heap → Prop} {i g off len cp szo : Nat} {elems : List SV} {sk : Sk} (hx : Elems ⟨m, l⟩ sz x xs) (h0 : 0 < xs.length) (h1 : allOnes xs = true)
    (ho : objL l i = some (.vec g szo elems sk)) (hle : off + len ≤ elems.length) (hcp : cp < len + xs.length) (hl : (len + xs.length) * bytes ≤ 140737488355328) (hl' : len + xs.length ≤ 9223372036854775807)
    (hk : k (.sl m 0 sz 0 (len + xs.length) none) ⟨m + 1, (m, .vec 0 sz ((elems.drop off).take len ++ xs) ⟨true, some ty⟩) :: l⟩) : appendK ty sz bytes ⟨m, l⟩ (.sl i g sz off len (some cp)) x k := by
  unfold appendK
  refine hx _ ?_
  cases xs with
  | nil => simp at h0
  | cons x0 xr =>
    dsimp only
    rw [asr_iff]
    refine ⟨h1, ?_⟩
    show asr (Nat.beq sz sz) _
    rw [asr_iff]
    refine ⟨Nat.beq_refl _, ?_⟩
    rw [lookO_eq, ho]
    dsimp only
    rw [asr_iff]
    refine ⟨Nat.beq_refl _, ?_⟩
    have hb : Nat.ble (len + (x0 :: xr).length) cp = false := by
      cases hh : Nat.ble (len + (x0 :: xr).length) cp
      · rfl
      · have := Nat.le_of_ble_eq_true hh; omega
    rw [hb]
    show asr _ _
    rw [asr_iff]
    refine ⟨by rw [decide_eq_true hl, decide_eq_true hl']; rfl, ?_⟩
    rw [dropN_iff]
    refine ⟨by omega, ?_⟩
    rw [takeN_iff]
    refine ⟨by rw [List.length_drop]; omega, ?_⟩
    rw [appL_eq]
    exact hk
theorem append_lst {ty : TypeId} {m g i : Nat} {o s : List UInt8} {l : List (Nat × AObj)} {k : SV → Heap → Prop} (ho : objL l i = some (.vec g 1 (o.map byS) ⟨true, some ty⟩)) (h0 : 0 < s.length) (hlen : o.length + s.length ≤ 140737488355328)
    (hk : k (.sl i (g + 1) 1 0 (o.length + s.length) none) ⟨m, putO l i (.vec (g + 1) 1 (o.map byS ++ s.map byS) ⟨true, some ty⟩)⟩) :
    appendK ty 1 1 ⟨m, l⟩ (.sl i g 1 0 o.length none) (lstB s) k := by
  refine append_mv elems_bytes (by simpa using h0) (allOnes_by s) ho (by simp) (by simp; omega) (by simp; omega) ?_
  rw [setO_eq, List.length_map, joinTy_self]
  exact hk
/-! A builder in memory: its head; its bytes. -/
@[reducible] def bldO (tb bi j g n : Nat) : AObj := .vec 0 2 [.agg [.ref bi 0 0 0, .sl j g 1 0 n none]] ⟨false, some tb⟩
@[reducible] def bufO (ty g : Nat) (o : List UInt8) : AObj := .vec g 1 (o.map byS) ⟨true, some ty⟩
def bset (tb ty : Nat) (l : List (Nat × AObj)) (bi j g : Nat) (o : List UInt8) : List (Nat × AObj) := putO (putO l j (bufO ty g o)) bi (bldO tb bi j g o.length)
theorem bset_bld {tb ty : Nat} {l : List (Nat × AObj)} {bi j g : Nat} {o : List UInt8} {ob : AObj} (hb : objL l bi = some ob) (hne : bi ≠ j) : objL (bset tb ty l bi j g o) bi = some (bldO tb bi j g o.length) :=
  objL_put_same (o := ob) (by rw [objL_put_ne hne]; exact hb)
theorem bset_buf {tb ty : Nat} {l : List (Nat × AObj)} {bi j g : Nat} {o : List UInt8} {oj : AObj} (hj : objL l j = some oj) (hne : bi ≠ j) : objL (bset tb ty l bi j g o) j = some (bufO ty g o) := by
  unfold bset
  rw [objL_put_ne (fun h => hne h.symm)]
  exact objL_put_same hj
theorem bset_ne {tb ty : Nat} {l : List (Nat × AObj)} {bi j g i : Nat} {o : List UInt8} (h1 : i ≠ bi) (h2 : i ≠ j) : objL (bset tb ty l bi j g o) i = objL l i := by
  unfold bset
  rw [objL_put_ne h1, objL_put_ne h2]
theorem objLt_by {n : Nat} {s : List UInt8} {g sz : Nat} {sk : Sk} : objLt n (.vec g sz (s.map byS) sk) := by
  intro v hv
  obtain ⟨b, _, rfl⟩ := List.mem_map.1 hv
  rfl
theorem putO_self : ∀ {l : List (Nat × AObj)} {i : Nat} {o : AObj}, objL l i = some o → putO l i o = l
  | [], _, _, h => rfl
  | (s, q) :: r, i, o, h => by
    unfold putO
    unfold objL at h
    by_cases hs : s = i
    · rw [if_pos hs] at h ⊢; cases h; rfl
    · rw [if_neg hs] at h ⊢; rw [putO_self h]
theorem bset_bset {tb ty : Nat} {l : List (Nat × AObj)} {bi j g g' : Nat} {o o' : List UInt8} (hne : bi ≠ j) : bset tb ty (bset tb ty l bi j g o) bi j g' o' = bset tb ty l bi j g' o' := by
  unfold bset
  rw [putO_comm _ _ _ hne, putO_putO, putO_putO]
theorem bset_self {tb ty : Nat} {l : List (Nat × AObj)} {bi j g : Nat} {o : List UInt8} (hb : objL l bi = some (bldO tb bi j g o.length)) (hj : objL l j = some (bufO ty g o)) : bset tb ty l bi j g o = l := by
  unfold bset
  rw [putO_self hj, putO_self hb]
theorem ltH_nil {n : Nat} : ltH [] n := fun i o h => by cases h
theorem ltH_cons {n i : Nat} {o : AObj} {l : List (Nat × AObj)} (hi : i < n) (ho : objLt n o) (hl : ltH l n) : ltH ((i, o) :: l) n := fun j ob h => by
  unfold objL at h
  split at h
  · cases h; rename_i h; subst h; exact ⟨hi, ho⟩
  · exact hl j ob h
theorem objLt_all {n g sz : Nat} {elems : List SV} {sk : Sk} (h : elems.all (SV.lt 8 n) = true) : objLt n (.vec g sz elems sk) := fun v hv => List.all_eq_true.1 h v hv
theorem sub_skip {m i : Nat} {t ob : AObj} {l : List (Nat × AObj)} (hi : i < m) (h : objL l i = some ob) : objL ((m, t) :: l) i = some ob := by rw [objL_nx (by omega)]; exact h
theorem ltH_bset {tb ty : Nat} {l : List (Nat × AObj)} {m bi j g : Nat} {o : List UInt8} (hl : ltH l m) (hbm : bi < m) (hjm : j < m) (hne : bi ≠ j) : ltH (bset tb ty l bi j g o) m := by
  intro i ob h
  by_cases h1 : i = bi
  · subst h1
    cases hq : objL l i with
    | none =>
      unfold bset at h
      rw [objL_put, if_pos rfl, objL_put_ne hne, hq] at h
      cases h
    | some q =>
      rw [bset_bld hq hne] at h
      cases h
      refine ⟨hbm, fun v hv => ?_⟩
      simp only [List.mem_singleton] at hv
      subst hv
      simp [SV.lt, Nat.blt, hbm, hjm]
      omega
  · by_cases h2 : i = j
    · subst h2
      cases hq : objL l i with
      | none =>
        unfold bset at h
        rw [objL_put_ne h1, objL_put, if_pos rfl, hq] at h
        cases h
      | some q =>
        rw [bset_buf hq hne] at h
        cases h
        exact ⟨hjm, objLt_by⟩
    · rw [bset_ne h1 h2] at h
      exact hl i ob h
end Ab
