/- A text cut into tokens by the lexer: the contract. -/
import Derived.Test.YtboinbjiemmggaaDoorLy5
namespace Go.Proofs.YtboinbjiemmggaaDoor
open Ab Go.RowKit
set_option maxRecDepth 100000
set_option linter.unusedVariables false
set_option linter.unusedSimpArgs false
set_option maxHeartbeats 4000000
set_option pp.maxSteps 3000
attribute [local irreducible] appendK allLtK
theorem index_blank (c : UInt8) : PCall Tryd.prog 9 [.str [9, 10, 13, 32], .int .u8 (c.toNat : Int)] (.int .i64 (Go.Lib.indexByte [9, 10, 13, 32] c)) := by
  refine pcall_of (lits2 (.str _) (.int _ _)) (call9 rfl ?_)
  iterate 6 (all_goals (try conv => whnf); all_goals (try first | with_reducible refine brY (by assumption) ?_ | with_reducible refine brN (by assumption) ?_ | (with_reducible refine brT ?_ ?_; · (simp only [Bool.and_eq_true, Bool.not_eq_true', decide_eq_true_eq, decide_eq_false_iff_not, beq_iff_eq, beq_eq_false_iff_ne, ne_eq] at *; omega)) | with_reducible refine br (fun _ => ?_) (fun _ => ?_) | with_reducible refine ⟨rfl, ?_⟩ | with_reducible refine ARound.succ ?_ | (refine call11 rfl ?_)))
  refine leaf ?_ (.int _ _)
  have e : (Int.toNat (c.toNat : Int)).toUInt8 = c := by rw [Int.toNat_natCast]; simp
  show SV.int .i64 (Lib.indexByte [9, 10, 13, 32] (Int.toNat (c.toNat : Int)).toUInt8) = _
  rw [e]
theorem blank_index (c : UInt8) : decide (0 ≤ Go.Lib.indexByte [9, 10, 13, 32] c) = isBlank c := by
  have : ∀ n : Fin 256, decide (0 ≤ Go.Lib.indexByte [9, 10, 13, 32] (UInt8.ofNat n.val)) = isBlank (UInt8.ofNat n.val) := by decide +kernel
  have h := this ⟨c.toNat, UInt8.toNat_lt c⟩
  simp only [UInt8.ofNat_toNat] at h
  exact h
theorem textGo_err : ∀ (f : Nat) (u : List UInt8) (i : Nat) (bad : Bool) (buf : List UInt8) (e : Int), textGo f u i bad buf = .err e → e ≠ 0
  | 0, _, _, _, _, e, h => by simp [textGo] at h; omega
  | f+1, [], _, _, _, e, h => by simp [textGo] at h; omega
  | f+1, a :: u, i, bad, buf, e, h => by
    rw [textGo] at h
    split at h
    · exact textGo_err f _ _ _ _ e h
    · split at h
      · exact textGo_err f _ _ _ _ e h
      · split at h
        · cases h; decide
        · split at h
          · cases h; decide
          · cases h
theorem signL_err {u : List UInt8} : ∀ (L : List (List UInt8)) (e : Int), signL u L = .err e → e ≠ 0
  | [], e, h => by simp [signL] at h; omega
  | y :: L, e, h => by
    rw [signL] at h
    split at h
    · cases h
    · exact signL_err L e h
theorem oneL_err {s : List UInt8} {e : Int} (h : oneL s = .err e) : e ≠ 0 := by
  cases s with
  | nil => simp [oneL] at h; omega
  | cons c r =>
    unfold oneL at h
    dsimp only at h
    split at h
    · unfold wordL at h
      dsimp only at h
      split at h
      · cases h; decide
      · cases h
    · split at h
      · unfold numberL at h
        dsimp only at h
        split at h
        · cases h; decide
        · cases h
      · split at h
        · exact textGo_err _ _ _ _ _ _ h
        · exact signL_err _ _ h
@[reducible] def fltS (e a : Int) : SV := .agg [.int .i64 e, .int .i64 a]
def lexS (r : Except (Int × Nat) (List TP)) : SV := match r with
  | .ok [] => .tup [.nils, fltS 0 0]
  | .ok (x :: l) => .tup [lstT (x :: l), fltS 0 0]
  | .error (e, a) => .tup [.nils, fltS e a]
def addL (ts : List TP) (r : Except (Int × Nat) (List TP)) : Except (Int × Nat) (List TP) := match r with
  | .ok l => .ok (ts ++ l)
  | .error e => .error e
theorem lexGo_step {f p : Nat} {s : List UInt8} (h : s ≠ []) : lexGo (f + 1) s p = if isBlank (s.getD 0 0) then lexGo f (s.drop 1) (p + 1) else match oneL s with
    | .err e => .error (e, p)
    | .ok x n => addL [(x, p)] (lexGo f (s.drop n) (p + n)) := by
  cases s with
  | nil => exact absurd rfl h
  | cons c r =>
    rw [lexGo]
    show _ = if isBlank c then _ else _
    split
    · rfl
    · cases ho : oneL (c :: r) with
      | err e => rfl
      | ok x n =>
        dsimp only
        cases lexGo f ((c :: r).drop n) (p + n) <;> rfl
theorem addL_add (a b : List TP) (r : Except (Int × Nat) (List TP)) : addL a (addL b r) = addL (a ++ b) r := by
  cases r <;> simp [addL]
theorem addL_nil (r : Except (Int × Nat) (List TP)) : addL [] r = r := by cases r <;> simp [addL]
/-- Where the cut stands: the tokens that were read, and what is left. -/
structure LxI (s : List UInt8) (p : Nat) (ts : List TP) : Prop where
  pl : p ≤ s.length
  tl : ts.length ≤ p
  go : ∃ f, (s.drop p).length ≤ f ∧ lexL s = addL ts (lexGo f (s.drop p) p)
inductive LxS (s : List UInt8) where
  | E (p : Nat) (h : LxI s p [])
  | L (p g : Nat) (x : TP) (ts : List TP) (h : LxI s p (x :: ts))
@[reducible] def flt0 : AObj := .vec 0 2 [fltS 0 0] ⟨false, some 26⟩
@[reducible] def tok1 (x : TP) : AObj := .vec 0 4 [tokP x] ⟨false, some 32⟩
@[reducible] def LxS.env {s : List UInt8} : LxS s → Env
  | .E p _ => [(0, SV.str s), (2, SV.nils), (3, SV.ref 0 0 0 0), (11, SV.bool false), (4, SV.nils), (5, SV.int IntKind.i64 p)]
  | .L p g x ts _ => [(0, SV.str s), (2, SV.nils), (3, SV.ref 0 0 0 0), (11, SV.bool false), (4, SV.sl 3 g 4 0 (x :: ts).length none), (5, SV.int IntKind.i64 p)]
@[reducible] def LxS.hp {s : List UInt8} : LxS s → Heap
  | .E _ _ => ⟨1, [(0, flt0)]⟩
  | .L p g x ts _ => ⟨4, [(3, .vec g 4 ((x :: ts).map tokP) ⟨true, some 32⟩), (2, tok1 x), (1, tok1 x), (0, flt0)]⟩
def LxS.mu {s : List UInt8} : LxS s → Nat
  | .E p _ => s.length - p
  | .L p _ _ _ _ => s.length - p
def LxS.nn {s : List UInt8} : LxS s → Nat
  | .E p _ => if isBlank (s.getD p 0) = true then 1 else 4
  | .L .. => 4
theorem lexS_lit (r : Except (Int × Nat) (List TP)) : LitV (lexS r) := by
  have hf : ∀ e a : Int, LitV (fltS e a) := fun e a => .agg (by simp only [List.mem_cons, List.not_mem_nil, or_false]; rintro _ (rfl | rfl) <;> constructor)
  match r with
  | .ok [] => exact lit2 .nils (hf _ _)
  | .ok (x :: l) => exact lit2 (.lst _ _ _) (hf _ _)
  | .error (e, a) => exact lit2 .nils (hf _ _)
theorem one_from {s : List UInt8} {pos : Nat} {o : One} (hs : s.length ≤ 65536) (h : pos < s.length) (ho : oneL (s.drop pos) = o) : PCall Tryd.prog 10 [.str (List.take (((s.length : Nat) : Int).toNat - ((pos : Nat) : Int).toNat) (List.drop ((pos : Nat) : Int).toNat s))] (oneS o) := by
  rw [cut_from, ← ho]
  exact one_any (by rw [List.length_drop]; omega) (by rw [drop_cons h]; simp)
theorem lex_any {s : List UInt8} (hs : s.length ≤ 65536) : PCall Tryd.prog 5 [.str s] (lexS (lexL s)) := by
  refine pcall_of (lits1 (.str _)) (call5 rfl ?_)
  have h0 : decide ((65536 : Int) < (s.length : Int)) = false := decide_eq_false (by omega)
  iterate 10 (all_goals (try conv => whnf); all_goals (try first | with_reducible refine brY (by assumption) ?_ | with_reducible refine brN (by assumption) ?_ | (with_reducible refine brT ?_ ?_; · (simp only [Bool.and_eq_true, Bool.not_eq_true', decide_eq_true_eq, decide_eq_false_iff_not, beq_iff_eq, beq_eq_false_iff_ne, ne_eq] at *; omega)) | with_reducible refine br (fun _ => ?_) (fun _ => ?_) | with_reducible refine ⟨rfl, ?_⟩ | with_reducible refine ARound.succ ?_))
  refine loop_any (σ := LxS s) LxS.env LxS.hp LxS.mu LxS.nn (fun x => match x with | .E p _ => (by show 1 ≤ if _ then 1 else 4; split <;> decide) | .L .. => Nat.le_refl 4) ?_ (.E 0 ⟨by omega, by simp, s.length, by simp, by rw [addL_nil]; rfl⟩)
  rintro (⟨p, hI⟩ | ⟨p, g, x, ts, hI⟩)
  · obtain ⟨pl, tl, f, hf, hgo⟩ := id hI
    by_cases hl : p < s.length
    · have hd : decide ((p : Int) < (s.length : Int)) = true := decide_eq_true (by omega)
      have e7 : IntKind.i64.wrap ((p : Int) + 1) = ((p + 1 : Nat) : Int) := w64add (by omega)
      have et := Int.toNat_natCast p
      have ci := index_blank (s.getD (p : Int).toNat 0)
      have cb := blank_index (s.getD (p : Int).toNat 0)
      rw [List.length_drop] at hf
      obtain ⟨f, rfl⟩ : ∃ f', f = f' + 1 := ⟨f - 1, by omega⟩
      rw [lexGo_step (by rw [drop_cons hl]; simp), getD_drop, Nat.add_zero, List.drop_drop] at hgo
      cases hb : isBlank (s.getD p 0)
      · rw [hb, if_neg (by decide)] at hgo
        rw [show LxS.nn (LxS.E p hI) = 4 from if_neg (by rw [hb]; decide)]
        rw [← et] at hb
        rw [hb] at cb
        cases ho : oneL (s.drop p) with
        | err e =>
          have co := one_from hs hl ho
          have he := oneL_err ho
          have hne : (e != 0) = true := by rw [bne_iff_ne]; exact he
          rw [ho, addL_nil] at hgo
          iterate 24 (all_goals (try conv => whnf); all_goals (try first | with_reducible refine brY (by assumption) ?_ | with_reducible refine brN (by assumption) ?_ | (with_reducible refine brT ?_ ?_; · (simp only [Bool.and_eq_true, Bool.not_eq_true', decide_eq_true_eq, decide_eq_false_iff_not, beq_iff_eq, beq_eq_false_iff_ne, ne_eq] at *; omega)) | with_reducible refine br (fun _ => ?_) (fun _ => ?_) | with_reducible refine ⟨rfl, ?_⟩ | with_reducible refine ARound.succ ?_ | with_reducible refine PCall.call (ci) ?_ | with_reducible refine PCall.call (co) ?_))
          exact leaf (by rw [hgo]; rfl) (lexS_lit _)
        | ok x n =>
          have co := one_from hs hl ho
          obtain ⟨n1, n2, _⟩ := oneL_cut ho
          rw [List.length_drop] at n2
          have e8 : IntKind.i64.wrap ((p : Int) + (n : Int)) = ((p + n : Nat) : Int) := by rw [w64 (by omega) (by omega)]; omega
          rw [ho] at hgo
          dsimp only at hgo
          rw [addL_add, List.nil_append, List.drop_drop] at hgo
          iterate 40 (all_goals (try conv => whnf); all_goals (try first | with_reducible refine brY (by assumption) ?_ | with_reducible refine brN (by assumption) ?_ | (with_reducible refine brT ?_ ?_; · (simp only [Bool.and_eq_true, Bool.not_eq_true', decide_eq_true_eq, decide_eq_false_iff_not, beq_iff_eq, beq_eq_false_iff_ne, ne_eq] at *; omega)) | with_reducible refine br (fun _ => ?_) (fun _ => ?_) | with_reducible refine ⟨rfl, ?_⟩ | with_reducible refine ARound.succ ?_ | with_reducible refine PCall.call (ci) ?_ | with_reducible refine PCall.call (co) ?_ | (refine app_tok1 (v := (x, p)) ?_)))
          refine ⟨.L (p + n) 0 (x, p) [] ⟨by omega, by simp; omega, f, by rw [List.length_drop]; omega, hgo⟩, by simp only [LxS.mu]; omega, by rw [e8]; rfl, rfl⟩
      · rw [hb, if_pos rfl] at hgo
        rw [show LxS.nn (LxS.E p hI) = 1 from if_pos hb]
        rw [← et] at hb
        rw [hb] at cb
        iterate 24 (all_goals (try conv => whnf); all_goals (try first | with_reducible refine brY (by assumption) ?_ | with_reducible refine brN (by assumption) ?_ | (with_reducible refine brT ?_ ?_; · (simp only [Bool.and_eq_true, Bool.not_eq_true', decide_eq_true_eq, decide_eq_false_iff_not, beq_iff_eq, beq_eq_false_iff_ne, ne_eq] at *; omega)) | with_reducible refine br (fun _ => ?_) (fun _ => ?_) | with_reducible refine ⟨rfl, ?_⟩ | with_reducible refine ARound.succ ?_ | with_reducible refine PCall.call (ci) ?_))
        refine ⟨.E (p + 1) ⟨hl, by simp, f, by rw [List.length_drop]; omega, hgo⟩, by simp only [LxS.mu]; omega, by rw [e7], rfl⟩
    · have hd : decide ((p : Int) < (s.length : Int)) = false := decide_eq_false (by omega)
      have hnil : lexL s = .ok [] := by
        rw [hgo, List.drop_of_length_le (by omega)]
        cases f <;> rfl
      iterate 24 (all_goals (try conv => whnf); all_goals (try first | with_reducible refine brY (by assumption) ?_ | with_reducible refine brN (by assumption) ?_ | (with_reducible refine brT ?_ ?_; · (simp only [Bool.and_eq_true, Bool.not_eq_true', decide_eq_true_eq, decide_eq_false_iff_not, beq_iff_eq, beq_eq_false_iff_ne, ne_eq] at *; omega)) | with_reducible refine br (fun _ => ?_) (fun _ => ?_) | with_reducible refine ⟨rfl, ?_⟩ | with_reducible refine ARound.succ ?_))
      exact leaf (by rw [hnil]; rfl) (lexS_lit _)
  · obtain ⟨pl, tl, f, hf, hgo⟩ := id hI
    have qg : Nat.beq g g = true := nbeq_self g
    rw [show LxS.nn (LxS.L p g x ts hI) = 4 from rfl]
    simp only [List.length_cons] at tl
    by_cases hl : p < s.length
    · have hd : decide ((p : Int) < (s.length : Int)) = true := decide_eq_true (by omega)
      have e7 : IntKind.i64.wrap ((p : Int) + 1) = ((p + 1 : Nat) : Int) := w64add (by omega)
      have et := Int.toNat_natCast p
      have ci := index_blank (s.getD (p : Int).toNat 0)
      have cb := blank_index (s.getD (p : Int).toNat 0)
      rw [List.length_drop] at hf
      obtain ⟨f, rfl⟩ : ∃ f', f = f' + 1 := ⟨f - 1, by omega⟩
      rw [lexGo_step (by rw [drop_cons hl]; simp), getD_drop, Nat.add_zero, List.drop_drop] at hgo
      cases hb : isBlank (s.getD p 0)
      · rw [hb, if_neg (by decide)] at hgo
        rw [← et] at hb
        rw [hb] at cb
        cases ho : oneL (s.drop p) with
        | err e =>
          have co := one_from hs hl ho
          have he := oneL_err ho
          have hne : (e != 0) = true := by rw [bne_iff_ne]; exact he
          rw [ho] at hgo
          iterate 24 (all_goals (try conv => whnf); all_goals (try first | with_reducible refine brY (by assumption) ?_ | with_reducible refine brN (by assumption) ?_ | (with_reducible refine brT ?_ ?_; · (simp only [Bool.and_eq_true, Bool.not_eq_true', decide_eq_true_eq, decide_eq_false_iff_not, beq_iff_eq, beq_eq_false_iff_ne, ne_eq] at *; omega)) | with_reducible refine br (fun _ => ?_) (fun _ => ?_) | with_reducible refine ⟨rfl, ?_⟩ | with_reducible refine ARound.succ ?_ | with_reducible refine PCall.call (ci) ?_ | with_reducible refine PCall.call (co) ?_))
          exact leaf (by rw [hgo]; rfl) (lexS_lit _)
        | ok y n =>
          have co := one_from hs hl ho
          obtain ⟨n1, n2, _⟩ := oneL_cut ho
          rw [List.length_drop] at n2
          have e8 : IntKind.i64.wrap ((p : Int) + (n : Int)) = ((p + n : Nat) : Int) := by rw [w64 (by omega) (by omega)]; omega
          rw [ho] at hgo
          dsimp only at hgo
          rw [addL_add, List.drop_drop] at hgo
          iterate 40 (all_goals (try conv => whnf); all_goals (try first | with_reducible refine brY (by assumption) ?_ | with_reducible refine brN (by assumption) ?_ | (with_reducible refine brT ?_ ?_; · (simp only [Bool.and_eq_true, Bool.not_eq_true', decide_eq_true_eq, decide_eq_false_iff_not, beq_iff_eq, beq_eq_false_iff_ne, ne_eq] at *; omega)) | with_reducible refine br (fun _ => ?_) (fun _ => ?_) | with_reducible refine ⟨rfl, ?_⟩ | with_reducible refine ARound.succ ?_ | with_reducible refine PCall.call (ci) ?_ | with_reducible refine PCall.call (co) ?_ | (refine app_tok (i := 3) (vs := x :: ts) (v := (y, p)) rfl (by omega) (by simp only [List.length_cons]; omega) ?_) | (refine allLtK_of lt_ts ?_) | (refine allLtK_of (lt_ts (s := x :: ts)) ?_) | (refine allLtK_of (lt_ts (s := x :: ts ++ [(y, p)])) ?_) | (refine allLtK_of (lt_one rfl) ?_)))
          refine ⟨.L (p + n) (g + 1) x (ts ++ [(y, p)]) ⟨by omega, by simp; omega, f, by rw [List.length_drop]; omega, hgo⟩, by simp only [LxS.mu]; omega, ?_, ?_⟩
          · rw [e8]; simp
          · simp
      · rw [hb, if_pos rfl] at hgo
        rw [← et] at hb
        rw [hb] at cb
        iterate 24 (all_goals (try conv => whnf); all_goals (try first | with_reducible refine brY (by assumption) ?_ | with_reducible refine brN (by assumption) ?_ | (with_reducible refine brT ?_ ?_; · (simp only [Bool.and_eq_true, Bool.not_eq_true', decide_eq_true_eq, decide_eq_false_iff_not, beq_iff_eq, beq_eq_false_iff_ne, ne_eq] at *; omega)) | with_reducible refine br (fun _ => ?_) (fun _ => ?_) | with_reducible refine ⟨rfl, ?_⟩ | with_reducible refine ARound.succ ?_ | with_reducible refine PCall.call (ci) ?_ | (refine allLtK_of lt_ts ?_) | (refine allLtK_of (lt_ts (s := x :: ts)) ?_) | (refine allLtK_of (lt_one rfl) ?_)))
        refine ⟨.L (p + 1) g x ts ⟨hl, by simp; omega, f, by rw [List.length_drop]; omega, hgo⟩, by simp only [LxS.mu]; omega, by rw [e7], rfl⟩
    · have hd : decide ((p : Int) < (s.length : Int)) = false := decide_eq_false (by omega)
      have hall : lexL s = .ok (x :: ts) := by
        rw [hgo, List.drop_of_length_le (by omega)]
        cases f <;> simp [lexGo, addL]
      iterate 24 (all_goals (try conv => whnf); all_goals (try first | with_reducible refine brY (by assumption) ?_ | with_reducible refine brN (by assumption) ?_ | (with_reducible refine brT ?_ ?_; · (simp only [Bool.and_eq_true, Bool.not_eq_true', decide_eq_true_eq, decide_eq_false_iff_not, beq_iff_eq, beq_eq_false_iff_ne, ne_eq] at *; omega)) | with_reducible refine br (fun _ => ?_) (fun _ => ?_) | with_reducible refine ⟨rfl, ?_⟩ | with_reducible refine ARound.succ ?_))
      refine ⟨_, rfl, ?_⟩
      rw [hall]
      show Hard _ _ (SV.tup [lstT (x :: ts), fltS 0 0])
      refine .tup rfl fun i v v' a b => ?_
      rcases i with _ | _ | i
      · cases a; cases b; exact hard_ts (s := x :: ts) rfl rfl
      · cases a; cases b; exact .lit (.agg (by simp only [List.mem_cons, List.not_mem_nil, or_false]; rintro _ (rfl | rfl) <;> constructor))
      · simp at a
end Go.Proofs.YtboinbjiemmggaaDoor
