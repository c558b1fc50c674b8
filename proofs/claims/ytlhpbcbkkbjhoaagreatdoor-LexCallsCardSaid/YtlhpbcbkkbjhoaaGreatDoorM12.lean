/- Parts of the proof of PLexCalls, one behind the other. -/
import Derived.Test.YtlhpbcbkkbjhoaaGreatDoorM11
import Derived.Test.YtlhpbcbkkbjhoaaGreatDoorM8
import Derived.Lib.ValidLaws
import Derived.Lib.ItoaNum
namespace Go.Proofs.YtlhpbcbkkbjhoaaGreatDoor
open Ab Go.RowKit
set_option maxRecDepth 100000
set_option linter.unusedVariables false
set_option linter.unusedSimpArgs false
set_option maxHeartbeats 4000000
set_option pp.maxSteps 3000
attribute [local irreducible] appendK allLtK
theorem index_blank (c : UInt8) : PCall Tryz.prog 12 [.str [9, 10, 13, 32], .int .u8 (c.toNat : Int)] (.int .i64 (Go.Lib.indexByte [9, 10, 13, 32] c)) := by
  refine pcall_of (lits2 (.str _) (.int _ _)) (call12 rfl ?_)
  iterate 6 (all_goals (try conv => whnf); all_goals (try first | with_reducible refine brY (by assumption) ?_ | with_reducible refine brN (by assumption) ?_ | (with_reducible refine brT ?_ ?_; · (simp only [Bool.and_eq_true, Bool.not_eq_true', decide_eq_true_eq, decide_eq_false_iff_not, beq_iff_eq, beq_eq_false_iff_ne, ne_eq] at *; omega)) | with_reducible refine br (fun _ => ?_) (fun _ => ?_) | with_reducible refine ⟨rfl, ?_⟩ | with_reducible refine ARound.succ ?_ | (refine call24 rfl ?_)))
  refine leaf ?_ (.int _ _)
  have e : (Int.toNat (c.toNat : Int)).toUInt8 = c := by rw [Int.toNat_natCast]; simp
  show SV.int .i64 (Lib.indexByte [9, 10, 13, 32] (Int.toNat (c.toNat : Int)).toUInt8) = _
  rw [e]
theorem blank_index (c : UInt8) : decide (0 ≤ Go.Lib.indexByte [9, 10, 13, 32] c) = isBlank c := by
  have : ∀ n : Fin 256, decide (0 ≤ Go.Lib.indexByte [9, 10, 13, 32] (UInt8.ofNat n.val)) = isBlank (UInt8.ofNat n.val) := by decide +kernel
  have h := this ⟨c.toNat, UInt8.toNat_lt c⟩
  simp only [UInt8.ofNat_toNat] at h
  exact h
theorem textGo_err : ∀ (f : Nat) (u : List UInt8) (i : Nat) (bad : Bool) (buf : List UInt8) (e : Int), textGo f u i bad buf = .err e → e ≠ 0
  | 0, _, _, _, _, e, h => by simp [textGo] at h; omega
  | f+1, [], _, _, _, e, h => by simp [textGo] at h; omega
  | f+1, a :: u, i, bad, buf, e, h => by
    rw [textGo] at h
    split at h
    · exact textGo_err f _ _ _ _ e h
    · split at h
      · exact textGo_err f _ _ _ _ e h
      · split at h
        · cases h; decide
        · split at h
          · cases h; decide
          · cases h
theorem signL_err {u : List UInt8} : ∀ (L : List (List UInt8)) (e : Int), signL u L = .err e → e ≠ 0
  | [], e, h => by simp [signL] at h; omega
  | y :: L, e, h => by
    rw [signL] at h
    split at h
    · cases h
    · exact signL_err L e h
theorem oneL_err {s : List UInt8} {e : Int} (h : oneL s = .err e) : e ≠ 0 := by
  cases s with
  | nil => simp [oneL] at h; omega
  | cons c r =>
    unfold oneL at h
    dsimp only at h
    split at h
    · unfold wordL at h
      dsimp only at h
      split at h
      · cases h; decide
      · cases h
    · split at h
      · unfold numberL at h
        dsimp only at h
        split at h
        · cases h; decide
        · cases h
      · split at h
        · exact textGo_err _ _ _ _ _ _ h
        · exact signL_err _ _ h
@[reducible] def fltS (e a : Int) : SV := .agg [.int .i64 e, .int .i64 a]
def lexS (r : Except (Int × Nat) (List TP)) : SV := match r with
  | .ok [] => .tup [.nils, fltS 0 0]
  | .ok (x :: l) => .tup [lstT (x :: l), fltS 0 0]
  | .error (e, a) => .tup [.nils, fltS e a]
def addL (ts : List TP) (r : Except (Int × Nat) (List TP)) : Except (Int × Nat) (List TP) := match r with
  | .ok l => .ok (ts ++ l)
  | .error e => .error e
theorem lexGo_step {f p : Nat} {s : List UInt8} (h : s ≠ []) : lexGo (f + 1) s p = if isBlank (s.getD 0 0) then lexGo f (s.drop 1) (p + 1) else match oneL s with
    | .err e => .error (e, p)
    | .ok x n => addL [(x, p)] (lexGo f (s.drop n) (p + n)) := by
  cases s with
  | nil => exact absurd rfl h
  | cons c r =>
    rw [lexGo]
    show _ = if isBlank c then _ else _
    split
    · rfl
    · cases ho : oneL (c :: r) with
      | err e => rfl
      | ok x n =>
        dsimp only
        cases lexGo f ((c :: r).drop n) (p + n) <;> rfl
theorem addL_add (a b : List TP) (r : Except (Int × Nat) (List TP)) : addL a (addL b r) = addL (a ++ b) r := by
  cases r <;> simp [addL]
theorem addL_nil (r : Except (Int × Nat) (List TP)) : addL [] r = r := by cases r <;> simp [addL]
/-- Where the cut stands: the tokens that were read, and what is left. -/
structure LxI (s : List UInt8) (p : Nat) (ts : List TP) : Prop where
  pl : p ≤ s.length
  tl : ts.length ≤ p
  go : ∃ f, (s.drop p).length ≤ f ∧ lexL s = addL ts (lexGo f (s.drop p) p)
inductive LxS (s : List UInt8) where
  | E (p : Nat) (h : LxI s p [])
  | L (p g : Nat) (x : TP) (ts : List TP) (h : LxI s p (x :: ts))
@[reducible] def flt0 : AObj := .vec 0 2 [fltS 0 0] ⟨false, some 30⟩
@[reducible] def tok1 (x : TP) : AObj := .vec 0 4 [tokP x] ⟨false, some 27⟩
@[reducible] def LxS.env {s : List UInt8} : LxS s → Env
  | .E p _ => [(0, SV.str s), (2, SV.nils), (3, SV.ref 0 0 0 0), (11, SV.bool false), (4, SV.nils), (5, SV.int IntKind.i64 p)]
  | .L p g x ts _ => [(0, SV.str s), (2, SV.nils), (3, SV.ref 0 0 0 0), (11, SV.bool false), (4, SV.sl 3 g 4 0 (x :: ts).length none), (5, SV.int IntKind.i64 p)]
@[reducible] def LxS.hp {s : List UInt8} : LxS s → Heap
  | .E _ _ => ⟨1, [(0, flt0)]⟩
  | .L p g x ts _ => ⟨4, [(3, .vec g 4 ((x :: ts).map tokP) ⟨true, some 27⟩), (2, tok1 x), (1, tok1 x), (0, flt0)]⟩
def LxS.mu {s : List UInt8} : LxS s → Nat
  | .E p _ => s.length - p
  | .L p _ _ _ _ => s.length - p
def LxS.nn {s : List UInt8} : LxS s → Nat
  | .E p _ => if isBlank (s.getD p 0) = true then 1 else 4
  | .L .. => 4
theorem lexS_lit (r : Except (Int × Nat) (List TP)) : LitV (lexS r) := by
  have hf : ∀ e a : Int, LitV (fltS e a) := fun e a => .agg (by simp only [List.mem_cons, List.not_mem_nil, or_false]; rintro _ (rfl | rfl) <;> constructor)
  match r with
  | .ok [] => exact lit2 .nils (hf _ _)
  | .ok (x :: l) => exact lit2 (.lst _ _ _) (hf _ _)
  | .error (e, a) => exact lit2 .nils (hf _ _)
theorem one_from {s : List UInt8} {pos : Nat} {o : One} (hs : s.length ≤ 65536) (h : pos < s.length) (ho : oneL (s.drop pos) = o) : PCall Tryz.prog 13 [.str (List.take (((s.length : Nat) : Int).toNat - ((pos : Nat) : Int).toNat) (List.drop ((pos : Nat) : Int).toNat s))] (oneS o) := by
  rw [cut_from, ← ho]
  exact one_any (by rw [List.length_drop]; omega) (by rw [drop_cons h]; simp)
theorem lex_any {s : List UInt8} (hs : s.length ≤ 65536) : PCall Tryz.prog 5 [.str s] (lexS (lexL s)) := by
  refine pcall_of (lits1 (.str _)) (call5 rfl ?_)
  have h0 : decide ((65536 : Int) < (s.length : Int)) = false := decide_eq_false (by omega)
  iterate 10 (all_goals (try conv => whnf); all_goals (try first | with_reducible refine brY (by assumption) ?_ | with_reducible refine brN (by assumption) ?_ | (with_reducible refine brT ?_ ?_; · (simp only [Bool.and_eq_true, Bool.not_eq_true', decide_eq_true_eq, decide_eq_false_iff_not, beq_iff_eq, beq_eq_false_iff_ne, ne_eq] at *; omega)) | with_reducible refine br (fun _ => ?_) (fun _ => ?_) | with_reducible refine ⟨rfl, ?_⟩ | with_reducible refine ARound.succ ?_))
  refine loop_any (σ := LxS s) LxS.env LxS.hp LxS.mu LxS.nn (fun x => match x with | .E p _ => (by show 1 ≤ if _ then 1 else 4; split <;> decide) | .L .. => Nat.le_refl 4) ?_ (.E 0 ⟨by omega, by simp, s.length, by simp, by rw [addL_nil]; rfl⟩)
  rintro (⟨p, hI⟩ | ⟨p, g, x, ts, hI⟩)
  · obtain ⟨pl, tl, f, hf, hgo⟩ := id hI
    by_cases hl : p < s.length
    · have hd : decide ((p : Int) < (s.length : Int)) = true := decide_eq_true (by omega)
      have e7 : IntKind.i64.wrap ((p : Int) + 1) = ((p + 1 : Nat) : Int) := w64add (by omega)
      have et := Int.toNat_natCast p
      have ci := index_blank (s.getD (p : Int).toNat 0)
      have cb := blank_index (s.getD (p : Int).toNat 0)
      rw [List.length_drop] at hf
      obtain ⟨f, rfl⟩ : ∃ f', f = f' + 1 := ⟨f - 1, by omega⟩
      rw [lexGo_step (by rw [drop_cons hl]; simp), getD_drop, Nat.add_zero, List.drop_drop] at hgo
      cases hb : isBlank (s.getD p 0)
      · rw [hb, if_neg (by decide)] at hgo
        rw [show LxS.nn (LxS.E p hI) = 4 from if_neg (by rw [hb]; decide)]
        rw [← et] at hb
        rw [hb] at cb
        cases ho : oneL (s.drop p) with
        | err e =>
          have co := one_from hs hl ho
          have he := oneL_err ho
          have hne : (e != 0) = true := by rw [bne_iff_ne]; exact he
          rw [ho, addL_nil] at hgo
          iterate 24 (all_goals (try conv => whnf); all_goals (try first | with_reducible refine brY (by assumption) ?_ | with_reducible refine brN (by assumption) ?_ | (with_reducible refine brT ?_ ?_; · (simp only [Bool.and_eq_true, Bool.not_eq_true', decide_eq_true_eq, decide_eq_false_iff_not, beq_iff_eq, beq_eq_false_iff_ne, ne_eq] at *; omega)) | with_reducible refine br (fun _ => ?_) (fun _ => ?_) | with_reducible refine ⟨rfl, ?_⟩ | with_reducible refine ARound.succ ?_ | with_reducible refine PCall.call (ci) ?_ | with_reducible refine PCall.call (co) ?_))
          exact leaf (by rw [hgo]; rfl) (lexS_lit _)
        | ok x n =>
          have co := one_from hs hl ho
          obtain ⟨n1, n2, _⟩ := oneL_cut ho
          rw [List.length_drop] at n2
          have e8 : IntKind.i64.wrap ((p : Int) + (n : Int)) = ((p + n : Nat) : Int) := by rw [w64 (by omega) (by omega)]; omega
          rw [ho] at hgo
          dsimp only at hgo
          rw [addL_add, List.nil_append, List.drop_drop] at hgo
          iterate 40 (all_goals (try conv => whnf); all_goals (try first | with_reducible refine brY (by assumption) ?_ | with_reducible refine brN (by assumption) ?_ | (with_reducible refine brT ?_ ?_; · (simp only [Bool.and_eq_true, Bool.not_eq_true', decide_eq_true_eq, decide_eq_false_iff_not, beq_iff_eq, beq_eq_false_iff_ne, ne_eq] at *; omega)) | with_reducible refine br (fun _ => ?_) (fun _ => ?_) | with_reducible refine ⟨rfl, ?_⟩ | with_reducible refine ARound.succ ?_ | with_reducible refine PCall.call (ci) ?_ | with_reducible refine PCall.call (co) ?_ | (refine app_tok1 (v := (x, p)) ?_)))
          refine ⟨.L (p + n) 0 (x, p) [] ⟨by omega, by simp; omega, f, by rw [List.length_drop]; omega, hgo⟩, by simp only [LxS.mu]; omega, by rw [e8]; rfl, rfl⟩
      · rw [hb, if_pos rfl] at hgo
        rw [show LxS.nn (LxS.E p hI) = 1 from if_pos hb]
        rw [← et] at hb
        rw [hb] at cb
        iterate 24 (all_goals (try conv => whnf); all_goals (try first | with_reducible refine brY (by assumption) ?_ | with_reducible refine brN (by assumption) ?_ | (with_reducible refine brT ?_ ?_; · (simp only [Bool.and_eq_true, Bool.not_eq_true', decide_eq_true_eq, decide_eq_false_iff_not, beq_iff_eq, beq_eq_false_iff_ne, ne_eq] at *; omega)) | with_reducible refine br (fun _ => ?_) (fun _ => ?_) | with_reducible refine ⟨rfl, ?_⟩ | with_reducible refine ARound.succ ?_ | with_reducible refine PCall.call (ci) ?_))
        refine ⟨.E (p + 1) ⟨hl, by simp, f, by rw [List.length_drop]; omega, hgo⟩, by simp only [LxS.mu]; omega, by rw [e7], rfl⟩
    · have hd : decide ((p : Int) < (s.length : Int)) = false := decide_eq_false (by omega)
      have hnil : lexL s = .ok [] := by
        rw [hgo, List.drop_of_length_le (by omega)]
        cases f <;> rfl
      iterate 24 (all_goals (try conv => whnf); all_goals (try first | with_reducible refine brY (by assumption) ?_ | with_reducible refine brN (by assumption) ?_ | (with_reducible refine brT ?_ ?_; · (simp only [Bool.and_eq_true, Bool.not_eq_true', decide_eq_true_eq, decide_eq_false_iff_not, beq_iff_eq, beq_eq_false_iff_ne, ne_eq] at *; omega)) | with_reducible refine br (fun _ => ?_) (fun _ => ?_) | with_reducible refine ⟨rfl, ?_⟩ | with_reducible refine ARound.succ ?_))
      exact leaf (by rw [hnil]; rfl) (lexS_lit _)
  · obtain ⟨pl, tl, f, hf, hgo⟩ := id hI
    have qg : Nat.beq g g = true := nbeq_self g
    rw [show LxS.nn (LxS.L p g x ts hI) = 4 from rfl]
    simp only [List.length_cons] at tl
    by_cases hl : p < s.length
    · have hd : decide ((p : Int) < (s.length : Int)) = true := decide_eq_true (by omega)
      have e7 : IntKind.i64.wrap ((p : Int) + 1) = ((p + 1 : Nat) : Int) := w64add (by omega)
      have et := Int.toNat_natCast p
      have ci := index_blank (s.getD (p : Int).toNat 0)
      have cb := blank_index (s.getD (p : Int).toNat 0)
      rw [List.length_drop] at hf
      obtain ⟨f, rfl⟩ : ∃ f', f = f' + 1 := ⟨f - 1, by omega⟩
      rw [lexGo_step (by rw [drop_cons hl]; simp), getD_drop, Nat.add_zero, List.drop_drop] at hgo
      cases hb : isBlank (s.getD p 0)
      · rw [hb, if_neg (by decide)] at hgo
        rw [← et] at hb
        rw [hb] at cb
        cases ho : oneL (s.drop p) with
        | err e =>
          have co := one_from hs hl ho
          have he := oneL_err ho
          have hne : (e != 0) = true := by rw [bne_iff_ne]; exact he
          rw [ho] at hgo
          iterate 24 (all_goals (try conv => whnf); all_goals (try first | with_reducible refine brY (by assumption) ?_ | with_reducible refine brN (by assumption) ?_ | (with_reducible refine brT ?_ ?_; · (simp only [Bool.and_eq_true, Bool.not_eq_true', decide_eq_true_eq, decide_eq_false_iff_not, beq_iff_eq, beq_eq_false_iff_ne, ne_eq] at *; omega)) | with_reducible refine br (fun _ => ?_) (fun _ => ?_) | with_reducible refine ⟨rfl, ?_⟩ | with_reducible refine ARound.succ ?_ | with_reducible refine PCall.call (ci) ?_ | with_reducible refine PCall.call (co) ?_))
          exact leaf (by rw [hgo]; rfl) (lexS_lit _)
        | ok y n =>
          have co := one_from hs hl ho
          obtain ⟨n1, n2, _⟩ := oneL_cut ho
          rw [List.length_drop] at n2
          have e8 : IntKind.i64.wrap ((p : Int) + (n : Int)) = ((p + n : Nat) : Int) := by rw [w64 (by omega) (by omega)]; omega
          rw [ho] at hgo
          dsimp only at hgo
          rw [addL_add, List.drop_drop] at hgo
          iterate 40 (all_goals (try conv => whnf); all_goals (try first | with_reducible refine brY (by assumption) ?_ | with_reducible refine brN (by assumption) ?_ | (with_reducible refine brT ?_ ?_; · (simp only [Bool.and_eq_true, Bool.not_eq_true', decide_eq_true_eq, decide_eq_false_iff_not, beq_iff_eq, beq_eq_false_iff_ne, ne_eq] at *; omega)) | with_reducible refine br (fun _ => ?_) (fun _ => ?_) | with_reducible refine ⟨rfl, ?_⟩ | with_reducible refine ARound.succ ?_ | with_reducible refine PCall.call (ci) ?_ | with_reducible refine PCall.call (co) ?_ | (refine app_tok (i := 3) (vs := x :: ts) (v := (y, p)) rfl (by omega) (by simp only [List.length_cons]; omega) ?_) | (refine allLtK_of lt_ts ?_) | (refine allLtK_of (lt_ts (s := x :: ts)) ?_) | (refine allLtK_of (lt_ts (s := x :: ts ++ [(y, p)])) ?_) | (refine allLtK_of (lt_one rfl) ?_)))
          refine ⟨.L (p + n) (g + 1) x (ts ++ [(y, p)]) ⟨by omega, by simp; omega, f, by rw [List.length_drop]; omega, hgo⟩, by simp only [LxS.mu]; omega, ?_, ?_⟩
          · rw [e8]; simp
          · simp
      · rw [hb, if_pos rfl] at hgo
        rw [← et] at hb
        rw [hb] at cb
        iterate 24 (all_goals (try conv => whnf); all_goals (try first | with_reducible refine brY (by assumption) ?_ | with_reducible refine brN (by assumption) ?_ | (with_reducible refine brT ?_ ?_; · (simp only [Bool.and_eq_true, Bool.not_eq_true', decide_eq_true_eq, decide_eq_false_iff_not, beq_iff_eq, beq_eq_false_iff_ne, ne_eq] at *; omega)) | with_reducible refine br (fun _ => ?_) (fun _ => ?_) | with_reducible refine ⟨rfl, ?_⟩ | with_reducible refine ARound.succ ?_ | with_reducible refine PCall.call (ci) ?_ | (refine allLtK_of lt_ts ?_) | (refine allLtK_of (lt_ts (s := x :: ts)) ?_) | (refine allLtK_of (lt_one rfl) ?_)))
        refine ⟨.L (p + 1) g x ts ⟨hl, by simp; omega, f, by rw [List.length_drop]; omega, hgo⟩, by simp only [LxS.mu]; omega, by rw [e7], rfl⟩
    · have hd : decide ((p : Int) < (s.length : Int)) = false := decide_eq_false (by omega)
      have hall : lexL s = .ok (x :: ts) := by
        rw [hgo, List.drop_of_length_le (by omega)]
        cases f <;> simp [lexGo, addL]
      iterate 24 (all_goals (try conv => whnf); all_goals (try first | with_reducible refine brY (by assumption) ?_ | with_reducible refine brN (by assumption) ?_ | (with_reducible refine brT ?_ ?_; · (simp only [Bool.and_eq_true, Bool.not_eq_true', decide_eq_true_eq, decide_eq_false_iff_not, beq_iff_eq, beq_eq_false_iff_ne, ne_eq] at *; omega)) | with_reducible refine br (fun _ => ?_) (fun _ => ?_) | with_reducible refine ⟨rfl, ?_⟩ | with_reducible refine ARound.succ ?_))
      refine ⟨_, rfl, ?_⟩
      rw [hall]
      show Hard _ _ (SV.tup [lstT (x :: ts), fltS 0 0])
      refine .tup rfl fun i v v' a b => ?_
      rcases i with _ | _ | i
      · cases a; cases b; exact hard_ts (s := x :: ts) rfl rfl
      · cases a; cases b; exact .lit (.agg (by simp only [List.mem_cons, List.not_mem_nil, or_false]; rintro _ (rfl | rfl) <;> constructor))
      · simp at a
end Go.Proofs.YtlhpbcbkkbjhoaaGreatDoor
namespace Go.Proofs.YtlhpbcbkkbjhoaaGreatDoor
open Go.Lib
def upB (c : UInt8) : UInt8 := if 97 ≤ c && c ≤ 122 then c - 32 else c
theorem up_letter : ∀ c : UInt8, isLetter (upB c) = isLetter c := by
  intro c
  have : ∀ n : Fin 256, isLetter (upB (UInt8.ofNat n.val)) = isLetter (UInt8.ofNat n.val) := by decide +kernel
  have h := this ⟨c.toNat, UInt8.toNat_lt c⟩
  simpa using h
theorem up_digit : ∀ c : UInt8, isDigit (upB c) = isDigit c := by
  intro c
  have : ∀ n : Fin 256, isDigit (upB (UInt8.ofNat n.val)) = isDigit (UInt8.ofNat n.val) := by decide +kernel
  have h := this ⟨c.toNat, UInt8.toNat_lt c⟩
  simpa using h
theorem up_low : ∀ c : UInt8, lowB (upB c) = lowB c := by
  intro c
  have : ∀ n : Fin 256, lowB (upB (UInt8.ofNat n.val)) = lowB (UInt8.ofNat n.val) := by decide +kernel
  have h := this ⟨c.toNat, UInt8.toNat_lt c⟩
  simpa using h
theorem blank_up : ∀ c : UInt8, isBlank c = true → upB c = c := by
  intro c hc
  have : ∀ n : Fin 256, isBlank (UInt8.ofNat n.val) = true → upB (UInt8.ofNat n.val) = UInt8.ofNat n.val := by decide +kernel
  have h := this ⟨c.toNat, UInt8.toNat_lt c⟩
  simp at h
  exact h hc
theorem blank_no : ∀ c : UInt8, isBlank c = true → isLetter c = false ∧ isDigit c = false ∧ c ≠ 39 := by
  intro c hc
  have : ∀ n : Fin 256, isBlank (UInt8.ofNat n.val) = true → isLetter (UInt8.ofNat n.val) = false ∧ isDigit (UInt8.ofNat n.val) = false ∧ UInt8.ofNat n.val ≠ 39 := by decide +kernel
  have h := this ⟨c.toNat, UInt8.toNat_lt c⟩
  simp at h
  simpa using h hc
theorem takeWhile_ext {p : UInt8 → Bool} : ∀ {u : List UInt8} {c : UInt8} {r : List UInt8}, (u.takeWhile p).length = u.length → p c = false → (u ++ c :: r).takeWhile p = u.takeWhile p
  | [], c, r, _, hc => by simp [hc]
  | a :: u, c, r, h, hc => by
    rw [List.cons_append, List.takeWhile_cons, List.takeWhile_cons]
    rw [List.takeWhile_cons] at h
    split
    · rename_i ha
      rw [if_pos ha] at h
      rw [takeWhile_ext (u := u) (by simpa using h) hc]
    · rename_i ha
      simp [ha] at h
theorem textGo_ext : ∀ (f : Nat) (u : List UInt8) (i : Nat) (bad : Bool) (buf : List UInt8) (x : Tk) (c : UInt8) (r : List UInt8) (f' : Nat), c ≠ 39 → textGo f u i bad buf = .ok x (i + u.length) → u.length ≤ f' → textGo f' (u ++ c :: r) i bad buf = .ok x (i + u.length)
  | 0, _, _, _, _, _, _, _, _, _, h, _ => by simp [textGo] at h
  | f+1, [], _, _, _, _, _, _, _, _, h, _ => by simp [textGo] at h
  | f+1, a :: u, i, bad, buf, x, c, r, f', hc, h, hf => by
    have h0 := h
    simp only [List.length_cons] at h hf ⊢
    obtain ⟨f', rfl⟩ : ∃ g, f' = g + 1 := ⟨f' - 1, by omega⟩
    rw [textGo] at h
    rw [List.cons_append, textGo]
    by_cases ha : a ≠ 39
    · rw [if_pos ha] at h ⊢
      obtain ⟨k1, k2, k3, _⟩ := textGo_cut _ _ _ _ _ x _ h0
      simp only [List.length_cons] at k2 k3
      have e0 : i + (u.length + 1) - 1 - i = u.length := by omega
      rw [e0] at k2 k3
      obtain ⟨k1, _, _, _⟩ := textGo_cut _ _ _ _ _ x _ h
      generalize hd : decodeL (a :: u) = d at h k1
      have hu : u ≠ [] := by rintro rfl; exact ha k3
      have hl : a :: u = (a :: u).take u.length ++ 39 :: [] := by
        have := split_at (l := a :: u) (k := u.length) (by simp) k3
        rw [List.drop_of_length_le (by simp)] at this
        exact this
      have hp : (a :: u).take u.length ≠ [] := by
        cases u with
        | nil => exact absurd rfl hu
        | cons b v => simp
      have hd' : decodeL (a :: (u ++ c :: r)) = d := by
        have e : a :: (u ++ c :: r) = (a :: u).take u.length ++ 39 :: (c :: r) := by
          rw [← List.cons_append]
          conv => lhs; rw [hl]
          simp
        rw [e, decodeL_stop hp (r' := []), ← hl, hd]
      have hw := decodeL_fits (p := (a :: u).take u.length) (r := []) hp
      rw [← hl, hd, List.length_take] at hw
      simp only [List.length_cons] at hw
      have hw1 : 1 ≤ d.2 := by rw [← hd]; exact decodeL_width _
      rw [hd']
      show textGo f' ((a :: (u ++ c :: r)).drop d.2) (i + d.2) _ (buf ++ (a :: (u ++ c :: r)).take d.2) = _
      rw [← List.cons_append, List.drop_append_of_le_length (by simp only [List.length_cons]; omega), List.take_append_of_le_length (by simp only [List.length_cons]; omega)]
      have el : i + (u.length + 1) = i + d.2 + ((a :: u).drop d.2).length := by rw [List.length_drop, List.length_cons]; omega
      rw [el] at h ⊢
      exact textGo_ext f _ _ _ _ x c r f' hc h (by rw [List.length_drop, List.length_cons]; omega)
    · have ha : a = 39 := by simpa using ha
      subst ha
      rw [if_neg (by simp)] at h ⊢
      match u, h, hf with
      | [], h, hf =>
        rw [if_neg (by decide)] at h
        rw [if_neg (by simpa using hc)]
        exact h
      | b :: u, h, hf =>
        by_cases hb : b = 39
        · subst hb
          rw [if_pos (by rfl)] at h
          rw [if_pos (by rfl)]
          simp only [List.cons_append, List.drop_succ_cons, List.drop_zero, List.length_cons] at h ⊢
          rw [show i + (u.length + 1 + 1) = i + 2 + u.length by omega] at h ⊢
          exact textGo_ext f u (i + 2) bad _ x c r f' hc h (by simp only [List.length_cons] at hf; omega)
        · rw [if_neg (by simpa using hb)] at h
          exfalso
          split at h
          · cases h
          · split at h
            · cases h
            · cases h
theorem sign_no : ∀ x ∈ signsL, ∀ b ∈ x, isBlank b = false := by decide
theorem signL_ext {u : List UInt8} {c : UInt8} {r : List UInt8} (hc : isBlank c = true) : ∀ (L : List (List UInt8)) (x : Tk), (∀ y ∈ L, y ∈ signsL) → signL u L = .ok x u.length → signL (u ++ c :: r) L = .ok x u.length
  | [], x, _, h => by simp [signL] at h
  | y :: L, x, hL, h => by
    rw [signL] at h ⊢
    split at h
    · rename_i hy
      rw [if_pos]
      · exact h
      · rw [List.isPrefixOf_iff_prefix] at hy ⊢
        exact hy.trans (List.prefix_append _ _)
    · rename_i hy
      rw [if_neg]
      · exact signL_ext hc L x (fun y hm => hL y (by simp [hm])) h
      · intro hp
        rw [List.isPrefixOf_iff_prefix] at hy hp
        rcases Nat.lt_or_ge u.length y.length with hlt | hge
        · obtain ⟨t, ht⟩ := hp
          have : (y ++ t)[u.length]? = some c := by rw [ht]; simp
          rw [List.getElem?_append_left hlt] at this
          have hm := List.mem_of_getElem? this
          have := sign_no y (hL y (by simp)) c hm
          rw [hc] at this; cases this
        · exact hy (List.prefix_of_prefix_length_le hp (List.prefix_append _ _) hge)
/-- A token's own bytes, and a blank behind them: the token. -/
theorem oneL_ext {u : List UInt8} {x : Tk} {c : UInt8} {r : List UInt8} (h : oneL u = .ok x u.length) (hc : isBlank c = true) : oneL (u ++ c :: r) = .ok x u.length := by
  obtain ⟨n1, n2, n3⟩ := blank_no c hc
  match u, h with
  | [], h => simp [oneL] at h
  | a :: v, h =>
    unfold oneL at h ⊢
    rw [List.cons_append]
    dsimp only at h ⊢
    split at h
    · rename_i hl
      rw [if_pos hl]
      unfold wordL at h ⊢
      dsimp only at h ⊢
      split at h
      · cases h
      · rename_i hlen
        have hw : ((a :: v).takeWhile fun c => isLetter c || isDigit c).length = (a :: v).length := by injection h
        have := takeWhile_ext (p := fun c => isLetter c || isDigit c) (r := r) hw (by simp [n1, n2] : (isLetter c || isDigit c) = false)
        rw [List.cons_append] at this
        rw [this, if_neg hlen]
        exact h
    · rename_i hl
      rw [if_neg hl]
      split at h
      · rename_i hd
        rw [if_pos hd]
        unfold numberL at h ⊢
        dsimp only at h ⊢
        split at h
        · cases h
        · rename_i hlen
          have hw : ((a :: v).takeWhile isDigit).length = (a :: v).length := by injection h
          have := takeWhile_ext (p := isDigit) (r := r) hw n2
          rw [List.cons_append] at this
          rw [this, if_neg hlen]
          exact h
      · rename_i hd
        rw [if_neg hd]
        split at h
        · rename_i hq
          rw [if_pos hq]
          unfold textL at h ⊢
          simp only [List.drop_succ_cons, List.drop_zero, List.length_cons] at h ⊢
          rw [show v.length + 1 = 1 + v.length by omega] at h ⊢
          exact textGo_ext _ v 1 false [] x c r _ n3 h (by simp only [List.length_append]; omega)
        · rename_i hq
          rw [if_neg hq]
          exact signL_ext hc signsL x (fun _ h => h) h
theorem textGo_kind : ∀ (f : Nat) (u : List UInt8) (i : Nat) (bad : Bool) (buf : List UInt8) (x : Tk) (n : Nat), textGo f u i bad buf = .ok x n → x.k = 3
  | 0, _, _, _, _, _, _, h => by simp [textGo] at h
  | f+1, [], _, _, _, _, _, h => by simp [textGo] at h
  | f+1, a :: u, i, bad, buf, x, n, h => by
    rw [textGo] at h
    split at h
    · exact textGo_kind f _ _ _ _ x n h
    · split at h
      · exact textGo_kind f _ _ _ _ x n h
      · split at h
        · cases h
        · split at h
          · cases h
          · cases h; rfl
theorem signL_kind {u : List UInt8} : ∀ (L : List (List UInt8)) (x : Tk) (n : Nat), signL u L = .ok x n → x.k = 4
  | [], _, _, h => by simp [signL] at h
  | y :: L, x, n, h => by
    rw [signL] at h
    split at h
    · cases h; rfl
    · exact signL_kind L x n h
theorem oneL_up {u : List UInt8} {x : Tk} (h : oneL u = .ok x u.length) (hk : x.k = 1) : oneL (u.map upB) = .ok x u.length := by
  match u, h with
  | [], h => simp [oneL] at h
  | a :: v, h =>
    unfold oneL at h ⊢
    rw [List.map_cons]
    dsimp only at h ⊢
    split at h
    · rename_i hl
      rw [if_pos (by rw [up_letter]; exact hl)]
      unfold wordL at h ⊢
      dsimp only at h ⊢
      have e : (upB a :: v.map upB).takeWhile (fun c => isLetter c || isDigit c) = ((a :: v).takeWhile fun c => isLetter c || isDigit c).map upB := by
        rw [← List.map_cons, List.takeWhile_map]
        congr 2
        funext c
        simp only [Function.comp, up_letter, up_digit]
      rw [e, List.length_map, List.map_map, show (lowB ∘ upB) = lowB from funext up_low]
      exact h
    · split at h
      · exfalso
        unfold numberL at h
        dsimp only at h
        split at h
        · cases h
        · have : x.k = 2 := by injection h with h1 h2; rw [← h1]
          omega
      · split at h
        · have := textGo_kind _ _ _ _ _ _ _ h
          omega
        · have := signL_kind _ _ _ h
          omega
theorem lexGo_skip : ∀ (bl : List UInt8) (f p : Nat) (r : List UInt8), (∀ c ∈ bl, isBlank c = true) → bl.length ≤ f → lexGo f (bl ++ r) p = lexGo (f - bl.length) r (p + bl.length)
  | [], f, p, r, _, _ => rfl
  | b :: bl, f, p, r, h, hf => by
    obtain ⟨f, rfl⟩ : ∃ g, f = g + 1 := ⟨f - 1, by simp only [List.length_cons] at hf; omega⟩
    rw [List.cons_append, lexGo, if_pos (h b (by simp)), lexGo_skip bl f (p + 1) r (fun c hc => h c (by simp [hc])) (by simpa using hf)]
    simp only [List.length_cons]
    congr 1 <;> omega
/-- What is told piece by piece: each a token's own bytes and blanks. -/
structure Piece where
  u : List UInt8
  bl : List UInt8
  x : Tk
structure Piece.Ok (q : Piece) : Prop where
  one : oneL q.u = .ok q.x q.u.length
  first : isBlank (q.u.getD 0 0) = false
  ne : q.bl ≠ []
  blank : ∀ c ∈ q.bl, isBlank c = true
def flat (ps : List Piece) : List UInt8 := ps.flatMap fun q => q.u ++ q.bl
theorem lexGo_flat : ∀ (ps : List Piece) (f p : Nat), (∀ q ∈ ps, q.Ok) → (flat ps).length ≤ f → ∃ l, lexGo f (flat ps) p = .ok l ∧ l.map (·.1) = ps.map (·.x)
  | [], f, p, _, _ => ⟨[], lexGo_blank f [] p (by simp), rfl⟩
  | q :: ps, f, p, h, hf => by
    have hq := h q (by simp)
    have e : flat (q :: ps) = q.u ++ (q.bl ++ flat ps) := by simp [flat]
    rw [e] at hf ⊢
    simp only [List.length_append] at hf
    obtain ⟨h1, h2, _⟩ := oneL_cut hq.one
    obtain ⟨l, hl, hm⟩ := lexGo_flat ps (f - 1 - q.bl.length) (p + q.u.length + q.bl.length) (fun q' hq' => h q' (by simp [hq'])) (by omega)
    refine ⟨(q.x, p) :: l, ?_, by simp [hm]⟩
    obtain ⟨f, rfl⟩ : ∃ g, f = g + 1 := ⟨f - 1, by omega⟩
    match hu : q.u, hbl : q.bl with
    | [], _ => rw [hu] at h1; simp at h1
    | _, [] => exact absurd hbl hq.ne
    | a :: v, b :: bl =>
      have ho : oneL ((a :: v) ++ b :: (bl ++ flat ps)) = .ok q.x (a :: v).length := by
        rw [← hu]
        exact oneL_ext hq.one (hq.blank b (by rw [hbl]; simp))
      have hf1 := hq.first
      rw [hu] at hf1
      rw [List.cons_append, lexGo, if_neg (by simpa using hf1)]
      rw [List.cons_append] at ho
      rw [List.cons_append, ho]
      dsimp only
      rw [← List.cons_append, List.drop_left' rfl, ← List.cons_append, ← hbl]
      rw [hu, hbl] at hl hf
      have hs := lexGo_skip q.bl f (p + (a :: v).length) (flat ps) hq.blank (by rw [hbl]; simp only [List.length_cons] at hf ⊢; omega)
      rw [hs]
      rw [hbl]
      rw [show f + 1 - 1 - (b :: bl).length = f - (b :: bl).length by omega] at hl
      rw [hl]
theorem lexL_flat {ps : List Piece} (h : ∀ q ∈ ps, q.Ok) : ∃ l, lexL (flat ps) = .ok l ∧ l.map (·.1) = ps.map (·.x) := lexGo_flat ps _ 0 h (Nat.le_refl _)
end Go.Proofs.YtlhpbcbkkbjhoaaGreatDoor
namespace Go.Proofs.YtlhpbcbkkbjhoaaGreatDoor
open Go.Lib
/-- Behind the first apostrophe: what is read, and how many bytes it takes with the last apostrophe; none: there is no end. -/
def unq : List UInt8 → Option (List UInt8 × Nat)
  | [] => none
  | [c] => if c = 39 then some ([], 1) else none
  | c :: d :: r => if c = 39 then (if d = 39 then (unq r).map (fun x => (39 :: x.1, x.2 + 2)) else some ([], 1)) else (unq (d :: r)).map (fun x => (c :: x.1, x.2 + 1))
theorem unq_char {c : UInt8} {r : List UInt8} (h : c ≠ 39) : unq (c :: r) = (unq r).map fun x => (c :: x.1, x.2 + 1) := by
  cases r with
  | nil => simp [unq, h]
  | cons d r => rw [unq, if_neg h]
theorem unq_two {r : List UInt8} : unq (39 :: 39 :: r) = (unq r).map fun x => (39 :: x.1, x.2 + 2) := by rw [unq, if_pos rfl, if_pos rfl]
theorem unq_end {r : List UInt8} (h : r.getD 0 0 ≠ 39) : unq (39 :: r) = some ([], 1) := by
  cases r with
  | nil => simp [unq]
  | cons d r => rw [unq, if_pos rfl, if_neg (show d ≠ 39 from h)]
theorem unq_skip : ∀ (p r : List UInt8), (∀ c ∈ p, c ≠ 39) → unq (p ++ r) = (unq r).map fun x => (p ++ x.1, x.2 + p.length)
  | [], r, _ => by simp
  | c :: p, r, h => by
    rw [List.cons_append, unq_char (h c (by simp)), unq_skip p r fun d hd => h d (by simp [hd]), Option.map_map]
    congr 1
theorem decodeL_none {p r : List UInt8} (hp : p ≠ []) : decodeL (p ++ 39 :: r) = decodeL p := by
  rw [decodeL_N, decodeL_N]
  have q : ¬ ((39 : UInt8).toNat / 64 = 2) := by decide
  match p, hp with
  | [a], _ =>
    simp only [List.cons_append, List.nil_append, List.length_cons, List.getD_cons_zero, List.getD_cons_succ, List.length_nil]
    unfold decodeN
    simp only [q, and_false, false_and, if_false, show ¬ (1 < 0 + 1) by omega]
  | [a, b], _ =>
    simp only [List.cons_append, List.nil_append, List.length_cons, List.getD_cons_zero, List.getD_cons_succ, List.length_nil]
    unfold decodeN
    simp only [q, and_false, false_and, if_false, show 1 < r.length + 1 + 1 + 1 by omega, show 1 < 0 + 1 + 1 by omega, show ¬ (2 < 0 + 1 + 1) by omega, true_and]
  | [a, b, c], _ =>
    simp only [List.cons_append, List.nil_append, List.length_cons, List.getD_cons_zero, List.getD_cons_succ, List.length_nil]
    unfold decodeN
    simp only [q, and_false, false_and, if_false, show 1 < r.length + 1 + 1 + 1 + 1 by omega, show 2 < r.length + 1 + 1 + 1 + 1 by omega, show 1 < 0 + 1 + 1 + 1 by omega, show 2 < 0 + 1 + 1 + 1 by omega, show ¬ (3 < 0 + 1 + 1 + 1) by omega, true_and]
  | a :: b :: c :: d :: t, _ =>
    simp only [List.cons_append, List.length_cons, List.length_append, List.getD_cons_zero, List.getD_cons_succ]
    unfold decodeN
    simp only [show 1 < t.length + (r.length + 1) + 1 + 1 + 1 + 1 by omega, show 2 < t.length + (r.length + 1) + 1 + 1 + 1 + 1 by omega, show 3 < t.length + (r.length + 1) + 1 + 1 + 1 + 1 by omega, show 1 < t.length + 1 + 1 + 1 + 1 by omega, show 2 < t.length + 1 + 1 + 1 + 1 by omega, show 3 < t.length + 1 + 1 + 1 + 1 by omega, true_and]
/-- A text up to its first apostrophe. -/
theorem cut39 : ∀ l : List UInt8, (∀ c ∈ l, c ≠ 39) ∨ ∃ p r, l = p ++ 39 :: r ∧ ∀ c ∈ p, c ≠ 39
  | [] => .inl (by simp)
  | c :: r => by
    by_cases hc : c = 39
    · subst hc; exact .inr ⟨[], r, rfl, by simp⟩
    · rcases cut39 r with h | ⟨p, r', rfl, h⟩
      · exact .inl (by simp only [List.mem_cons]; rintro d (rfl | hd); exact hc; exact h d hd)
      · exact .inr ⟨c :: p, r', rfl, by simp only [List.mem_cons]; rintro d (rfl | hd); exact hc; exact h d hd⟩
theorem unq_none {l : List UInt8} (h : ∀ c ∈ l, c ≠ 39) : unq l = none := by
  have := unq_skip l [] h
  rw [List.append_nil] at this
  rw [this]; rfl
theorem unq_first {r : List UInt8} {b : List UInt8} {n : Nat} (h : unq (39 :: r) = some (b, n)) : b = [] ∨ ∃ b', b = 39 :: b' := by
  by_cases hr : r.getD 0 0 = 39
  · cases r with
    | nil => exact absurd hr (by decide)
    | cons d r =>
      obtain rfl : d = 39 := hr
      rw [unq_two] at h
      obtain ⟨x, _, hx⟩ := Option.map_eq_some_iff.1 h
      cases hx
      exact .inr ⟨_, rfl⟩
  · rw [unq_end hr] at h
    cases h
    exact .inl rfl
/-- The last apostrophe is the last byte that is taken. -/
theorem unq_len : ∀ (l b : List UInt8) (n : Nat), unq l = some (b, n) → 1 ≤ n ∧ n ≤ l.length ∧ l.getD (n - 1) 0 = 39
  | [], b, n, h => by simp [unq] at h
  | [c], b, n, h => by
    rw [unq] at h
    split at h
    · rename_i hc
      cases h
      exact ⟨Nat.le_refl _, by simp, hc⟩
    · cases h
  | c :: d :: r, b, n, h => by
    rw [unq] at h
    split at h
    · rename_i hc
      split at h
      · obtain ⟨x, h1, h2⟩ := Option.map_eq_some_iff.1 h
        obtain ⟨k1, k2, k3⟩ := unq_len r x.1 x.2 h1
        cases h2
        refine ⟨by omega, by simp only [List.length_cons]; omega, ?_⟩
        rw [show x.2 + 2 - 1 = (x.2 - 1) + 1 + 1 by omega]
        simpa using k3
      · cases h
        exact ⟨Nat.le_refl _, by simp, hc⟩
    · obtain ⟨x, h1, h2⟩ := Option.map_eq_some_iff.1 h
      obtain ⟨k1, k2, k3⟩ := unq_len (d :: r) x.1 x.2 h1
      cases h2
      refine ⟨by omega, by simp only [List.length_cons] at k2 ⊢; omega, ?_⟩
      rw [show x.2 + 1 - 1 = (x.2 - 1) + 1 by omega]
      simpa using k3
def endT (bad : Bool) (buf : List UInt8) (i : Nat) : Option (List UInt8 × Nat) → One
  | none => .err 231
  | some (b, n) => if (bad || !validD b) = true then .err 232 else if 64 < (buf ++ b).length then .err 3 else .ok ⟨3, buf ++ b, 0⟩ (i + n)
theorem endT_map (bad bad' : Bool) (buf ch : List UInt8) (i k : Nat) (o : Option (List UInt8 × Nat)) (h : ∀ b n, o = some (b, n) → (bad' || !validD b) = (bad || !validD (ch ++ b))) :
    endT bad' (buf ++ ch) (i + k) o = endT bad buf i (o.map fun x => (ch ++ x.1, x.2 + k)) := by
  cases o with
  | none => rfl
  | some x =>
    obtain ⟨b, n⟩ := x
    show (if _ then _ else _) = (if _ then _ else _)
    rw [h b n rfl]
    simp only [List.append_assoc]
    rw [show i + k + n = i + (n + k) by omega]
theorem textGo_unq : ∀ (f : Nat) (l : List UInt8) (i : Nat) (bad : Bool) (buf : List UInt8), l.length ≤ f → textGo f l i bad buf = endT bad buf i (unq l)
  | 0, l, i, bad, buf, h => by
    obtain rfl : l = [] := by simpa using h
    rfl
  | f+1, [], i, bad, buf, h => rfl
  | f+1, c :: r, i, bad, buf, h => by
    simp only [List.length_cons] at h
    by_cases hc : c ≠ 39
    · rw [textGo, if_pos hc]
      dsimp only
      have hw := decodeL_width (c :: r)
      generalize hd : decodeL (c :: r) = d at hw
      rw [textGo_unq f _ _ _ _ (by rw [List.length_drop, List.length_cons]; omega)]
      rcases cut39 (c :: r) with hn | ⟨p, r', hp, hn⟩
      · rw [unq_none hn, unq_none fun x hx => hn x (List.mem_of_mem_drop hx)]
        rfl
      · have hpne : p ≠ [] := by
          rintro rfl
          simp only [List.nil_append, List.cons.injEq] at hp
          exact hc hp.1
        have hfit := decodeL_fits (r := r') hpne
        rw [← hp, hd] at hfit
        have e1 : (c :: r).drop d.2 = p.drop d.2 ++ 39 :: r' := by rw [hp, List.drop_append_of_le_length hfit]
        have e2 : (c :: r).take d.2 = p.take d.2 := by rw [hp, List.take_append_of_le_length hfit]
        have hlen : (p.take d.2).length = d.2 := by rw [List.length_take]; omega
        rw [e1, e2]
        have e3 : unq (c :: r) = (unq (p.drop d.2 ++ 39 :: r')).map fun x => (p.take d.2 ++ x.1, x.2 + d.2) := by
          have := unq_skip (p.take d.2) (p.drop d.2 ++ 39 :: r') fun x hx => hn x (List.mem_of_mem_take hx)
          rw [← List.append_assoc, List.take_append_drop, ← hp, hlen] at this
          exact this
        rw [e3]
        refine endT_map _ _ _ _ _ _ _ fun b n hb => ?_
        rw [unq_skip _ _ fun x hx => hn x (List.mem_of_mem_drop hx)] at hb
        obtain ⟨⟨b', n'⟩, hb1, hb2⟩ := Option.map_eq_some_iff.1 hb
        have hbd : decodeL (p.take d.2 ++ b) = d := by
          cases hb2
          rw [← List.append_assoc, List.take_append_drop]
          rcases unq_first hb1 with rfl | ⟨b'', rfl⟩
          · rw [List.append_nil, ← decodeL_none hpne (r := r'), ← hp, hd]
          · rw [decodeL_none hpne, ← decodeL_none hpne (r := r'), ← hp, hd]
        have hne : p.take d.2 ++ b ≠ [] := by
          intro e
          have := congrArg List.length e
          rw [List.length_append, hlen, List.length_nil] at this
          omega
        rw [validD_step _ hne, hbd, List.drop_left' hlen]
        by_cases hq : d.1 = 65533 ∧ d.2 = 1
        · rw [if_pos hq, hq.1, hq.2]; simp
        · rw [if_neg hq]
          have : (d.1 == 65533 && d.2 == 1) = false := by
            rw [Bool.eq_false_iff]
            intro h
            simp only [Bool.and_eq_true, beq_iff_eq] at h
            exact hq h
          rw [this, Bool.or_false]
    · have hc : c = 39 := by simpa using hc
      subst hc
      rw [textGo, if_neg (by simp)]
      by_cases hr : r.getD 0 0 = 39
      · rw [if_pos hr]
        cases r with
        | nil => exact absurd hr (by decide)
        | cons d r =>
          obtain rfl : d = 39 := hr
          simp only [List.length_cons] at h
          rw [List.drop_succ_cons, List.drop_zero, textGo_unq f r _ _ _ (by omega), unq_two]
          have := endT_map bad bad buf [39] i 2 (unq r) fun b n _ => by rw [List.cons_append, List.nil_append, validD_cons 39 b (by decide)]
          rw [this]; rfl
      · rw [if_neg hr, unq_end hr]
        show _ = (if _ then _ else _)
        rw [validD_nil, Bool.not_true, Bool.or_false, List.append_nil]
theorem textL_eq (r : List UInt8) : textL (39 :: r) = endT false [] 1 (unq r) := by
  unfold textL
  rw [List.drop_succ_cons, List.drop_zero, textGo_unq _ _ _ _ _ (by simp)]
/-- A text's apostrophes doubled. -/
def quot : List UInt8 → List UInt8
  | [] => []
  | c :: r => if c = 39 then 39 :: 39 :: quot r else c :: quot r
theorem unq_quot : ∀ t : List UInt8, unq (quot t ++ [39]) = some (t, (quot t).length + 1)
  | [] => rfl
  | c :: r => by
    rw [quot]
    split
    · rename_i hc
      subst hc
      rw [List.cons_append, List.cons_append, unq_two, unq_quot r]
      rfl
    · rename_i hc
      rw [List.cons_append, unq_char hc, unq_quot r]
      rfl
theorem text_back {t : List UInt8} (hv : validD t = true) (hl : t.length ≤ 64) : oneL (39 :: (quot t ++ [39])) = .ok ⟨3, t, 0⟩ (39 :: (quot t ++ [39])).length := by
  have : oneL (39 :: (quot t ++ [39])) = textL (39 :: (quot t ++ [39])) := rfl
  rw [this, textL_eq, unq_quot]
  show (if _ then _ else _) = _
  rw [hv, if_neg (by decide), if_neg (by simpa using hl)]
  simp only [List.nil_append, List.length_cons, List.length_append, List.length_nil]
  rw [show 1 + ((quot t).length + 1) = (quot t).length + (0 + 1) + 1 by omega]
theorem textL_ok {r : List UInt8} {x : Tk} {n : Nat} (h : textL (39 :: r) = .ok x n) : x.k = 3 ∧ x.n = 0 ∧ validD x.t = true ∧ x.t.length ≤ 64 ∧ (39 :: r).getD (n - 1) 0 = 39 := by
  rw [textL_eq] at h
  cases hu : unq r with
  | none => rw [hu] at h; cases h
  | some q =>
    obtain ⟨b, m⟩ := q
    rw [hu] at h
    replace h : (if (false || !validD b) = true then One.err 232 else if 64 < ([] ++ b).length then .err 3 else .ok ⟨3, [] ++ b, 0⟩ (1 + m)) = .ok x n := h
    split at h
    · cases h
    · rename_i h1
      split at h
      · cases h
      · rename_i h2
        cases h
        obtain ⟨k1, k2, k3⟩ := unq_len r b m hu
        refine ⟨rfl, rfl, by simpa using h1, by simpa using h2, ?_⟩
        rw [show 1 + m - 1 = (m - 1) + 1 by omega]
        simpa using k3
end Go.Proofs.YtlhpbcbkkbjhoaaGreatDoor
namespace Go.Proofs.YtlhpbcbkkbjhoaaGreatDoor
set_option linter.unusedVariables false
set_option linter.unusedSimpArgs false
open Go.Lib
/-- A token's text. -/
def saidL (x : Tk) : List UInt8 := if x.k = 2 then decDigits x.n else if x.k = 3 then 39 :: (quot x.t ++ [39]) else x.t
/-- May a token be? -/
def fineT (x : Tk) : Bool :=
  if (x.k ≠ 2 ∧ x.n ≠ 0) ∨ x.k = 0 ∨ 4 < x.k then false
  else if x.k = 2 then x.t == [] && decide (x.n ≤ 9223372036854775808)
  else if x.k = 3 ∧ (64 < x.t.length ∨ validD x.t = false) then false
  else if 65536 < (saidL x).length then false
  else match lexL (saidL x) with
    | .ok [(y, 0)] => y.k == x.k && y.t == x.t && y.n == x.n
    | _ => false
theorem digit_dg {d : Nat} (h : d < 10) : isDigit (UInt8.ofNat (48 + d)) = true ∧ (UInt8.ofNat (48 + d)).toNat - 48 = d := by
  have : ∀ d : Fin 10, isDigit (UInt8.ofNat (48 + d.val)) = true ∧ (UInt8.ofNat (48 + d.val)).toNat - 48 = d.val := by decide +kernel
  exact this ⟨d, h⟩
theorem dec_num (n : Nat) : (∀ c ∈ decDigits n, isDigit c = true) ∧ decDigits n ≠ [] ∧ numOf (decDigits n) = n := by
  induction n using Nat.strongRecOn with
  | _ n ih =>
    by_cases h : n < 10
    · rw [decDigits, dif_pos h]
      obtain ⟨h1, h2⟩ := digit_dg h
      refine ⟨by simpa using h1, by simp, ?_⟩
      unfold numOf
      simp only [List.foldl_cons, List.foldl_nil]
      omega
    · rw [decDigits, dif_neg h]
      obtain ⟨i1, i2, i3⟩ := ih (n / 10) (by omega)
      obtain ⟨h1, h2⟩ := digit_dg (Nat.mod_lt n (by decide : 10 > 0))
      refine ⟨?_, by simp, ?_⟩
      · intro c hc
        rcases List.mem_append.1 hc with hc | hc
        · exact i1 c hc
        · simp only [List.mem_singleton] at hc; subst hc; exact h1
      · unfold numOf at i3 ⊢
        rw [List.foldl_append, i3]
        simp only [List.foldl_cons, List.foldl_nil]
        omega
theorem takeWhile_all {p : UInt8 → Bool} : ∀ {l : List UInt8}, (∀ c ∈ l, p c = true) → l.takeWhile p = l
  | [], _ => rfl
  | c :: r, h => by rw [List.takeWhile_cons, if_pos (h c (by simp)), takeWhile_all fun d hd => h d (by simp [hd])]
theorem digit_letter : ∀ c : UInt8, isDigit c = true → isLetter c = false ∧ isBlank c = false := by
  intro c hc
  have : ∀ n : Fin 256, isDigit (UInt8.ofNat n.val) = true → isLetter (UInt8.ofNat n.val) = false ∧ isBlank (UInt8.ofNat n.val) = false := by decide +kernel
  have h := this ⟨c.toNat, UInt8.toNat_lt c⟩
  simp only [UInt8.ofNat_toNat] at h
  exact h hc
theorem letter_blank : ∀ c : UInt8, isLetter c = true → isBlank c = false := by
  intro c hc
  have : ∀ n : Fin 256, isLetter (UInt8.ofNat n.val) = true → isBlank (UInt8.ofNat n.val) = false := by decide +kernel
  have h := this ⟨c.toNat, UInt8.toNat_lt c⟩
  simp only [UInt8.ofNat_toNat] at h
  exact h hc
theorem low_letter : ∀ c : UInt8, isLetter (lowB c) = isLetter c ∧ isDigit (lowB c) = isDigit c ∧ lowB (lowB c) = lowB c := by
  intro c
  have : ∀ n : Fin 256, isLetter (lowB (UInt8.ofNat n.val)) = isLetter (UInt8.ofNat n.val) ∧ isDigit (lowB (UInt8.ofNat n.val)) = isDigit (UInt8.ofNat n.val) ∧ lowB (lowB (UInt8.ofNat n.val)) = lowB (UInt8.ofNat n.val) := by decide +kernel
  have h := this ⟨c.toNat, UInt8.toNat_lt c⟩
  simp only [UInt8.ofNat_toNat] at h
  exact h
theorem num_back {n : Nat} (h : n ≤ 9223372036854775808) : oneL (decDigits n) = .ok ⟨2, [], n⟩ (decDigits n).length ∧ isBlank ((decDigits n).getD 0 0) = false := by
  obtain ⟨h1, h2, h3⟩ := dec_num n
  have ht := takeWhile_all h1
  match hd : decDigits n, h2 with
  | c :: r, _ =>
    rw [hd] at h1 h3 ht
    obtain ⟨l1, l2⟩ := digit_letter c (h1 c (by simp))
    refine ⟨?_, l2⟩
    unfold oneL
    dsimp only
    rw [if_neg (by rw [l1]; decide), if_pos (h1 c (by simp))]
    unfold numberL
    dsimp only
    rw [ht, h3, if_neg (by omega)]
theorem oneL_lexL {s : List UInt8} {x : Tk} (h : oneL s = .ok x s.length) (hb : isBlank (s.getD 0 0) = false) : lexL s = .ok [(x, 0)] := by
  have := lexL_alone (m := s.length) hb h (Nat.le_refl _) (Nat.le_refl _) (by rw [List.take_length, List.drop_length]; simp)
  rw [List.take_length] at this
  exact this
theorem lexL_oneL {s : List UInt8} {x : Tk} (h : lexL s = .ok [(x, 0)]) : isBlank (s.getD 0 0) = false ∧ ∃ n, oneL s = .ok x n ∧ ∀ c ∈ s.drop n, isBlank c = true := by
  have hx := lexGo_lexed s.length s 0 _ (Nat.le_refl _) h
  generalize hl : [(x, 0)] = l at hx
  generalize hp : 0 = p at hx
  cases hx with
  | none h => cases hl
  | some hb hc ho h' =>
    rename_i b s x' n l
    subst hp
    simp only [List.cons.injEq, Prod.mk.injEq, Nat.zero_add] at hl
    obtain ⟨⟨rfl, hbl⟩, rfl⟩ := hl
    obtain rfl : b = [] := List.eq_nil_of_length_eq_zero hbl.symm
    refine ⟨hc, n, ho, ?_⟩
    generalize hd : s.drop n = d at h'
    generalize hn : ([] : List (Tk × Nat)) = e at h'
    cases h' with
    | none h => rw [List.nil_append, hd]; exact h
    | some => cases hn
theorem quot_len : ∀ t : List UInt8, (quot t).length ≤ 2 * t.length
  | [] => by simp [quot]
  | a :: t => by
    have := quot_len t
    rw [quot]
    split
    · simp only [List.length_cons]; omega
    · simp only [List.length_cons]; omega
theorem oneL_kind {s : List UInt8} {x : Tk} {n : Nat} (h : oneL s = .ok x n) : (x.k = 1 ∧ x.n = 0 ∧ x.t.length = n ∧ fineT x = true) ∨ (x.k = 2 ∧ fineT x = true) ∨ (x.k = 3 ∧ x.n = 0 ∧ s.getD (n - 1) 0 = 39 ∧ fineT x = true) ∨ (x.k = 4 ∧ x.n = 0 ∧ x.t.length = n ∧ fineT x = true) := by
  match s, h with
  | [], h => simp [oneL] at h
  | c :: r, h =>
    unfold oneL at h
    dsimp only at h
    split at h
    · rename_i hl
      unfold wordL at h
      dsimp only at h
      split at h
      · cases h
      · rename_i hlen
        cases h
        refine .inl ⟨rfl, rfl, by simp, ?_⟩
        have hw : ∀ d ∈ (c :: r).takeWhile (fun c => isLetter c || isDigit c), (isLetter d || isDigit d) = true := fun d hd => mem_takeWhile (p := fun c => isLetter c || isDigit c) hd
        have hc0 : ∃ w, (c :: r).takeWhile (fun c => isLetter c || isDigit c) = c :: w := by rw [List.takeWhile_cons, if_pos (by rw [hl]; rfl)]; exact ⟨_, rfl⟩
        generalize (c :: r).takeWhile (fun c => isLetter c || isDigit c) = w at hw hc0 hlen
        obtain ⟨w, rfl⟩ := hc0
        have hl' : isLetter (lowB c) = true := by rw [(low_letter c).1]; exact hl
        have ht : (lowB c :: w.map lowB).takeWhile (fun c => isLetter c || isDigit c) = lowB c :: w.map lowB := by
          refine takeWhile_all fun d hd => ?_
          rw [← List.map_cons] at hd
          obtain ⟨e, he, rfl⟩ := List.mem_map.1 hd
          rw [(low_letter e).1, (low_letter e).2.1]
          exact hw e he
        have ho : oneL ((c :: w).map lowB) = .ok ⟨1, (c :: w).map lowB, 0⟩ ((c :: w).map lowB).length := by
          rw [List.map_cons]
          unfold oneL
          dsimp only
          rw [if_pos hl']
          unfold wordL
          dsimp only
          rw [ht, if_neg (by simpa using hlen)]
          congr 2
          rw [List.map_cons, (low_letter c).2.2, List.map_map]
          congr 2
          funext d
          exact (low_letter d).2.2
        have hx := oneL_lexL ho (letter_blank _ hl')
        unfold fineT
        rw [if_neg (by simp), if_neg (by simp), if_neg (by simp), if_neg]
        · show (match lexL ((c :: w).map lowB) with | .ok [(y, 0)] => _ | _ => false) = true
          rw [hx]
          simp
        · show ¬ 65536 < ((c :: w).map lowB).length
          rw [List.length_map]
          omega
    · split at h
      · unfold numberL at h
        dsimp only at h
        split at h
        · cases h
        · rename_i hlen
          cases h
          refine .inr (.inl ⟨rfl, ?_⟩)
          unfold fineT
          rw [if_neg (by simp), if_pos rfl]
          simp
          omega
      · split at h
        · rename_i hq
          have hq : c = 39 := by simpa using hq
          subst hq
          obtain ⟨k1, k2, k3, k4, k5⟩ := textL_ok h
          refine .inr (.inr (.inl ⟨k1, k2, k5, ?_⟩))
          have ho := text_back k3 k4
          have hx := oneL_lexL ho rfl
          obtain ⟨k, t, m⟩ := x
          dsimp only at k1 k2 k3 k4 ho hx
          subst k1 k2
          have hql := quot_len t
          unfold fineT
          rw [if_neg (by simp), if_neg (by simp), if_neg (by rintro ⟨_, h | h⟩; exact absurd h (by show ¬ 64 < t.length; omega); rw [show validD t = false from h] at k3; cases k3), if_neg]
          · show (match lexL (39 :: (quot t ++ [39])) with | .ok [(y, 0)] => _ | _ => false) = true
            rw [hx]
            simp
          · show ¬ 65536 < (39 :: (quot t ++ [39])).length
            simp only [List.length_cons, List.length_append, List.length_nil]
            omega
        · refine .inr (.inr (.inr ?_))
          have key : ∀ L : List (List UInt8), signL (c :: r) L = .ok x n → ∃ y ∈ L, x = ⟨4, y, 0⟩ ∧ n = y.length := by
            intro L
            induction L with
            | nil => intro h; simp [signL] at h
            | cons y L ih =>
              intro h
              rw [signL] at h
              split at h
              · cases h; exact ⟨y, by simp, rfl, rfl⟩
              · obtain ⟨z, hz, e⟩ := ih h
                exact ⟨z, by simp [hz], e⟩
          obtain ⟨y, hy, rfl, rfl⟩ := key _ h
          have : ∀ y ∈ signsL, fineT ⟨4, y, 0⟩ = true := by decide +kernel
          exact ⟨rfl, rfl, rfl, this y hy⟩
theorem lexed_fine {s : List UInt8} {p : Nat} {l : List (Tk × Nat)} (h : Lexed s p l) : ∀ x ∈ l, fineT x.1 = true := by
  induction h with
  | none h => simp
  | some hb hc ho h ih =>
    simp only [List.mem_cons]
    rintro y (rfl | hy)
    · rcases oneL_kind ho with h | h | h | h
      · exact h.2.2.2
      · exact h.2
      · exact h.2.2.2
      · exact h.2.2.2
    · exact ih y hy
theorem quot_last (t : List UInt8) : (39 :: (quot t ++ [39])).getD ((39 :: (quot t ++ [39])).length - 1) 0 = 39 := by
  simp [List.getD]
theorem fine_one {x : Tk} (h : fineT x = true) : oneL (saidL x) = .ok x (saidL x).length ∧ isBlank ((saidL x).getD 0 0) = false := by
  unfold fineT at h
  split at h
  · cases h
  · rename_i h1
    split at h
    · rename_i h2
      simp only [Bool.and_eq_true, beq_iff_eq, decide_eq_true_eq] at h
      have hs : saidL x = decDigits x.n := by unfold saidL; rw [if_pos h2]
      obtain ⟨k, t, n⟩ := x
      obtain ⟨h3, h4⟩ := h
      dsimp only at h2 h3 h4 hs
      subst h2 h3
      rw [hs]
      exact num_back h4
    · rename_i h2
      split at h
      · cases h
      · rename_i h3
        split at h
        · cases h
        · split at h
          · rename_i y hL
            simp only [Bool.and_eq_true, beq_iff_eq] at h
            have hy : y = x := by
              obtain ⟨a, b, c⟩ := y
              obtain ⟨a', b', c'⟩ := x
              obtain ⟨⟨rfl, rfl⟩, rfl⟩ := h
              rfl
            subst hy
            obtain ⟨hb, n, ho, hd⟩ := lexL_oneL hL
            refine ⟨?_, hb⟩
            have hn : n = (saidL y).length := by
              obtain ⟨c1, c2, _⟩ := oneL_cut ho
              rcases oneL_kind ho with k | k | k | k
              · have : saidL y = y.t := by unfold saidL; rw [if_neg (by omega), if_neg (by omega)]
                rw [this]; exact k.2.2.1.symm
              · exact absurd k.1 h2
              · have e : saidL y = 39 :: (quot y.t ++ [39]) := by unfold saidL; rw [if_neg h2, if_pos k.1]
                rw [e] at c2 hd ⊢
                rcases Nat.lt_or_ge n (39 :: (quot y.t ++ [39])).length with hlt | hge
                · exfalso
                  have hm : (39 : UInt8) ∈ (39 :: (quot y.t ++ [39])).drop n := by
                    have hq := quot_last y.t
                    generalize 39 :: (quot y.t ++ [39]) = z at hlt hq
                    rw [List.mem_iff_getElem]
                    refine ⟨z.length - 1 - n, by rw [List.length_drop]; omega, ?_⟩
                    rw [List.getElem_drop]
                    have e2 : n + (z.length - 1 - n) = z.length - 1 := by omega
                    simp only [e2]
                    rw [show z.getD (z.length - 1) 0 = z[z.length - 1]'(by omega) by simp [List.getD, show z.length - 1 < z.length by omega]] at hq
                    exact hq
                  have := hd 39 hm
                  exact absurd this (by decide)
                · omega
              · have : saidL y = y.t := by unfold saidL; rw [if_neg (by omega), if_neg (by omega)]
                rw [this]; exact k.2.2.1.symm
            rw [← hn]; exact ho
          · cases h
theorem fine_piece {x : Tk} (h : fineT x = true) : (Piece.mk (saidL x) [32] x).Ok :=
  ⟨(fine_one h).1, (fine_one h).2, by simp, by simp only [List.mem_singleton]; rintro c rfl; rfl⟩
/-- What is told, blank by blank, with something behind it. -/
theorem lexGo_tail : ∀ (ps : List Piece) (f p : Nat) (tl : List UInt8) (lt : List Tk), (∀ q ∈ ps, q.Ok) → (flat ps ++ tl).length ≤ f → (∀ f p, tl.length ≤ f → ∃ l, lexGo f tl p = .ok l ∧ l.map (·.1) = lt) →
    ∃ l, lexGo f (flat ps ++ tl) p = .ok l ∧ l.map (·.1) = ps.map (·.x) ++ lt
  | [], f, p, tl, lt, _, hf, ht => ht f p hf
  | q :: ps, f, p, tl, lt, h, hf, ht => by
    have hq := h q (by simp)
    have e : flat (q :: ps) ++ tl = q.u ++ (q.bl ++ (flat ps ++ tl)) := by simp [flat]
    rw [e] at hf ⊢
    generalize hR : flat ps ++ tl = R at hf ⊢
    simp only [List.length_append] at hf
    obtain ⟨h1, h2, _⟩ := oneL_cut hq.one
    obtain ⟨l, hl, hm⟩ := lexGo_tail ps (f - 1 - q.bl.length) (p + q.u.length + q.bl.length) tl lt (fun q' hq' => h q' (by simp [hq'])) (by rw [hR]; omega) ht
    rw [hR] at hl
    refine ⟨(q.x, p) :: l, ?_, by simp [hm]⟩
    obtain ⟨f, rfl⟩ : ∃ g, f = g + 1 := ⟨f - 1, by omega⟩
    match hu : q.u, hbl : q.bl with
    | [], _ => rw [hu] at h1; simp at h1
    | _, [] => exact absurd hbl hq.ne
    | a :: v, b :: bl =>
      have ho : oneL ((a :: v) ++ b :: (bl ++ R)) = .ok q.x (a :: v).length := by
        rw [← hu]
        exact oneL_ext hq.one (hq.blank b (by rw [hbl]; simp))
      have hf1 := hq.first
      rw [hu] at hf1
      rw [List.cons_append, lexGo, if_neg (by simpa using hf1)]
      rw [List.cons_append] at ho
      rw [List.cons_append, ho]
      dsimp only
      rw [← List.cons_append, List.drop_left' rfl, ← List.cons_append, ← hbl]
      rw [hu, hbl] at hl hf
      have hs := lexGo_skip q.bl f (p + (a :: v).length) R hq.blank (by rw [hbl]; simp only [List.length_cons] at hf ⊢; omega)
      rw [hs]
      rw [hbl]
      rw [show f + 1 - 1 - (b :: bl).length = f - (b :: bl).length by omega] at hl
      rw [hl]
/-- Tokens told, a blank between two. -/
def joinT : List Tk → List UInt8
  | [] => []
  | [x] => saidL x
  | x :: y :: r => saidL x ++ 32 :: joinT (y :: r)
theorem joinT_flat : ∀ (x : Tk) (r : List Tk), ∃ ys z, x :: r = ys ++ [z] ∧ joinT (x :: r) = flat (ys.map fun y => ⟨saidL y, [32], y⟩) ++ saidL z
  | x, [] => ⟨[], x, rfl, rfl⟩
  | x, y :: r => by
    obtain ⟨ys, z, h1, h2⟩ := joinT_flat y r
    refine ⟨x :: ys, z, by rw [h1]; rfl, ?_⟩
    rw [joinT, h2]
    simp [flat]
theorem lexL_join {l : List Tk} (h : ∀ x ∈ l, fineT x = true) : ∃ m, lexL (joinT l) = .ok m ∧ m.map (·.1) = l := by
  cases l with
  | nil => exact ⟨[], rfl, rfl⟩
  | cons x r =>
    obtain ⟨ys, z, h1, h2⟩ := joinT_flat x r
    rw [h2]
    have hz := fine_one (h z (by rw [h1]; simp))
    obtain ⟨c1, c2, _⟩ := oneL_cut hz.1
    obtain ⟨m, hm, hm2⟩ := lexGo_tail (ys.map fun y => ⟨saidL y, [32], y⟩) _ 0 (saidL z) [z] (fun q hq => by
      obtain ⟨y, hy, rfl⟩ := List.mem_map.1 hq
      exact fine_piece (h y (by rw [h1]; simp [hy]))) (Nat.le_refl _) fun f p hf => by
        refine ⟨[(z, p)], ?_, rfl⟩
        obtain ⟨f, rfl⟩ : ∃ g, f = g + 1 := ⟨f - 1, by omega⟩
        obtain ⟨ho, hb⟩ := hz
        match hs : saidL z with
        | [] => rw [hs] at c1; simp at c1
        | c :: w =>
          rw [hs] at ho hb
          rw [lexGo, if_neg (by simpa using hb), ho]
          dsimp only
          rw [List.drop_length, lexGo_blank f [] _ (by simp)]
    refine ⟨m, hm, ?_⟩
    rw [hm2, h1, List.map_map]
    congr 1
    conv => rhs; rw [← List.map_id ys]
    rfl
theorem joinT_len {k : Nat} : ∀ {l : List Tk}, (∀ x ∈ l, (saidL x).length ≤ k) → (joinT l).length ≤ l.length * (k + 1)
  | [], _ => by simp [joinT]
  | [x], h => by
    have := h x (by simp)
    rw [joinT, List.length_singleton]
    omega
  | x :: y :: r, h => by
    have h1 := h x (by simp)
    have h2 := joinT_len (l := y :: r) fun z hz => h z (by simp [hz])
    rw [joinT, List.length_append, List.length_cons]
    rw [List.length_cons, Nat.add_mul] 
    simp only [List.length_cons] at h2 ⊢
    omega
end Go.Proofs.YtlhpbcbkkbjhoaaGreatDoor
namespace Go.Proofs.YtlhpbcbkkbjhoaaGreatDoor
open Ab Go.RowKit
set_option maxRecDepth 100000
set_option linter.unusedVariables false
set_option linter.unusedSimpArgs false
set_option maxHeartbeats 4000000
set_option pp.maxSteps 3000
theorem readP_run {m : Nat} {l : List (Nat × AObj)} {i g idx sub sz : Nat} {elems : List SV} {sk : Sk} {v : SV} {k : List SV → Nat → Prop} (ho : objL l i = some (.vec g sz elems sk)) (hv : elems[idx]? = some v) (hk : v.cellsK fun cs => k cs sub) : readP ⟨m, l⟩ (.ref i g idx sub) k := by
  show lookO l i (fun o => match o with
      | .vec g' _ elems _ => asr (Nat.beq g' g) (match getL elems idx with
          | some v => v.cellsK fun cs => k cs sub
          | none => False)
      | _ => False) False
  rw [lookO_eq, ho]
  dsimp only
  rw [asr_iff, getL_eq, hv]
  exact ⟨nbeq_self g, hk⟩
theorem storeP_run {m : Nat} {l : List (Nat × AObj)} {i g idx sz : Nat} {elems : List SV} {sk : Sk} {v w : SV} {k : Heap → Prop} (ho : objL l i = some (.vec g sz elems sk)) (hi : elems[idx]? = some w) (hw : ∀ cs, w ≠ .agg cs) (hv : v.one = true)
    (hk : k ⟨m, putO l i (.vec g sz (elems.set idx v) sk)⟩) : storeP 1 ⟨m, l⟩ (.ref i g idx 0) v k := by
  have hlt : idx < elems.length := (List.getElem?_eq_some_iff.1 hi).1
  have key : ∀ v : SV, v.one = true → k ⟨m, putO l i (.vec g sz (elems.set idx v) sk)⟩ → v.cellsK fun vs => asr (Nat.beq vs.length 1 && allOne vs) (lookO l i (fun o => match o with
      | .vec g' sz elems sk => asr (Nat.beq g' g) (match getL elems idx with
        | some w => storeV w v 0 fun w' => setL elems idx w' fun elems' => setO l i (.vec g' sz elems' sk) fun l' => k ⟨m, l'⟩
        | none => False)
      | _ => False) False) := by
    intro v hv hk
    have inner : lookO l i (fun o => match o with
      | .vec g' sz elems sk => asr (Nat.beq g' g) (match getL elems idx with
        | some w => storeV w v 0 fun w' => setL elems idx w' fun elems' => setO l i (.vec g' sz elems' sk) fun l' => k ⟨m, l'⟩
        | none => False)
      | _ => False) False := by
      rw [lookO_eq, ho]
      dsimp only
      rw [asr_iff, getL_eq, hi]
      refine ⟨nbeq_self g, ?_⟩
      have : setL elems idx v fun elems' => setO l i (.vec g sz elems' sk) fun l' => k ⟨m, l'⟩ := by
        rw [setL_iff]
        exact ⟨hlt, by rw [setO_eq]; exact hk⟩
      cases w <;> first | exact absurd rfl (hw _) | (cases v <;> first | exact this | (simp [SV.one] at hv))
    cases v <;> first | (simp [SV.one] at hv; done) | exact asr_iff.2 ⟨rfl, inner⟩
  exact key v hv hk
/-- One cell of an element of several. -/
theorem storeP_cell {m : Nat} {l : List (Nat × AObj)} {i g idx sub sz : Nat} {elems cs : List SV} {sk : Sk} {v : SV} {k : Heap → Prop} (ho : objL l i = some (.vec g sz elems sk)) (hi : elems[idx]? = some (.agg cs)) (hs : sub < cs.length) (hv : v.one = true)
    (hk : k ⟨m, putO l i (.vec g sz (elems.set idx (.agg (cs.set sub v))) sk)⟩) : storeP 1 ⟨m, l⟩ (.ref i g idx sub) v k := by
  have hlt : idx < elems.length := (List.getElem?_eq_some_iff.1 hi).1
  have inner : ∀ v : SV, k ⟨m, putO l i (.vec g sz (elems.set idx (.agg (cs.set sub v))) sk)⟩ → (v.cellsK fun vs => setRun cs sub vs fun cs' => setL elems idx (.agg cs') fun elems' => setO l i (.vec g sz elems' sk) fun l' => k ⟨m, l'⟩) ∨ v.one = false := by
    intro v hk
    have this : setRun cs sub [v] fun cs' => setL elems idx (.agg cs') fun elems' => setO l i (.vec g sz elems' sk) fun l' => k ⟨m, l'⟩ := by
      rw [setRun_iff]
      refine ⟨.inr (by simp only [List.length_singleton]; omega), ?_⟩
      rw [setL_iff]
      exact ⟨hlt, by rw [setO_eq]; exact hk⟩
    cases v <;> first | exact .inl this | exact .inr rfl
  have key : ∀ v : SV, v.one = true → k ⟨m, putO l i (.vec g sz (elems.set idx (.agg (cs.set sub v))) sk)⟩ → v.cellsK fun vs => asr (Nat.beq vs.length 1 && allOne vs) (lookO l i (fun o => match o with
      | .vec g' sz elems sk => asr (Nat.beq g' g) (match getL elems idx with
        | some w => storeV w v sub fun w' => setL elems idx w' fun elems' => setO l i (.vec g' sz elems' sk) fun l' => k ⟨m, l'⟩
        | none => False)
      | _ => False) False) := by
    intro v hv hk
    have hin := (inner v hk).resolve_right (by rw [hv]; decide)
    have h2 : lookO l i (fun o => match o with
      | .vec g' sz elems sk => asr (Nat.beq g' g) (match getL elems idx with
        | some w => storeV w v sub fun w' => setL elems idx w' fun elems' => setO l i (.vec g' sz elems' sk) fun l' => k ⟨m, l'⟩
        | none => False)
      | _ => False) False := by
      rw [lookO_eq, ho]
      dsimp only
      rw [asr_iff, getL_eq, hi]
      exact ⟨nbeq_self g, hin⟩
    cases v <;> first | (simp [SV.one] at hv; done) | exact asr_iff.2 ⟨rfl, h2⟩
  exact key v hv hk
def storeQ (n : Nat) (h : Heap) (p v : SV) (k : Heap → Prop) : Prop :=
  v.cellsK fun vs => asr (Nat.beq vs.length n && allOne vs) (match p, h with
  | .ref i g idx sub, ⟨m, hl⟩ => lookO hl i (fun o => match o with
      | .vec g' sz elems sk => asr (Nat.beq g' g) (match getL elems idx with
        | some w => storeV w v sub fun w' => setL elems idx w' fun elems' => setO hl i (.vec g' sz elems' sk) fun l' => k ⟨m, l'⟩
        | none => False)
      | _ => False) False
  | _, _ => False)
theorem storeP_of {n : Nat} {h : Heap} {p v : SV} {k : Heap → Prop} (hq : storeQ n h p v k) : storeP n h p v k := hq
def readQ (h : Heap) (p : SV) (k : List SV → Nat → Prop) : Prop :=
  match p with
  | .ipt v sub => v.cellsK fun cs => k cs sub
  | .glob g => match globSV g with
    | some v => v.cellsK fun cs => k cs 0
    | none => False
  | .ref i g idx sub => match h with
    | ⟨_, hl⟩ => lookO hl i (fun o => match o with
      | .vec g' _ elems _ => asr (Nat.beq g' g) (match getL elems idx with
          | some v => v.cellsK fun cs => k cs sub
          | none => False)
      | _ => False) False
  | _ => False
theorem readP_of {h : Heap} {p : SV} {k : List SV → Nat → Prop} (hq : readQ h p k) : readP h p k := hq
/-- Tokens as they come in: a place may be any whole number. -/
abbrev TI := Tk × Int
@[reducible] def tokI (x : TI) : SV := .agg [.int .u8 x.1.k, .str x.1.t, .int .u64 x.1.n, .int .i64 x.2]
def inull : TI := (⟨0, [], 0⟩, 0)
@[reducible] def lstI (l : List TI) : SV := .lst 4 l.length fun i => tokI (l.getD i inull)
def toI (x : TP) : TI := (x.1, (x.2 : Int))
theorem lst_toI (l : List TP) : lstT l = lstI (l.map toI) := by
  unfold lstT lstI
  rw [List.length_map]
  congr 1
  funext i
  have : (l.map toI).getD i inull = toI (l.getD i tnull) := by
    simp only [List.getD, List.getElem?_map]
    cases l[i]? <;> rfl
  rw [this]
  rfl
/-- Tokens, each at place 0. -/
def at0 (l : List Tk) : List TP := l.map fun x => (x, 0)
attribute [local irreducible] appendK allLtK storeP
theorem same_refl {l : List TI} (hl : l.length ≤ 100000) : PCall Tryz.prog 9 [lstI l, lstI l] (.bool true) := by
  refine pcall_of (lits2 (.lst _ _ _) (.lst _ _ _)) (call9 rfl ?_)
  have q0 : ((l.length : Int) != (l.length : Int)) = false := by simp
  iterate 10 (all_goals (try conv => whnf); all_goals (try first | with_reducible refine brY (by assumption) ?_ | with_reducible refine brN (by assumption) ?_ | (with_reducible refine brT ?_ ?_; · (simp only [Bool.and_eq_true, Bool.not_eq_true', decide_eq_true_eq, decide_eq_false_iff_not, beq_iff_eq, beq_eq_false_iff_ne, ne_eq] at *; omega)) | with_reducible refine br (fun _ => ?_) (fun _ => ?_) | with_reducible refine ⟨rfl, ?_⟩ | with_reducible refine ARound.succ ?_))
  refine loop_ind (σ := {i : Nat // i ≤ l.length}) (fun x => [(0, lstI l), (1, lstI l), (4, SV.bool false), (10, SV.bool false), (5, SV.int IntKind.i64 x.1)])
    (fun x => ⟨0, []⟩) (fun x => l.length - x.1) ?_ ⟨0, by omega⟩
  rintro ⟨i, hi⟩
  dsimp only
  have e7 : IntKind.i64.wrap ((i : Int) + 1) = ((i + 1 : Nat) : Int) := w64add (by omega)
  by_cases hil : i < l.length
  · have hd : decide ((i : Int) < (l.length : Int)) = true := decide_eq_true (by omega)
    have hb : (decide (0 ≤ (i : Int)) && decide ((i : Int) < (l.length : Int))) = true := by simp only [Bool.and_eq_true, decide_eq_true_eq]; omega
    have e : (!(fun q => (l.getD (i : Int).toNat inull).fst.k == (l.getD (i : Int).toNat inull).fst.k && q)
        ((fun q => (l.getD (i : Int).toNat inull).fst.t == (l.getD (i : Int).toNat inull).fst.t && q)
          ((fun q => ((l.getD (i : Int).toNat inull).fst.n : Int) == ((l.getD (i : Int).toNat inull).fst.n : Int) && q)
            (((l.getD (i : Int).toNat inull).snd : Int) == ((l.getD (i : Int).toNat inull).snd : Int))))) = false := by simp
    iterate 20 (all_goals (try conv => whnf); all_goals (try first | with_reducible refine brY (by assumption) ?_ | with_reducible refine brN (by assumption) ?_ | (with_reducible refine brT ?_ ?_; · (simp only [Bool.and_eq_true, Bool.not_eq_true', decide_eq_true_eq, decide_eq_false_iff_not, beq_iff_eq, beq_eq_false_iff_ne, ne_eq] at *; omega)) | with_reducible refine br (fun _ => ?_) (fun _ => ?_) | with_reducible refine ⟨rfl, ?_⟩ | with_reducible refine ARound.succ ?_))
    exact ⟨⟨i + 1, hil⟩, by dsimp only; omega, by rw [e7], rfl⟩
  · have hd : decide ((i : Int) < (l.length : Int)) = false := decide_eq_false (by omega)
    iterate 12 (all_goals (try conv => whnf); all_goals (try first | with_reducible refine brY (by assumption) ?_ | with_reducible refine brN (by assumption) ?_ | (with_reducible refine brT ?_ ?_; · (simp only [Bool.and_eq_true, Bool.not_eq_true', decide_eq_true_eq, decide_eq_false_iff_not, beq_iff_eq, beq_eq_false_iff_ne, ne_eq] at *; omega)) | with_reducible refine br (fun _ => ?_) (fun _ => ?_) | with_reducible refine ⟨rfl, ?_⟩ | with_reducible refine ARound.succ ?_))
    exact leaf rfl (.bool _)
theorem same_T {l : List TP} (hl : l.length ≤ 100000) : PCall Tryz.prog 9 [lstT l, lstT l] (.bool true) := by
  rw [lst_toI]
  exact same_refl (by rw [List.length_map]; exact hl)
theorem same_nils : PCall Tryz.prog 9 [.nils, .nils] (.bool true) := by
  refine pcall_of (lits2 .nils .nils) (call9 rfl ?_)
  iterate 20 (all_goals (try conv => whnf); all_goals (try first | with_reducible refine brY (by assumption) ?_ | with_reducible refine brN (by assumption) ?_ | (with_reducible refine brT ?_ ?_; · (simp only [Bool.and_eq_true, Bool.not_eq_true', decide_eq_true_eq, decide_eq_false_iff_not, beq_iff_eq, beq_eq_false_iff_ne, ne_eq] at *; omega)) | with_reducible refine br (fun _ => ?_) (fun _ => ?_) | with_reducible refine ⟨rfl, ?_⟩ | with_reducible refine ARound.succ ?_ | with_reducible refine loop_rounds 2 ?_))
  exact leaf rfl (.bool _)
end Go.Proofs.YtlhpbcbkkbjhoaaGreatDoor
namespace Go.Proofs.YtlhpbcbkkbjhoaaGreatDoor
open Ab Go.RowKit
set_option maxRecDepth 100000
set_option linter.unusedVariables false
set_option linter.unusedSimpArgs false
set_option maxHeartbeats 4000000
set_option pp.maxSteps 3000
theorem rsmall_int (m : Int) : PCall Tryz.prog 56 [.int .u8 m] (.bool ((decide (97 ≤ m) && decide (m ≤ 122)) || m == 95)) := by
  refine pcall_of (lits1 (.int _ _)) (call56 rfl ?_)
  iterate 16 (all_goals (try conv => whnf); all_goals (try first | with_reducible refine brY (by assumption) ?_ | with_reducible refine brN (by assumption) ?_ | (with_reducible refine brT ?_ ?_; · (simp only [Bool.and_eq_true, Bool.not_eq_true', decide_eq_true_eq, decide_eq_false_iff_not, beq_iff_eq, beq_eq_false_iff_ne, ne_eq] at *; omega)) | with_reducible refine br (fun _ => ?_) (fun _ => ?_) | with_reducible refine ⟨rfl, ?_⟩ | with_reducible refine ARound.succ ?_))
  all_goals refine leaf ?_ (.bool _)
  all_goals (simp_all; try omega)
theorem rletter_int (m : Int) : PCall Tryz.prog 32 [.int .u8 m] (.bool (((decide (97 ≤ m) && decide (m ≤ 122)) || m == 95) || (decide (65 ≤ m) && decide (m ≤ 90)))) := by
  refine pcall_of (lits1 (.int _ _)) (call32 rfl ?_)
  have cs := rsmall_int m
  generalize ((decide (97 ≤ m) && decide (m ≤ 122)) || m == 95) = b at cs ⊢
  cases b
  all_goals iterate 16 (all_goals (try conv => whnf); all_goals (try first | with_reducible refine brY (by assumption) ?_ | with_reducible refine brN (by assumption) ?_ | (with_reducible refine brT ?_ ?_; · (simp only [Bool.and_eq_true, Bool.not_eq_true', decide_eq_true_eq, decide_eq_false_iff_not, beq_iff_eq, beq_eq_false_iff_ne, ne_eq] at *; omega)) | with_reducible refine br (fun _ => ?_) (fun _ => ?_) | with_reducible refine ⟨rfl, ?_⟩ | with_reducible refine ARound.succ ?_ | with_reducible refine PCall.call (cs) ?_))
  all_goals refine leaf ?_ (.bool _)
  all_goals (simp_all; try omega)
theorem rletter_any (c : UInt8) : PCall Tryz.prog 32 [.int .u8 (c.toNat : Int)] (.bool (isLetter c)) := by
  have e : (((decide (97 ≤ (c.toNat : Int)) && decide ((c.toNat : Int) ≤ 122)) || (c.toNat : Int) == 95) || (decide (65 ≤ (c.toNat : Int)) && decide ((c.toNat : Int) ≤ 90))) = isLetter c := by
    have : ∀ n : Fin 256, (((decide (97 ≤ ((UInt8.ofNat n.val).toNat : Int)) && decide (((UInt8.ofNat n.val).toNat : Int) ≤ 122)) || ((UInt8.ofNat n.val).toNat : Int) == 95) || (decide (65 ≤ ((UInt8.ofNat n.val).toNat : Int)) && decide (((UInt8.ofNat n.val).toNat : Int) ≤ 90))) = isLetter (UInt8.ofNat n.val) := by decide +kernel
    have h := this ⟨c.toNat, UInt8.toNat_lt c⟩
    simpa only [UInt8.ofNat_toNat] using h
  rw [← e]; exact rletter_int _
theorem rdigit_int (m : Int) : PCall Tryz.prog 34 [.int .u8 m] (.bool (digI m)) := by
  refine pcall_of (lits1 (.int _ _)) (call34 rfl ?_)
  iterate 16 (all_goals (try conv => whnf); all_goals (try first | with_reducible refine brY (by assumption) ?_ | with_reducible refine brN (by assumption) ?_ | (with_reducible refine brT ?_ ?_; · (simp only [Bool.and_eq_true, Bool.not_eq_true', decide_eq_true_eq, decide_eq_false_iff_not, beq_iff_eq, beq_eq_false_iff_ne, ne_eq] at *; omega)) | with_reducible refine br (fun _ => ?_) (fun _ => ?_) | with_reducible refine ⟨rfl, ?_⟩ | with_reducible refine ARound.succ ?_))
  all_goals refine leaf ?_ (.bool _)
  all_goals (simp only [digI]; simp_all; try omega)
theorem rdigit_any (c : UInt8) : PCall Tryz.prog 34 [.int .u8 (c.toNat : Int)] (.bool (isDigit c)) := by
  rw [← digI_eq]; exact rdigit_int _
theorem rblank_any (c : UInt8) : PCall Tryz.prog 14 [.int .u8 (c.toNat : Int)] (.bool (isBlank c)) := by
  have key : ∀ m : Int, PCall Tryz.prog 14 [.int .u8 m] (.bool (m == 9 || m == 10 || m == 13 || m == 32)) := fun m => by
    refine pcall_of (lits1 (.int _ _)) (call14 rfl ?_)
    iterate 16 (all_goals (try conv => whnf); all_goals (try first | with_reducible refine brY (by assumption) ?_ | with_reducible refine brN (by assumption) ?_ | (with_reducible refine brT ?_ ?_; · (simp only [Bool.and_eq_true, Bool.not_eq_true', decide_eq_true_eq, decide_eq_false_iff_not, beq_iff_eq, beq_eq_false_iff_ne, ne_eq] at *; omega)) | with_reducible refine br (fun _ => ?_) (fun _ => ?_) | with_reducible refine ⟨rfl, ?_⟩ | with_reducible refine ARound.succ ?_))
    all_goals refine leaf ?_ (.bool _)
    all_goals simp_all
  have e : isBlank c = ((c.toNat : Int) == 9 || (c.toNat : Int) == 10 || (c.toNat : Int) == 13 || (c.toNat : Int) == 32) := by
    have : ∀ n : Fin 256, isBlank (UInt8.ofNat n.val) = (((UInt8.ofNat n.val).toNat : Int) == 9 || ((UInt8.ofNat n.val).toNat : Int) == 10 || ((UInt8.ofNat n.val).toNat : Int) == 13 || ((UInt8.ofNat n.val).toNat : Int) == 32) := by decide +kernel
    have h := this ⟨c.toNat, UInt8.toNat_lt c⟩
    simp only [UInt8.ofNat_toNat] at h
    exact h
  rw [e]; exact key _
def twoB (s : List UInt8) : Bool := s == [60, 62] || s == [60, 61] || s == [62, 61] || s == [124, 124]
theorem rtwo_any (s : List UInt8) : PCall Tryz.prog 37 [.str s] (.bool (twoB s)) := by
  refine pcall_of (lits1 (.str _)) (call37 rfl ?_)
  iterate 16 (all_goals (try conv => whnf); all_goals (try first | with_reducible refine brY (by assumption) ?_ | with_reducible refine brN (by assumption) ?_ | (with_reducible refine brT ?_ ?_; · (simp only [Bool.and_eq_true, Bool.not_eq_true', decide_eq_true_eq, decide_eq_false_iff_not, beq_iff_eq, beq_eq_false_iff_ne, ne_eq] at *; omega)) | with_reducible refine br (fun _ => ?_) (fun _ => ?_) | with_reducible refine ⟨rfl, ?_⟩ | with_reducible refine ARound.succ ?_))
  all_goals refine leaf ?_ (.bool _)
  all_goals (simp only [twoB]; simp_all)
def ones : List UInt8 := [40, 41, 44, 59, 46, 42, 43, 45, 47, 37, 61, 60, 62]
def oneC (c : UInt8) : Bool := ones.contains c
theorem byteE (a c : UInt8) : ((a.toNat : Int) == (c.toNat : Int)) = (a == c) := by
  rw [int_beq, Bool.eq_iff_iff]
  simp only [beq_iff_eq]
  exact ⟨fun h => UInt8.toNat_inj.1 h, fun h => by rw [h]⟩
theorem rone_any (c : UInt8) : PCall Tryz.prog 38 [.int .u8 (c.toNat : Int)] (.bool (oneC c)) := by
  refine pcall_of (lits1 (.int _ _)) (call38 rfl ?_)
  iterate 3 (all_goals (try conv => whnf); all_goals (try first | with_reducible refine brY (by assumption) ?_ | with_reducible refine brN (by assumption) ?_ | (with_reducible refine brT ?_ ?_; · (simp only [Bool.and_eq_true, Bool.not_eq_true', decide_eq_true_eq, decide_eq_false_iff_not, beq_iff_eq, beq_eq_false_iff_ne, ne_eq] at *; omega)) | with_reducible refine br (fun _ => ?_) (fun _ => ?_) | with_reducible refine ⟨rfl, ?_⟩ | with_reducible refine ARound.succ ?_))
  refine loop_ind (σ := {i : Nat // i ≤ 13 ∧ oneC c = (ones.drop i).contains c}) (fun x => [(0, SV.int IntKind.u8 c.toNat), (2, SV.bool false), (3, SV.str ones), (4, SV.int IntKind.i64 x.1)])
    (fun _ => ⟨0, []⟩) (fun x => 13 - x.1) ?_ ⟨0, by omega, rfl⟩
  rintro ⟨i, hi, he⟩
  dsimp only
  have e7 : IntKind.i64.wrap ((i : Int) + 1) = ((i + 1 : Nat) : Int) := w64add (by omega)
  have et := Int.toNat_natCast i
  by_cases hil : i < 13
  · have hd : decide ((i : Int) < (ones.length : Int)) = true := decide_eq_true (by show (i : Int) < ((13 : Nat) : Int); omega)
    have hb : (decide (0 ≤ (i : Int)) && decide ((i : Int) < (ones.length : Int))) = true := by simp only [Bool.and_eq_true, decide_eq_true_eq]; exact ⟨by omega, by show (i : Int) < ((13 : Nat) : Int); omega⟩
    have hdc : ones.drop i = ones.getD (i : Int).toNat 0 :: ones.drop (i + 1) := by
      rw [et]
      have : ∀ j : Fin 13, ones.drop j.val = ones.getD j.val 0 :: ones.drop (j.val + 1) := by decide
      exact this ⟨i, hil⟩
    rw [hdc, List.contains_cons] at he
    have hq := byteE (ones.getD (i : Int).toNat 0) c
    cases hc : (ones.getD (i : Int).toNat 0 == c) with
    | true =>
      rw [hc] at hq
      have : (c == ones.getD (i : Int).toNat 0) = true := by rw [beq_iff_eq] at hc ⊢; exact hc.symm
      rw [this, Bool.true_or] at he
      iterate 16 (all_goals (try conv => whnf); all_goals (try first | with_reducible refine brY (by assumption) ?_ | with_reducible refine brN (by assumption) ?_ | (with_reducible refine brT ?_ ?_; · (simp only [Bool.and_eq_true, Bool.not_eq_true', decide_eq_true_eq, decide_eq_false_iff_not, beq_iff_eq, beq_eq_false_iff_ne, ne_eq] at *; omega)) | with_reducible refine br (fun _ => ?_) (fun _ => ?_) | with_reducible refine ⟨rfl, ?_⟩ | with_reducible refine ARound.succ ?_))
      exact leaf (by rw [he]) (.bool _)
    | false =>
      rw [hc] at hq
      have : (c == ones.getD (i : Int).toNat 0) = false := by rw [beq_eq_false_iff_ne] at hc ⊢; exact fun h => hc h.symm
      rw [this, Bool.false_or] at he
      iterate 16 (all_goals (try conv => whnf); all_goals (try first | with_reducible refine brY (by assumption) ?_ | with_reducible refine brN (by assumption) ?_ | (with_reducible refine brT ?_ ?_; · (simp only [Bool.and_eq_true, Bool.not_eq_true', decide_eq_true_eq, decide_eq_false_iff_not, beq_iff_eq, beq_eq_false_iff_ne, ne_eq] at *; omega)) | with_reducible refine br (fun _ => ?_) (fun _ => ?_) | with_reducible refine ⟨rfl, ?_⟩ | with_reducible refine ARound.succ ?_))
      exact ⟨⟨i + 1, hil, he⟩, by dsimp only; omega, by rw [e7], rfl⟩
  · have hd : decide ((i : Int) < (ones.length : Int)) = false := decide_eq_false (by show ¬ (i : Int) < ((13 : Nat) : Int); omega)
    obtain rfl : i = 13 := by omega
    iterate 16 (all_goals (try conv => whnf); all_goals (try first | with_reducible refine brY (by assumption) ?_ | with_reducible refine brN (by assumption) ?_ | (with_reducible refine brT ?_ ?_; · (simp only [Bool.and_eq_true, Bool.not_eq_true', decide_eq_true_eq, decide_eq_false_iff_not, beq_iff_eq, beq_eq_false_iff_ne, ne_eq] at *; omega)) | with_reducible refine br (fun _ => ?_) (fun _ => ?_) | with_reducible refine ⟨rfl, ?_⟩ | with_reducible refine ARound.succ ?_))
    exact leaf (by rw [he]; rfl) (.bool _)
theorem signL_app {s : List UInt8} (B : List (List UInt8)) : ∀ A : List (List UInt8), signL s (A ++ B) = match signL s A with
    | .ok x n => .ok x n
    | .err _ => signL s B
  | [] => rfl
  | y :: A => by
    rw [List.cons_append, signL, signL]
    split
    · rfl
    · exact signL_app B A
theorem signL_ones (c : UInt8) (r : List UInt8) : signL (c :: r) (ones.map fun a => [a]) = if oneC c then .ok ⟨4, [c], 0⟩ 1 else .err 230 := by
  have key : ∀ L : List UInt8, signL (c :: r) (L.map fun a => [a]) = if L.contains c then .ok ⟨4, [c], 0⟩ 1 else .err 230 := by
    intro L
    induction L with
    | nil => rfl
    | cons a L ih =>
      rw [List.map_cons, signL, List.contains_cons, ih]
      by_cases h : a = c
      · subst h; simp [List.isPrefixOf]
      · have h' : (c == a) = false := by rw [beq_eq_false_iff_ne]; exact fun e => h e.symm
        simp [List.isPrefixOf, h, h']
  exact key ones
theorem signL_two (c : UInt8) (r : List UInt8) : (∀ d r', r = d :: r' → twoB [c, d] = true → signL (c :: r) [[60, 62], [60, 61], [62, 61], [124, 124]] = .ok ⟨4, [c, d], 0⟩ 2) ∧
    ((∀ d r', r = d :: r' → twoB [c, d] = false) → signL (c :: r) [[60, 62], [60, 61], [62, 61], [124, 124]] = .err 230) := by
  cases r with
  | nil => exact ⟨fun d r' h => (by cases h), fun _ => by simp [signL, List.isPrefixOf]⟩
  | cons e r =>
    have key : ∀ L : List (UInt8 × UInt8), signL (c :: e :: r) (L.map fun p => [p.1, p.2]) = if L.any (fun p => p.1 == c && p.2 == e) then .ok ⟨4, [c, e], 0⟩ 2 else .err 230 := by
      intro L
      induction L with
      | nil => rfl
      | cons a L ih =>
        rw [List.map_cons, signL, List.any_cons, ih]
        by_cases h : (a.1 == c && a.2 == e) = true
        · rw [h, if_pos (by rw [show ([a.1, a.2] : List UInt8).isPrefixOf (c :: e :: r) = (a.1 == c && (a.2 == e && true)) from rfl, Bool.and_true]; exact h), Bool.true_or, if_pos rfl]
          simp only [Bool.and_eq_true, beq_iff_eq] at h
          rw [h.1, h.2]; rfl
        · have h2 := Bool.eq_false_iff.2 h
          rw [h2, if_neg (by rw [show ([a.1, a.2] : List UInt8).isPrefixOf (c :: e :: r) = (a.1 == c && (a.2 == e && true)) from rfl, Bool.and_true, h2]; decide), Bool.false_or]
    have hk := key [(60, 62), (60, 61), (62, 61), (124, 124)]
    have e2 : ([(60, 62), (60, 61), (62, 61), (124, 124)] : List (UInt8 × UInt8)).any (fun p => p.1 == c && p.2 == e) = twoB [c, e] := by
      unfold twoB
      simp only [List.any_cons, List.any_nil, Bool.or_false]
      have q : ∀ a b : UInt8, (a == c && b == e) = (([c, e] : List UInt8) == [a, b]) := fun a b => by
        rw [Bool.eq_iff_iff]; simp only [Bool.and_eq_true, beq_iff_eq, List.cons.injEq, and_true]
        exact ⟨fun h => ⟨h.1.symm, h.2.symm⟩, fun h => ⟨h.1.symm, h.2.symm⟩⟩
      rw [q, q, q, q]
      simp only [Bool.or_assoc]
    rw [e2] at hk
    refine ⟨fun d r' h ht => ?_, fun h => ?_⟩
    · cases h
      rw [ht, if_pos rfl] at hk
      exact hk
    · rw [h e r rfl, if_neg (by decide)] at hk
      exact hk
/-- Signs as the document tries them: two bytes, then one. -/
def signD (s : List UInt8) : One := if (2 ≤ s.length ∧ twoB (s.take 2) = true) then .ok ⟨4, s.take 2, 0⟩ 2 else if oneC (s.getD 0 0) then .ok ⟨4, s.take 1, 0⟩ 1 else .err 230
theorem signD_eq {s : List UInt8} (hne : s ≠ []) : signL s signsL = signD s := by
  cases s with
  | nil => exact absurd rfl hne
  | cons c r =>
    have hs : signsL = [[60, 62], [60, 61], [62, 61], [124, 124]] ++ ones.map fun a => [a] := rfl
    rw [hs, signL_app, signL_ones]
    obtain ⟨h1, h2⟩ := signL_two c r
    unfold signD
    by_cases h : 2 ≤ (c :: r).length ∧ twoB ((c :: r).take 2) = true
    · rw [if_pos h]
      cases r with
      | nil => simp at h
      | cons d r' => rw [h1 d r' rfl h.2]; rfl
    · rw [if_neg h, h2]
      · rfl
      · rintro d r' rfl
        rw [Bool.eq_false_iff]
        intro ht
        exact h ⟨by simp, ht⟩
end Go.Proofs.YtlhpbcbkkbjhoaaGreatDoor
