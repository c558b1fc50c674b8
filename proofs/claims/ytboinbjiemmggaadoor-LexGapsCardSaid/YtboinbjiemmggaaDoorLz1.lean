/- The law LexGaps: its helpers. -/
import Derived.Test.YtboinbjiemmggaaDoorLy6
namespace Go.Proofs.YtboinbjiemmggaaDoor
open Ab Go.RowKit
set_option maxRecDepth 100000
set_option linter.unusedVariables false
set_option linter.unusedSimpArgs false
set_option maxHeartbeats 4000000
set_option pp.maxSteps 3000
attribute [local irreducible] appendK allLtK
theorem blank_any (c : UInt8) : PCall Tryd.prog 8 [.int .u8 (c.toNat : Int)] (.bool (isBlank c)) := by
  have key : ∀ m : Int, PCall Tryd.prog 8 [.int .u8 m] (.bool (m == 9 || m == 10 || m == 13 || m == 32)) := fun m => by
    refine pcall_of (lits1 (.int _ _)) (call8 rfl ?_)
    iterate 16 (all_goals (try conv => whnf); all_goals (try first | with_reducible refine brY (by assumption) ?_ | with_reducible refine brN (by assumption) ?_ | (with_reducible refine brT ?_ ?_; · (simp only [Bool.and_eq_true, Bool.not_eq_true', decide_eq_true_eq, decide_eq_false_iff_not, beq_iff_eq, beq_eq_false_iff_ne, ne_eq] at *; omega)) | with_reducible refine br (fun _ => ?_) (fun _ => ?_) | with_reducible refine ⟨rfl, ?_⟩ | with_reducible refine ARound.succ ?_))
    all_goals refine leaf ?_ (.bool _)
    all_goals simp_all
  have e : isBlank c = ((c.toNat : Int) == 9 || (c.toNat : Int) == 10 || (c.toNat : Int) == 13 || (c.toNat : Int) == 32) := by
    have : ∀ n : Fin 256, isBlank (UInt8.ofNat n.val) = (((UInt8.ofNat n.val).toNat : Int) == 9 || ((UInt8.ofNat n.val).toNat : Int) == 10 || ((UInt8.ofNat n.val).toNat : Int) == 13 || ((UInt8.ofNat n.val).toNat : Int) == 32) := by decide +kernel
    have h := this ⟨c.toNat, UInt8.toNat_lt c⟩
    simp only [UInt8.ofNat_toNat] at h
    exact h
  rw [e]; exact key _
theorem placed_one (x : TP) : PCall Tryd.prog 7 [lstT [x]] (lstT [(x.1, 0)]) := by
  refine pcall_of (lits1 (.lst _ _ _)) (call7 rfl ?_)
  iterate 30 (all_goals (try conv => whnf); all_goals (try first | with_reducible refine brY (by assumption) ?_ | with_reducible refine brN (by assumption) ?_ | (with_reducible refine brT ?_ ?_; · (simp only [Bool.and_eq_true, Bool.not_eq_true', decide_eq_true_eq, decide_eq_false_iff_not, beq_iff_eq, beq_eq_false_iff_ne, ne_eq] at *; omega)) | with_reducible refine br (fun _ => ?_) (fun _ => ?_) | with_reducible refine ⟨rfl, ?_⟩ | with_reducible refine ARound.full ?_ | (refine append_cap (xs := [tokP x]) (elems_ts (s := [x])) (by simp) rfl rfl (by simp) (by simp) (by simp) (by simp) ?_) | (refine allLtK_of (lt_one rfl) ?_) | with_reducible refine loop_rounds 3 ?_))
  refine ⟨_, rfl, ?_⟩
  exact hard_ts (s := [(x.1, 0)]) (i := 1) (g := 0) (sk := ⟨true, some 32⟩) rfl rfl
theorem same_one (x : TP) : PCall Tryd.prog 6 [lstT [x], lstT [x]] (.bool true) := by
  refine pcall_of (lits2 (.lst _ _ _) (.lst _ _ _)) (call6 rfl ?_)
  have e : (!(fun q => ([x].getD (Int.toNat 0) tnull).fst.k == ([x].getD (Int.toNat 0) tnull).fst.k && q)
        ((fun q => ([x].getD (Int.toNat 0) tnull).fst.t == ([x].getD (Int.toNat 0) tnull).fst.t && q)
          ((fun q => (([x].getD (Int.toNat 0) tnull).fst.n : Int) == (([x].getD (Int.toNat 0) tnull).fst.n : Int) && q)
            ((([x].getD (Int.toNat 0) tnull).snd : Int) == (([x].getD (Int.toNat 0) tnull).snd : Int))))) = false := by simp
  iterate 30 (all_goals (try conv => whnf); all_goals (try first | with_reducible refine brY (by assumption) ?_ | with_reducible refine brN (by assumption) ?_ | (with_reducible refine brT ?_ ?_; · (simp only [Bool.and_eq_true, Bool.not_eq_true', decide_eq_true_eq, decide_eq_false_iff_not, beq_iff_eq, beq_eq_false_iff_ne, ne_eq] at *; omega)) | with_reducible refine br (fun _ => ?_) (fun _ => ?_) | with_reducible refine ⟨rfl, ?_⟩ | with_reducible refine ARound.succ ?_ | with_reducible refine loop_rounds 3 ?_))
  exact leaf rfl (.bool _)
theorem lives_any : PCall Tryd.prog 4 [] (.bool true) := by
  refine pcall_of (fun _ h => by simp at h) (call4 rfl ?_)
  have hl := lex_any (s := [83, 69, 76, 69, 67, 84, 32, 97, 49, 44, 39, 105, 116, 39, 39, 115, 39]) (by decide)
  have e : lexL [83, 69, 76, 69, 67, 84, 32, 97, 49, 44, 39, 105, 116, 39, 39, 115, 39] = .ok [(⟨1, [115, 101, 108, 101, 99, 116], 0⟩, 0), (⟨1, [97, 49], 0⟩, 7), (⟨4, [44], 0⟩, 9), (⟨3, [105, 116, 39, 115], 0⟩, 10)] := by rfl
  rw [e] at hl
  iterate 60 (all_goals (try conv => whnf); all_goals (try first | with_reducible refine brY (by assumption) ?_ | with_reducible refine brN (by assumption) ?_ | (with_reducible refine brT ?_ ?_; · (simp only [Bool.and_eq_true, Bool.not_eq_true', decide_eq_true_eq, decide_eq_false_iff_not, beq_iff_eq, beq_eq_false_iff_ne, ne_eq] at *; omega)) | with_reducible refine br (fun _ => ?_) (fun _ => ?_) | with_reducible refine ⟨rfl, ?_⟩ | with_reducible refine ARound.succ ?_ | with_reducible refine PCall.call (hl) ?_ | (refine call6 rfl ?_) | with_reducible refine loop_rounds 6 ?_))
  exact leaf rfl (.bool _)
theorem lexGo_err0 : ∀ (f : Nat) (s : List UInt8) (p : Nat) (e : Int) (a : Nat), lexGo f s p = .error (e, a) → e ≠ 0
  | 0, _, _, _, _, h => by simp [lexGo] at h
  | f+1, [], _, _, _, h => by simp [lexGo] at h
  | f+1, c :: r, p, e, a, h => by
    rw [lexGo] at h
    split at h
    · exact lexGo_err0 f r (p + 1) e a h
    · split at h
      · rename_i ho
        cases h
        exact oneL_err ho
      · split at h
        · rename_i hl
          cases h
          exact lexGo_err0 f _ _ e a hl
        · cases h
theorem lexed_len : ∀ {s : List UInt8} {p : Nat} {l : List TP}, Lexed s p l → l.length ≤ s.length := by
  intro s p l h
  induction h with
  | none h => simp
  | some hb hc ho h ih =>
    obtain ⟨h1, h2, _⟩ := oneL_cut ho
    rw [List.length_drop] at ih
    simp only [List.length_cons, List.length_append]
    omega
theorem offT_no : ∀ l : List (Nat × AObj), offL (fun _ => false) l = l
  | [] => rfl
  | (i, o) :: r => by show (i, o) :: offL (fun _ => false) r = _; rw [offT_no r]
theorem placed_cut {L : List TP} {a b : Nat} {y : TP} (ha : b - a = 1) (hy : L.getD a tnull = y) {n : Nat} {l : List (Nat × AObj)} {R : AEnd → Heap → Prop} (hR : R (.ret (lstT [(y.1, 0)])) ⟨n, l⟩) :
    ACall Tryd.prog 7 [.lst 4 (b - a) fun k => tokP (L.getD (a + k) tnull)] ⟨n, l⟩ R := by
  rw [ha]
  have hh : ∀ A : Heap, Hard A (.lst 4 1 fun k => tokP (L.getD (a + k) tnull)) (lstT [y]) := fun A => .same fun j hj => by
    have : j = 0 := by omega
    subst this
    show tokP (L.getD (a + 0) tnull) = tokP y
    rw [Nat.add_zero, hy]
  refine ACall.freeze (fun _ => false) (.cons (hh _) .nil) ?_
  rw [offK_eq, offT_no]
  exact PCall.call (placed_one y) hR
theorem lexGaps_any {s : List UInt8} : PCall Tryd.prog 3 [.str s] (.bool true) := by
  refine pcall_of (lits1 (.str _)) (call3 rfl ?_)
  by_cases h4 : 4000 < s.length
  · have q1 : decide ((4000 : Int) < (s.length : Int)) = true := decide_eq_true (by omega)
    iterate 12 (all_goals (try conv => whnf); all_goals (try first | with_reducible refine brY (by assumption) ?_ | with_reducible refine brN (by assumption) ?_ | (with_reducible refine brT ?_ ?_; · (simp only [Bool.and_eq_true, Bool.not_eq_true', decide_eq_true_eq, decide_eq_false_iff_not, beq_iff_eq, beq_eq_false_iff_ne, ne_eq] at *; omega)) | with_reducible refine br (fun _ => ?_) (fun _ => ?_) | with_reducible refine ⟨rfl, ?_⟩ | with_reducible refine ARound.succ ?_ | with_reducible refine PCall.call (lives_any) ?_))
    exact leaf rfl (.bool _)
  have q1 : decide ((4000 : Int) < (s.length : Int)) = false := decide_eq_false (by omega)
  have hl := lex_any (s := s) (by omega)
  have hlx := lexGo_lexed s.length s 0
  cases hL : lexL s with
  | error e =>
    obtain ⟨e, a⟩ := e
    rw [hL] at hl
    obtain ⟨a1, a2⟩ := lexGo_err s.length s 0 e a hL
    have he := lexGo_err0 s.length s 0 e a hL
    have q2 : (!(fun q => e == 0 && q) ((a : Int) == 0)) = true := by
      have : (e == 0) = false := by rw [beq_eq_false_iff_ne]; exact he
      simp [this]
    have q3 : decide ((a : Int) < (s.length : Int)) = true := decide_eq_true (by omega)
    have q4 : decide (0 ≤ (a : Int)) = true := decide_eq_true (by omega)
    iterate 24 (all_goals (try conv => whnf); all_goals (try first | with_reducible refine brY (by assumption) ?_ | with_reducible refine brN (by assumption) ?_ | (with_reducible refine brT ?_ ?_; · (simp only [Bool.and_eq_true, Bool.not_eq_true', decide_eq_true_eq, decide_eq_false_iff_not, beq_iff_eq, beq_eq_false_iff_ne, ne_eq] at *; omega)) | with_reducible refine br (fun _ => ?_) (fun _ => ?_) | with_reducible refine ⟨rfl, ?_⟩ | with_reducible refine ARound.succ ?_ | with_reducible refine PCall.call (lives_any) ?_ | with_reducible refine PCall.call (hl) ?_))
    exact leaf (by rw [q3]) (.bool _)
  | ok l =>
    rw [hL] at hl
    cases l with
    | nil =>
      have hX := hlx [] (Nat.le_refl _) hL
      have hall : ∀ c ∈ s, isBlank c = true := by cases hX; assumption
      iterate 24 (all_goals (try conv => whnf); all_goals (try first | with_reducible refine brY (by assumption) ?_ | with_reducible refine brN (by assumption) ?_ | (with_reducible refine brT ?_ ?_; · (simp only [Bool.and_eq_true, Bool.not_eq_true', decide_eq_true_eq, decide_eq_false_iff_not, beq_iff_eq, beq_eq_false_iff_ne, ne_eq] at *; omega)) | with_reducible refine br (fun _ => ?_) (fun _ => ?_) | with_reducible refine ⟨rfl, ?_⟩ | with_reducible refine ARound.succ ?_ | with_reducible refine PCall.call (lives_any) ?_ | with_reducible refine PCall.call (hl) ?_))
      refine loop_ind (σ := {i : Nat // i ≤ 1}) (fun y => [(0, SV.str s), (2, SV.bool false), (12, SV.bool false), (15, SV.bool false), (4, SV.ref 0 0 0 0), (3, SV.nils), (23, SV.bool false), (5, SV.int IntKind.i64 y.1)])
        (fun _ => ⟨1, [(0, .vec 0 2 [fltS 0 0] ⟨false, some 26⟩)]⟩) (fun y => 2 - y.1) ?_ ⟨0, by omega⟩
      rintro ⟨i, hi⟩
      dsimp only
      cases i with
      | zero =>
        have e7 : IntKind.i64.wrap (((0 : Nat) : Int) + 1) = ((0 + 1 : Nat) : Int) := by decide
        have c2 : decide (((s.length : Nat) : Int) < ((s.length : Nat) : Int)) = false := decide_eq_false (by omega)
        have c3 : decide (((s.length : Nat) : Int) < 0) = false := decide_eq_false (by omega)
        have c5 : (decide ((0 : Int) ≤ 0) && decide (0 ≤ ((s.length : Nat) : Int)) && decide (((s.length : Nat) : Int) ≤ ((s.length : Nat) : Int))) = true := by
          simp only [Bool.and_eq_true, decide_eq_true_eq]; omega
        have cx : PCall Tryd.prog 5 [.str (List.take (((s.length : Nat) : Int).toNat - Int.toNat 0) (List.drop (Int.toNat 0) s))] (.tup [.nils, fltS 0 0]) := by
          show PCall _ _ [.str (List.take (((s.length : Nat) : Int).toNat - 0) (List.drop 0 s))] _
          rw [Int.toNat_natCast, Nat.sub_zero, List.drop_zero, List.take_length]
          exact hl
        iterate 60 (all_goals (try conv => whnf); all_goals (try first | with_reducible refine brY (by assumption) ?_ | with_reducible refine brN (by assumption) ?_ | (with_reducible refine brT ?_ ?_; · (simp only [Bool.and_eq_true, Bool.not_eq_true', decide_eq_true_eq, decide_eq_false_iff_not, beq_iff_eq, beq_eq_false_iff_ne, ne_eq] at *; omega)) | with_reducible refine br (fun _ => ?_) (fun _ => ?_) | with_reducible refine ⟨rfl, ?_⟩ | with_reducible refine ARound.succ ?_ | with_reducible refine PCall.call (cx) ?_))
        refine loop_ind (σ := {k : Nat // k ≤ s.length}) (fun z => [(0, SV.str s), (2, SV.bool false), (12, SV.bool false), (15, SV.bool false), (4, SV.ref 0 0 0 0), (3, SV.nils), (23, SV.bool false), (5, SV.int IntKind.i64 ((0 : Nat) : Int)), (42, SV.bool true), (6, SV.int IntKind.i64 0), (7, SV.int IntKind.i64 ((s.length : Nat) : Int)), (48, SV.bool false), (58, SV.bool false), (85, SV.bool false), (9, SV.ref 1 0 0 0), (8, SV.nils), (112, SV.bool false)] ++ [(10, SV.int IntKind.i64 z.1)])
          (fun _ => ⟨2, [(1, .vec 0 2 [fltS 0 0] ⟨false, some 26⟩), (0, .vec 0 2 [fltS 0 0] ⟨false, some 26⟩)]⟩) (fun z => s.length - z.1) ?_ ⟨0, by omega⟩
        rintro ⟨k, hk⟩
        dsimp only [List.cons_append, List.nil_append]
        have k7 : IntKind.i64.wrap ((k : Int) + 1) = ((k + 1 : Nat) : Int) := by rw [w64 (by omega) (by omega)]; omega
        have hi0 : (((0 : Nat) : Int) == 0) = true := rfl
        by_cases hkx : k < s.length
        · have k1 : decide ((k : Int) < (((s.length : Nat) : Int) : Int)) = true := decide_eq_true (by show (k : Int) < ((s.length : Nat) : Int); omega)
          have k2 : (decide (0 ≤ (k : Int)) && decide ((k : Int) < ((s.length : Nat) : Int))) = true := by simp only [Bool.and_eq_true, decide_eq_true_eq]; omega
          have kb := blank_any (s.getD (k : Int).toNat 0)
          have kt : isBlank (s.getD (k : Int).toNat 0) = true := by
            rw [Int.toNat_natCast]
            exact hall _ (by rw [show s.getD k 0 = s[k]'(by omega) by simp [List.getD, show k < s.length by omega]]; exact List.getElem_mem _)
          rw [kt] at kb
          iterate 24 (all_goals (try conv => whnf); all_goals (try first | with_reducible refine brY (by assumption) ?_ | with_reducible refine brN (by assumption) ?_ | (with_reducible refine brT ?_ ?_; · (simp only [Bool.and_eq_true, Bool.not_eq_true', decide_eq_true_eq, decide_eq_false_iff_not, beq_iff_eq, beq_eq_false_iff_ne, ne_eq] at *; omega)) | with_reducible refine br (fun _ => ?_) (fun _ => ?_) | with_reducible refine ⟨rfl, ?_⟩ | with_reducible refine ARound.succ ?_ | with_reducible refine PCall.call (kb) ?_ | (refine allLtK_of (lt_one rfl) ?_)))
          exact ⟨⟨k + 1, hkx⟩, by dsimp only; omega, by rw [k7], rfl⟩
        · have k1 : decide ((k : Int) < (((s.length : Nat) : Int) : Int)) = false := decide_eq_false (by show ¬ ((k : Int) < ((s.length : Nat) : Int)); omega)
          iterate 24 (all_goals (try conv => whnf); all_goals (try first | with_reducible refine brY (by assumption) ?_ | with_reducible refine brN (by assumption) ?_ | (with_reducible refine brT ?_ ?_; · (simp only [Bool.and_eq_true, Bool.not_eq_true', decide_eq_true_eq, decide_eq_false_iff_not, beq_iff_eq, beq_eq_false_iff_ne, ne_eq] at *; omega)) | with_reducible refine br (fun _ => ?_) (fun _ => ?_) | with_reducible refine ⟨rfl, ?_⟩ | with_reducible refine ARound.succ ?_ | (refine allLtK_of (lt_one rfl) ?_)))
          exact ⟨⟨0 + 1, by omega⟩, by dsimp only; omega, by rw [e7], rfl⟩
      | succ j =>
        obtain rfl : j = 0 := by omega
        iterate 12 (all_goals (try conv => whnf); all_goals (try first | with_reducible refine brY (by assumption) ?_ | with_reducible refine brN (by assumption) ?_ | (with_reducible refine brT ?_ ?_; · (simp only [Bool.and_eq_true, Bool.not_eq_true', decide_eq_true_eq, decide_eq_false_iff_not, beq_iff_eq, beq_eq_false_iff_ne, ne_eq] at *; omega)) | with_reducible refine br (fun _ => ?_) (fun _ => ?_) | with_reducible refine ⟨rfl, ?_⟩ | with_reducible refine ARound.succ ?_))
        exact leaf rfl (.bool _)
    | cons x l =>
      have hX := hlx (x :: l) (Nat.le_refl _) hL
      have hh := lexed_head hX
      have hlen := lexed_len hX
      simp only [List.length_cons] at hlen
      have hgap := lexed_gap hX
      rw [Nat.zero_add] at hh
      simp only [Nat.zero_add] at hgap
      obtain ⟨b1, b2, b3⟩ := hh
      iterate 24 (all_goals (try conv => whnf); all_goals (try first | with_reducible refine brY (by assumption) ?_ | with_reducible refine brN (by assumption) ?_ | (with_reducible refine brT ?_ ?_; · (simp only [Bool.and_eq_true, Bool.not_eq_true', decide_eq_true_eq, decide_eq_false_iff_not, beq_iff_eq, beq_eq_false_iff_ne, ne_eq] at *; omega)) | with_reducible refine br (fun _ => ?_) (fun _ => ?_) | with_reducible refine ⟨rfl, ?_⟩ | with_reducible refine ARound.succ ?_ | with_reducible refine PCall.call (lives_any) ?_ | with_reducible refine PCall.call (hl) ?_))
      refine loop_ind (σ := {i : Nat // i ≤ l.length + 2}) (fun y => [(0, SV.str s), (2, SV.bool false), (12, SV.bool false), (15, SV.bool false), (4, SV.ref 0 0 0 0), (3, lstT (x :: l)), (23, SV.bool false), (5, SV.int IntKind.i64 y.1)])
        (fun _ => ⟨1, [(0, .vec 0 2 [fltS 0 0] ⟨false, some 26⟩)]⟩) (fun y => l.length + 3 - y.1) ?_ ⟨0, by omega⟩
      rintro ⟨i, hi⟩
      dsimp only
      have e7 : IntKind.i64.wrap ((i : Int) + 1) = ((i + 1 : Nat) : Int) := by rw [w64 (by omega) (by omega)]; omega
      by_cases hin : i ≤ l.length + 1
      · have hd : decide ((i : Int) ≤ (((x :: l).length : Nat) : Int)) = true := decide_eq_true (by simp only [List.length_cons]; omega)
        cases i with
        | zero =>
          have hd2 : decide (((0 : Nat) : Int) < (((x :: l).length : Nat) : Int)) = true := decide_eq_true (by simp only [List.length_cons]; omega)
          have hz : decide ((0 : Int) < ((0 : Nat) : Int)) = false := rfl
          have gx : toP (x :: l) 0 s.length = x.2 := rfl
          rw [gx] at b1 b2 b3
          have c2 : decide (((s.length : Nat) : Int) < (((x :: l).getD ((0 : Nat) : Int).toNat tnull).2 : Int)) = false := decide_eq_false (by show ¬ ((s.length : Int) < (x.2 : Int)); omega)
          have c3 : decide ((((x :: l).getD ((0 : Nat) : Int).toNat tnull).2 : Int) < 0) = false := decide_eq_false (by omega)
          have c5 : (decide ((0 : Int) ≤ 0) && decide (0 ≤ (((x :: l).getD ((0 : Nat) : Int).toNat tnull).2 : Int)) && decide ((((x :: l).getD ((0 : Nat) : Int).toNat tnull).2 : Int) ≤ ((s.length : Nat) : Int))) = true := by
            simp only [Bool.and_eq_true, decide_eq_true_eq]
            refine ⟨⟨by omega, by omega⟩, ?_⟩
            show (x.2 : Int) ≤ (s.length : Int)
            omega
          have cx : PCall Tryd.prog 5 [.str (List.take (((((x :: l).getD ((0 : Nat) : Int).toNat tnull).2 : Nat) : Int).toNat - Int.toNat 0) (List.drop (Int.toNat 0) s))] (.tup [.nils, fltS 0 0]) := by
            show PCall _ _ [.str (List.take (((x.2 : Nat) : Int).toNat - 0) (List.drop 0 s))] _
            rw [Int.toNat_natCast, Nat.sub_zero, List.drop_zero]
            have := lex_any (s := s.take x.2) (by rw [List.length_take]; omega)
            rw [show lexL (s.take x.2) = .ok [] from lexGo_blank _ _ 0 (by simpa using b3)] at this
            exact this
          iterate 60 (all_goals (try conv => whnf); all_goals (try first | with_reducible refine brY (by assumption) ?_ | with_reducible refine brN (by assumption) ?_ | (with_reducible refine brT ?_ ?_; · (simp only [Bool.and_eq_true, Bool.not_eq_true', decide_eq_true_eq, decide_eq_false_iff_not, beq_iff_eq, beq_eq_false_iff_ne, ne_eq] at *; omega)) | with_reducible refine br (fun _ => ?_) (fun _ => ?_) | with_reducible refine ⟨rfl, ?_⟩ | with_reducible refine ARound.succ ?_ | with_reducible refine PCall.call (cx) ?_))
          refine loop_ind (σ := {k : Nat // k ≤ x.2}) (fun z => [(0, SV.str s), (2, SV.bool false), (12, SV.bool false), (15, SV.bool false), (4, SV.ref 0 0 0 0), (3, lstT (x :: l)), (23, SV.bool false), (5, SV.int IntKind.i64 ((0 : Nat) : Int)), (42, SV.bool true), (6, SV.int IntKind.i64 0), (7, SV.int IntKind.i64 (((x :: l).getD ((0 : Nat) : Int).toNat tnull).2 : Int)), (48, SV.bool false), (58, SV.bool true), (85, SV.bool false), (9, SV.ref 1 0 0 0), (8, SV.nils), (112, SV.bool false)] ++ [(10, SV.int IntKind.i64 z.1)])
            (fun _ => ⟨2, [(1, .vec 0 2 [fltS 0 0] ⟨false, some 26⟩), (0, .vec 0 2 [fltS 0 0] ⟨false, some 26⟩)]⟩) (fun z => x.2 - z.1) ?_ ⟨0, by omega⟩
          rintro ⟨k, hk⟩
          dsimp only [List.cons_append, List.nil_append]
          have k7 : IntKind.i64.wrap ((k : Int) + 1) = ((k + 1 : Nat) : Int) := by rw [w64 (by omega) (by omega)]; omega
          have hi0 : (((0 : Nat) : Int) == 0) = true := rfl
          by_cases hkx : k < x.2
          · have k1 : decide ((k : Int) < (((x :: l).getD ((0 : Nat) : Int).toNat tnull).2 : Int)) = true := decide_eq_true (by show (k : Int) < ((x.2 : Nat) : Int); omega)
            have k2 : (decide (0 ≤ (k : Int)) && decide ((k : Int) < ((s.length : Nat) : Int))) = true := by simp only [Bool.and_eq_true, decide_eq_true_eq]; omega
            have kb := blank_any (s.getD (k : Int).toNat 0)
            have kt : isBlank (s.getD (k : Int).toNat 0) = true := by
              rw [Int.toNat_natCast]
              exact b3 _ (by rw [show s.getD k 0 = s[k]'(by omega) by simp [List.getD, show k < s.length by omega]]; exact List.mem_take_iff_getElem.2 ⟨k, by omega, rfl⟩)
            rw [kt] at kb
            iterate 24 (all_goals (try conv => whnf); all_goals (try first | with_reducible refine brY (by assumption) ?_ | with_reducible refine brN (by assumption) ?_ | (with_reducible refine brT ?_ ?_; · (simp only [Bool.and_eq_true, Bool.not_eq_true', decide_eq_true_eq, decide_eq_false_iff_not, beq_iff_eq, beq_eq_false_iff_ne, ne_eq] at *; omega)) | with_reducible refine br (fun _ => ?_) (fun _ => ?_) | with_reducible refine ⟨rfl, ?_⟩ | with_reducible refine ARound.succ ?_ | with_reducible refine PCall.call (kb) ?_ | (refine allLtK_of (lt_one rfl) ?_)))
            exact ⟨⟨k + 1, hkx⟩, by dsimp only; omega, by rw [k7], rfl⟩
          · have k1 : decide ((k : Int) < (((x :: l).getD ((0 : Nat) : Int).toNat tnull).2 : Int)) = false := decide_eq_false (by show ¬ ((k : Int) < ((x.2 : Nat) : Int)); omega)
            iterate 24 (all_goals (try conv => whnf); all_goals (try first | with_reducible refine brY (by assumption) ?_ | with_reducible refine brN (by assumption) ?_ | (with_reducible refine brT ?_ ?_; · (simp only [Bool.and_eq_true, Bool.not_eq_true', decide_eq_true_eq, decide_eq_false_iff_not, beq_iff_eq, beq_eq_false_iff_ne, ne_eq] at *; omega)) | with_reducible refine br (fun _ => ?_) (fun _ => ?_) | with_reducible refine ⟨rfl, ?_⟩ | with_reducible refine ARound.succ ?_ | (refine allLtK_of (lt_one rfl) ?_)))
            exact ⟨⟨0 + 1, by omega⟩, by dsimp only; omega, by rw [e7], rfl⟩
        | succ j =>
          have hz : decide ((0 : Int) < ((j + 1 : Nat) : Int)) = true := decide_eq_true (by omega)
          have e8 : IntKind.i64.wrap (((j + 1 : Nat) : Int) - 1) = (j : Int) := by rw [w64 (by omega) (by omega)]; omega
          obtain ⟨y, q, g1, g2, g3, g4, g5⟩ := hgap j (by simp only [List.length_cons]; omega)
          have gy : (x :: l).getD (IntKind.i64.wrap (((j + 1 : Nat) : Int) - 1)).toNat tnull = (y, q) := by
            rw [e8, Int.toNat_natCast]
            simp [List.getD, g1]
          have hb1 : (decide (0 ≤ IntKind.i64.wrap (((j + 1 : Nat) : Int) - 1)) && decide (IntKind.i64.wrap (((j + 1 : Nat) : Int) - 1) < (((x :: l).length : Nat) : Int))) = true := by
            rw [e8]; simp only [Bool.and_eq_true, decide_eq_true_eq, List.length_cons]; omega
          have c1 : decide ((((x :: l).getD (IntKind.i64.wrap (((j + 1 : Nat) : Int) - 1)).toNat tnull).2 : Int) < 0) = false := decide_eq_false (by omega)
          generalize hT : toP (x :: l) (j + 1) s.length = T at g3 g4 g5
          by_cases hjl : j + 1 < (x :: l).length
          · have hd2 : decide (((j + 1 : Nat) : Int) < (((x :: l).length : Nat) : Int)) = true := decide_eq_true (by omega)
            have gz : ((x :: l).getD (((j + 1 : Nat) : Int)).toNat tnull).2 = T := by
              rw [← hT, Int.toNat_natCast]
              unfold toP
              simp [List.getD, List.getElem?_eq_getElem hjl]
            have c2 : decide (((s.length : Nat) : Int) < (((x :: l).getD (((j + 1 : Nat) : Int)).toNat tnull).2 : Int)) = false := decide_eq_false (by rw [gz]; omega)
            have c3 : decide ((((x :: l).getD (((j + 1 : Nat) : Int)).toNat tnull).2 : Int) < (((x :: l).getD (IntKind.i64.wrap (((j + 1 : Nat) : Int) - 1)).toNat tnull).2 : Int)) = false := decide_eq_false (by rw [gz, gy]; show ¬ ((T : Int) < (q : Int)); omega)
            have c4 : ((((x :: l).getD (IntKind.i64.wrap (((j + 1 : Nat) : Int) - 1)).toNat tnull).2 : Int) == (((x :: l).getD (((j + 1 : Nat) : Int)).toNat tnull).2 : Int)) = false := by
              rw [gz, gy, beq_eq_false_iff_ne]; show ¬ ((q : Int) = (T : Int)); omega
            have c5 : (decide (0 ≤ (((x :: l).getD (IntKind.i64.wrap (((j + 1 : Nat) : Int) - 1)).toNat tnull).2 : Int)) && decide ((((x :: l).getD (IntKind.i64.wrap (((j + 1 : Nat) : Int) - 1)).toNat tnull).2 : Int) ≤ (((x :: l).getD (((j + 1 : Nat) : Int)).toNat tnull).2 : Int)) && decide ((((x :: l).getD (((j + 1 : Nat) : Int)).toNat tnull).2 : Int) ≤ ((s.length : Nat) : Int))) = true := by
              rw [gz, gy]; simp only [Bool.and_eq_true, decide_eq_true_eq]; omega
            have cx : PCall Tryd.prog 5 [.str (List.take (((((x :: l).getD (((j + 1 : Nat) : Int)).toNat tnull).2 : Nat) : Int).toNat - ((((x :: l).getD (IntKind.i64.wrap (((j + 1 : Nat) : Int) - 1)).toNat tnull).2 : Nat) : Int).toNat) (List.drop ((((x :: l).getD (IntKind.i64.wrap (((j + 1 : Nat) : Int) - 1)).toNat tnull).2 : Nat) : Int).toNat s))] (.tup [lstT [(y, 0)], fltS 0 0]) := by
              rw [gz, gy, Int.toNat_natCast]
              show PCall _ _ [.str (List.take (T - ((q : Nat) : Int).toNat) (List.drop ((q : Nat) : Int).toNat s))] _
              rw [Int.toNat_natCast]
              have := lex_any (s := (s.drop q).take (T - q)) (by rw [List.length_take, List.length_drop]; omega)
              rw [Nat.sub_zero] at g5
              rw [g5] at this
              exact this
            have c6 : decide ((((x :: l).getD (IntKind.i64.wrap (((j + 1 : Nat) : Int) - 1)).toNat tnull).2 : Int) < (((x :: l).getD (((j + 1 : Nat) : Int)).toNat tnull).2 : Int)) = true := decide_eq_true (by rw [gz, gy]; show (q : Int) < (T : Int); omega)
            have hk2 : (decide (0 ≤ IntKind.i64.wrap (((j + 1 : Nat) : Int) - 1)) && decide (IntKind.i64.wrap (((j + 1 : Nat) : Int) - 1) ≤ ((j + 1 : Nat) : Int)) && decide (((j + 1 : Nat) : Int) ≤ (((x :: l).length : Nat) : Int))) = true := by
              rw [e8]; simp only [Bool.and_eq_true, decide_eq_true_eq, List.length_cons]; simp only [List.length_cons] at hjl; omega
            have hone : (((j + 1 : Nat) : Int)).toNat - (IntKind.i64.wrap (((j + 1 : Nat) : Int) - 1)).toNat = 1 := by rw [e8, Int.toNat_natCast, Int.toNat_natCast]; omega
            have hi0 : (((j + 1 : Nat) : Int) == 0) = false := by rw [beq_eq_false_iff_ne]; omega
            iterate 80 (all_goals (try conv => whnf); all_goals (try first | with_reducible refine brY (by assumption) ?_ | with_reducible refine brN (by assumption) ?_ | (with_reducible refine brT ?_ ?_; · (simp only [Bool.and_eq_true, Bool.not_eq_true', decide_eq_true_eq, decide_eq_false_iff_not, beq_iff_eq, beq_eq_false_iff_ne, ne_eq] at *; omega)) | with_reducible refine br (fun _ => ?_) (fun _ => ?_) | with_reducible refine ⟨rfl, ?_⟩ | with_reducible refine ARound.succ ?_ | with_reducible refine PCall.call (cx) ?_ | with_reducible refine PCall.call (placed_one _) ?_ | with_reducible refine PCall.call (same_one _) ?_ | (refine placed_cut hone gy ?_) | (refine allLtK_of (lt_one rfl) ?_) | with_reducible refine loop_rounds 2 ?_))
            exact ⟨⟨j + 1 + 1, by omega⟩, by dsimp only; omega, by rw [e7], rfl⟩
          · have hd2 : decide (((j + 1 : Nat) : Int) < (((x :: l).length : Nat) : Int)) = false := decide_eq_false (by omega)
            have gT : T = s.length := by
              rw [← hT]
              unfold toP
              rw [List.getElem?_eq_none (by omega)]
            subst gT
            have c2 : decide (((s.length : Nat) : Int) < ((s.length : Nat) : Int)) = false := decide_eq_false (by omega)
            have c3 : decide (((s.length : Nat) : Int) < (((x :: l).getD (IntKind.i64.wrap (((j + 1 : Nat) : Int) - 1)).toNat tnull).2 : Int)) = false := decide_eq_false (by rw [gy]; show ¬ ((s.length : Int) < (q : Int)); omega)
            have c4 : ((((x :: l).getD (IntKind.i64.wrap (((j + 1 : Nat) : Int) - 1)).toNat tnull).2 : Int) == ((s.length : Nat) : Int)) = false := by
              rw [gy, beq_eq_false_iff_ne]; show ¬ ((q : Int) = (s.length : Int)); omega
            have c5 : (decide (0 ≤ (((x :: l).getD (IntKind.i64.wrap (((j + 1 : Nat) : Int) - 1)).toNat tnull).2 : Int)) && decide ((((x :: l).getD (IntKind.i64.wrap (((j + 1 : Nat) : Int) - 1)).toNat tnull).2 : Int) ≤ ((s.length : Nat) : Int)) && decide (((s.length : Nat) : Int) ≤ ((s.length : Nat) : Int))) = true := by
              rw [gy]; simp only [Bool.and_eq_true, decide_eq_true_eq]; omega
            have cx : PCall Tryd.prog 5 [.str (List.take (((s.length : Nat) : Int).toNat - ((((x :: l).getD (IntKind.i64.wrap (((j + 1 : Nat) : Int) - 1)).toNat tnull).2 : Nat) : Int).toNat) (List.drop ((((x :: l).getD (IntKind.i64.wrap (((j + 1 : Nat) : Int) - 1)).toNat tnull).2 : Nat) : Int).toNat s))] (.tup [lstT [(y, 0)], fltS 0 0]) := by
              rw [gy, Int.toNat_natCast]
              show PCall _ _ [.str (List.take (s.length - ((q : Nat) : Int).toNat) (List.drop ((q : Nat) : Int).toNat s))] _
              rw [Int.toNat_natCast]
              have := lex_any (s := (s.drop q).take (s.length - q)) (by rw [List.length_take, List.length_drop]; omega)
              rw [Nat.sub_zero] at g5
              rw [g5] at this
              exact this
            have c6 : decide ((((x :: l).getD (IntKind.i64.wrap (((j + 1 : Nat) : Int) - 1)).toNat tnull).2 : Int) < ((s.length : Nat) : Int)) = true := decide_eq_true (by rw [gy]; show (q : Int) < (s.length : Int); omega)
            have hk2 : (decide (0 ≤ IntKind.i64.wrap (((j + 1 : Nat) : Int) - 1)) && decide (IntKind.i64.wrap (((j + 1 : Nat) : Int) - 1) ≤ ((j + 1 : Nat) : Int)) && decide (((j + 1 : Nat) : Int) ≤ (((x :: l).length : Nat) : Int))) = true := by
              rw [e8]; simp only [Bool.and_eq_true, decide_eq_true_eq, List.length_cons]; simp only [List.length_cons] at hjl; omega
            have hone : (((j + 1 : Nat) : Int)).toNat - (IntKind.i64.wrap (((j + 1 : Nat) : Int) - 1)).toNat = 1 := by rw [e8, Int.toNat_natCast, Int.toNat_natCast]; omega
            have hi0 : (((j + 1 : Nat) : Int) == 0) = false := by rw [beq_eq_false_iff_ne]; omega
            iterate 80 (all_goals (try conv => whnf); all_goals (try first | with_reducible refine brY (by assumption) ?_ | with_reducible refine brN (by assumption) ?_ | (with_reducible refine brT ?_ ?_; · (simp only [Bool.and_eq_true, Bool.not_eq_true', decide_eq_true_eq, decide_eq_false_iff_not, beq_iff_eq, beq_eq_false_iff_ne, ne_eq] at *; omega)) | with_reducible refine br (fun _ => ?_) (fun _ => ?_) | with_reducible refine ⟨rfl, ?_⟩ | with_reducible refine ARound.succ ?_ | with_reducible refine PCall.call (cx) ?_ | with_reducible refine PCall.call (placed_one _) ?_ | with_reducible refine PCall.call (same_one _) ?_ | (refine placed_cut hone gy ?_) | (refine allLtK_of (lt_one rfl) ?_) | with_reducible refine loop_rounds 2 ?_))
            exact ⟨⟨j + 1 + 1, by omega⟩, by dsimp only; omega, by rw [e7], rfl⟩
      · have hd : decide ((i : Int) ≤ (((x :: l).length : Nat) : Int)) = false := decide_eq_false (by simp only [List.length_cons]; omega)
        iterate 12 (all_goals (try conv => whnf); all_goals (try first | with_reducible refine brY (by assumption) ?_ | with_reducible refine brN (by assumption) ?_ | (with_reducible refine brT ?_ ?_; · (simp only [Bool.and_eq_true, Bool.not_eq_true', decide_eq_true_eq, decide_eq_false_iff_not, beq_iff_eq, beq_eq_false_iff_ne, ne_eq] at *; omega)) | with_reducible refine br (fun _ => ?_) (fun _ => ?_) | with_reducible refine ⟨rfl, ?_⟩ | with_reducible refine ARound.succ ?_))
        exact leaf rfl (.bool _)
end Go.Proofs.YtboinbjiemmggaaDoor
