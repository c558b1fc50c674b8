/- Parts of the proof of PLexCalls, one behind the other. -/
import Derived.Test.YtlhpbcbkkbjhoaaGreatDoorM15
import Derived.Test.YtlhpbcbkkbjhoaaGreatDoorM14
import Derived.Test.YtlhpbcbkkbjhoaaGreatDoorM8
import Derived.Test.YtlhpbcbkkbjhoaaGreatDoorM12
import Derived.Test.YtlhpbcbkkbjhoaaGreatDoorProg
import Derived.KernelRfl
namespace Go.Proofs.YtlhpbcbkkbjhoaaGreatDoor
open Ab Go.RowKit
set_option maxRecDepth 100000
set_option linter.unusedVariables false
set_option linter.unusedSimpArgs false
set_option maxHeartbeats 4000000
set_option pp.maxSteps 3000
attribute [local irreducible] appendK allLtK
theorem agree_is : ∀ (s : List TI) (k : Nat) (get : Nat → SV), (∀ j, j < s.length → get (k + j) = (tokI (s.getD j inull))) → agree (s.map tokI) k get
  | [], _, _, _ => trivial
  | b :: r, k, get, h => by
    refine ⟨?_, tokI_lit _, agree_is r (k + 1) get fun j hj => ?_⟩
    · have := h 0 (by simp)
      simpa using this.symm
    · have := h (j + 1) (by simp; omega)
      rw [show k + 1 + j = k + (j + 1) by omega, this]
      simp [List.getD]
theorem hard_is {A : Heap} {i g : Nat} {cap : Option Nat} {s : List TI} {n : Nat} {sk : Sk} (ho : A.obj i = some (.vec g 4 (s.map tokI) sk)) (hn : n = s.length) : Hard A (.sl i g 4 0 n cap) (lstI s) := by
  subst hn
  have := hard_all (cap := cap) (get := fun i => (tokI (s.getD i inull))) ho (agree_is s 0 _ fun j _ => by rw [Nat.zero_add])
  rw [List.length_map] at this
  exact this
theorem elems_is {h : Heap} {s : List TI} : Elems h 4 (lstI s) (s.map tokI) := fun k hk => by
  refine elems_lst k ?_
  have e : (List.range s.length).map (fun i => (tokI (s.getD i inull))) = s.map tokI := by
    apply List.ext_getElem
    · simp
    · intro i h1 h2
      simp only [List.length_map] at h2
      simp [h2]
  rw [e]; exact hk
theorem allOnes_is : ∀ s : List TI, allOnes (s.map tokI) = true
  | [] => rfl
  | b :: r => by
    show (allOne (tokI b).cells && allOnes (r.map tokI)) = true
    rw [allOnes_is r]; rfl
theorem lit2f (s : List UInt8) (e a : Int) : LitV (.tup [.str s, fltS e a]) := lit2 (.str _) (.agg (by simp only [List.mem_cons, List.not_mem_nil, or_false]; rintro _ (rfl | rfl) <;> constructor))
theorem lexCalls_any {s word : List UInt8} {l : List TI} (hin : ∀ x ∈ l, x.1.n < 18446744073709551616) : PCall Tryz.prog 3 [.str s, lstI l, .str word] (.bool true) := by
  refine pcall_of (lits3 (.str _) (.lst _ _ _) (.str _)) (call3 rfl ?_)
  by_cases h4 : 4000 < s.length ∧ s.length ≤ 65536
  · have q1 : decide ((4000 : Int) < (s.length : Int)) = true := decide_eq_true (by omega)
    have q2 : decide ((s.length : Int) ≤ 65536) = true := decide_eq_true (by omega)
    iterate 30 (all_goals (try conv => whnf); all_goals (try first | with_reducible refine brY (by assumption) ?_ | with_reducible refine brN (by assumption) ?_ | (with_reducible refine brT ?_ ?_; · (simp only [Bool.and_eq_true, Bool.not_eq_true', decide_eq_true_eq, decide_eq_false_iff_not, beq_iff_eq, beq_eq_false_iff_ne, ne_eq] at *; omega)) | with_reducible refine br (fun _ => ?_) (fun _ => ?_) | with_reducible refine ⟨rfl, ?_⟩ | with_reducible refine ARound.succ ?_ | with_reducible refine PCall.call (lives_any) ?_))
    exact leaf rfl (.bool _)
  have qs : decide ((4000 : Int) < (s.length : Int)) = false ∨ (decide ((4000 : Int) < (s.length : Int)) = true ∧ decide ((s.length : Int) ≤ 65536) = false) := by
    by_cases h : 4000 < s.length
    · exact .inr ⟨decide_eq_true (by omega), decide_eq_false (by omega)⟩
    · exact .inl (decide_eq_false (by omega))
  by_cases h5 : 200 < l.length
  · have q3 : decide ((200 : Int) < (l.length : Int)) = true := decide_eq_true (by omega)
    rcases qs with qs | ⟨qs, qs2⟩
    all_goals iterate 30 (all_goals (try conv => whnf); all_goals (try first | with_reducible refine brY (by assumption) ?_ | with_reducible refine brN (by assumption) ?_ | (with_reducible refine brT ?_ ?_; · (simp only [Bool.and_eq_true, Bool.not_eq_true', decide_eq_true_eq, decide_eq_false_iff_not, beq_iff_eq, beq_eq_false_iff_ne, ne_eq] at *; omega)) | with_reducible refine br (fun _ => ?_) (fun _ => ?_) | with_reducible refine ⟨rfl, ?_⟩ | with_reducible refine ARound.succ ?_ | with_reducible refine PCall.call (lives_any) ?_))
    all_goals exact leaf rfl (.bool _)
  have q3 : decide ((200 : Int) < (l.length : Int)) = false := decide_eq_false (by omega)
  rcases qs with qs | ⟨qs, qs2⟩
  all_goals iterate 12 (all_goals (try conv => whnf); all_goals (try first | with_reducible refine brY (by assumption) ?_ | with_reducible refine brN (by assumption) ?_ | (with_reducible refine brT ?_ ?_; · (simp only [Bool.and_eq_true, Bool.not_eq_true', decide_eq_true_eq, decide_eq_false_iff_not, beq_iff_eq, beq_eq_false_iff_ne, ne_eq] at *; omega)) | with_reducible refine br (fun _ => ?_) (fun _ => ?_) | with_reducible refine ⟨rfl, ?_⟩ | with_reducible refine ARound.succ ?_ | with_reducible refine PCall.call (lives_any) ?_))
  all_goals refine loop_ind (σ := {i : Nat // i ≤ l.length ∧ ∀ j, j < i → (l.getD j inull).1.t.length ≤ 4000}) (fun y => [(0, SV.str s), (1, lstI l), (2, SV.str word), (6, SV.bool false), (18, SV.bool false), (31, SV.bool false), (7, SV.int IntKind.i64 y.1)]) (fun _ => ⟨0, []⟩) (fun y => l.length - y.1) ?_ ⟨0, by omega, fun j hj => by omega⟩
  all_goals rintro ⟨i, hi, hf⟩
  all_goals dsimp only
  all_goals have e7 : IntKind.i64.wrap ((i : Int) + 1) = ((i + 1 : Nat) : Int) := w64add (by omega)
  all_goals have et := Int.toNat_natCast i
  all_goals by_cases hil : i < l.length
  · have hd : decide ((i : Int) < (l.length : Int)) = true := decide_eq_true (by omega)
    have hb : (decide (0 ≤ (i : Int)) && decide ((i : Int) < (l.length : Int))) = true := by simp only [Bool.and_eq_true, decide_eq_true_eq]; omega
    by_cases ht : 4000 < (l.getD i inull).1.t.length
    · have q5 : decide ((4000 : Int) < ((l.getD (i : Int).toNat inull).1.t.length : Int)) = true := by rw [et]; exact decide_eq_true (by omega)
      iterate 24 (all_goals (try conv => whnf); all_goals (try first | with_reducible refine brY (by assumption) ?_ | with_reducible refine brN (by assumption) ?_ | (with_reducible refine brT ?_ ?_; · (simp only [Bool.and_eq_true, Bool.not_eq_true', decide_eq_true_eq, decide_eq_false_iff_not, beq_iff_eq, beq_eq_false_iff_ne, ne_eq] at *; omega)) | with_reducible refine br (fun _ => ?_) (fun _ => ?_) | with_reducible refine ⟨rfl, ?_⟩ | with_reducible refine ARound.succ ?_))
      exact leaf rfl (.bool _)
    · have q5 : decide ((4000 : Int) < ((l.getD (i : Int).toNat inull).1.t.length : Int)) = false := by rw [et]; exact decide_eq_false (by omega)
      iterate 24 (all_goals (try conv => whnf); all_goals (try first | with_reducible refine brY (by assumption) ?_ | with_reducible refine brN (by assumption) ?_ | (with_reducible refine brT ?_ ?_; · (simp only [Bool.and_eq_true, Bool.not_eq_true', decide_eq_true_eq, decide_eq_false_iff_not, beq_iff_eq, beq_eq_false_iff_ne, ne_eq] at *; omega)) | with_reducible refine br (fun _ => ?_) (fun _ => ?_) | with_reducible refine ⟨rfl, ?_⟩ | with_reducible refine ARound.succ ?_))
      refine ⟨⟨i + 1, hil, fun j hj => ?_⟩, by dsimp only; omega, by rw [e7], rfl⟩
      rcases (by omega : j < i ∨ j = i) with h | rfl
      · exact hf j h
      · omega
  · have hd : decide ((i : Int) < (l.length : Int)) = false := decide_eq_false (by omega)
    obtain rfl : i = l.length := by omega
    have hin2 : ∀ x ∈ l, x.1.n < 18446744073709551616 ∧ x.1.t.length ≤ 4000 := fun x hx => by
      obtain ⟨j, hj, rfl⟩ := List.mem_iff_getElem.1 hx
      refine ⟨hin _ hx, ?_⟩
      have := hf j hj
      rwa [show l.getD j inull = l[j] by simp [List.getD, hj]] at this
    have ct := toks_any (l := l) (by omega) fun x hx => ⟨(hin2 x hx).1, by have := (hin2 x hx).2; omega⟩
    have rt := rtoks_any (l := l) (by omega) hin2
    have cw := reservedW_any word
    have rw' := rReserved_any word
    have smI := same_refl (l := l) (by omega)
    obtain ⟨u, a1, a2, hu⟩ : ∃ u a1 a2, textI l = .tup [.str u, fltS a1 a2] := by
      unfold textI
      split
      · exact ⟨_, _, _, rfl⟩
      · exact ⟨_, _, _, rfl⟩
    rw [hu] at ct rt
    have qt : (u == u) = true := by simp
    have qa : (fun q => a1 == a1 && q) (a2 == a2) = true := by simp
    have h400 : s.length ≤ 4000 := by have h1 := of_decide_eq_false qs; omega
    have la := lex_any (s := s) (by omega)
    have ra := rlex_any (s := s) (by omega)
    cases hL : lexL s with
    | error e =>
      obtain ⟨e, p⟩ := e
      rw [hL] at la ra
      have q9 : (fun q => e == e && q) ((p : Int) == (p : Int)) = true := by simp
      by_cases l0 : l = []
      · iterate 18 (all_goals (try conv => whnf); all_goals (try first | with_reducible refine brY (by assumption) ?_ | with_reducible refine brN (by assumption) ?_ | (with_reducible refine brT ?_ ?_; · (simp only [Bool.and_eq_true, Bool.not_eq_true', decide_eq_true_eq, decide_eq_false_iff_not, beq_iff_eq, beq_eq_false_iff_ne, ne_eq] at *; omega)) | with_reducible refine br (fun _ => ?_) (fun _ => ?_) | with_reducible refine ⟨rfl, ?_⟩ | with_reducible refine ARound.succ ?_ | with_reducible refine PCall.call (la) ?_ | with_reducible refine PCall.call (ra) ?_ | with_reducible refine PCall.call (same_nils) ?_ | with_reducible refine PCall.call (ct) ?_ | with_reducible refine PCall.call (rt) ?_ | with_reducible refine PCall.call (cw) ?_ | with_reducible refine PCall.call (rw') ?_ | with_reducible refine PCall.call (smI) ?_ | (refine append_noneS (by rw [l0]; exact fun k hk => hk) rfl ?_) | (refine PCall.lend ct (fun j => Nat.beq j 2) (.cons (hard_is (g := 0) (sk := ⟨false, some 27⟩) (by rw [l0]; rfl) (by rw [l0]; rfl)) .nil) (.tup (by simp only [List.mem_cons, List.not_mem_nil, or_false]; rintro _ (rfl | rfl); exact .str _; exact .agg (by simp only [List.mem_cons, List.not_mem_nil, or_false]; rintro _ (rfl | rfl) <;> constructor))) ?_) | (refine PCall.lend smI (fun j => Nat.beq j 2) (.cons (hard_is (g := 0) (sk := ⟨false, some 27⟩) (by rw [l0]; rfl) (by rw [l0]; rfl)) (.cons (.lit (.lst _ _ _)) .nil)) (.bool _) ?_)))
        exact leaf (by simp) (.bool _)
      · have hpos : 0 < l.length := by cases l with | nil => exact absurd rfl l0 | cons c r => simp
        iterate 18 (all_goals (try conv => whnf); all_goals (try first | with_reducible refine brY (by assumption) ?_ | with_reducible refine brN (by assumption) ?_ | (with_reducible refine brT ?_ ?_; · (simp only [Bool.and_eq_true, Bool.not_eq_true', decide_eq_true_eq, decide_eq_false_iff_not, beq_iff_eq, beq_eq_false_iff_ne, ne_eq] at *; omega)) | with_reducible refine br (fun _ => ?_) (fun _ => ?_) | with_reducible refine ⟨rfl, ?_⟩ | with_reducible refine ARound.succ ?_ | with_reducible refine PCall.call (la) ?_ | with_reducible refine PCall.call (ra) ?_ | with_reducible refine PCall.call (same_nils) ?_ | with_reducible refine PCall.call (ct) ?_ | with_reducible refine PCall.call (rt) ?_ | with_reducible refine PCall.call (cw) ?_ | with_reducible refine PCall.call (rw') ?_ | with_reducible refine PCall.call (smI) ?_ | (refine append_cap (xs := l.map tokI) (elems_is (s := l)) (by simpa using hpos) (allOnes_is l) rfl (by simp) (by simp; omega) (by simp; omega) (by simp; omega) ?_) | (refine PCall.lend ct (fun j => Nat.beq j 3) (.cons (hard_is rfl (by simp)) .nil) (.tup (by simp only [List.mem_cons, List.not_mem_nil, or_false]; rintro _ (rfl | rfl); exact .str _; exact .agg (by simp only [List.mem_cons, List.not_mem_nil, or_false]; rintro _ (rfl | rfl) <;> constructor))) ?_) | (refine PCall.lend smI (fun j => Nat.beq j 3) (.cons (hard_is rfl (by simp)) (.cons (.lit (.lst _ _ _)) .nil)) (.bool _) ?_)))
        exact leaf (by simp) (.bool _)
    | ok L =>
      rw [hL] at la ra
      cases L with
      | nil =>
        by_cases l0 : l = []
        · iterate 18 (all_goals (try conv => whnf); all_goals (try first | with_reducible refine brY (by assumption) ?_ | with_reducible refine brN (by assumption) ?_ | (with_reducible refine brT ?_ ?_; · (simp only [Bool.and_eq_true, Bool.not_eq_true', decide_eq_true_eq, decide_eq_false_iff_not, beq_iff_eq, beq_eq_false_iff_ne, ne_eq] at *; omega)) | with_reducible refine br (fun _ => ?_) (fun _ => ?_) | with_reducible refine ⟨rfl, ?_⟩ | with_reducible refine ARound.succ ?_ | with_reducible refine PCall.call (la) ?_ | with_reducible refine PCall.call (ra) ?_ | with_reducible refine PCall.call (same_nils) ?_ | with_reducible refine PCall.call (ct) ?_ | with_reducible refine PCall.call (rt) ?_ | with_reducible refine PCall.call (cw) ?_ | with_reducible refine PCall.call (rw') ?_ | with_reducible refine PCall.call (smI) ?_ | (refine append_noneS (by rw [l0]; exact fun k hk => hk) rfl ?_) | (refine PCall.lend ct (fun j => Nat.beq j 2) (.cons (hard_is (g := 0) (sk := ⟨false, some 27⟩) (by rw [l0]; rfl) (by rw [l0]; rfl)) .nil) (.tup (by simp only [List.mem_cons, List.not_mem_nil, or_false]; rintro _ (rfl | rfl); exact .str _; exact .agg (by simp only [List.mem_cons, List.not_mem_nil, or_false]; rintro _ (rfl | rfl) <;> constructor))) ?_) | (refine PCall.lend smI (fun j => Nat.beq j 2) (.cons (hard_is (g := 0) (sk := ⟨false, some 27⟩) (by rw [l0]; rfl) (by rw [l0]; rfl)) (.cons (.lit (.lst _ _ _)) .nil)) (.bool _) ?_)))
          exact leaf (by simp) (.bool _)
        · have hpos : 0 < l.length := by cases l with | nil => exact absurd rfl l0 | cons c r => simp
          iterate 18 (all_goals (try conv => whnf); all_goals (try first | with_reducible refine brY (by assumption) ?_ | with_reducible refine brN (by assumption) ?_ | (with_reducible refine brT ?_ ?_; · (simp only [Bool.and_eq_true, Bool.not_eq_true', decide_eq_true_eq, decide_eq_false_iff_not, beq_iff_eq, beq_eq_false_iff_ne, ne_eq] at *; omega)) | with_reducible refine br (fun _ => ?_) (fun _ => ?_) | with_reducible refine ⟨rfl, ?_⟩ | with_reducible refine ARound.succ ?_ | with_reducible refine PCall.call (la) ?_ | with_reducible refine PCall.call (ra) ?_ | with_reducible refine PCall.call (same_nils) ?_ | with_reducible refine PCall.call (ct) ?_ | with_reducible refine PCall.call (rt) ?_ | with_reducible refine PCall.call (cw) ?_ | with_reducible refine PCall.call (rw') ?_ | with_reducible refine PCall.call (smI) ?_ | (refine append_cap (xs := l.map tokI) (elems_is (s := l)) (by simpa using hpos) (allOnes_is l) rfl (by simp) (by simp; omega) (by simp; omega) (by simp; omega) ?_) | (refine PCall.lend ct (fun j => Nat.beq j 3) (.cons (hard_is rfl (by simp)) .nil) (.tup (by simp only [List.mem_cons, List.not_mem_nil, or_false]; rintro _ (rfl | rfl); exact .str _; exact .agg (by simp only [List.mem_cons, List.not_mem_nil, or_false]; rintro _ (rfl | rfl) <;> constructor))) ?_) | (refine PCall.lend smI (fun j => Nat.beq j 3) (.cons (hard_is rfl (by simp)) (.cons (.lit (.lst _ _ _)) .nil)) (.bool _) ?_)))
          exact leaf (by simp) (.bool _)
      | cons x L' =>
        have hX := lexGo_lexed s.length s 0 (x :: L') (Nat.le_refl _) hL
        have hlen := lexed_len hX
        have smL := same_T (l := x :: L') (by omega)
        by_cases l0 : l = []
        · iterate 18 (all_goals (try conv => whnf); all_goals (try first | with_reducible refine brY (by assumption) ?_ | with_reducible refine brN (by assumption) ?_ | (with_reducible refine brT ?_ ?_; · (simp only [Bool.and_eq_true, Bool.not_eq_true', decide_eq_true_eq, decide_eq_false_iff_not, beq_iff_eq, beq_eq_false_iff_ne, ne_eq] at *; omega)) | with_reducible refine br (fun _ => ?_) (fun _ => ?_) | with_reducible refine ⟨rfl, ?_⟩ | with_reducible refine ARound.succ ?_ | with_reducible refine PCall.call (la) ?_ | with_reducible refine PCall.call (ra) ?_ | with_reducible refine PCall.call (smL) ?_ | with_reducible refine PCall.call (ct) ?_ | with_reducible refine PCall.call (rt) ?_ | with_reducible refine PCall.call (cw) ?_ | with_reducible refine PCall.call (rw') ?_ | with_reducible refine PCall.call (smI) ?_ | (refine append_noneS (by rw [l0]; exact fun k hk => hk) rfl ?_) | (refine PCall.lend ct (fun j => Nat.beq j 2) (.cons (hard_is (g := 0) (sk := ⟨false, some 27⟩) (by rw [l0]; rfl) (by rw [l0]; rfl)) .nil) (.tup (by simp only [List.mem_cons, List.not_mem_nil, or_false]; rintro _ (rfl | rfl); exact .str _; exact .agg (by simp only [List.mem_cons, List.not_mem_nil, or_false]; rintro _ (rfl | rfl) <;> constructor))) ?_) | (refine PCall.lend smI (fun j => Nat.beq j 2) (.cons (hard_is (g := 0) (sk := ⟨false, some 27⟩) (by rw [l0]; rfl) (by rw [l0]; rfl)) (.cons (.lit (.lst _ _ _)) .nil)) (.bool _) ?_)))
          exact leaf (by simp) (.bool _)
        · have hpos : 0 < l.length := by cases l with | nil => exact absurd rfl l0 | cons c r => simp
          iterate 18 (all_goals (try conv => whnf); all_goals (try first | with_reducible refine brY (by assumption) ?_ | with_reducible refine brN (by assumption) ?_ | (with_reducible refine brT ?_ ?_; · (simp only [Bool.and_eq_true, Bool.not_eq_true', decide_eq_true_eq, decide_eq_false_iff_not, beq_iff_eq, beq_eq_false_iff_ne, ne_eq] at *; omega)) | with_reducible refine br (fun _ => ?_) (fun _ => ?_) | with_reducible refine ⟨rfl, ?_⟩ | with_reducible refine ARound.succ ?_ | with_reducible refine PCall.call (la) ?_ | with_reducible refine PCall.call (ra) ?_ | with_reducible refine PCall.call (smL) ?_ | with_reducible refine PCall.call (ct) ?_ | with_reducible refine PCall.call (rt) ?_ | with_reducible refine PCall.call (cw) ?_ | with_reducible refine PCall.call (rw') ?_ | with_reducible refine PCall.call (smI) ?_ | (refine append_cap (xs := l.map tokI) (elems_is (s := l)) (by simpa using hpos) (allOnes_is l) rfl (by simp) (by simp; omega) (by simp; omega) (by simp; omega) ?_) | (refine PCall.lend ct (fun j => Nat.beq j 3) (.cons (hard_is rfl (by simp)) .nil) (.tup (by simp only [List.mem_cons, List.not_mem_nil, or_false]; rintro _ (rfl | rfl); exact .str _; exact .agg (by simp only [List.mem_cons, List.not_mem_nil, or_false]; rintro _ (rfl | rfl) <;> constructor))) ?_) | (refine PCall.lend smI (fun j => Nat.beq j 3) (.cons (hard_is rfl (by simp)) (.cons (.lit (.lst _ _ _)) .nil)) (.bool _) ?_)))
          exact leaf (by simp) (.bool _)
  · have hd : decide ((i : Int) < (l.length : Int)) = true := decide_eq_true (by omega)
    have hb : (decide (0 ≤ (i : Int)) && decide ((i : Int) < (l.length : Int))) = true := by simp only [Bool.and_eq_true, decide_eq_true_eq]; omega
    by_cases ht : 4000 < (l.getD i inull).1.t.length
    · have q5 : decide ((4000 : Int) < ((l.getD (i : Int).toNat inull).1.t.length : Int)) = true := by rw [et]; exact decide_eq_true (by omega)
      iterate 24 (all_goals (try conv => whnf); all_goals (try first | with_reducible refine brY (by assumption) ?_ | with_reducible refine brN (by assumption) ?_ | (with_reducible refine brT ?_ ?_; · (simp only [Bool.and_eq_true, Bool.not_eq_true', decide_eq_true_eq, decide_eq_false_iff_not, beq_iff_eq, beq_eq_false_iff_ne, ne_eq] at *; omega)) | with_reducible refine br (fun _ => ?_) (fun _ => ?_) | with_reducible refine ⟨rfl, ?_⟩ | with_reducible refine ARound.succ ?_))
      exact leaf rfl (.bool _)
    · have q5 : decide ((4000 : Int) < ((l.getD (i : Int).toNat inull).1.t.length : Int)) = false := by rw [et]; exact decide_eq_false (by omega)
      iterate 24 (all_goals (try conv => whnf); all_goals (try first | with_reducible refine brY (by assumption) ?_ | with_reducible refine brN (by assumption) ?_ | (with_reducible refine brT ?_ ?_; · (simp only [Bool.and_eq_true, Bool.not_eq_true', decide_eq_true_eq, decide_eq_false_iff_not, beq_iff_eq, beq_eq_false_iff_ne, ne_eq] at *; omega)) | with_reducible refine br (fun _ => ?_) (fun _ => ?_) | with_reducible refine ⟨rfl, ?_⟩ | with_reducible refine ARound.succ ?_))
      refine ⟨⟨i + 1, hil, fun j hj => ?_⟩, by dsimp only; omega, by rw [e7], rfl⟩
      rcases (by omega : j < i ∨ j = i) with h | rfl
      · exact hf j h
      · omega
  · have hd : decide ((i : Int) < (l.length : Int)) = false := decide_eq_false (by omega)
    obtain rfl : i = l.length := by omega
    have hin2 : ∀ x ∈ l, x.1.n < 18446744073709551616 ∧ x.1.t.length ≤ 4000 := fun x hx => by
      obtain ⟨j, hj, rfl⟩ := List.mem_iff_getElem.1 hx
      refine ⟨hin _ hx, ?_⟩
      have := hf j hj
      rwa [show l.getD j inull = l[j] by simp [List.getD, hj]] at this
    have ct := toks_any (l := l) (by omega) fun x hx => ⟨(hin2 x hx).1, by have := (hin2 x hx).2; omega⟩
    have rt := rtoks_any (l := l) (by omega) hin2
    have cw := reservedW_any word
    have rw' := rReserved_any word
    have smI := same_refl (l := l) (by omega)
    obtain ⟨u, a1, a2, hu⟩ : ∃ u a1 a2, textI l = .tup [.str u, fltS a1 a2] := by
      unfold textI
      split
      · exact ⟨_, _, _, rfl⟩
      · exact ⟨_, _, _, rfl⟩
    rw [hu] at ct rt
    have qt : (u == u) = true := by simp
    have qa : (fun q => a1 == a1 && q) (a2 == a2) = true := by simp
    have la := lex_long (s := s) (by
      have h1 := of_decide_eq_true qs
      have h2 := of_decide_eq_false qs2
      omega)
    have ra := rlex_long (s := s) (by
      have h1 := of_decide_eq_true qs
      have h2 := of_decide_eq_false qs2
      omega)
    have q9 : (fun q => (3 : Int) == 3 && q) ((-1 : Int) == -1) = true := rfl
    by_cases l0 : l = []
    · iterate 18 (all_goals (try conv => whnf); all_goals (try first | with_reducible refine brY (by assumption) ?_ | with_reducible refine brN (by assumption) ?_ | (with_reducible refine brT ?_ ?_; · (simp only [Bool.and_eq_true, Bool.not_eq_true', decide_eq_true_eq, decide_eq_false_iff_not, beq_iff_eq, beq_eq_false_iff_ne, ne_eq] at *; omega)) | with_reducible refine br (fun _ => ?_) (fun _ => ?_) | with_reducible refine ⟨rfl, ?_⟩ | with_reducible refine ARound.succ ?_ | with_reducible refine PCall.call (la) ?_ | with_reducible refine PCall.call (ra) ?_ | with_reducible refine PCall.call (same_nils) ?_ | with_reducible refine PCall.call (ct) ?_ | with_reducible refine PCall.call (rt) ?_ | with_reducible refine PCall.call (cw) ?_ | with_reducible refine PCall.call (rw') ?_ | with_reducible refine PCall.call (smI) ?_ | (refine append_noneS (by rw [l0]; exact fun k hk => hk) rfl ?_) | (refine PCall.lend ct (fun j => Nat.beq j 2) (.cons (hard_is (g := 0) (sk := ⟨false, some 27⟩) (by rw [l0]; rfl) (by rw [l0]; rfl)) .nil) (.tup (by simp only [List.mem_cons, List.not_mem_nil, or_false]; rintro _ (rfl | rfl); exact .str _; exact .agg (by simp only [List.mem_cons, List.not_mem_nil, or_false]; rintro _ (rfl | rfl) <;> constructor))) ?_) | (refine PCall.lend smI (fun j => Nat.beq j 2) (.cons (hard_is (g := 0) (sk := ⟨false, some 27⟩) (by rw [l0]; rfl) (by rw [l0]; rfl)) (.cons (.lit (.lst _ _ _)) .nil)) (.bool _) ?_)))
      exact leaf (by simp) (.bool _)
    · have hpos : 0 < l.length := by cases l with | nil => exact absurd rfl l0 | cons c r => simp
      iterate 18 (all_goals (try conv => whnf); all_goals (try first | with_reducible refine brY (by assumption) ?_ | with_reducible refine brN (by assumption) ?_ | (with_reducible refine brT ?_ ?_; · (simp only [Bool.and_eq_true, Bool.not_eq_true', decide_eq_true_eq, decide_eq_false_iff_not, beq_iff_eq, beq_eq_false_iff_ne, ne_eq] at *; omega)) | with_reducible refine br (fun _ => ?_) (fun _ => ?_) | with_reducible refine ⟨rfl, ?_⟩ | with_reducible refine ARound.succ ?_ | with_reducible refine PCall.call (la) ?_ | with_reducible refine PCall.call (ra) ?_ | with_reducible refine PCall.call (same_nils) ?_ | with_reducible refine PCall.call (ct) ?_ | with_reducible refine PCall.call (rt) ?_ | with_reducible refine PCall.call (cw) ?_ | with_reducible refine PCall.call (rw') ?_ | with_reducible refine PCall.call (smI) ?_ | (refine append_cap (xs := l.map tokI) (elems_is (s := l)) (by simpa using hpos) (allOnes_is l) rfl (by simp) (by simp; omega) (by simp; omega) (by simp; omega) ?_) | (refine PCall.lend ct (fun j => Nat.beq j 3) (.cons (hard_is rfl (by simp)) .nil) (.tup (by simp only [List.mem_cons, List.not_mem_nil, or_false]; rintro _ (rfl | rfl); exact .str _; exact .agg (by simp only [List.mem_cons, List.not_mem_nil, or_false]; rintro _ (rfl | rfl) <;> constructor))) ?_) | (refine PCall.lend smI (fun j => Nat.beq j 3) (.cons (hard_is rfl (by simp)) (.cons (.lit (.lst _ _ _)) .nil)) (.bool _) ?_)))
      exact leaf (by simp) (.bool _)
end Go.Proofs.YtlhpbcbkkbjhoaaGreatDoor
namespace Go.Proofs.YtlhpbcbkkbjhoaaGreatDoor
open Ab Go.RowKit
set_option linter.unusedVariables false
theorem i64_in {n : Int} (h : IntKind.i64.min ≤ n ∧ n ≤ IntKind.i64.max) : -9223372036854775808 ≤ n ∧ n ≤ 9223372036854775807 := by
  have e1 : IntKind.i64.min = -9223372036854775808 := by decide
  have e2 : IntKind.i64.max = 9223372036854775807 := by decide
  omega
theorem u8_in {n : Int} (h : IntKind.u8.min ≤ n ∧ n ≤ IntKind.u8.max) : 0 ≤ n ∧ n ≤ 255 := by
  have e1 : IntKind.u8.min = 0 := by decide
  have e2 : IntKind.u8.max = 255 := by decide
  omega
theorem u64_in {n : Int} (h : IntKind.u64.min ≤ n ∧ n ≤ IntKind.u64.max) : 0 ≤ n ∧ n ≤ 18446744073709551615 := by
  have e1 : IntKind.u64.min = 0 := by decide
  have e2 : IntKind.u64.max = 18446744073709551615 := by decide
  omega
/-- The same values in other words, where they are as the type asks. -/
def mapOk {P : Program} {t : TypeId} {α β : Type} (r : Rd P t α) (g : α → β) (sv : β → List SV) (ok : β → Prop) (h1 : ∀ x, r.ok x → r.sv x = sv (g x)) (h2 : ∀ x, r.ok x → ok (g x)) (h3 : ∀ y, (sv y).length = r.sz) : Rd P t β where
  sv := sv
  ok := ok
  rich y := ∃ x, g x = y ∧ r.rich x
  sz := r.sz
  szof := r.szof
  len := h3
  rd h := by
    obtain ⟨x, hx, hw, hc⟩ := r.rd h
    exact ⟨g x, h2 x hx, fun h => ⟨x, rfl, hw h⟩, h1 x hx ▸ hc⟩
noncomputable def rdStr : Rd Tryz.prog 9 (List UInt8) := Rd.str Tryz.underlying9 (by kernel_rfl)
noncomputable def rdInt : Rd Tryz.prog 3 Int := (Rd.int (k := .i64) Tryz.underlying3 (by kernel_rfl)).map id (fun n => [.int .i64 n]) (fun n => -9223372036854775808 ≤ n ∧ n ≤ 9223372036854775807) (fun _ => rfl) (fun _ h => i64_in h) fun _ => rfl
theorem u64_sv {x : Int} (h : 0 ≤ x ∧ x ≤ 18446744073709551615) : [SV.int .u64 x] = [SV.int .u64 ((x.toNat : Nat) : Int)] := by rw [Int.toNat_of_nonneg h.1]
theorem u64_nat {x : Int} (h : 0 ≤ x ∧ x ≤ 18446744073709551615) : x.toNat < 18446744073709551616 := by omega
noncomputable def rdU64 : Rd Tryz.prog 25 Nat := mapOk (Rd.int (k := .u64) Tryz.underlying25 (by kernel_rfl)) Int.toNat (fun n => [.int .u64 n]) (fun n => n < 18446744073709551616)
  (fun _ h => u64_sv (u64_in h)) (fun _ h => u64_nat (u64_in h)) fun _ => rfl
noncomputable def rdTk : Rd Tryz.prog 24 Int := (Rd.int (k := .u8) Tryz.underlying24 (by kernel_rfl)).map id (fun n => [.int .u8 n]) (fun n => 0 ≤ n ∧ n ≤ 255) (fun _ => rfl) (fun _ h => u8_in h) fun _ => rfl
/-- A token as it may come in. -/
def InT (x : TI) : Prop := (0 ≤ x.1.k ∧ x.1.k ≤ 255) ∧ x.1.n < 18446744073709551616 ∧ x.1.t.length ≤ 9223372036854775807
noncomputable def rdToken : Rd Tryz.prog 27 TI :=
  (Rd.struct Tryz.underlying27 (.cons rdTk rfl (.cons rdStr rfl (.cons rdU64 rfl (.cons rdInt rfl .nil)))) (by kernel_rfl)).map (fun x => (⟨x.1, x.2.1, x.2.2.1⟩, x.2.2.2.1)) (fun v => [.int .u8 v.1.k, .str v.1.t, .int .u64 v.1.n, .int .i64 v.2]) InT (fun _ => rfl) (fun _ h => ⟨h.1, h.2.2.1, h.2.1⟩) fun _ => rfl
@[reducible] noncomputable def rdTokens : Rd Tryz.prog 22 (List TI) := Rd.slice Tryz.underlying22 (by kernel_rfl) rdToken (by decide) tokI (fun _ => rfl) inull
end Go.Proofs.YtlhpbcbkkbjhoaaGreatDoor
