/- Parts of the proof of PLexCalls, one behind the other. -/
import Derived.Test.YtlhpbcbkkbjhoaaGreatDoorM13
import Derived.Test.YtlhpbcbkkbjhoaaGreatDoorM8
import Derived.Lib.Bytealg
import Derived.Test.YtlhpbcbkkbjhoaaGreatDoorM11
import Derived.Test.YtlhpbcbkkbjhoaaGreatDoorM12
import Derived.Shelf.Strconv.Itoa1
import Derived.Shelf.Strconv.Itoa2
import Derived.Lib.Walk
import Derived.Lib.ItoaMem
import Derived.WalkKit
import Derived.BigCall
import Derived.BigGuard
namespace Go.Proofs.YtlhpbcbkkbjhoaaGreatDoor
open Ab Go.RowKit
set_option maxRecDepth 100000
set_option linter.unusedVariables false
set_option linter.unusedSimpArgs false
set_option maxHeartbeats 4000000
set_option pp.maxSteps 3000
attribute [local irreducible] appendK allLtK
theorem valid_nils : PCall Tryz.prog 57 [.nils] (.bool true) := by
  refine pcall_of (lits1 .nils) (call57 rfl ?_)
  iterate 20 (all_goals (try conv => whnf); all_goals (try first | with_reducible refine brY (by assumption) ?_ | with_reducible refine brN (by assumption) ?_ | (with_reducible refine brT ?_ ?_; · (simp only [Bool.and_eq_true, Bool.not_eq_true', decide_eq_true_eq, decide_eq_false_iff_not, beq_iff_eq, beq_eq_false_iff_ne, ne_eq] at *; omega)) | with_reducible refine br (fun _ => ?_) (fun _ => ?_) | with_reducible refine ⟨rfl, ?_⟩ | with_reducible refine ARound.succ ?_ | with_reducible refine loop_rounds 1 ?_))
  exact leaf rfl (.bool _)
def textD (s : List UInt8) (p : Nat) : SV := match unq (s.drop (p + 1)) with
  | none => .tup [tokP tnull, .int .i64 (s.length : Nat), .int .i64 231]
  | some (b, n) => if Lib.validD b = false then .tup [tokP tnull, .int .i64 ((p + 1 + n : Nat) : Int), .int .i64 232] else if 64 < b.length then .tup [tokP tnull, .int .i64 ((p + 1 + n : Nat) : Int), .int .i64 3] else .tup [tokP (⟨3, b, 0⟩, p), .int .i64 ((p + 1 + n : Nat) : Int), .int .i64 0]
/-- How far a text is read. -/
structure RxI (s : List UInt8) (p i : Nat) (o : List UInt8) : Prop where
  h1 : p + 1 ≤ i
  h2 : i ≤ s.length
  h3 : o.length ≤ i
  h : unq (s.drop (p + 1)) = (unq (s.drop i)).map fun x => (o ++ x.1, x.2 + (i - (p + 1)))
theorem RxI.char {s o : List UInt8} {p i : Nat} (t : RxI s p i o) (hi : i < s.length) (hc : s.getD i 0 ≠ 39) : RxI s p (i + 1) (o ++ [s.getD i 0]) := by
  obtain ⟨h1, h2, h3, h⟩ := t
  refine ⟨by omega, by omega, by rw [List.length_append, List.length_singleton]; omega, ?_⟩
  rw [h, drop_cons hi, unq_char hc, Option.map_map]
  congr 1
  funext x
  simp only [Function.comp, List.append_assoc, List.singleton_append, Prod.mk.injEq, true_and]
  omega
theorem RxI.two {s o : List UInt8} {p i : Nat} (t : RxI s p i o) (hi : i + 1 < s.length) (hc : s.getD i 0 = 39) (hd : s.getD (i + 1) 0 = 39) : RxI s p (i + 1 + 1) (o ++ [39]) := by
  obtain ⟨h1, h2, h3, h⟩ := t
  refine ⟨by omega, by omega, by rw [List.length_append, List.length_singleton]; omega, ?_⟩
  rw [h, drop_cons (show i < s.length by omega), hc, drop_cons hi, hd, unq_two, Option.map_map]
  congr 1
  funext x
  simp only [Function.comp, List.append_assoc, List.singleton_append, Prod.mk.injEq, true_and]
  omega
theorem RxI.charL {s o : List UInt8} {c : UInt8} {p i : Nat} (t : RxI s p i (c :: o)) (hi : i < s.length) (hc : s.getD i 0 ≠ 39) : RxI s p (i + 1) (c :: (o ++ [s.getD i 0])) := by
  have := t.char hi hc
  rw [List.cons_append] at this
  exact this
theorem RxI.twoL {s o : List UInt8} {c : UInt8} {p i : Nat} (t : RxI s p i (c :: o)) (hi : i + 1 < s.length) (hc : s.getD i 0 = 39) (hd : s.getD (i + 1) 0 = 39) : RxI s p (i + 1 + 1) (c :: (o ++ [39])) := by
  have := t.two hi hc hd
  rw [List.cons_append] at this
  exact this
theorem RxI.fin {s o : List UInt8} {p i : Nat} (t : RxI s p i o) (hi : i < s.length) (hc : s.getD i 0 = 39) (hd : s.getD (i + 1) 0 ≠ 39) : unq (s.drop (p + 1)) = some (o, i - p) := by
  obtain ⟨h1, h2, h3, h⟩ := t
  rw [h, drop_cons hi, hc, unq_end (by rw [getD_drop]; exact hd)]
  simp only [Option.map_some, List.append_nil, Option.some.injEq, Prod.mk.injEq, true_and]
  omega
theorem RxI.out {s o : List UInt8} {p i : Nat} (t : RxI s p i o) (hi : s.length ≤ i) : unq (s.drop (p + 1)) = none := by
  rw [t.h, List.drop_of_length_le hi]
  rfl
inductive RS (s : List UInt8) (p : Nat) where
  | E (i : Nat) (t : RxI s p i [])
  | L (i g : Nat) (c : UInt8) (o : List UInt8) (t : RxI s p i (c :: o))
@[reducible] def RS.env {s : List UInt8} {p : Nat} : RS s p → Env
  | .E i _ => [(0, SV.str s), (1, SV.int IntKind.i64 p), (4, SV.ref 0 0 0 0), (5, SV.int IntKind.i64 0), (6, SV.int IntKind.i64 0), (7, SV.nils), (8, SV.int IntKind.i64 i)]
  | .L i g c o _ => [(0, SV.str s), (1, SV.int IntKind.i64 p), (4, SV.ref 0 0 0 0), (5, SV.int IntKind.i64 0), (6, SV.int IntKind.i64 0), (7, SV.sl 2 g 1 0 (c :: o).length none), (8, SV.int IntKind.i64 i)]
@[reducible] def RS.hp {s : List UInt8} {p : Nat} : RS s p → Heap
  | .E _ _ => ⟨1, [(0, tok0)]⟩
  | .L _ g c o _ => ⟨3, [(2, .vec g 1 ((c :: o).map byS) ⟨true, some 5⟩), (1, .vec 0 1 [byS c] ⟨false, some 5⟩), (0, tok0)]⟩
def RS.mu {s : List UInt8} {p : Nat} : RS s p → Nat
  | .E i _ => s.length - i
  | .L i _ _ _ _ => s.length - i
theorem eb39 (c : UInt8) : ((c.toNat : Int) == 39) = decide (c = 39) := by
  by_cases h : c = 39
  · subst h; rfl
  · have : c.toNat ≠ 39 := fun e => h (UInt8.toNat_inj.1 e)
    rw [decide_eq_false h, beq_eq_false_iff_ne]; omega
theorem nb39 (c : UInt8) : ((c.toNat : Int) != 39) = !decide (c = 39) := by rw [← eb39]; rfl
theorem textD_none {s : List UInt8} {p : Nat} (h : unq (s.drop (p + 1)) = none) : textD s p = .tup [tokP tnull, .int .i64 (s.length : Nat), .int .i64 231] := by unfold textD; rw [h]
theorem textD_some {s b : List UInt8} {p n : Nat} (h : unq (s.drop (p + 1)) = some (b, n)) : textD s p = if Lib.validD b = false then .tup [tokP tnull, .int .i64 ((p + 1 + n : Nat) : Int), .int .i64 232] else if 64 < b.length then .tup [tokP tnull, .int .i64 ((p + 1 + n : Nat) : Int), .int .i64 3] else .tup [tokP (⟨3, b, 0⟩, p), .int .i64 ((p + 1 + n : Nat) : Int), .int .i64 0] := by unfold textD; rw [h]
theorem tlit (x : TP) (a b : Int) : LitV (.tup [tokP x, .int .i64 a, .int .i64 b]) := lit3 (tokP_lit _) (.int _ _) (.int _ _)
theorem ofNat_c (c : UInt8) : UInt8.ofNat ((c.toNat : Int)).toNat = c := by
  rw [Int.toNat_natCast]; simp
theorem rtext_any {s : List UInt8} {p : Nat} (hs : s.length ≤ 65536) (hp : p < s.length) : PCall Tryz.prog 36 [.str s, .int .i64 p] (textD s p) := by
  refine pcall_of (lits2 (.str _) (.int _ _)) (call36 rfl ?_)
  have e0 : IntKind.i64.wrap ((p : Int) + 1) = ((p + 1 : Nat) : Int) := w64add (by omega)
  iterate 10 (all_goals (try conv => whnf); all_goals (try first | with_reducible refine brY (by assumption) ?_ | with_reducible refine brN (by assumption) ?_ | (with_reducible refine brT ?_ ?_; · (simp only [Bool.and_eq_true, Bool.not_eq_true', decide_eq_true_eq, decide_eq_false_iff_not, beq_iff_eq, beq_eq_false_iff_ne, ne_eq] at *; omega)) | with_reducible refine br (fun _ => ?_) (fun _ => ?_) | with_reducible refine ⟨rfl, ?_⟩ | with_reducible refine ARound.succ ?_))
  rw [e0]
  refine loop_any (σ := RS s p) RS.env RS.hp RS.mu (fun _ => 3) (fun x => match x with | .E .. => (by show 1 ≤ 3; decide) | .L .. => Nat.le_refl 3) ?_ (.E (p + 1) ⟨Nat.le_refl _, by omega, Nat.zero_le _, by rw [Nat.sub_self]; cases unq (s.drop (p + 1)) <;> rfl⟩)
  rintro (⟨i, t⟩ | ⟨i, g, c, o, t⟩)
  · have h1 := t.h1
    have h2 := t.h2
    have h3 := t.h3
    dsimp only [RS.env, RS.hp]
    have e7 : IntKind.i64.wrap ((i : Int) + 1) = ((i + 1 : Nat) : Int) := w64add (by omega)
    have e8 : IntKind.i64.wrap (IntKind.i64.wrap ((i : Int) + 1) + 1) = ((i + 1 + 1 : Nat) : Int) := by rw [e7]; exact w64add (by omega)
    have et := Int.toNat_natCast i
    have et1 : (IntKind.i64.wrap ((i : Int) + 1)).toNat = i + 1 := by rw [e7]; exact Int.toNat_natCast _
    by_cases hl : i < s.length
    case neg =>
      have hd : decide ((i : Int) < (s.length : Int)) = false := decide_eq_false (by omega)
      rw [textD_none (t.out (by omega))]
      iterate 30 (all_goals (try conv => whnf); all_goals (try first | with_reducible refine brY (by assumption) ?_ | with_reducible refine brN (by assumption) ?_ | (with_reducible refine brT ?_ ?_; · (simp only [Bool.and_eq_true, Bool.not_eq_true', decide_eq_true_eq, decide_eq_false_iff_not, beq_iff_eq, beq_eq_false_iff_ne, ne_eq] at *; omega)) | with_reducible refine br (fun _ => ?_) (fun _ => ?_) | with_reducible refine ⟨rfl, ?_⟩ | with_reducible refine ARound.succ ?_))
      exact leaf rfl (tlit _ _ _)
    have hd : decide ((i : Int) < (s.length : Int)) = true := decide_eq_true (by omega)
    have hb : (decide (0 ≤ (i : Int)) && decide ((i : Int) < (s.length : Int))) = true := by simp only [Bool.and_eq_true, decide_eq_true_eq]; omega
    by_cases hc : s.getD i 0 = 39
    case neg =>
      have q : (((s.getD (i : Int).toNat 0).toNat : Int) != 39) = true := by rw [nb39, et, decide_eq_false hc]; rfl
      iterate 40 (all_goals (try conv => whnf); all_goals (try first | with_reducible refine brY (by assumption) ?_ | with_reducible refine brN (by assumption) ?_ | (with_reducible refine brT ?_ ?_; · (simp only [Bool.and_eq_true, Bool.not_eq_true', decide_eq_true_eq, decide_eq_false_iff_not, beq_iff_eq, beq_eq_false_iff_ne, ne_eq] at *; omega)) | with_reducible refine br (fun _ => ?_) (fun _ => ?_) | with_reducible refine ⟨rfl, ?_⟩ | with_reducible refine ARound.succ ?_ | (refine app_b1 rfl ?_)))
      exact ⟨.L (i + 1) 0 (s.getD i 0) [] (t.char hl hc), (by show s.length - (i + 1) < s.length - i; omega), (by rw [e7]; rfl), rfl⟩
    have q : (((s.getD (i : Int).toNat 0).toNat : Int) != 39) = false := by rw [nb39, et, decide_eq_true hc]; rfl
    by_cases hc2 : s.getD (i + 1) 0 = 39
    case pos =>
      have hl2 : i + 1 < s.length := by
        rcases Nat.lt_or_ge (i + 1) s.length with h | h
        · exact h
        · rw [show s.getD (i + 1) 0 = 0 by simp [List.getD, List.getElem?_eq_none h]] at hc2; cases hc2
      have q2 : decide (IntKind.i64.wrap ((i : Int) + 1) < (s.length : Int)) = true := decide_eq_true (by rw [e7]; omega)
      have hb2 : (decide (0 ≤ IntKind.i64.wrap ((i : Int) + 1)) && decide (IntKind.i64.wrap ((i : Int) + 1) < (s.length : Int))) = true := by rw [e7]; simp only [Bool.and_eq_true, decide_eq_true_eq]; omega
      have q3 : (((s.getD (IntKind.i64.wrap ((i : Int) + 1)).toNat 0).toNat : Int) == 39) = true := by rw [eb39, et1, decide_eq_true hc2]
      iterate 40 (all_goals (try conv => whnf); all_goals (try first | with_reducible refine brY (by assumption) ?_ | with_reducible refine brN (by assumption) ?_ | (with_reducible refine brT ?_ ?_; · (simp only [Bool.and_eq_true, Bool.not_eq_true', decide_eq_true_eq, decide_eq_false_iff_not, beq_iff_eq, beq_eq_false_iff_ne, ne_eq] at *; omega)) | with_reducible refine br (fun _ => ?_) (fun _ => ?_) | with_reducible refine ⟨rfl, ?_⟩ | with_reducible refine ARound.succ ?_ | (refine app_b1 rfl ?_)))
      exact ⟨.L (i + 1 + 1) 0 (39) [] (t.two hl2 hc hc2), (by show s.length - (i + 1 + 1) < s.length - i; omega), (by rw [e8]; rfl), rfl⟩
    have hfin := textD_some (t.fin hl hc hc2)
    have en : p + 1 + (i - p) = i + 1 := by omega
    rw [en] at hfin
    rw [hfin, if_neg (by decide), if_neg (by decide)]
    by_cases hl2 : i + 1 < s.length
    · have q2 : decide (IntKind.i64.wrap ((i : Int) + 1) < (s.length : Int)) = true := decide_eq_true (by rw [e7]; omega)
      have hb2 : (decide (0 ≤ IntKind.i64.wrap ((i : Int) + 1)) && decide (IntKind.i64.wrap ((i : Int) + 1) < (s.length : Int))) = true := by rw [e7]; simp only [Bool.and_eq_true, decide_eq_true_eq]; omega
      have q3 : (((s.getD (IntKind.i64.wrap ((i : Int) + 1)).toNat 0).toNat : Int) == 39) = false := by rw [eb39, et1, decide_eq_false hc2]
      iterate 60 (all_goals (try conv => whnf); all_goals (try first | with_reducible refine brY (by assumption) ?_ | with_reducible refine brN (by assumption) ?_ | (with_reducible refine brT ?_ ?_; · (simp only [Bool.and_eq_true, Bool.not_eq_true', decide_eq_true_eq, decide_eq_false_iff_not, beq_iff_eq, beq_eq_false_iff_ne, ne_eq] at *; omega)) | with_reducible refine br (fun _ => ?_) (fun _ => ?_) | with_reducible refine ⟨rfl, ?_⟩ | with_reducible refine ARound.succ ?_ | with_reducible refine PCall.call (valid_nils) ?_))
      exact leaf (by rw [e7]; first | done | rfl) (tlit _ _ _)
    · have q2 : decide (IntKind.i64.wrap ((i : Int) + 1) < (s.length : Int)) = false := decide_eq_false (by rw [e7]; omega)
      iterate 60 (all_goals (try conv => whnf); all_goals (try first | with_reducible refine brY (by assumption) ?_ | with_reducible refine brN (by assumption) ?_ | (with_reducible refine brT ?_ ?_; · (simp only [Bool.and_eq_true, Bool.not_eq_true', decide_eq_true_eq, decide_eq_false_iff_not, beq_iff_eq, beq_eq_false_iff_ne, ne_eq] at *; omega)) | with_reducible refine br (fun _ => ?_) (fun _ => ?_) | with_reducible refine ⟨rfl, ?_⟩ | with_reducible refine ARound.succ ?_ | with_reducible refine PCall.call (valid_nils) ?_))
      exact leaf (by rw [e7]; first | done | rfl) (tlit _ _ _)
  · have h1 := t.h1
    have h2 := t.h2
    have h3 := t.h3
    dsimp only [RS.env, RS.hp]
    have e7 : IntKind.i64.wrap ((i : Int) + 1) = ((i + 1 : Nat) : Int) := w64add (by omega)
    have e8 : IntKind.i64.wrap (IntKind.i64.wrap ((i : Int) + 1) + 1) = ((i + 1 + 1 : Nat) : Int) := by rw [e7]; exact w64add (by omega)
    have et := Int.toNat_natCast i
    have et1 : (IntKind.i64.wrap ((i : Int) + 1)).toNat = i + 1 := by rw [e7]; exact Int.toNat_natCast _
    have qg : Nat.beq g g = true := nbeq_self g
    by_cases hl : i < s.length
    case neg =>
      have hd : decide ((i : Int) < (s.length : Int)) = false := decide_eq_false (by omega)
      rw [textD_none (t.out (by omega))]
      iterate 30 (all_goals (try conv => whnf); all_goals (try first | with_reducible refine brY (by assumption) ?_ | with_reducible refine brN (by assumption) ?_ | (with_reducible refine brT ?_ ?_; · (simp only [Bool.and_eq_true, Bool.not_eq_true', decide_eq_true_eq, decide_eq_false_iff_not, beq_iff_eq, beq_eq_false_iff_ne, ne_eq] at *; omega)) | with_reducible refine br (fun _ => ?_) (fun _ => ?_) | with_reducible refine ⟨rfl, ?_⟩ | with_reducible refine ARound.succ ?_))
      exact leaf rfl (tlit _ _ _)
    have hd : decide ((i : Int) < (s.length : Int)) = true := decide_eq_true (by omega)
    have hb : (decide (0 ≤ (i : Int)) && decide ((i : Int) < (s.length : Int))) = true := by simp only [Bool.and_eq_true, decide_eq_true_eq]; omega
    by_cases hc : s.getD i 0 = 39
    case neg =>
      have q : (((s.getD (i : Int).toNat 0).toNat : Int) != 39) = true := by rw [nb39, et, decide_eq_false hc]; rfl
      iterate 40 (all_goals (try conv => whnf); all_goals (try first | with_reducible refine brY (by assumption) ?_ | with_reducible refine brN (by assumption) ?_ | (with_reducible refine brT ?_ ?_; · (simp only [Bool.and_eq_true, Bool.not_eq_true', decide_eq_true_eq, decide_eq_false_iff_not, beq_iff_eq, beq_eq_false_iff_ne, ne_eq] at *; omega)) | with_reducible refine br (fun _ => ?_) (fun _ => ?_) | with_reducible refine ⟨rfl, ?_⟩ | with_reducible refine ARound.succ ?_ | (refine append_one (o := c :: o) (i := 2) rfl (by omega) rfl (by simp only [List.length_cons] at h3 ⊢; omega) ?_) | (refine allLtK_of lt_by1 ?_) | (refine allLtK_of (lt_by (s := c :: o)) ?_) | (refine allLtK_of (lt_one rfl) ?_)))
      exact ⟨.L (i + 1) (g + 1) c (o ++ [s.getD i 0]) (t.charL hl hc), (by show s.length - (i + 1) < s.length - i; omega), (by rw [e7]; dsimp only [RS.env]; rw [show (c :: (o ++ [s.getD i 0])).length = (c :: o).length + 1 by simp]), (by dsimp only [RS.hp]; rw [show c :: (o ++ [s.getD i 0]) = (c :: o) ++ [s.getD i 0] from rfl, List.map_append]; rfl)⟩
    have q : (((s.getD (i : Int).toNat 0).toNat : Int) != 39) = false := by rw [nb39, et, decide_eq_true hc]; rfl
    by_cases hc2 : s.getD (i + 1) 0 = 39
    case pos =>
      have hl2 : i + 1 < s.length := by
        rcases Nat.lt_or_ge (i + 1) s.length with h | h
        · exact h
        · rw [show s.getD (i + 1) 0 = 0 by simp [List.getD, List.getElem?_eq_none h]] at hc2; cases hc2
      have q2 : decide (IntKind.i64.wrap ((i : Int) + 1) < (s.length : Int)) = true := decide_eq_true (by rw [e7]; omega)
      have hb2 : (decide (0 ≤ IntKind.i64.wrap ((i : Int) + 1)) && decide (IntKind.i64.wrap ((i : Int) + 1) < (s.length : Int))) = true := by rw [e7]; simp only [Bool.and_eq_true, decide_eq_true_eq]; omega
      have q3 : (((s.getD (IntKind.i64.wrap ((i : Int) + 1)).toNat 0).toNat : Int) == 39) = true := by rw [eb39, et1, decide_eq_true hc2]
      iterate 40 (all_goals (try conv => whnf); all_goals (try first | with_reducible refine brY (by assumption) ?_ | with_reducible refine brN (by assumption) ?_ | (with_reducible refine brT ?_ ?_; · (simp only [Bool.and_eq_true, Bool.not_eq_true', decide_eq_true_eq, decide_eq_false_iff_not, beq_iff_eq, beq_eq_false_iff_ne, ne_eq] at *; omega)) | with_reducible refine br (fun _ => ?_) (fun _ => ?_) | with_reducible refine ⟨rfl, ?_⟩ | with_reducible refine ARound.succ ?_ | (refine append_one (o := c :: o) (i := 2) rfl (by omega) rfl (by simp only [List.length_cons] at h3 ⊢; omega) ?_) | (refine allLtK_of lt_by1 ?_) | (refine allLtK_of (lt_by (s := c :: o)) ?_) | (refine allLtK_of (lt_one rfl) ?_)))
      exact ⟨.L (i + 1 + 1) (g + 1) c (o ++ [39]) (t.twoL hl2 hc hc2), (by show s.length - (i + 1 + 1) < s.length - i; omega), (by rw [e8]; dsimp only [RS.env]; rw [show (c :: (o ++ [39])).length = (c :: o).length + 1 by simp]), (by dsimp only [RS.hp]; rw [show c :: (o ++ [39]) = (c :: o) ++ [39] from rfl, List.map_append]; rfl)⟩
    have hfin := textD_some (t.fin hl hc hc2)
    have en : p + 1 + (i - p) = i + 1 := by omega
    rw [en] at hfin
    have cvl := valid_any (s := c :: o) (by omega)
    by_cases hl2 : i + 1 < s.length
    · have q2 : decide (IntKind.i64.wrap ((i : Int) + 1) < (s.length : Int)) = true := decide_eq_true (by rw [e7]; omega)
      have hb2 : (decide (0 ≤ IntKind.i64.wrap ((i : Int) + 1)) && decide (IntKind.i64.wrap ((i : Int) + 1) < (s.length : Int))) = true := by rw [e7]; simp only [Bool.and_eq_true, decide_eq_true_eq]; omega
      have q3 : (((s.getD (IntKind.i64.wrap ((i : Int) + 1)).toNat 0).toNat : Int) == 39) = false := by rw [eb39, et1, decide_eq_false hc2]
      cases hv : Lib.validD (c :: o) with
      | false =>
        rw [hv] at cvl
        rw [hfin, if_pos hv]
        iterate 60 (all_goals (try conv => whnf); all_goals (try first | with_reducible refine brY (by assumption) ?_ | with_reducible refine brN (by assumption) ?_ | (with_reducible refine brT ?_ ?_; · (simp only [Bool.and_eq_true, Bool.not_eq_true', decide_eq_true_eq, decide_eq_false_iff_not, beq_iff_eq, beq_eq_false_iff_ne, ne_eq] at *; omega)) | with_reducible refine br (fun _ => ?_) (fun _ => ?_) | with_reducible refine ⟨rfl, ?_⟩ | with_reducible refine ARound.succ ?_ | (refine PCall.lend cvl (fun j => Nat.beq j 2) (.cons (hard_by rfl rfl) .nil) (.bool _) ?_)))
        exact leaf (by rw [e7]; first | done | rfl) (tlit _ _ _)
      | true =>
        rw [hv] at cvl
        by_cases h64 : 64 < (c :: o).length
        · have q5 : decide ((64 : Int) < ((c :: o).length : Int)) = true := decide_eq_true (by omega)
          rw [hfin, if_neg (by rw [hv]; decide), if_pos h64]
          iterate 60 (all_goals (try conv => whnf); all_goals (try first | with_reducible refine brY (by assumption) ?_ | with_reducible refine brN (by assumption) ?_ | (with_reducible refine brT ?_ ?_; · (simp only [Bool.and_eq_true, Bool.not_eq_true', decide_eq_true_eq, decide_eq_false_iff_not, beq_iff_eq, beq_eq_false_iff_ne, ne_eq] at *; omega)) | with_reducible refine br (fun _ => ?_) (fun _ => ?_) | with_reducible refine ⟨rfl, ?_⟩ | with_reducible refine ARound.succ ?_ | (refine PCall.lend cvl (fun j => Nat.beq j 2) (.cons (hard_by rfl rfl) .nil) (.bool _) ?_)))
          exact leaf (by rw [e7]; first | done | rfl) (tlit _ _ _)
        · have q5 : decide ((64 : Int) < ((c :: o).length : Int)) = false := decide_eq_false (by omega)
          rw [hfin, if_neg (by rw [hv]; decide), if_neg h64]
          iterate 24 (all_goals (try conv => whnf); all_goals (try first | with_reducible refine brY (by assumption) ?_ | with_reducible refine brN (by assumption) ?_ | (with_reducible refine brT ?_ ?_; · (simp only [Bool.and_eq_true, Bool.not_eq_true', decide_eq_true_eq, decide_eq_false_iff_not, beq_iff_eq, beq_eq_false_iff_ne, ne_eq] at *; omega)) | with_reducible refine br (fun _ => ?_) (fun _ => ?_) | with_reducible refine ⟨rfl, ?_⟩ | with_reducible refine ARound.succ ?_ | (refine PCall.lend cvl (fun j => Nat.beq j 2) (.cons (hard_by rfl rfl) .nil) (.bool _) ?_) | (refine takeN_all (by simp) (bytesK_run2 (s := c :: o) rfl ?_))))
          rw [e7]
          exact leaf rfl (tlit _ _ _)
    · have q2 : decide (IntKind.i64.wrap ((i : Int) + 1) < (s.length : Int)) = false := decide_eq_false (by rw [e7]; omega)
      cases hv : Lib.validD (c :: o) with
      | false =>
        rw [hv] at cvl
        rw [hfin, if_pos hv]
        iterate 60 (all_goals (try conv => whnf); all_goals (try first | with_reducible refine brY (by assumption) ?_ | with_reducible refine brN (by assumption) ?_ | (with_reducible refine brT ?_ ?_; · (simp only [Bool.and_eq_true, Bool.not_eq_true', decide_eq_true_eq, decide_eq_false_iff_not, beq_iff_eq, beq_eq_false_iff_ne, ne_eq] at *; omega)) | with_reducible refine br (fun _ => ?_) (fun _ => ?_) | with_reducible refine ⟨rfl, ?_⟩ | with_reducible refine ARound.succ ?_ | (refine PCall.lend cvl (fun j => Nat.beq j 2) (.cons (hard_by rfl rfl) .nil) (.bool _) ?_)))
        exact leaf (by rw [e7]; first | done | rfl) (tlit _ _ _)
      | true =>
        rw [hv] at cvl
        by_cases h64 : 64 < (c :: o).length
        · have q5 : decide ((64 : Int) < ((c :: o).length : Int)) = true := decide_eq_true (by omega)
          rw [hfin, if_neg (by rw [hv]; decide), if_pos h64]
          iterate 60 (all_goals (try conv => whnf); all_goals (try first | with_reducible refine brY (by assumption) ?_ | with_reducible refine brN (by assumption) ?_ | (with_reducible refine brT ?_ ?_; · (simp only [Bool.and_eq_true, Bool.not_eq_true', decide_eq_true_eq, decide_eq_false_iff_not, beq_iff_eq, beq_eq_false_iff_ne, ne_eq] at *; omega)) | with_reducible refine br (fun _ => ?_) (fun _ => ?_) | with_reducible refine ⟨rfl, ?_⟩ | with_reducible refine ARound.succ ?_ | (refine PCall.lend cvl (fun j => Nat.beq j 2) (.cons (hard_by rfl rfl) .nil) (.bool _) ?_)))
          exact leaf (by rw [e7]; first | done | rfl) (tlit _ _ _)
        · have q5 : decide ((64 : Int) < ((c :: o).length : Int)) = false := decide_eq_false (by omega)
          rw [hfin, if_neg (by rw [hv]; decide), if_neg h64]
          iterate 24 (all_goals (try conv => whnf); all_goals (try first | with_reducible refine brY (by assumption) ?_ | with_reducible refine brN (by assumption) ?_ | (with_reducible refine brT ?_ ?_; · (simp only [Bool.and_eq_true, Bool.not_eq_true', decide_eq_true_eq, decide_eq_false_iff_not, beq_iff_eq, beq_eq_false_iff_ne, ne_eq] at *; omega)) | with_reducible refine br (fun _ => ?_) (fun _ => ?_) | with_reducible refine ⟨rfl, ?_⟩ | with_reducible refine ARound.succ ?_ | (refine PCall.lend cvl (fun j => Nat.beq j 2) (.cons (hard_by rfl rfl) .nil) (.bool _) ?_) | (refine takeN_all (by simp) (bytesK_run2 (s := c :: o) rfl ?_))))
          rw [e7]
          exact leaf rfl (tlit _ _ _)
end Go.Proofs.YtlhpbcbkkbjhoaaGreatDoor
namespace Go.Proofs.YtlhpbcbkkbjhoaaGreatDoor
open Ab Go.RowKit
set_option maxRecDepth 100000
set_option linter.unusedVariables false
set_option linter.unusedSimpArgs false
set_option maxHeartbeats 4000000
set_option pp.maxSteps 3000
def tupT (x : TP) (a b : Int) : SV := .tup [tokP x, .int .i64 a, .int .i64 b]
theorem wordD_tup (s : List UInt8) (p : Nat) : ∃ x a b, wordD s p = tupT x a b := by
  unfold wordD
  split
  · exact ⟨_, _, _, rfl⟩
  · exact ⟨_, _, _, rfl⟩
theorem numD_tup (s : List UInt8) (p : Nat) : ∃ x a b, numD s p = tupT x a b := by
  unfold numD
  split
  · exact ⟨_, _, _, rfl⟩
  · exact ⟨_, _, _, rfl⟩
theorem textD_tup (s : List UInt8) (p : Nat) : ∃ x a b, textD s p = tupT x a b := by
  unfold textD
  split
  · exact ⟨_, _, _, rfl⟩
  · split
    · exact ⟨_, _, _, rfl⟩
    · split
      · exact ⟨_, _, _, rfl⟩
      · exact ⟨_, _, _, rfl⟩
def signT (s : List UInt8) (p : Nat) : SV := match signD (s.drop p) with
  | .ok x n => tupT (x, p) ((p + n : Nat) : Int) 0
  | .err e => tupT tnull p e
def nextD (s : List UInt8) (p : Nat) : SV :=
  if isLetter (s.getD p 0) then wordD s p else if isDigit (s.getD p 0) then numD s p else if s.getD p 0 = 39 then textD s p else signT s p
theorem rnext_any {s : List UInt8} {p : Nat} (hs : s.length ≤ 65536) (hp : p < s.length) : PCall Tryz.prog 15 [.str s, .int .i64 p] (nextD s p) := by
  refine pcall_of (lits2 (.str _) (.int _ _)) (call15 rfl ?_)
  have hb : (decide (0 ≤ (p : Int)) && decide ((p : Int) < (s.length : Int))) = true := by simp only [Bool.and_eq_true, decide_eq_true_eq]; omega
  have et := Int.toNat_natCast p
  have cl := rletter_any (s.getD (p : Int).toNat 0)
  have cg := rdigit_any (s.getD (p : Int).toNat 0)
  cases hl : isLetter (s.getD p 0) with
  | true =>
    have hn : nextD s p = wordD s p := by unfold nextD; rw [hl, if_pos rfl]
    have cw := rword_any hs hp hl
    obtain ⟨x, a, b, hx⟩ := wordD_tup s p
    rw [hx] at cw hn
    rw [← et] at hl
    rw [hl] at cl
    iterate 40 (all_goals (try conv => whnf); all_goals (try first | with_reducible refine brY (by assumption) ?_ | with_reducible refine brN (by assumption) ?_ | (with_reducible refine brT ?_ ?_; · (simp only [Bool.and_eq_true, Bool.not_eq_true', decide_eq_true_eq, decide_eq_false_iff_not, beq_iff_eq, beq_eq_false_iff_ne, ne_eq] at *; omega)) | with_reducible refine br (fun _ => ?_) (fun _ => ?_) | with_reducible refine ⟨rfl, ?_⟩ | with_reducible refine ARound.succ ?_ | with_reducible refine PCall.call (cl) ?_ | with_reducible refine PCall.call (cw) ?_))
    exact leaf (by rw [hn]; rfl) (by rw [hn]; exact tlit _ _ _)
  | false =>
    have hl' := hl
    rw [← et] at hl'
    rw [hl'] at cl
    cases hg : isDigit (s.getD p 0) with
    | true =>
      have hn : nextD s p = numD s p := by unfold nextD; rw [hl, hg, if_neg (by decide), if_pos rfl]
      have cw := rnumber_any hs hp
      obtain ⟨x, a, b, hx⟩ := numD_tup s p
      rw [hx] at cw hn
      rw [← et] at hg
      rw [hg] at cg
      iterate 40 (all_goals (try conv => whnf); all_goals (try first | with_reducible refine brY (by assumption) ?_ | with_reducible refine brN (by assumption) ?_ | (with_reducible refine brT ?_ ?_; · (simp only [Bool.and_eq_true, Bool.not_eq_true', decide_eq_true_eq, decide_eq_false_iff_not, beq_iff_eq, beq_eq_false_iff_ne, ne_eq] at *; omega)) | with_reducible refine br (fun _ => ?_) (fun _ => ?_) | with_reducible refine ⟨rfl, ?_⟩ | with_reducible refine ARound.succ ?_ | with_reducible refine PCall.call (cl) ?_ | with_reducible refine PCall.call (cg) ?_ | with_reducible refine PCall.call (cw) ?_))
      exact leaf (by rw [hn]; rfl) (by rw [hn]; exact tlit _ _ _)
    | false =>
      have hg' := hg
      rw [← et] at hg'
      rw [hg'] at cg
      by_cases hq : s.getD p 0 = 39
      · have hn : nextD s p = textD s p := by unfold nextD; rw [hl, hg, if_neg (by decide), if_neg (by decide), if_pos hq]
        have cw := rtext_any hs hp
        obtain ⟨x, a, b, hx⟩ := textD_tup s p
        rw [hx] at cw hn
        have q : (((s.getD (p : Int).toNat 0).toNat : Int) == 39) = true := by rw [eb39, et, decide_eq_true hq]
        iterate 40 (all_goals (try conv => whnf); all_goals (try first | with_reducible refine brY (by assumption) ?_ | with_reducible refine brN (by assumption) ?_ | (with_reducible refine brT ?_ ?_; · (simp only [Bool.and_eq_true, Bool.not_eq_true', decide_eq_true_eq, decide_eq_false_iff_not, beq_iff_eq, beq_eq_false_iff_ne, ne_eq] at *; omega)) | with_reducible refine br (fun _ => ?_) (fun _ => ?_) | with_reducible refine ⟨rfl, ?_⟩ | with_reducible refine ARound.succ ?_ | with_reducible refine PCall.call (cl) ?_ | with_reducible refine PCall.call (cg) ?_ | with_reducible refine PCall.call (cw) ?_))
        exact leaf (by rw [hn]; rfl) (by rw [hn]; exact tlit _ _ _)
      · have hn : nextD s p = signT s p := by unfold nextD; rw [hl, hg, if_neg (by decide), if_neg (by decide), if_neg hq]
        have q : (((s.getD (p : Int).toNat 0).toNat : Int) == 39) = false := by rw [eb39, et, decide_eq_false hq]
        have e2 : IntKind.i64.wrap ((p : Int) + 2) = ((p + 2 : Nat) : Int) := by rw [w64 (by omega) (by omega)]; omega
        have e1 : IntKind.i64.wrap ((p : Int) + 1) = ((p + 1 : Nat) : Int) := w64add (by omega)
        have co := rone_any (s.getD (p : Int).toNat 0)
        have hb1 : (decide (0 ≤ (p : Int)) && decide ((p : Int) ≤ IntKind.i64.wrap ((p : Int) + 1)) && decide (IntKind.i64.wrap ((p : Int) + 1) ≤ (s.length : Int))) = true := by rw [e1]; simp only [Bool.and_eq_true, decide_eq_true_eq]; omega
        have t1 : List.take ((IntKind.i64.wrap ((p : Int) + 1)).toNat - (p : Int).toNat) (List.drop (p : Int).toNat s) = (s.drop p).take 1 := by rw [e1, et, Int.toNat_natCast]; congr 1; omega
        have g0 : (s.drop p).getD 0 0 = s.getD (p : Int).toNat 0 := by rw [getD_drop, et]; rfl
        have oneP : ∀ (h2 : ¬ (2 ≤ (s.drop p).length ∧ twoB ((s.drop p).take 2) = true)), signT s p = if oneC (s.getD (p : Int).toNat 0) then tupT (⟨4, (s.drop p).take 1, 0⟩, p) ((p + 1 : Nat) : Int) 0 else tupT tnull p 230 := fun h2 => by
          unfold signT signD
          rw [if_neg h2, g0]
          cases oneC (s.getD (p : Int).toNat 0) <;> rfl
        by_cases h2l : p + 2 ≤ s.length
        · have q2 : decide (IntKind.i64.wrap ((p : Int) + 2) ≤ (s.length : Int)) = true := decide_eq_true (by rw [e2]; omega)
          have hb2 : (decide (0 ≤ (p : Int)) && decide ((p : Int) ≤ IntKind.i64.wrap ((p : Int) + 2)) && decide (IntKind.i64.wrap ((p : Int) + 2) ≤ (s.length : Int))) = true := by rw [e2]; simp only [Bool.and_eq_true, decide_eq_true_eq]; omega
          have t2 : List.take ((IntKind.i64.wrap ((p : Int) + 2)).toNat - (p : Int).toNat) (List.drop (p : Int).toNat s) = (s.drop p).take 2 := by rw [e2, et, Int.toNat_natCast]; congr 1; omega
          have ct := rtwo_any (List.take ((IntKind.i64.wrap ((p : Int) + 2)).toNat - (p : Int).toNat) (List.drop (p : Int).toNat s))
          cases h2 : twoB ((s.drop p).take 2) with
          | true =>
            have hs2 : signT s p = tupT (⟨4, (s.drop p).take 2, 0⟩, p) ((p + 2 : Nat) : Int) 0 := by
              unfold signT signD
              rw [if_pos ⟨by rw [List.length_drop]; omega, h2⟩]
            rw [← t2] at h2
            rw [h2] at ct
            iterate 40 (all_goals (try conv => whnf); all_goals (try first | with_reducible refine brY (by assumption) ?_ | with_reducible refine brN (by assumption) ?_ | (with_reducible refine brT ?_ ?_; · (simp only [Bool.and_eq_true, Bool.not_eq_true', decide_eq_true_eq, decide_eq_false_iff_not, beq_iff_eq, beq_eq_false_iff_ne, ne_eq] at *; omega)) | with_reducible refine br (fun _ => ?_) (fun _ => ?_) | with_reducible refine ⟨rfl, ?_⟩ | with_reducible refine ARound.succ ?_ | with_reducible refine PCall.call (cl) ?_ | with_reducible refine PCall.call (cg) ?_ | with_reducible refine PCall.call (ct) ?_))
            exact leaf (by rw [hn, hs2, t2, e2]; rfl) (by rw [hn, hs2]; exact tlit _ _ _)
          | false =>
            have hs2 := oneP (by rw [h2]; simp)
            rw [← t2] at h2
            rw [h2] at ct
            cases hc1 : oneC (s.getD (p : Int).toNat 0) with
            | true =>
              rw [hc1, if_pos rfl] at hs2
              rw [hc1] at co
              iterate 40 (all_goals (try conv => whnf); all_goals (try first | with_reducible refine brY (by assumption) ?_ | with_reducible refine brN (by assumption) ?_ | (with_reducible refine brT ?_ ?_; · (simp only [Bool.and_eq_true, Bool.not_eq_true', decide_eq_true_eq, decide_eq_false_iff_not, beq_iff_eq, beq_eq_false_iff_ne, ne_eq] at *; omega)) | with_reducible refine br (fun _ => ?_) (fun _ => ?_) | with_reducible refine ⟨rfl, ?_⟩ | with_reducible refine ARound.succ ?_ | with_reducible refine PCall.call (cl) ?_ | with_reducible refine PCall.call (cg) ?_ | with_reducible refine PCall.call (ct) ?_ | with_reducible refine PCall.call (co) ?_))
              exact leaf (by rw [hn, hs2, t1, e1]; rfl) (by rw [hn, hs2]; exact tlit _ _ _)
            | false =>
              rw [hc1, if_neg (by decide)] at hs2
              rw [hc1] at co
              iterate 40 (all_goals (try conv => whnf); all_goals (try first | with_reducible refine brY (by assumption) ?_ | with_reducible refine brN (by assumption) ?_ | (with_reducible refine brT ?_ ?_; · (simp only [Bool.and_eq_true, Bool.not_eq_true', decide_eq_true_eq, decide_eq_false_iff_not, beq_iff_eq, beq_eq_false_iff_ne, ne_eq] at *; omega)) | with_reducible refine br (fun _ => ?_) (fun _ => ?_) | with_reducible refine ⟨rfl, ?_⟩ | with_reducible refine ARound.succ ?_ | with_reducible refine PCall.call (cl) ?_ | with_reducible refine PCall.call (cg) ?_ | with_reducible refine PCall.call (ct) ?_ | with_reducible refine PCall.call (co) ?_))
              exact leaf (by rw [hn, hs2]; rfl) (by rw [hn, hs2]; exact tlit _ _ _)
        · have q2 : decide (IntKind.i64.wrap ((p : Int) + 2) ≤ (s.length : Int)) = false := decide_eq_false (by rw [e2]; omega)
          have hs2 := oneP (by rw [List.length_drop]; omega)
          cases hc1 : oneC (s.getD (p : Int).toNat 0) with
          | true =>
            rw [hc1, if_pos rfl] at hs2
            rw [hc1] at co
            iterate 40 (all_goals (try conv => whnf); all_goals (try first | with_reducible refine brY (by assumption) ?_ | with_reducible refine brN (by assumption) ?_ | (with_reducible refine brT ?_ ?_; · (simp only [Bool.and_eq_true, Bool.not_eq_true', decide_eq_true_eq, decide_eq_false_iff_not, beq_iff_eq, beq_eq_false_iff_ne, ne_eq] at *; omega)) | with_reducible refine br (fun _ => ?_) (fun _ => ?_) | with_reducible refine ⟨rfl, ?_⟩ | with_reducible refine ARound.succ ?_ | with_reducible refine PCall.call (cl) ?_ | with_reducible refine PCall.call (cg) ?_ | with_reducible refine PCall.call (co) ?_))
            exact leaf (by rw [hn, hs2, t1, e1]; rfl) (by rw [hn, hs2]; exact tlit _ _ _)
          | false =>
            rw [hc1, if_neg (by decide)] at hs2
            rw [hc1] at co
            iterate 40 (all_goals (try conv => whnf); all_goals (try first | with_reducible refine brY (by assumption) ?_ | with_reducible refine brN (by assumption) ?_ | (with_reducible refine brT ?_ ?_; · (simp only [Bool.and_eq_true, Bool.not_eq_true', decide_eq_true_eq, decide_eq_false_iff_not, beq_iff_eq, beq_eq_false_iff_ne, ne_eq] at *; omega)) | with_reducible refine br (fun _ => ?_) (fun _ => ?_) | with_reducible refine ⟨rfl, ?_⟩ | with_reducible refine ARound.succ ?_ | with_reducible refine PCall.call (cl) ?_ | with_reducible refine PCall.call (cg) ?_ | with_reducible refine PCall.call (co) ?_))
            exact leaf (by rw [hn, hs2]; rfl) (by rw [hn, hs2]; exact tlit _ _ _)
/-- What is told at a place is the token that the text there begins with. -/
theorem next_ok {s : List UInt8} {p : Nat} {x : Tk} {n : Nat} (hp : p < s.length) (h : oneL (s.drop p) = .ok x n) : nextD s p = tupT (x, p) ((p + n : Nat) : Int) 0 := by
  rw [drop_cons hp] at h
  unfold oneL at h
  dsimp only at h
  rw [← drop_cons hp] at h
  unfold nextD
  split at h
  · rename_i hl
    rw [if_pos hl]
    rw [wordL_eq] at h
    unfold wordD
    split at h
    · cases h
    · rename_i h32
      cases h
      rw [if_neg h32]
      rfl
  · rename_i hl
    rw [if_neg hl]
    split at h
    · rename_i hg
      rw [if_pos hg]
      unfold numberL at h
      dsimp only at h
      unfold numD
      split at h
      · cases h
      · rename_i hn
        cases h
        rw [if_neg hn]
        rfl
    · rename_i hg
      rw [if_neg hg]
      split at h
      · rename_i hq
        have hq : s.getD p 0 = 39 := by simpa using hq
        rw [if_pos hq]
        rw [drop_cons hp, hq, textL_eq] at h
        unfold textD
        cases hu : unq (s.drop (p + 1)) with
        | none => rw [hu] at h; cases h
        | some y =>
          obtain ⟨b, m⟩ := y
          rw [hu] at h
          dsimp only
          replace h : (if (false || !Lib.validD b) = true then One.err 232 else if 64 < ([] ++ b).length then .err 3 else .ok ⟨3, [] ++ b, 0⟩ (1 + m)) = .ok x n := h
          split at h
          · cases h
          · rename_i h1
            split at h
            · cases h
            · rename_i h2
              cases h
              rw [if_neg (by simpa using h1), if_neg (by simpa using h2)]
              rw [show p + (1 + m) = p + 1 + m by omega]
              rfl
      · rename_i hq
        rw [if_neg (by simpa using hq)]
        rw [signD_eq (by rw [drop_cons hp]; simp)] at h
        unfold signT
        rw [h]
theorem next_err {s : List UInt8} {p : Nat} {e : Int} (hp : p < s.length) (h : oneL (s.drop p) = .err e) : ∃ j, nextD s p = tupT tnull j e := by
  rw [drop_cons hp] at h
  unfold oneL at h
  dsimp only at h
  rw [← drop_cons hp] at h
  unfold nextD
  split at h
  · rename_i hl
    rw [if_pos hl]
    rw [wordL_eq] at h
    unfold wordD
    split at h
    · rename_i h32
      cases h
      rw [if_pos h32]
      exact ⟨_, rfl⟩
    · cases h
  · rename_i hl
    rw [if_neg hl]
    split at h
    · rename_i hg
      rw [if_pos hg]
      unfold numberL at h
      dsimp only at h
      unfold numD
      split at h
      · rename_i hn
        cases h
        rw [if_pos hn]
        exact ⟨_, rfl⟩
      · cases h
    · rename_i hg
      rw [if_neg hg]
      split at h
      · rename_i hq
        have hq : s.getD p 0 = 39 := by simpa using hq
        rw [if_pos hq]
        rw [drop_cons hp, hq, textL_eq] at h
        unfold textD
        cases hu : unq (s.drop (p + 1)) with
        | none => rw [hu] at h; cases h; exact ⟨_, rfl⟩
        | some y =>
          obtain ⟨b, m⟩ := y
          rw [hu] at h
          dsimp only
          replace h : (if (false || !Lib.validD b) = true then One.err 232 else if 64 < ([] ++ b).length then .err 3 else .ok ⟨3, [] ++ b, 0⟩ (1 + m)) = .err e := h
          split at h
          · rename_i h1
            cases h
            rw [if_pos (by simpa using h1)]
            exact ⟨_, rfl⟩
          · rename_i h1
            split at h
            · rename_i h2
              cases h
              rw [if_neg (by simpa using h1), if_pos (by simpa using h2)]
              exact ⟨_, rfl⟩
            · cases h
      · rename_i hq
        rw [if_neg (by simpa using hq)]
        rw [signD_eq (by rw [drop_cons hp]; simp)] at h
        unfold signT
        rw [h]
        exact ⟨_, rfl⟩
end Go.Proofs.YtlhpbcbkkbjhoaaGreatDoor
namespace Go.Proofs.YtlhpbcbkkbjhoaaGreatDoor
open Ab Go.RowKit
set_option maxRecDepth 100000
set_option linter.unusedVariables false
set_option linter.unusedSimpArgs false
set_option maxHeartbeats 4000000
set_option pp.maxSteps 3000
attribute [local irreducible] appendK allLtK
theorem rlex_long {s : List UInt8} (hs : 65536 < s.length) : PCall Tryz.prog 6 [.str s] (.tup [.nils, fltS 3 (-1)]) := by
  refine pcall_of (lits1 (.str _)) (call6 rfl ?_)
  have h0 : decide ((65536 : Int) < (s.length : Int)) = true := decide_eq_true (by omega)
  iterate 10 (all_goals (try conv => whnf); all_goals (try first | with_reducible refine brY (by assumption) ?_ | with_reducible refine brN (by assumption) ?_ | (with_reducible refine brT ?_ ?_; · (simp only [Bool.and_eq_true, Bool.not_eq_true', decide_eq_true_eq, decide_eq_false_iff_not, beq_iff_eq, beq_eq_false_iff_ne, ne_eq] at *; omega)) | with_reducible refine br (fun _ => ?_) (fun _ => ?_) | with_reducible refine ⟨rfl, ?_⟩ | with_reducible refine ARound.succ ?_))
  exact leaf rfl (lit2 .nils (.agg (by simp only [List.mem_cons, List.not_mem_nil, or_false]; rintro _ (rfl | rfl) <;> constructor)))
theorem rlex_any {s : List UInt8} (hs : s.length ≤ 65536) : PCall Tryz.prog 6 [.str s] (lexS (lexL s)) := by
  refine pcall_of (lits1 (.str _)) (call6 rfl ?_)
  have h0 : decide ((65536 : Int) < (s.length : Int)) = false := decide_eq_false (by omega)
  iterate 10 (all_goals (try conv => whnf); all_goals (try first | with_reducible refine brY (by assumption) ?_ | with_reducible refine brN (by assumption) ?_ | (with_reducible refine brT ?_ ?_; · (simp only [Bool.and_eq_true, Bool.not_eq_true', decide_eq_true_eq, decide_eq_false_iff_not, beq_iff_eq, beq_eq_false_iff_ne, ne_eq] at *; omega)) | with_reducible refine br (fun _ => ?_) (fun _ => ?_) | with_reducible refine ⟨rfl, ?_⟩ | with_reducible refine ARound.succ ?_))
  refine loop_any (σ := LxS s) LxS.env LxS.hp LxS.mu LxS.nn (fun x => match x with | .E p _ => (by show 1 ≤ if _ then 1 else 4; split <;> decide) | .L .. => Nat.le_refl 4) ?_ (.E 0 ⟨by omega, by simp, s.length, by simp, by rw [addL_nil]; rfl⟩)
  rintro (⟨p, hI⟩ | ⟨p, g, x, ts, hI⟩)
  · obtain ⟨pl, tl, f, hf, hgo⟩ := id hI
    by_cases hl : p < s.length
    · have hd : decide ((p : Int) < (s.length : Int)) = true := decide_eq_true (by omega)
      have e7 : IntKind.i64.wrap ((p : Int) + 1) = ((p + 1 : Nat) : Int) := w64add (by omega)
      have et := Int.toNat_natCast p
      have ci := rblank_any (s.getD (p : Int).toNat 0)
      have hb : (decide (0 ≤ (p : Int)) && decide ((p : Int) < (s.length : Int))) = true := by simp only [Bool.and_eq_true, decide_eq_true_eq]; omega
      rw [List.length_drop] at hf
      obtain ⟨f, rfl⟩ : ∃ f', f = f' + 1 := ⟨f - 1, by omega⟩
      rw [lexGo_step (by rw [drop_cons hl]; simp), getD_drop, Nat.add_zero, List.drop_drop] at hgo
      cases hbl : isBlank (s.getD p 0)
      · rw [hbl, if_neg (by decide)] at hgo
        rw [show LxS.nn (LxS.E p hI) = 4 from if_neg (by rw [hbl]; decide)]
        rw [← et] at hbl
        rw [hbl] at ci
        cases ho : oneL (s.drop p) with
        | err e =>
          obtain ⟨j, hj⟩ := next_err hl ho
          have co := rnext_any hs hl
          rw [hj] at co
          have he := oneL_err ho
          have hne : (e != 0) = true := by rw [bne_iff_ne]; exact he
          rw [ho, addL_nil] at hgo
          iterate 24 (all_goals (try conv => whnf); all_goals (try first | with_reducible refine brY (by assumption) ?_ | with_reducible refine brN (by assumption) ?_ | (with_reducible refine brT ?_ ?_; · (simp only [Bool.and_eq_true, Bool.not_eq_true', decide_eq_true_eq, decide_eq_false_iff_not, beq_iff_eq, beq_eq_false_iff_ne, ne_eq] at *; omega)) | with_reducible refine br (fun _ => ?_) (fun _ => ?_) | with_reducible refine ⟨rfl, ?_⟩ | with_reducible refine ARound.succ ?_ | with_reducible refine PCall.call (ci) ?_ | with_reducible refine PCall.call (co) ?_))
          exact leaf (by rw [hgo]; rfl) (lexS_lit _)
        | ok x n =>
          have co := rnext_any hs hl
          rw [next_ok hl ho] at co
          obtain ⟨n1, n2, _⟩ := oneL_cut ho
          rw [List.length_drop] at n2
          rw [ho] at hgo
          dsimp only at hgo
          rw [addL_add, List.nil_append, List.drop_drop] at hgo
          iterate 40 (all_goals (try conv => whnf); all_goals (try first | with_reducible refine brY (by assumption) ?_ | with_reducible refine brN (by assumption) ?_ | (with_reducible refine brT ?_ ?_; · (simp only [Bool.and_eq_true, Bool.not_eq_true', decide_eq_true_eq, decide_eq_false_iff_not, beq_iff_eq, beq_eq_false_iff_ne, ne_eq] at *; omega)) | with_reducible refine br (fun _ => ?_) (fun _ => ?_) | with_reducible refine ⟨rfl, ?_⟩ | with_reducible refine ARound.succ ?_ | with_reducible refine PCall.call (ci) ?_ | with_reducible refine PCall.call (co) ?_ | (refine app_tok1 (v := (x, p)) ?_)))
          refine ⟨.L (p + n) 0 (x, p) [] ⟨by omega, by simp; omega, f, by rw [List.length_drop]; omega, hgo⟩, by simp only [LxS.mu]; omega, rfl, rfl⟩
      · rw [hbl, if_pos rfl] at hgo
        rw [show LxS.nn (LxS.E p hI) = 1 from if_pos hbl]
        rw [← et] at hbl
        rw [hbl] at ci
        iterate 24 (all_goals (try conv => whnf); all_goals (try first | with_reducible refine brY (by assumption) ?_ | with_reducible refine brN (by assumption) ?_ | (with_reducible refine brT ?_ ?_; · (simp only [Bool.and_eq_true, Bool.not_eq_true', decide_eq_true_eq, decide_eq_false_iff_not, beq_iff_eq, beq_eq_false_iff_ne, ne_eq] at *; omega)) | with_reducible refine br (fun _ => ?_) (fun _ => ?_) | with_reducible refine ⟨rfl, ?_⟩ | with_reducible refine ARound.succ ?_ | with_reducible refine PCall.call (ci) ?_))
        refine ⟨.E (p + 1) ⟨hl, by simp, f, by rw [List.length_drop]; omega, hgo⟩, by simp only [LxS.mu]; omega, by rw [e7], rfl⟩
    · have hd : decide ((p : Int) < (s.length : Int)) = false := decide_eq_false (by omega)
      have hnil : lexL s = .ok [] := by
        rw [hgo, List.drop_of_length_le (by omega)]
        cases f <;> rfl
      iterate 24 (all_goals (try conv => whnf); all_goals (try first | with_reducible refine brY (by assumption) ?_ | with_reducible refine brN (by assumption) ?_ | (with_reducible refine brT ?_ ?_; · (simp only [Bool.and_eq_true, Bool.not_eq_true', decide_eq_true_eq, decide_eq_false_iff_not, beq_iff_eq, beq_eq_false_iff_ne, ne_eq] at *; omega)) | with_reducible refine br (fun _ => ?_) (fun _ => ?_) | with_reducible refine ⟨rfl, ?_⟩ | with_reducible refine ARound.succ ?_))
      exact leaf (by rw [hnil]; rfl) (lexS_lit _)
  · obtain ⟨pl, tl, f, hf, hgo⟩ := id hI
    have qg : Nat.beq g g = true := nbeq_self g
    rw [show LxS.nn (LxS.L p g x ts hI) = 4 from rfl]
    simp only [List.length_cons] at tl
    by_cases hl : p < s.length
    · have hd : decide ((p : Int) < (s.length : Int)) = true := decide_eq_true (by omega)
      have e7 : IntKind.i64.wrap ((p : Int) + 1) = ((p + 1 : Nat) : Int) := w64add (by omega)
      have et := Int.toNat_natCast p
      have ci := rblank_any (s.getD (p : Int).toNat 0)
      have hb : (decide (0 ≤ (p : Int)) && decide ((p : Int) < (s.length : Int))) = true := by simp only [Bool.and_eq_true, decide_eq_true_eq]; omega
      rw [List.length_drop] at hf
      obtain ⟨f, rfl⟩ : ∃ f', f = f' + 1 := ⟨f - 1, by omega⟩
      rw [lexGo_step (by rw [drop_cons hl]; simp), getD_drop, Nat.add_zero, List.drop_drop] at hgo
      cases hbl : isBlank (s.getD p 0)
      · rw [hbl, if_neg (by decide)] at hgo
        rw [← et] at hbl
        rw [hbl] at ci
        cases ho : oneL (s.drop p) with
        | err e =>
          obtain ⟨j, hj⟩ := next_err hl ho
          have co := rnext_any hs hl
          rw [hj] at co
          have he := oneL_err ho
          have hne : (e != 0) = true := by rw [bne_iff_ne]; exact he
          rw [ho] at hgo
          iterate 24 (all_goals (try conv => whnf); all_goals (try first | with_reducible refine brY (by assumption) ?_ | with_reducible refine brN (by assumption) ?_ | (with_reducible refine brT ?_ ?_; · (simp only [Bool.and_eq_true, Bool.not_eq_true', decide_eq_true_eq, decide_eq_false_iff_not, beq_iff_eq, beq_eq_false_iff_ne, ne_eq] at *; omega)) | with_reducible refine br (fun _ => ?_) (fun _ => ?_) | with_reducible refine ⟨rfl, ?_⟩ | with_reducible refine ARound.succ ?_ | with_reducible refine PCall.call (ci) ?_ | with_reducible refine PCall.call (co) ?_))
          exact leaf (by rw [hgo]; rfl) (lexS_lit _)
        | ok y n =>
          have co := rnext_any hs hl
          rw [next_ok hl ho] at co
          obtain ⟨n1, n2, _⟩ := oneL_cut ho
          rw [List.length_drop] at n2
          rw [ho] at hgo
          dsimp only at hgo
          rw [addL_add, List.drop_drop] at hgo
          iterate 40 (all_goals (try conv => whnf); all_goals (try first | with_reducible refine brY (by assumption) ?_ | with_reducible refine brN (by assumption) ?_ | (with_reducible refine brT ?_ ?_; · (simp only [Bool.and_eq_true, Bool.not_eq_true', decide_eq_true_eq, decide_eq_false_iff_not, beq_iff_eq, beq_eq_false_iff_ne, ne_eq] at *; omega)) | with_reducible refine br (fun _ => ?_) (fun _ => ?_) | with_reducible refine ⟨rfl, ?_⟩ | with_reducible refine ARound.succ ?_ | with_reducible refine PCall.call (ci) ?_ | with_reducible refine PCall.call (co) ?_ | (refine app_tok (i := 3) (vs := x :: ts) (v := (y, p)) rfl (by omega) (by simp only [List.length_cons]; omega) ?_) | (refine allLtK_of lt_ts ?_) | (refine allLtK_of (lt_ts (s := x :: ts)) ?_) | (refine allLtK_of (lt_ts (s := x :: ts ++ [(y, p)])) ?_) | (refine allLtK_of (lt_one rfl) ?_)))
          refine ⟨.L (p + n) (g + 1) x (ts ++ [(y, p)]) ⟨by omega, by simp; omega, f, by rw [List.length_drop]; omega, hgo⟩, by simp only [LxS.mu]; omega, ?_, ?_⟩
          · simp
          · simp
      · rw [hbl, if_pos rfl] at hgo
        rw [← et] at hbl
        rw [hbl] at ci
        iterate 24 (all_goals (try conv => whnf); all_goals (try first | with_reducible refine brY (by assumption) ?_ | with_reducible refine brN (by assumption) ?_ | (with_reducible refine brT ?_ ?_; · (simp only [Bool.and_eq_true, Bool.not_eq_true', decide_eq_true_eq, decide_eq_false_iff_not, beq_iff_eq, beq_eq_false_iff_ne, ne_eq] at *; omega)) | with_reducible refine br (fun _ => ?_) (fun _ => ?_) | with_reducible refine ⟨rfl, ?_⟩ | with_reducible refine ARound.succ ?_ | with_reducible refine PCall.call (ci) ?_ | (refine allLtK_of lt_ts ?_) | (refine allLtK_of (lt_ts (s := x :: ts)) ?_) | (refine allLtK_of (lt_one rfl) ?_)))
        refine ⟨.L (p + 1) g x ts ⟨hl, by simp; omega, f, by rw [List.length_drop]; omega, hgo⟩, by simp only [LxS.mu]; omega, by rw [e7], rfl⟩
    · have hd : decide ((p : Int) < (s.length : Int)) = false := decide_eq_false (by omega)
      have hall : lexL s = .ok (x :: ts) := by
        rw [hgo, List.drop_of_length_le (by omega)]
        cases f <;> simp [lexGo, addL]
      iterate 24 (all_goals (try conv => whnf); all_goals (try first | with_reducible refine brY (by assumption) ?_ | with_reducible refine brN (by assumption) ?_ | (with_reducible refine brT ?_ ?_; · (simp only [Bool.and_eq_true, Bool.not_eq_true', decide_eq_true_eq, decide_eq_false_iff_not, beq_iff_eq, beq_eq_false_iff_ne, ne_eq] at *; omega)) | with_reducible refine br (fun _ => ?_) (fun _ => ?_) | with_reducible refine ⟨rfl, ?_⟩ | with_reducible refine ARound.succ ?_))
      refine ⟨_, rfl, ?_⟩
      rw [hall]
      show Hard _ _ (SV.tup [lstT (x :: ts), fltS 0 0])
      refine .tup rfl fun i v v' a b => ?_
      rcases i with _ | _ | i
      · cases a; cases b; exact hard_ts (s := x :: ts) rfl rfl
      · cases a; cases b; exact .lit (.agg (by simp only [List.mem_cons, List.not_mem_nil, or_false]; rintro _ (rfl | rfl) <;> constructor))
      · simp at a
end Go.Proofs.YtlhpbcbkkbjhoaaGreatDoor
namespace Ab
open Go
set_option linter.unusedVariables false
set_option linter.unusedSimpArgs false
/-- A text with a row in the place of each byte of a kind. -/
def repB (b : UInt8) (nw : List UInt8) : List UInt8 → List UInt8
  | [] => []
  | c :: r => (if c = b then nw else [c]) ++ repB b nw r
theorem repB_app (b : UInt8) (nw : List UInt8) : ∀ s t : List UInt8, repB b nw (s ++ t) = repB b nw s ++ repB b nw t
  | [], t => rfl
  | c :: r, t => by simp only [List.cons_append, repB, repB_app b nw r t, List.append_assoc]
theorem repB_none (b : UInt8) (nw : List UInt8) : ∀ s : List UInt8, s.count b = 0 → repB b nw s = s
  | [], _ => rfl
  | c :: r, h => by
    have hc : c ≠ b := fun e => by rw [e, List.count_cons_self] at h; omega
    rw [List.count_cons_of_ne hc] at h
    rw [repB, if_neg hc, repB_none b nw r h, List.singleton_append]
theorem repB_len (b : UInt8) {nw : List UInt8} {k : Nat} (hk : nw.length ≤ k) (h1 : 1 ≤ k) : ∀ s : List UInt8, (repB b nw s).length ≤ k * s.length
  | [] => by simp [repB]
  | c :: r => by
    have := repB_len b hk h1 r
    rw [repB, List.length_append, List.length_cons, Nat.mul_add, Nat.mul_one]
    split
    · omega
    · rw [List.length_singleton]; omega
theorem index_split (c : UInt8) : ∀ s : List UInt8, 0 < s.count c → ∃ p r, s = p ++ c :: r ∧ p.count c = 0 ∧ Lib.indexByte s c = (p.length : Int)
  | [], h => by simp at h
  | d :: s, h => by
    by_cases hd : d = c
    · subst hd
      exact ⟨[], s, rfl, rfl, by simp [Lib.indexByte]⟩
    · rw [List.count_cons_of_ne hd] at h
      obtain ⟨p, r, h1, h2, h3⟩ := index_split c s h
      refine ⟨d :: p, r, by rw [h1]; rfl, by rw [List.count_cons_of_ne hd, h2], ?_⟩
      rw [Lib.indexByte, if_neg (by simpa using hd), h3, if_neg (by simp only [beq_iff_eq]; omega), List.length_cons]
      omega
end Ab
namespace Go.Proofs.YtlhpbcbkkbjhoaaGreatDoor
open Ab Go.RowKit
set_option maxRecDepth 100000
set_option linter.unusedVariables false
set_option linter.unusedSimpArgs false
set_option pp.maxSteps 3000
theorem indexByte_any (s : List UInt8) (b : UInt8) : PCall Tryz.prog 24 [.str s, .int .u8 b.toNat] (.int .i64 (Lib.indexByte s b)) := by
  refine pcall_of (lits2 (.str _) (.int _ _)) (call24 rfl ?_)
  iterate 3 (all_goals (try conv => whnf); all_goals (try first | with_reducible refine brY (by assumption) ?_ | with_reducible refine brN (by assumption) ?_ | (with_reducible refine brT ?_ ?_; · (simp only [Bool.and_eq_true, Bool.not_eq_true', decide_eq_true_eq, decide_eq_false_iff_not, beq_iff_eq, beq_eq_false_iff_ne, ne_eq] at *; omega)) | with_reducible refine br (fun _ => ?_) (fun _ => ?_) | with_reducible refine ⟨rfl, ?_⟩ | with_reducible refine ARound.succ ?_))
  refine leaf ?_ (.int _ _)
  have e : (Int.toNat (b.toNat : Int)).toUInt8 = b := by rw [Int.toNat_natCast]; simp
  show SV.int .i64 (Lib.indexByte s (Int.toNat (b.toNat : Int)).toUInt8) = _
  rw [e]
theorem index_any (s : List UInt8) (b : UInt8) : PCall Tryz.prog 76 [.str s, .str [b]] (.int .i64 (Lib.indexByte s b)) := by
  have h1 : PCall Tryz.prog 97 [.str s, .str [b]] (.int .i64 (Lib.indexByte s b)) := by
    refine pcall_of (lits2 (.str _) (.str _)) (call97 rfl ?_)
    iterate 12 (all_goals (try conv => whnf); all_goals (try first | with_reducible refine brY (by assumption) ?_ | with_reducible refine brN (by assumption) ?_ | (with_reducible refine brT ?_ ?_; · (simp only [Bool.and_eq_true, Bool.not_eq_true', decide_eq_true_eq, decide_eq_false_iff_not, beq_iff_eq, beq_eq_false_iff_ne, ne_eq] at *; omega)) | with_reducible refine br (fun _ => ?_) (fun _ => ?_) | with_reducible refine ⟨rfl, ?_⟩ | with_reducible refine ARound.succ ?_ | with_reducible refine PCall.call (indexByte_any _ _) ?_))
    · rename_i h
      have h := beq_iff_eq.1 h
      subst h
      exact leaf (by simp [Lib.indexByte]) (.int _ _)
    · exact leaf rfl (.int _ _)
  refine pcall_of (lits2 (.str _) (.str _)) (call76 rfl ?_)
  iterate 3 (all_goals (try conv => whnf); all_goals (try first | with_reducible refine brY (by assumption) ?_ | with_reducible refine brN (by assumption) ?_ | (with_reducible refine brT ?_ ?_; · (simp only [Bool.and_eq_true, Bool.not_eq_true', decide_eq_true_eq, decide_eq_false_iff_not, beq_iff_eq, beq_eq_false_iff_ne, ne_eq] at *; omega)) | with_reducible refine br (fun _ => ?_) (fun _ => ?_) | with_reducible refine ⟨rfl, ?_⟩ | with_reducible refine ARound.succ ?_ | with_reducible refine PCall.call (h1) ?_))
  exact leaf rfl (.int _ _)
theorem grow_new {n : Int} {R : AEnd → Heap → Prop} (h0 : 0 < n) (hn : n ≤ 140737488355328) (hk : R (.ret (.tup [])) ⟨2, [(1, bufO 5 0 []), (0, bldO 55 0 1 0 0)]⟩) :
    ACall Tryz.prog 42 [.ref 0 0 0 0, .int .i64 n] ⟨1, [(0, .vec 0 2 [.agg [.nilp, .nils]] ⟨false, some 55⟩)]⟩ R := by
  refine call42 rfl ?_
  have q1 : decide (n < 0) = false := decide_eq_false (by omega)
  have e0 : IntKind.i64.wrap (0 - 0) = 0 := by decide
  have q2 : decide (IntKind.i64.wrap (0 - 0) < n) = true := by rw [e0]; exact decide_eq_true h0
  have e1 : IntKind.i64.wrap (IntKind.i64.wrap (2 * 0) + n) = n := by
    rw [show IntKind.i64.wrap (2 * 0) = 0 by decide, Int.zero_add, w64 (by omega) (by omega)]
  have q3 : (decide (0 ≤ IntKind.i64.wrap (IntKind.i64.wrap (2 * 0) + n)) && decide (IntKind.i64.wrap (IntKind.i64.wrap (2 * 0) + n) ≤ 140737488355328)) = true := by
    rw [e1, decide_eq_true (show 0 ≤ n by omega), decide_eq_true hn]; rfl
  iterate 30 (all_goals (try conv => whnf); all_goals (try first | with_reducible refine brY (by assumption) ?_ | with_reducible refine brN (by assumption) ?_ | (with_reducible refine brT ?_ ?_; · (simp only [Bool.and_eq_true, Bool.not_eq_true', decide_eq_true_eq, decide_eq_false_iff_not, beq_iff_eq, beq_eq_false_iff_ne, ne_eq] at *; omega)) | with_reducible refine br (fun _ => ?_) (fun _ => ?_) | with_reducible refine ⟨rfl, ?_⟩ | with_reducible refine ARound.succ ?_ | (refine call61 rfl ?_) | (refine call62 rfl ?_)))
  exact hk
theorem count_any (s : List UInt8) (b : UInt8) : PCall Tryz.prog 75 [.str s, .str [b]] (.int .i64 (s.count b)) := by
  refine pcall_of (lits2 (.str _) (.str _)) (call75 rfl ?_)
  iterate 8 (all_goals (try conv => whnf); all_goals (try first | with_reducible refine brY (by assumption) ?_ | with_reducible refine brN (by assumption) ?_ | (with_reducible refine brT ?_ ?_; · (simp only [Bool.and_eq_true, Bool.not_eq_true', decide_eq_true_eq, decide_eq_false_iff_not, beq_iff_eq, beq_eq_false_iff_ne, ne_eq] at *; omega)) | with_reducible refine br (fun _ => ?_) (fun _ => ?_) | with_reducible refine ⟨rfl, ?_⟩ | with_reducible refine ARound.succ ?_))
  refine leaf ?_ (.int _ _)
  have e : (Int.toNat (([b].getD (Int.toNat 0) 0).toNat : Int)).toUInt8 = b := by rw [Int.toNat_natCast]; simp
  show SV.int .i64 ((Lib.countByte s (Int.toNat (([b].getD (Int.toNat 0) 0).toNat : Int)).toUInt8 : Nat) : Int) = _
  rw [e]; rfl
theorem ltH2 {g n : Nat} {o : List UInt8} : ltH [(1, bufO 5 g o), (0, bldO 55 0 1 g n)] 2 := by
  intro i ob h
  unfold objL at h
  split at h
  · cases h; rename_i h; subst h; exact ⟨by omega, objLt_by⟩
  · unfold objL at h
    split at h
    · cases h; rename_i h; subst h; exact ⟨by omega, fun v hv => by simp only [List.mem_singleton] at hv; subst hv; rfl⟩
    · cases h
theorem ws2 {g : Nat} {o s : List UInt8} {R : AEnd → Heap → Prop} (hlen : o.length + s.length ≤ 140737488355328)
    (hk : ∀ g', R (.ret (.tup [.int .i64 s.length, .nili])) ⟨2, [(1, bufO 5 g' (o ++ s)), (0, bldO 55 0 1 g' (o ++ s).length)]⟩) :
    ACall Tryz.prog 43 [.ref 0 0 0 0, .str s] ⟨2, [(1, bufO 5 g o), (0, bldO 55 0 1 g o.length)]⟩ R :=
  ws_app (bi := 0) (j := 1) rfl rfl (by omega) (by omega) (by omega) ltH2 hlen hk
/-- Replacing: the state of its loop. -/
structure RpS (b : UInt8) (nw s : List UInt8) where
  k : Nat
  p : List UInt8
  r : List UInt8
  g : Nat
  hs : s = p ++ r
  hk : k + r.count b = s.count b
theorem replace_any {b : UInt8} {nw s : List UInt8} (hne : nw ≠ [b]) (h1 : 1 ≤ nw.length) (h4 : nw.length ≤ 4) (hs : s.length ≤ 1099511627776) :
    PCall Tryz.prog 60 [.str s, .str [b], .str nw, .int .i64 (-1)] (.str (repB b nw s)) := by
  refine pcall_of (lits4 (.str _) (.str _) (.str _) (.int _ _)) (call60 rfl ?_)
  have q1 : ([b] == nw) = false := beq_eq_false_iff_ne.2 fun h => hne h.symm
  by_cases hc : s.count b = 0
  · have q2 : (((s.count b : Nat) : Int) == 0) = true := by rw [beq_iff_eq]; omega
    iterate 12 (all_goals (try conv => whnf); all_goals (try first | with_reducible refine brY (by assumption) ?_ | with_reducible refine brN (by assumption) ?_ | (with_reducible refine brT ?_ ?_; · (simp only [Bool.and_eq_true, Bool.not_eq_true', decide_eq_true_eq, decide_eq_false_iff_not, beq_iff_eq, beq_eq_false_iff_ne, ne_eq] at *; omega)) | with_reducible refine br (fun _ => ?_) (fun _ => ?_) | with_reducible refine ⟨rfl, ?_⟩ | with_reducible refine ARound.succ ?_ | with_reducible refine PCall.call (count_any _ _) ?_))
    exact leaf (by rw [repB_none b nw s hc]) (.str _)
  have q2 : (((s.count b : Nat) : Int) == 0) = false := by rw [beq_eq_false_iff_ne]; omega
  have hcl : s.count b ≤ s.length := List.count_le_length
  have hm : s.count b * (nw.length - 1) ≤ s.length * 3 := Nat.mul_le_mul hcl (by omega)
  have em : ((s.count b : Nat) : Int) * ((nw.length : Int) - 1) = ((s.count b * (nw.length - 1) : Nat) : Int) := by
    rw [Int.natCast_mul, show ((nw.length - 1 : Nat) : Int) = (nw.length : Int) - 1 by omega]
  have en : IntKind.i64.wrap ((s.length : Int) + IntKind.i64.wrap (((s.count b : Nat) : Int) * IntKind.i64.wrap ((nw.length : Int) - 1))) = ((s.length + s.count b * (nw.length - 1) : Nat) : Int) := by
    rw [w64 (x := (nw.length : Int) - 1) (by omega) (by omega), em, w64 (x := ((s.count b * (nw.length - 1) : Nat) : Int)) (by omega) (by omega), w64 (by omega) (by omega)]
    omega
  have hpos : 0 < s.length := by omega
  have gr : ∀ {R : AEnd → Heap → Prop}, R (.ret (.tup [])) ⟨2, [(1, bufO 5 0 []), (0, bldO 55 0 1 0 0)]⟩ → ACall Tryz.prog 42 [.ref 0 0 0 0, .int .i64 (IntKind.i64.wrap ((s.length : Int) + IntKind.i64.wrap (((s.count b : Nat) : Int) * IntKind.i64.wrap ((nw.length : Int) - 1))))] ⟨1, [(0, .vec 0 2 [.agg [.nilp, .nils]] ⟨false, some 55⟩)]⟩ R := fun h => by
    rw [en]; exact grow_new (by omega) (by omega) h
  iterate 20 (all_goals (try conv => whnf); all_goals (try first | with_reducible refine brY (by assumption) ?_ | with_reducible refine brN (by assumption) ?_ | (with_reducible refine brT ?_ ?_; · (simp only [Bool.and_eq_true, Bool.not_eq_true', decide_eq_true_eq, decide_eq_false_iff_not, beq_iff_eq, beq_eq_false_iff_ne, ne_eq] at *; omega)) | with_reducible refine br (fun _ => ?_) (fun _ => ?_) | with_reducible refine ⟨rfl, ?_⟩ | with_reducible refine ARound.succ ?_ | with_reducible refine PCall.call (count_any _ _) ?_ | (refine gr ?_)))
  refine loop_ind (σ := RpS b nw s) (fun q => [(0, SV.str s), (1, SV.str [b]), (2, SV.str nw), (3, SV.int IntKind.i64 ((s.count b : Nat) : Int)), (8, SV.str []), (22, SV.bool false), (9, SV.int IntKind.i64 ((s.count b : Nat) : Int)), (28, SV.bool false), (36, SV.bool true), (10, SV.ref 0 0 0 0), (11, SV.int IntKind.i64 q.p.length), (51, SV.bool true), (52, SV.int IntKind.i64 ((s.count b : Nat) : Int)), (53, SV.int IntKind.i64 q.k)])
    (fun q => ⟨2, [(1, bufO 5 q.g (repB b nw q.p)), (0, bldO 55 0 1 q.g (repB b nw q.p).length)]⟩) (fun q => s.count b - q.k) ?_ ⟨0, [], s, 0, rfl, by omega⟩
  rintro ⟨k, p, r, g, hpr, hk⟩
  dsimp only
  have hpl : p.length + r.length = s.length := by rw [hpr, List.length_append]
  have hrp := repB_len b (nw := nw) (k := 4) h4 (by omega) p
  by_cases hlt : k < s.count b
  · have hd : decide ((k : Int) < ((s.count b : Nat) : Int)) = true := decide_eq_true (by omega)
    obtain ⟨q, r', e1, e2, e3⟩ := index_split b r (by omega)
    have hql : q.length + (r'.length + 1) = r.length := by rw [e1]; simp
    have es : (s.drop (p.length : Int).toNat).take ((s.length : Int).toNat - (p.length : Int).toNat) = r := by
      rw [Int.toNat_natCast, Int.toNat_natCast, List.take_of_length_le (by simp), hpr, List.drop_left]
    have ci : PCall Tryz.prog 76 [.str ((s.drop (p.length : Int).toNat).take ((s.length : Int).toNat - (p.length : Int).toNat)), .str [b]] (.int .i64 q.length) := by
      rw [es, ← e3]; exact index_any _ _
    have ej : IntKind.i64.wrap ((p.length : Int) + (q.length : Int)) = ((p.length + q.length : Nat) : Int) := by rw [w64 (by omega) (by omega)]; omega
    have e5 : IntKind.i64.wrap (IntKind.i64.wrap ((p.length : Int) + (q.length : Int)) + (([b].length : Nat) : Int)) = ((p.length + (q.length + 1) : Nat) : Int) := by rw [List.length_singleton, ej, w64 (by omega) (by omega)]; omega
    have e8 : repB b nw (p ++ (q ++ [b])) = repB b nw p ++ q ++ nw := by
      rw [repB_app, repB_app, repB_none b nw q e2, List.append_assoc]
      simp [repB]
    have eq : (s.drop (p.length : Int).toNat).take ((IntKind.i64.wrap ((p.length : Int) + (q.length : Int))).toNat - (p.length : Int).toNat) = q := by
      rw [ej, Int.toNat_natCast, Int.toNat_natCast, Nat.add_sub_cancel_left, hpr, List.drop_left, e1, List.take_left]
    have e7 : IntKind.i64.wrap ((k : Int) + 1) = ((k + 1 : Nat) : Int) := w64add (by omega)
    iterate 30 (all_goals (try conv => whnf); all_goals (try first | with_reducible refine brY (by assumption) ?_ | with_reducible refine brN (by assumption) ?_ | (with_reducible refine brT ?_ ?_; · (simp only [Bool.and_eq_true, Bool.not_eq_true', decide_eq_true_eq, decide_eq_false_iff_not, beq_iff_eq, beq_eq_false_iff_ne, ne_eq] at *; omega)) | with_reducible refine br (fun _ => ?_) (fun _ => ?_) | with_reducible refine ⟨rfl, ?_⟩ | with_reducible refine ARound.succ ?_ | with_reducible refine PCall.call (ci) ?_ | (rw [eq]; refine ws2 (by omega) (fun g1 => ?_)) | (refine ws2 (by rw [List.length_append]; omega) (fun g2 => ?_))))
    refine ⟨⟨k + 1, p ++ (q ++ [b]), r', g2, by rw [hpr, e1]; simp, by rw [e1, List.count_append, List.count_cons_self, e2] at hk; omega⟩, by dsimp only; omega, ?_, ?_⟩
    · rw [e7, e5]; simp only [List.length_append, List.length_singleton]
    · dsimp only; rw [e8]
  · have hd : decide ((k : Int) < ((s.count b : Nat) : Int)) = false := decide_eq_false (by omega)
    have hr0 : r.count b = 0 := by have : r.count b ≤ s.count b := by rw [hpr, List.count_append]; omega
                                   omega
    have es : (s.drop (p.length : Int).toNat).take ((s.length : Int).toNat - (p.length : Int).toNat) = r := by
      rw [Int.toNat_natCast, Int.toNat_natCast, List.take_of_length_le (by simp), hpr, List.drop_left]
    have e8 : repB b nw s = repB b nw p ++ r := by rw [hpr, repB_app, repB_none b nw r hr0]
    have hp0 : 0 < (repB b nw p ++ r).length := by
      rw [← e8]
      obtain ⟨q, r', e1, e2, e3⟩ := index_split b s (by omega)
      rw [e1, repB_app, repB, if_pos rfl]
      simp only [List.length_append]; omega
    iterate 30 (all_goals (try conv => whnf); all_goals (try first | with_reducible refine brY (by assumption) ?_ | with_reducible refine brN (by assumption) ?_ | (with_reducible refine brT ?_ ?_; · (simp only [Bool.and_eq_true, Bool.not_eq_true', decide_eq_true_eq, decide_eq_false_iff_not, beq_iff_eq, beq_eq_false_iff_ne, ne_eq] at *; omega)) | with_reducible refine br (fun _ => ?_) (fun _ => ?_) | with_reducible refine ⟨rfl, ?_⟩ | with_reducible refine ARound.succ ?_ | (rw [es]; refine ws2 (by omega) (fun g1 => ?_)) | (refine bs_str (g := g1) (o := repB b nw p ++ r) rfl rfl hp0 (by rw [List.length_append]; omega) (fun l' => ?_))))
    exact leaf (by rw [e8]) (.str _)
theorem replaceAll_any {b : UInt8} {nw s : List UInt8} (hne : nw ≠ [b]) (h1 : 1 ≤ nw.length) (h4 : nw.length ≤ 4) (hs : s.length ≤ 1099511627776) :
    PCall Tryz.prog 41 [.str s, .str [b], .str nw] (.str (repB b nw s)) := by
  refine pcall_of (lits3 (.str _) (.str _) (.str _)) (call41 rfl ?_)
  iterate 4 (all_goals (try conv => whnf); all_goals (try first | with_reducible refine brY (by assumption) ?_ | with_reducible refine brN (by assumption) ?_ | (with_reducible refine brT ?_ ?_; · (simp only [Bool.and_eq_true, Bool.not_eq_true', decide_eq_true_eq, decide_eq_false_iff_not, beq_iff_eq, beq_eq_false_iff_ne, ne_eq] at *; omega)) | with_reducible refine br (fun _ => ?_) (fun _ => ?_) | with_reducible refine ⟨rfl, ?_⟩ | with_reducible refine ARound.succ ?_ | with_reducible refine PCall.call (replace_any hne h1 h4 hs) ?_))
  exact leaf rfl (.str _)
end Go.Proofs.YtlhpbcbkkbjhoaaGreatDoor
namespace Go.Proofs.YtlhpbcbkkbjhoaaGreatDoor
open Ab Go.RowKit
set_option maxRecDepth 100000
set_option linter.unusedVariables false
set_option linter.unusedSimpArgs false
set_option maxHeartbeats 4000000
set_option pp.maxSteps 3000
attribute [local irreducible] appendK allLtK
theorem lives_any : PCall Tryz.prog 4 [] (.bool true) := by
  refine pcall_of (fun _ h => by simp at h) (call4 rfl ?_)
  have hl := lex_any (s := [83, 69, 76, 69, 67, 84, 32, 97, 49, 44, 39, 105, 116, 39, 39, 115, 39]) (by decide)
  have e : lexL [83, 69, 76, 69, 67, 84, 32, 97, 49, 44, 39, 105, 116, 39, 39, 115, 39] = .ok [(⟨1, [115, 101, 108, 101, 99, 116], 0⟩, 0), (⟨1, [97, 49], 0⟩, 7), (⟨4, [44], 0⟩, 9), (⟨3, [105, 116, 39, 115], 0⟩, 10)] := by rfl
  rw [e] at hl
  iterate 60 (all_goals (try conv => whnf); all_goals (try first | with_reducible refine brY (by assumption) ?_ | with_reducible refine brN (by assumption) ?_ | (with_reducible refine brT ?_ ?_; · (simp only [Bool.and_eq_true, Bool.not_eq_true', decide_eq_true_eq, decide_eq_false_iff_not, beq_iff_eq, beq_eq_false_iff_ne, ne_eq] at *; omega)) | with_reducible refine br (fun _ => ?_) (fun _ => ?_) | with_reducible refine ⟨rfl, ?_⟩ | with_reducible refine ARound.succ ?_ | with_reducible refine PCall.call (hl) ?_ | (refine call9 rfl ?_) | with_reducible refine loop_rounds 6 ?_))
  exact leaf rfl (.bool _)
theorem lexGo_err0 : ∀ (f : Nat) (s : List UInt8) (p : Nat) (e : Int) (a : Nat), lexGo f s p = .error (e, a) → e ≠ 0
  | 0, _, _, _, _, h => by simp [lexGo] at h
  | f+1, [], _, _, _, h => by simp [lexGo] at h
  | f+1, c :: r, p, e, a, h => by
    rw [lexGo] at h
    split at h
    · exact lexGo_err0 f r (p + 1) e a h
    · split at h
      · rename_i ho
        cases h
        exact oneL_err ho
      · split at h
        · rename_i hl
          cases h
          exact lexGo_err0 f _ _ e a hl
        · cases h
theorem lexed_len : ∀ {s : List UInt8} {p : Nat} {l : List TP}, Lexed s p l → l.length ≤ s.length := by
  intro s p l h
  induction h with
  | none h => simp
  | some hb hc ho h ih =>
    obtain ⟨h1, h2, _⟩ := oneL_cut ho
    rw [List.length_drop] at ih
    simp only [List.length_cons, List.length_append]
    omega
end Go.Proofs.YtlhpbcbkkbjhoaaGreatDoor
namespace Go.Proofs.YtlhpbcbkkbjhoaaGreatDoor
set_option linter.unusedVariables false
set_option linter.unusedSimpArgs false
open Go.Shelf Go.RowKit Go.Sort Go.Lib
theorem holds_zero0 (w : World) (T : TypeId) (nd : Nat) (hs : nd ≤ 24) : Holds (fun (b : UInt8) => Value.int .u8 (b.toNat : Int)) (w.alloc (.cells Lib.zeros24 T)) w.heap.size 0 (Array.replicate nd (0 : UInt8)) := fun j hj => by
  have hj' : j < nd := by simpa using hj
  refine ⟨?_, World.frozen?_alloc_new _ _ _ _⟩
  rw [World.cell?_alloc_new, zeros24_at _ (by omega), getElem!_pos _ j hj]
  simp
theorem fin_pos0 (w : World) (o : Obj) (dk : Array UInt8) (k : Nat) : ∃ os, (putRow (fun (b : UInt8) => Value.int .u8 (b.toNat : Int)) (w.alloc o) w.heap.size 0 dk).drewN k = grow (w.drewN k) os := by
  rw [alloc_eq_grow]
  obtain ⟨os', _, e⟩ := putRow_grow_new (fun (b : UInt8) => Value.int .u8 (b.toNat : Int)) w #[o] w.heap.size 0 dk (Nat.le_refl _)
  exact ⟨os', by rw [e]; rfl⟩
set_option maxHeartbeats 6400000 in
set_option maxRecDepth 100000 in
theorem formatUint_in (u : Nat) (hu64 : u < 18446744073709551616) (w : World) (htab : Lib.TabIs Tryz.prog w "internal/strconv.uint64pow10" .u64 Lib.pow10Tab) :
    Calls Tryz.prog 59 #[.int .u64 u, .int .i64 10] w fun e w' => e = .returned (.string ⟨(Lib.decDigits u).toArray⟩) ∧ ∃ k os, w' = grow (w.drewN k) os := by
  have e283 : ∀ args w, (callFunc 71 args).run Tryz.prog w = .ok (.enter 71 args) w := enters_of Tryz.func71 (by kernel_rfl) rfl
  have e284 : ∀ args w, (callFunc 72 args).run Tryz.prog w = .ok (.enter 72 args) w := enters_of Tryz.func72 (by kernel_rfl) rfl
  have e285 : ∀ args w, (callFunc 73 args).run Tryz.prog w = .ok (.enter 73 args) w := enters_of Tryz.func73 (by kernel_rfl) rfl
  by_cases hs : u < 100
  · go_enter Tryz.func59, Tryz.ntmps59
    go_wp2_with (go_at_fn (71); refine (Any.internal_strconv_small Tryz.lays283 u hs _).mono ?_; rintro e w' ⟨rfl, rfl⟩)
    go_ret
    exact ⟨rfl, 0, #[], by simp [World.drewN_zero]⟩
  · have hu1 : 1 ≤ u := by omega
    have hnd20 : Lib.nDigits u ≤ 20 := by have := Lib.numDigits_eq u hu1 hu64; split at this <;> omega
    have hb3 : Lib.nDigits u ≤ 24 := by omega
    have L := Tryz.lays285
    have hal : Tryz.prog.arrayLen 88 = 24 := by kernel_rfl
    have t171 := Tryz.underlying88
    have hsl1 : ∀ W, (Instr.sliceAt 88 (.pointer (some ⟨w.heap.size, 0, none⟩)) none (some (.int .i64 (Lib.nDigits u : Int))) none).run Tryz.prog W = .ok (.slice (some ⟨w.heap.size, 0, none⟩) (Lib.nDigits u) 24) W := fun W => by
      rw [run_sliceAt_array_h W 88 ⟨w.heap.size, 0, none⟩ (by kernel_rfl) .i64 (Lib.nDigits u : Int) (by omega) (by rw [hal]; omega)]
      go_simp
    have hH0 := holds_zero0 w 88 (Lib.nDigits u) (by omega)
    have hfmt := Any.internal_strconv_formatBase10 L w.heap.size 0 24 u (Array.replicate (Lib.nDigits u) 0) (w.alloc (.cells Lib.zeros24 88)) hH0 (by rw [Array.size_replicate]; exact Lib.lt_pow_nDigits u) hu64 (by rw [Array.size_replicate]; omega)
    rw [Array.size_replicate] at hfmt
    have HH0 := Lib.hid hH0
    clear hH0 hal
    go_enter Tryz.func59, Tryz.ntmps59
    go_wp2_with (first
      | (go_at_fn (72); refine (Any.internal_strconv_numDigits Tryz.laysM284 u hu1 hu64 _ (Lib.tabIs_alloc htab _)).mono ?_; rintro e w' ⟨rfl, rfl⟩))
    go_at_fn (73)
    refine hfmt.mono ?_
    rintro e w' ⟨rfl, k, v', dk, rfl, hF⟩
    have hcv : (convert 47 9 (.slice (some ⟨w.heap.size, 0, none⟩) (Lib.nDigits u) 24)).run Tryz.prog ((putRow (fun (b : UInt8) => Value.int .u8 (b.toNat : Int)) (w.alloc (.cells Lib.zeros24 88)) w.heap.size 0 dk).drewN k) = .ok (.string ⟨(Lib.decDigits u).toArray⟩) ((putRow (fun (b : UInt8) => Value.int .u8 (b.toNat : Int)) (w.alloc (.cells Lib.zeros24 88)) w.heap.size 0 dk).drewN k) := by
      have h := run_convert_bytes_back (P := Tryz.prog) ((putRow (fun (b : UInt8) => Value.int .u8 (b.toNat : Int)) (w.alloc (.cells Lib.zeros24 88)) w.heap.size 0 dk).drewN k) 47 9 5 ⟨w.heap.size, 0, none⟩ 24 (Lib.decDigits u) Tryz.underlying47 Tryz.underlying5 Tryz.underlying9 (fun j hj => by
        rw [Lib.row_is_numeral hF j hj, Lib.add_plain, World.cell?_drewN]
        exact cell?_putRow (fun (b : UInt8) => Value.int .u8 (b.toNat : Int)) _ w.heap.size 0 _ dk HH0.out (by rw [hF.size, Array.size_replicate]) j (by rw [hF.size]; rw [Lib.decDigits_length] at hj; exact hj))
      rw [Lib.decDigits_length] at h
      exact h
    go_wp2
    go_ret
    obtain ⟨os, eo⟩ := fin_pos0 w (.cells Lib.zeros24 88) dk k
    exact ⟨rfl, k, os, eo⟩
end Go.Proofs.YtlhpbcbkkbjhoaaGreatDoor
