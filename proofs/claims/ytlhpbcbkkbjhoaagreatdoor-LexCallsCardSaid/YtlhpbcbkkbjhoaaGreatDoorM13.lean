/- Parts of the proof of PLexCalls, one behind the other. -/
import Derived.Test.YtlhpbcbkkbjhoaaGreatDoorM12
namespace Go.Proofs.YtlhpbcbkkbjhoaaGreatDoor
open Ab Go.RowKit
set_option maxRecDepth 100000
set_option linter.unusedVariables false
set_option linter.unusedSimpArgs false
set_option maxHeartbeats 4000000
set_option pp.maxSteps 3000
attribute [local irreducible] appendK allLtK
theorem app_b1 {m : Nat} {c : SV} (hc : allOne c.cells = true) {sk : Sk} {l : List (Nat × AObj)} {k : SV → Heap → Prop}
    (hk : k (.sl (m + 1) 0 1 0 1 none) ⟨m + 2, (m + 1, .vec 0 1 [c] ⟨true, some 5⟩) :: (m, .vec 0 1 [c] sk) :: l⟩) :
    appendK 5 1 1 ⟨m + 1, (m, .vec 0 1 [c] sk) :: l⟩ .nils (.sl m 0 1 0 1 (some 1)) k :=
  append_new (elems_all objL_hd rfl) (by simp) (by simp [allOnes, hc]) (by simp) (by simp) hk
theorem lt_by1 {n : Nat} {s : List UInt8} {c : Int} : ∀ v ∈ s.map byS ++ [SV.int .u8 c], SV.lt 8 n v = true := by
  intro v hv
  rcases List.mem_append.1 hv with h | h
  · exact lt_by v h
  · exact lt_one rfl v h
theorem bytesK_run2 {s : List UInt8} {xs : List SV} {k : List UInt8 → Prop} (e : xs = s.map byS) (hk : k s) : bytesK xs k := by rw [e]; exact bytesK_run hk
def upI (m : Int) : Bool := decide (65 ≤ m) && decide (m ≤ 90)
theorem case_low (c : UInt8) : SV.int .u8 (if upI c.toNat = true then IntKind.u8.wrap ((c.toNat : Int) + 32) else c.toNat) = byS (lowB c) := by
  have : ∀ n : Fin 256, (if upI (UInt8.ofNat n.val).toNat = true then IntKind.u8.wrap (((UInt8.ofNat n.val).toNat : Int) + 32) else (UInt8.ofNat n.val).toNat) = ((lowB (UInt8.ofNat n.val)).toNat : Int) := by decide +kernel
  have h := this ⟨c.toNat, UInt8.toNat_lt c⟩
  simp only [UInt8.ofNat_toNat] at h
  rw [h]
@[reducible] def wordW (s : List UInt8) (p : Nat) : List UInt8 := (s.drop p).takeWhile isWordC
def wordD (s : List UInt8) (p : Nat) : SV := if 32 < (wordW s p).length then .tup [tokP tnull, .int .i64 ((p + (wordW s p).length : Nat) : Int), .int .i64 3] else .tup [tokP (⟨1, (wordW s p).map lowB, 0⟩, p), .int .i64 ((p + (wordW s p).length : Nat) : Int), .int .i64 0]
theorem wordD_lit (s : List UInt8) (p : Nat) : LitV (wordD s p) := by unfold wordD; split <;> exact lit3 (tokP_lit _) (.int _ _) (.int _ _)
@[reducible] def bufL (s : List UInt8) (p j : Nat) : List UInt8 := ((s.drop p).take j).map lowB
inductive WS (s : List UInt8) (p : Nat) where
  | E
  | L (j g : Nat) (h1 : 0 < j) (hj : j ≤ (wordW s p).length)
@[reducible] def WS.env {s : List UInt8} {p : Nat} : WS s p → Env
  | .E => [(0, SV.str s), (1, SV.int IntKind.i64 p), (4, SV.ref 0 0 0 0), (5, SV.int IntKind.i64 0), (6, SV.int IntKind.i64 0), (7, SV.nils), (8, SV.int IntKind.i64 p)]
  | .L j g _ _ => [(0, SV.str s), (1, SV.int IntKind.i64 p), (4, SV.ref 0 0 0 0), (5, SV.int IntKind.i64 0), (6, SV.int IntKind.i64 0), (7, SV.sl 2 g 1 0 (bufL s p j).length none), (8, SV.int IntKind.i64 (p + j : Nat))]
@[reducible] def WS.hp {s : List UInt8} {p : Nat} : WS s p → Heap
  | .E => ⟨1, [(0, tok0)]⟩
  | .L j g _ _ => ⟨3, [(2, .vec g 1 ((bufL s p j).map byS) ⟨true, some 5⟩), (1, .vec 0 1 [byS (lowB (s.getD p 0))] ⟨false, some 5⟩), (0, tok0)]⟩
def WS.mu {s : List UInt8} {p : Nat} : WS s p → Nat
  | .E => (wordW s p).length + 1
  | .L j _ _ _ => (wordW s p).length - j
theorem buf_succ {s : List UInt8} {p j : Nat} (h : p + j < s.length) : bufL s p (j + 1) = bufL s p j ++ [lowB (s.getD (p + j) 0)] := by
  unfold bufL
  rw [List.take_add_one, List.map_append, List.getElem?_drop, List.getElem?_eq_getElem h]
  simp [List.getD, h]
theorem buf_len {s : List UInt8} {p j : Nat} (h : p + j ≤ s.length) : (bufL s p j).length = j := by
  unfold bufL
  rw [List.length_map, List.length_take, List.length_drop]
  omega
theorem rword_any {s : List UInt8} {p : Nat} (hs : s.length ≤ 65536) (hp : p < s.length) (h0 : isLetter (s.getD p 0) = true) : PCall Tryz.prog 33 [.str s, .int .i64 p] (wordD s p) := by
  refine pcall_of (lits2 (.str _) (.int _ _)) (call33 rfl ?_)
  have hle : (wordW s p).length ≤ s.length - p := by
    have := takeWhile_le (p := isWordC) (s.drop p)
    rw [List.length_drop] at this
    exact this
  have hw0 : 0 < (wordW s p).length := by
    unfold wordW
    rw [drop_cons hp, List.takeWhile_cons, if_pos (by unfold isWordC; rw [h0]; rfl)]
    simp
  iterate 10 (all_goals (try conv => whnf); all_goals (try first | with_reducible refine brY (by assumption) ?_ | with_reducible refine brN (by assumption) ?_ | (with_reducible refine brT ?_ ?_; · (simp only [Bool.and_eq_true, Bool.not_eq_true', decide_eq_true_eq, decide_eq_false_iff_not, beq_iff_eq, beq_eq_false_iff_ne, ne_eq] at *; omega)) | with_reducible refine br (fun _ => ?_) (fun _ => ?_) | with_reducible refine ⟨rfl, ?_⟩ | with_reducible refine ARound.succ ?_))
  refine loop_any (σ := WS s p) WS.env WS.hp WS.mu (fun _ => 3) (fun x => match x with | .E => (by show 1 ≤ 3; decide) | .L .. => Nat.le_refl 3) ?_ .E
  have hgen : ∀ j, j ≤ (wordW s p).length → p + j < s.length → (isWordC (s.getD (p + j) 0) = true ↔ j < (wordW s p).length) := fun j h1 h2 => by
    have := tw_lt (p := isWordC) (l := s.drop p) (n := j) h1 (by rw [List.length_drop]; omega)
    rw [getD_drop] at this
    exact this
  rintro (_ | ⟨j, g, h1, hj⟩)
  · have hd : decide ((p : Int) < (s.length : Int)) = true := decide_eq_true (by omega)
    have hb : (decide (0 ≤ (p : Int)) && decide ((p : Int) < (s.length : Int))) = true := by simp only [Bool.and_eq_true, decide_eq_true_eq]; omega
    have e7 : IntKind.i64.wrap ((p : Int) + 1) = ((p + 1 : Nat) : Int) := w64add (by omega)
    have et := Int.toNat_natCast p
    have cl := rletter_any (s.getD (p : Int).toNat 0)
    have hl : isLetter (s.getD (p : Int).toNat 0) = true := by rw [et]; exact h0
    rw [hl] at cl
    have hbl := buf_len (s := s) (p := p) (j := 1) (by omega)
    have hbs := buf_succ (s := s) (p := p) (j := 0) (by omega)
    have hb0 : bufL s p 0 = [] := rfl
    rw [hb0, List.nil_append] at hbs
    dsimp only [WS.env, WS.hp]
    have hu := case_low (s.getD (p) 0)
    by_cases u1 : (65 : Int) ≤ ((s.getD (p) 0).toNat : Int)
    · have q1 : decide (65 ≤ ((s.getD ((p : Nat) : Int).toNat 0).toNat : Int)) = true := by rw [et]; exact decide_eq_true u1
      by_cases u2 : ((s.getD (p) 0).toNat : Int) ≤ 90
      · have q2 : decide (((s.getD ((p : Nat) : Int).toNat 0).toNat : Int) ≤ 90) = true := by rw [et]; exact decide_eq_true u2
        rw [show upI (s.getD (p) 0).toNat = true by unfold upI; rw [decide_eq_true u1, decide_eq_true u2]; rfl, if_pos rfl] at hu
        iterate 40 (all_goals (try conv => whnf); all_goals (try first | with_reducible refine brY (by assumption) ?_ | with_reducible refine brN (by assumption) ?_ | (with_reducible refine brT ?_ ?_; · (simp only [Bool.and_eq_true, Bool.not_eq_true', decide_eq_true_eq, decide_eq_false_iff_not, beq_iff_eq, beq_eq_false_iff_ne, ne_eq] at *; omega)) | with_reducible refine br (fun _ => ?_) (fun _ => ?_) | with_reducible refine ⟨rfl, ?_⟩ | with_reducible refine ARound.succ ?_ | with_reducible refine PCall.call (cl) ?_ | (refine app_b1 rfl ?_)))
        refine ⟨.L 1 0 (by omega) hw0, (by show (wordW s p).length - 1 < (wordW s p).length + 1; omega), (by dsimp only [WS.env]; rw [hbl, e7]), ?_⟩
        dsimp only [WS.hp]
        rw [hbs]
        exact congrArg (fun z => Heap.mk 3 [(2, .vec 0 1 [z] ⟨true, some 5⟩), (1, .vec 0 1 [z] ⟨false, some 5⟩), (0, tok0)]) hu
      · have q2 : decide (((s.getD ((p : Nat) : Int).toNat 0).toNat : Int) ≤ 90) = false := by rw [et]; exact decide_eq_false u2
        rw [show upI (s.getD (p) 0).toNat = false by unfold upI; rw [decide_eq_false u2, Bool.and_false], if_neg (by decide)] at hu
        iterate 40 (all_goals (try conv => whnf); all_goals (try first | with_reducible refine brY (by assumption) ?_ | with_reducible refine brN (by assumption) ?_ | (with_reducible refine brT ?_ ?_; · (simp only [Bool.and_eq_true, Bool.not_eq_true', decide_eq_true_eq, decide_eq_false_iff_not, beq_iff_eq, beq_eq_false_iff_ne, ne_eq] at *; omega)) | with_reducible refine br (fun _ => ?_) (fun _ => ?_) | with_reducible refine ⟨rfl, ?_⟩ | with_reducible refine ARound.succ ?_ | with_reducible refine PCall.call (cl) ?_ | (refine app_b1 rfl ?_)))
        refine ⟨.L 1 0 (by omega) hw0, (by show (wordW s p).length - 1 < (wordW s p).length + 1; omega), (by dsimp only [WS.env]; rw [hbl, e7]), ?_⟩
        dsimp only [WS.hp]
        rw [hbs]
        exact congrArg (fun z => Heap.mk 3 [(2, .vec 0 1 [z] ⟨true, some 5⟩), (1, .vec 0 1 [z] ⟨false, some 5⟩), (0, tok0)]) hu
    · have q1 : decide (65 ≤ ((s.getD ((p : Nat) : Int).toNat 0).toNat : Int)) = false := by rw [et]; exact decide_eq_false u1
      rw [show upI (s.getD (p) 0).toNat = false by unfold upI; rw [decide_eq_false u1, Bool.false_and], if_neg (by decide)] at hu
      iterate 40 (all_goals (try conv => whnf); all_goals (try first | with_reducible refine brY (by assumption) ?_ | with_reducible refine brN (by assumption) ?_ | (with_reducible refine brT ?_ ?_; · (simp only [Bool.and_eq_true, Bool.not_eq_true', decide_eq_true_eq, decide_eq_false_iff_not, beq_iff_eq, beq_eq_false_iff_ne, ne_eq] at *; omega)) | with_reducible refine br (fun _ => ?_) (fun _ => ?_) | with_reducible refine ⟨rfl, ?_⟩ | with_reducible refine ARound.succ ?_ | with_reducible refine PCall.call (cl) ?_ | (refine app_b1 rfl ?_)))
      refine ⟨.L 1 0 (by omega) hw0, (by show (wordW s p).length - 1 < (wordW s p).length + 1; omega), (by dsimp only [WS.env]; rw [hbl, e7]), ?_⟩
      dsimp only [WS.hp]
      rw [hbs]
      exact congrArg (fun z => Heap.mk 3 [(2, .vec 0 1 [z] ⟨true, some 5⟩), (1, .vec 0 1 [z] ⟨false, some 5⟩), (0, tok0)]) hu
  · dsimp only [WS.env, WS.hp]
    have qg : Nat.beq g g = true := nbeq_self g
    have e7 : IntKind.i64.wrap (((p + j : Nat) : Int) + 1) = ((p + (j + 1) : Nat) : Int) := w64add (by omega)
    have et := Int.toNat_natCast (p + j)
    by_cases hl : p + j < s.length
    · have hd : decide (((p + j : Nat) : Int) < (s.length : Int)) = true := decide_eq_true (by omega)
      have hb : (decide (0 ≤ ((p + j : Nat) : Int)) && decide (((p + j : Nat) : Int) < (s.length : Int))) = true := by simp only [Bool.and_eq_true, decide_eq_true_eq]; omega
      have cl := rletter_any (s.getD ((p + j : Nat) : Int).toNat 0)
      have cg := rdigit_any (s.getD ((p + j : Nat) : Int).toNat 0)
      have hj2 := hgen j hj hl
      by_cases hw : isWordC (s.getD (p + j) 0) = true
      · have hjw := hj2.1 hw
        have hbs := buf_succ (s := s) (p := p) (j := j) hl
        have hbl := buf_len (s := s) (p := p) (j := j) (by omega)
        unfold isWordC at hw
        have cond : (isLetter (s.getD ((p + j : Nat) : Int).toNat 0) = true) ∨ (isLetter (s.getD ((p + j : Nat) : Int).toNat 0) = false ∧ isDigit (s.getD ((p + j : Nat) : Int).toNat 0) = true) := by
          rw [et]
          cases hL : isLetter (s.getD (p + j) 0) with
          | true => exact .inl rfl
          | false => rw [hL] at hw; exact .inr ⟨rfl, by simpa using hw⟩
        rcases cond with c1 | ⟨c1, c2⟩
        · rw [c1] at cl
          have hu := case_low (s.getD (p + j) 0)
          by_cases u1 : (65 : Int) ≤ ((s.getD (p + j) 0).toNat : Int)
          · have q1 : decide (65 ≤ ((s.getD ((p + j : Nat) : Int).toNat 0).toNat : Int)) = true := by rw [et]; exact decide_eq_true u1
            by_cases u2 : ((s.getD (p + j) 0).toNat : Int) ≤ 90
            · have q2 : decide (((s.getD ((p + j : Nat) : Int).toNat 0).toNat : Int) ≤ 90) = true := by rw [et]; exact decide_eq_true u2
              rw [show upI (s.getD (p + j) 0).toNat = true by unfold upI; rw [decide_eq_true u1, decide_eq_true u2]; rfl, if_pos rfl] at hu
              iterate 40 (all_goals (try conv => whnf); all_goals (try first | with_reducible refine brY (by assumption) ?_ | with_reducible refine brN (by assumption) ?_ | (with_reducible refine brT ?_ ?_; · (simp only [Bool.and_eq_true, Bool.not_eq_true', decide_eq_true_eq, decide_eq_false_iff_not, beq_iff_eq, beq_eq_false_iff_ne, ne_eq] at *; omega)) | with_reducible refine br (fun _ => ?_) (fun _ => ?_) | with_reducible refine ⟨rfl, ?_⟩ | with_reducible refine ARound.succ ?_ | with_reducible refine PCall.call (cl) ?_ | (refine append_one (o := bufL s p j) (i := 2) rfl (by omega) rfl (by omega) ?_) | (refine allLtK_of lt_by1 ?_) | (refine allLtK_of (lt_one rfl) ?_)))
              refine ⟨.L (j + 1) (g + 1) (by omega) hjw, (by show (wordW s p).length - (j + 1) < (wordW s p).length - j; omega), (by dsimp only [WS.env]; rw [hbs, e7, List.length_append]; rfl), ?_⟩
              dsimp only [WS.hp]
              rw [hbs, List.map_append]
              exact congrArg (fun z => Heap.mk 3 [(2, .vec (g + 1) 1 ((bufL s p j).map byS ++ [z]) ⟨true, some 5⟩), (1, .vec 0 1 [byS (lowB (s.getD p 0))] ⟨false, some 5⟩), (0, tok0)]) hu
            · have q2 : decide (((s.getD ((p + j : Nat) : Int).toNat 0).toNat : Int) ≤ 90) = false := by rw [et]; exact decide_eq_false u2
              rw [show upI (s.getD (p + j) 0).toNat = false by unfold upI; rw [decide_eq_false u2, Bool.and_false], if_neg (by decide)] at hu
              iterate 40 (all_goals (try conv => whnf); all_goals (try first | with_reducible refine brY (by assumption) ?_ | with_reducible refine brN (by assumption) ?_ | (with_reducible refine brT ?_ ?_; · (simp only [Bool.and_eq_true, Bool.not_eq_true', decide_eq_true_eq, decide_eq_false_iff_not, beq_iff_eq, beq_eq_false_iff_ne, ne_eq] at *; omega)) | with_reducible refine br (fun _ => ?_) (fun _ => ?_) | with_reducible refine ⟨rfl, ?_⟩ | with_reducible refine ARound.succ ?_ | with_reducible refine PCall.call (cl) ?_ | (refine append_one (o := bufL s p j) (i := 2) rfl (by omega) rfl (by omega) ?_) | (refine allLtK_of lt_by1 ?_) | (refine allLtK_of (lt_one rfl) ?_)))
              refine ⟨.L (j + 1) (g + 1) (by omega) hjw, (by show (wordW s p).length - (j + 1) < (wordW s p).length - j; omega), (by dsimp only [WS.env]; rw [hbs, e7, List.length_append]; rfl), ?_⟩
              dsimp only [WS.hp]
              rw [hbs, List.map_append]
              exact congrArg (fun z => Heap.mk 3 [(2, .vec (g + 1) 1 ((bufL s p j).map byS ++ [z]) ⟨true, some 5⟩), (1, .vec 0 1 [byS (lowB (s.getD p 0))] ⟨false, some 5⟩), (0, tok0)]) hu
          · have q1 : decide (65 ≤ ((s.getD ((p + j : Nat) : Int).toNat 0).toNat : Int)) = false := by rw [et]; exact decide_eq_false u1
            rw [show upI (s.getD (p + j) 0).toNat = false by unfold upI; rw [decide_eq_false u1, Bool.false_and], if_neg (by decide)] at hu
            iterate 40 (all_goals (try conv => whnf); all_goals (try first | with_reducible refine brY (by assumption) ?_ | with_reducible refine brN (by assumption) ?_ | (with_reducible refine brT ?_ ?_; · (simp only [Bool.and_eq_true, Bool.not_eq_true', decide_eq_true_eq, decide_eq_false_iff_not, beq_iff_eq, beq_eq_false_iff_ne, ne_eq] at *; omega)) | with_reducible refine br (fun _ => ?_) (fun _ => ?_) | with_reducible refine ⟨rfl, ?_⟩ | with_reducible refine ARound.succ ?_ | with_reducible refine PCall.call (cl) ?_ | (refine append_one (o := bufL s p j) (i := 2) rfl (by omega) rfl (by omega) ?_) | (refine allLtK_of lt_by1 ?_) | (refine allLtK_of (lt_one rfl) ?_)))
            refine ⟨.L (j + 1) (g + 1) (by omega) hjw, (by show (wordW s p).length - (j + 1) < (wordW s p).length - j; omega), (by dsimp only [WS.env]; rw [hbs, e7, List.length_append]; rfl), ?_⟩
            dsimp only [WS.hp]
            rw [hbs, List.map_append]
            exact congrArg (fun z => Heap.mk 3 [(2, .vec (g + 1) 1 ((bufL s p j).map byS ++ [z]) ⟨true, some 5⟩), (1, .vec 0 1 [byS (lowB (s.getD p 0))] ⟨false, some 5⟩), (0, tok0)]) hu
        · rw [c1] at cl
          rw [c2] at cg
          have hu := case_low (s.getD (p + j) 0)
          by_cases u1 : (65 : Int) ≤ ((s.getD (p + j) 0).toNat : Int)
          · have q1 : decide (65 ≤ ((s.getD ((p + j : Nat) : Int).toNat 0).toNat : Int)) = true := by rw [et]; exact decide_eq_true u1
            by_cases u2 : ((s.getD (p + j) 0).toNat : Int) ≤ 90
            · have q2 : decide (((s.getD ((p + j : Nat) : Int).toNat 0).toNat : Int) ≤ 90) = true := by rw [et]; exact decide_eq_true u2
              rw [show upI (s.getD (p + j) 0).toNat = true by unfold upI; rw [decide_eq_true u1, decide_eq_true u2]; rfl, if_pos rfl] at hu
              iterate 40 (all_goals (try conv => whnf); all_goals (try first | with_reducible refine brY (by assumption) ?_ | with_reducible refine brN (by assumption) ?_ | (with_reducible refine brT ?_ ?_; · (simp only [Bool.and_eq_true, Bool.not_eq_true', decide_eq_true_eq, decide_eq_false_iff_not, beq_iff_eq, beq_eq_false_iff_ne, ne_eq] at *; omega)) | with_reducible refine br (fun _ => ?_) (fun _ => ?_) | with_reducible refine ⟨rfl, ?_⟩ | with_reducible refine ARound.succ ?_ | with_reducible refine PCall.call (cl) ?_ | with_reducible refine PCall.call (cg) ?_ | (refine append_one (o := bufL s p j) (i := 2) rfl (by omega) rfl (by omega) ?_) | (refine allLtK_of lt_by1 ?_) | (refine allLtK_of (lt_one rfl) ?_)))
              refine ⟨.L (j + 1) (g + 1) (by omega) hjw, (by show (wordW s p).length - (j + 1) < (wordW s p).length - j; omega), (by dsimp only [WS.env]; rw [hbs, e7, List.length_append]; rfl), ?_⟩
              dsimp only [WS.hp]
              rw [hbs, List.map_append]
              exact congrArg (fun z => Heap.mk 3 [(2, .vec (g + 1) 1 ((bufL s p j).map byS ++ [z]) ⟨true, some 5⟩), (1, .vec 0 1 [byS (lowB (s.getD p 0))] ⟨false, some 5⟩), (0, tok0)]) hu
            · have q2 : decide (((s.getD ((p + j : Nat) : Int).toNat 0).toNat : Int) ≤ 90) = false := by rw [et]; exact decide_eq_false u2
              rw [show upI (s.getD (p + j) 0).toNat = false by unfold upI; rw [decide_eq_false u2, Bool.and_false], if_neg (by decide)] at hu
              iterate 40 (all_goals (try conv => whnf); all_goals (try first | with_reducible refine brY (by assumption) ?_ | with_reducible refine brN (by assumption) ?_ | (with_reducible refine brT ?_ ?_; · (simp only [Bool.and_eq_true, Bool.not_eq_true', decide_eq_true_eq, decide_eq_false_iff_not, beq_iff_eq, beq_eq_false_iff_ne, ne_eq] at *; omega)) | with_reducible refine br (fun _ => ?_) (fun _ => ?_) | with_reducible refine ⟨rfl, ?_⟩ | with_reducible refine ARound.succ ?_ | with_reducible refine PCall.call (cl) ?_ | with_reducible refine PCall.call (cg) ?_ | (refine append_one (o := bufL s p j) (i := 2) rfl (by omega) rfl (by omega) ?_) | (refine allLtK_of lt_by1 ?_) | (refine allLtK_of (lt_one rfl) ?_)))
              refine ⟨.L (j + 1) (g + 1) (by omega) hjw, (by show (wordW s p).length - (j + 1) < (wordW s p).length - j; omega), (by dsimp only [WS.env]; rw [hbs, e7, List.length_append]; rfl), ?_⟩
              dsimp only [WS.hp]
              rw [hbs, List.map_append]
              exact congrArg (fun z => Heap.mk 3 [(2, .vec (g + 1) 1 ((bufL s p j).map byS ++ [z]) ⟨true, some 5⟩), (1, .vec 0 1 [byS (lowB (s.getD p 0))] ⟨false, some 5⟩), (0, tok0)]) hu
          · have q1 : decide (65 ≤ ((s.getD ((p + j : Nat) : Int).toNat 0).toNat : Int)) = false := by rw [et]; exact decide_eq_false u1
            rw [show upI (s.getD (p + j) 0).toNat = false by unfold upI; rw [decide_eq_false u1, Bool.false_and], if_neg (by decide)] at hu
            iterate 40 (all_goals (try conv => whnf); all_goals (try first | with_reducible refine brY (by assumption) ?_ | with_reducible refine brN (by assumption) ?_ | (with_reducible refine brT ?_ ?_; · (simp only [Bool.and_eq_true, Bool.not_eq_true', decide_eq_true_eq, decide_eq_false_iff_not, beq_iff_eq, beq_eq_false_iff_ne, ne_eq] at *; omega)) | with_reducible refine br (fun _ => ?_) (fun _ => ?_) | with_reducible refine ⟨rfl, ?_⟩ | with_reducible refine ARound.succ ?_ | with_reducible refine PCall.call (cl) ?_ | with_reducible refine PCall.call (cg) ?_ | (refine append_one (o := bufL s p j) (i := 2) rfl (by omega) rfl (by omega) ?_) | (refine allLtK_of lt_by1 ?_) | (refine allLtK_of (lt_one rfl) ?_)))
            refine ⟨.L (j + 1) (g + 1) (by omega) hjw, (by show (wordW s p).length - (j + 1) < (wordW s p).length - j; omega), (by dsimp only [WS.env]; rw [hbs, e7, List.length_append]; rfl), ?_⟩
            dsimp only [WS.hp]
            rw [hbs, List.map_append]
            exact congrArg (fun z => Heap.mk 3 [(2, .vec (g + 1) 1 ((bufL s p j).map byS ++ [z]) ⟨true, some 5⟩), (1, .vec 0 1 [byS (lowB (s.getD p 0))] ⟨false, some 5⟩), (0, tok0)]) hu
      · have hw' := Bool.eq_false_iff.2 hw
        unfold isWordC at hw'
        rw [Bool.or_eq_false_iff] at hw'
        rw [← et] at hw'
        rw [hw'.1] at cl
        rw [hw'.2] at cg
        have hW : j = (wordW s p).length := by rcases Nat.lt_or_ge j (wordW s p).length with h | h; exact absurd (hj2.2 h) hw; omega
        have ew : bufL s p j = (wordW s p).map lowB := by unfold bufL wordW; rw [hW, tw_take]
        have hbl := buf_len (s := s) (p := p) (j := j) (by omega)
        rw [hbl]
        by_cases h32 : 32 < j
        · have q9 : decide ((32 : Int) < (j : Int)) = true := decide_eq_true (by omega)
          have ed : wordD s p = .tup [tokP tnull, .int .i64 ((p + j : Nat) : Int), .int .i64 3] := by unfold wordD; rw [← hW, if_pos h32]
          rw [ed]
          iterate 50 (all_goals (try conv => whnf); all_goals (try first | with_reducible refine brY (by assumption) ?_ | with_reducible refine brN (by assumption) ?_ | (with_reducible refine brT ?_ ?_; · (simp only [Bool.and_eq_true, Bool.not_eq_true', decide_eq_true_eq, decide_eq_false_iff_not, beq_iff_eq, beq_eq_false_iff_ne, ne_eq] at *; omega)) | with_reducible refine br (fun _ => ?_) (fun _ => ?_) | with_reducible refine ⟨rfl, ?_⟩ | with_reducible refine ARound.succ ?_ | with_reducible refine PCall.call (cl) ?_ | with_reducible refine PCall.call (cg) ?_))
          exact leaf rfl (lit3 (tokP_lit _) (.int _ _) (.int _ _))
        · have q9 : decide ((32 : Int) < (j : Int)) = false := decide_eq_false (by omega)
          have ed : wordD s p = .tup [tokP (⟨1, bufL s p j, 0⟩, p), .int .i64 ((p + j : Nat) : Int), .int .i64 0] := by unfold wordD; rw [← hW, if_neg h32, ew]
          rw [ed]
          iterate 50 (all_goals (try conv => whnf); all_goals (try first | with_reducible refine brY (by assumption) ?_ | with_reducible refine brN (by assumption) ?_ | (with_reducible refine brT ?_ ?_; · (simp only [Bool.and_eq_true, Bool.not_eq_true', decide_eq_true_eq, decide_eq_false_iff_not, beq_iff_eq, beq_eq_false_iff_ne, ne_eq] at *; omega)) | with_reducible refine br (fun _ => ?_) (fun _ => ?_) | with_reducible refine ⟨rfl, ?_⟩ | with_reducible refine ARound.succ ?_ | with_reducible refine PCall.call (cl) ?_ | with_reducible refine PCall.call (cg) ?_ | (refine dropN_run (Nat.zero_le _) ?_) | (refine takeN_all (by rw [List.drop_zero, List.length_map, hbl]) ?_) | (refine bytesK_run2 (s := bufL s p j) (by rw [List.drop_zero]) ?_)))
          exact leaf rfl (lit3 (tokP_lit _) (.int _ _) (.int _ _))
    · have hd : decide (((p + j : Nat) : Int) < (s.length : Int)) = false := decide_eq_false (by omega)
      have hW : j = (wordW s p).length := by omega
      have ew : bufL s p j = (wordW s p).map lowB := by unfold bufL wordW; rw [hW, tw_take]
      have hbl := buf_len (s := s) (p := p) (j := j) (by omega)
      rw [hbl]
      by_cases h32 : 32 < j
      · have q9 : decide ((32 : Int) < (j : Int)) = true := decide_eq_true (by omega)
        have ed : wordD s p = .tup [tokP tnull, .int .i64 ((p + j : Nat) : Int), .int .i64 3] := by unfold wordD; rw [← hW, if_pos h32]
        rw [ed]
        iterate 50 (all_goals (try conv => whnf); all_goals (try first | with_reducible refine brY (by assumption) ?_ | with_reducible refine brN (by assumption) ?_ | (with_reducible refine brT ?_ ?_; · (simp only [Bool.and_eq_true, Bool.not_eq_true', decide_eq_true_eq, decide_eq_false_iff_not, beq_iff_eq, beq_eq_false_iff_ne, ne_eq] at *; omega)) | with_reducible refine br (fun _ => ?_) (fun _ => ?_) | with_reducible refine ⟨rfl, ?_⟩ | with_reducible refine ARound.succ ?_ | with_reducible refine PCall.call (rdigit_any 0) ?_))
        exact leaf rfl (lit3 (tokP_lit _) (.int _ _) (.int _ _))
      · have q9 : decide ((32 : Int) < (j : Int)) = false := decide_eq_false (by omega)
        have ed : wordD s p = .tup [tokP (⟨1, bufL s p j, 0⟩, p), .int .i64 ((p + j : Nat) : Int), .int .i64 0] := by unfold wordD; rw [← hW, if_neg h32, ew]
        rw [ed]
        iterate 50 (all_goals (try conv => whnf); all_goals (try first | with_reducible refine brY (by assumption) ?_ | with_reducible refine brN (by assumption) ?_ | (with_reducible refine brT ?_ ?_; · (simp only [Bool.and_eq_true, Bool.not_eq_true', decide_eq_true_eq, decide_eq_false_iff_not, beq_iff_eq, beq_eq_false_iff_ne, ne_eq] at *; omega)) | with_reducible refine br (fun _ => ?_) (fun _ => ?_) | with_reducible refine ⟨rfl, ?_⟩ | with_reducible refine ARound.succ ?_ | with_reducible refine PCall.call (rdigit_any 0) ?_ | (refine dropN_run (Nat.zero_le _) ?_) | (refine takeN_all (by rw [List.drop_zero, List.length_map, hbl]) ?_) | (refine bytesK_run2 (s := bufL s p j) (by rw [List.drop_zero]) ?_)))
        exact leaf rfl (lit3 (tokP_lit _) (.int _ _) (.int _ _))
end Go.Proofs.YtlhpbcbkkbjhoaaGreatDoor
namespace Go.Proofs.YtlhpbcbkkbjhoaaGreatDoor
open Ab Go.RowKit
set_option maxRecDepth 100000
set_option linter.unusedVariables false
set_option linter.unusedSimpArgs false
set_option maxHeartbeats 4000000
set_option pp.maxSteps 3000
@[reducible] def digW (s : List UInt8) (p : Nat) : List UInt8 := (s.drop p).takeWhile isDigit
def numD (s : List UInt8) (p : Nat) : SV := if 9223372036854775808 < numOf (digW s p) then .tup [tokP tnull, .int .i64 ((p + (digW s p).length : Nat) : Int), .int .i64 233] else .tup [tokP (⟨2, [], numOf (digW s p)⟩, p), .int .i64 ((p + (digW s p).length : Nat) : Int), .int .i64 0]
theorem numD_lit (s : List UInt8) (p : Nat) : LitV (numD s p) := by unfold numD; split <;> exact lit3 (tokP_lit _) (.int _ _) (.int _ _)
theorem num_succ {s : List UInt8} {p j : Nat} (h : p + j < s.length) : numOf ((s.drop p).take (j + 1)) = 10 * numOf ((s.drop p).take j) + ((s.getD (p + j) 0).toNat - 48) := by
  rw [List.take_add_one, List.getElem?_drop, List.getElem?_eq_getElem h]
  unfold numOf
  rw [Option.toList_some, List.foldl_append]
  simp [List.getD, h]
structure NS (s : List UInt8) (p : Nat) where
  j : Nat
  n : Int
  bad : Bool
  hj : j ≤ (digW s p).length
  hn : (bad = true ∧ 9223372036854775808 < numOf ((s.drop p).take j)) ∨ (bad = false ∧ n = (numOf ((s.drop p).take j) : Nat) ∧ numOf ((s.drop p).take j) ≤ 9223372036854775808)
theorem dig_val (c : UInt8) (h : isDigit c = true) : IntKind.u64.wrap (IntKind.u8.wrap ((c.toNat : Int) - 48)) = ((c.toNat - 48 : Nat) : Int) ∧ c.toNat - 48 < 10 := by
  have : ∀ n : Fin 256, isDigit (UInt8.ofNat n.val) = true → IntKind.u64.wrap (IntKind.u8.wrap (((UInt8.ofNat n.val).toNat : Int) - 48)) = (((UInt8.ofNat n.val).toNat - 48 : Nat) : Int) ∧ (UInt8.ofNat n.val).toNat - 48 < 10 := by decide +kernel
  have h2 := this ⟨c.toNat, UInt8.toNat_lt c⟩
  simp only [UInt8.ofNat_toNat] at h2
  exact h2 h
theorem rnumber_any {s : List UInt8} {p : Nat} (hs : s.length ≤ 65536) (hp : p < s.length) : PCall Tryz.prog 35 [.str s, .int .i64 p] (numD s p) := by
  refine pcall_of (lits2 (.str _) (.int _ _)) (call35 rfl ?_)
  have hle : (digW s p).length ≤ s.length - p := by
    have := takeWhile_le (p := isDigit) (s.drop p)
    rw [List.length_drop] at this
    exact this
  iterate 12 (all_goals (try conv => whnf); all_goals (try first | with_reducible refine brY (by assumption) ?_ | with_reducible refine brN (by assumption) ?_ | (with_reducible refine brT ?_ ?_; · (simp only [Bool.and_eq_true, Bool.not_eq_true', decide_eq_true_eq, decide_eq_false_iff_not, beq_iff_eq, beq_eq_false_iff_ne, ne_eq] at *; omega)) | with_reducible refine br (fun _ => ?_) (fun _ => ?_) | with_reducible refine ⟨rfl, ?_⟩ | with_reducible refine ARound.succ ?_))
  refine loop_ind (σ := NS s p) (fun y => [(0, SV.str s), (1, SV.int IntKind.i64 p), (4, SV.ref 0 0 0 0), (5, SV.int IntKind.i64 0), (6, SV.int IntKind.i64 0), (7, SV.int IntKind.i64 (p + y.j : Nat)), (8, SV.int IntKind.u64 y.n), (9, SV.bool y.bad)])
    (fun _ => ⟨1, [(0, tok0)]⟩) (fun y => (digW s p).length - y.j) ?_ ⟨0, 0, false, by omega, .inr ⟨rfl, rfl, Nat.zero_le _⟩⟩
  rintro ⟨j, n, bad, hj, hn⟩
  dsimp only
  have e7 : IntKind.i64.wrap (((p + j : Nat) : Int) + 1) = ((p + (j + 1) : Nat) : Int) := w64add (by omega)
  have et := Int.toNat_natCast (p + j)
  have fin : ∀ hW : j = (digW s p).length, (bad = true → numD s p = .tup [tokP tnull, .int .i64 ((p + j : Nat) : Int), .int .i64 233]) ∧ (bad = false → numD s p = .tup [.agg [.int .u8 2, .str [], .int .u64 n, .int .i64 p], .int .i64 ((p + j : Nat) : Int), .int .i64 0]) := fun hW => by
    have ew : (s.drop p).take j = digW s p := by rw [hW]; exact tw_take _
    rw [ew] at hn
    unfold numD
    rw [← hW]
    refine ⟨fun hb => ?_, fun hb => ?_⟩
    · rcases hn with ⟨_, h⟩ | ⟨h, _⟩
      · rw [if_pos h]
      · rw [h] at hb; cases hb
    · rcases hn with ⟨h, _⟩ | ⟨_, h, h2⟩
      · rw [h] at hb; cases hb
      · rw [if_neg (by omega), h]
  by_cases hl : p + j < s.length
  · have hd : decide (((p + j : Nat) : Int) < (s.length : Int)) = true := decide_eq_true (by omega)
    have hb : (decide (0 ≤ ((p + j : Nat) : Int)) && decide (((p + j : Nat) : Int) < (s.length : Int))) = true := by simp only [Bool.and_eq_true, decide_eq_true_eq]; omega
    have cg := rdigit_any (s.getD ((p + j : Nat) : Int).toNat 0)
    have hj2 : isDigit (s.getD (p + j) 0) = true ↔ j < (digW s p).length := by
      have := tw_lt (p := isDigit) (l := s.drop p) (n := j) hj (by rw [List.length_drop]; omega)
      rw [getD_drop] at this
      exact this
    cases hw : isDigit (s.getD (p + j) 0) with
    | true =>
      have hjw := hj2.1 hw
      obtain ⟨dv, d10⟩ := dig_val _ hw
      have hns := num_succ (s := s) (p := p) (j := j) hl
      rw [← et] at hw dv
      rw [hw] at cg
      rw [← et] at d10
      generalize hdd : (s.getD ((p + j : Nat) : Int).toNat 0).toNat - 48 = d at dv d10
      rw [← et, hdd] at hns
      cases hbad : bad with
      | true =>
        rw [hbad] at hn
        have hN : 9223372036854775808 < numOf ((s.drop p).take j) := by rcases hn with ⟨_, h⟩ | ⟨h, _⟩; exact h; cases h
        iterate 40 (all_goals (try conv => whnf); all_goals (try first | with_reducible refine brY (by assumption) ?_ | with_reducible refine brN (by assumption) ?_ | (with_reducible refine brT ?_ ?_; · (simp only [Bool.and_eq_true, Bool.not_eq_true', decide_eq_true_eq, decide_eq_false_iff_not, beq_iff_eq, beq_eq_false_iff_ne, ne_eq] at *; omega)) | with_reducible refine br (fun _ => ?_) (fun _ => ?_) | with_reducible refine ⟨rfl, ?_⟩ | with_reducible refine ARound.succ ?_ | with_reducible refine PCall.call (cg) ?_))
        exact ⟨⟨j + 1, _, true, hjw, .inl ⟨rfl, by omega⟩⟩, by dsimp only; omega, by rw [e7], rfl⟩
      | false =>
        rw [hbad] at hn
        obtain ⟨hN, hN2⟩ : n = (numOf ((s.drop p).take j) : Nat) ∧ numOf ((s.drop p).take j) ≤ 9223372036854775808 := by rcases hn with ⟨h, _⟩ | ⟨_, h⟩; cases h; exact h
        have hq : (IntKind.u64.wrap ((IntKind.u64.wrap (9223372036854775808 - IntKind.u64.wrap (IntKind.u8.wrap (((s.getD ((p + j : Nat) : Int).toNat 0).toNat : Int) - 48)))).tdiv 10)) = ((9223372036854775808 - d) / 10 : Int) := by
          rw [dv, IntKind.wrap_u64, IntKind.wrap_u64, Int.tdiv_eq_ediv_of_nonneg (by omega)]
          omega
        by_cases hgt : (9223372036854775808 - (d : Int)) / 10 < n
        · have q1 : decide (IntKind.u64.wrap ((IntKind.u64.wrap (9223372036854775808 - IntKind.u64.wrap (IntKind.u8.wrap (((s.getD ((p + j : Nat) : Int).toNat 0).toNat : Int) - 48)))).tdiv 10) < n) = true := by rw [hq]; exact decide_eq_true hgt
          iterate 40 (all_goals (try conv => whnf); all_goals (try first | with_reducible refine brY (by assumption) ?_ | with_reducible refine brN (by assumption) ?_ | (with_reducible refine brT ?_ ?_; · (simp only [Bool.and_eq_true, Bool.not_eq_true', decide_eq_true_eq, decide_eq_false_iff_not, beq_iff_eq, beq_eq_false_iff_ne, ne_eq] at *; omega)) | with_reducible refine br (fun _ => ?_) (fun _ => ?_) | with_reducible refine ⟨rfl, ?_⟩ | with_reducible refine ARound.succ ?_ | with_reducible refine PCall.call (cg) ?_))
          exact ⟨⟨j + 1, _, true, hjw, .inl ⟨rfl, by omega⟩⟩, by dsimp only; omega, by rw [e7, q1], rfl⟩
        · have q1 : decide (IntKind.u64.wrap ((IntKind.u64.wrap (9223372036854775808 - IntKind.u64.wrap (IntKind.u8.wrap (((s.getD ((p + j : Nat) : Int).toNat 0).toNat : Int) - 48)))).tdiv 10) < n) = false := by rw [hq]; exact decide_eq_false hgt
          have hv : IntKind.u64.wrap (IntKind.u64.wrap (10 * n) + IntKind.u64.wrap (IntKind.u8.wrap (((s.getD ((p + j : Nat) : Int).toNat 0).toNat : Int) - 48))) = 10 * n + d := by
            rw [dv, IntKind.wrap_u64, IntKind.wrap_u64]; omega
          iterate 40 (all_goals (try conv => whnf); all_goals (try first | with_reducible refine brY (by assumption) ?_ | with_reducible refine brN (by assumption) ?_ | (with_reducible refine brT ?_ ?_; · (simp only [Bool.and_eq_true, Bool.not_eq_true', decide_eq_true_eq, decide_eq_false_iff_not, beq_iff_eq, beq_eq_false_iff_ne, ne_eq] at *; omega)) | with_reducible refine br (fun _ => ?_) (fun _ => ?_) | with_reducible refine ⟨rfl, ?_⟩ | with_reducible refine ARound.succ ?_ | with_reducible refine PCall.call (cg) ?_))
          exact ⟨⟨j + 1, 10 * n + d, false, hjw, .inr ⟨rfl, by omega, by omega⟩⟩, by dsimp only; omega, by rw [e7, q1, hv], rfl⟩
    | false =>
      rw [← et] at hw
      rw [hw] at cg
      rw [et] at hw
      obtain ⟨f1, f2⟩ := fin (by
        rcases Nat.lt_or_ge j (digW s p).length with h | h
        · rw [hj2.2 h] at hw; cases hw
        · omega)
      cases hbad : bad with
      | true =>
        rw [f1 hbad]
        iterate 40 (all_goals (try conv => whnf); all_goals (try first | with_reducible refine brY (by assumption) ?_ | with_reducible refine brN (by assumption) ?_ | (with_reducible refine brT ?_ ?_; · (simp only [Bool.and_eq_true, Bool.not_eq_true', decide_eq_true_eq, decide_eq_false_iff_not, beq_iff_eq, beq_eq_false_iff_ne, ne_eq] at *; omega)) | with_reducible refine br (fun _ => ?_) (fun _ => ?_) | with_reducible refine ⟨rfl, ?_⟩ | with_reducible refine ARound.succ ?_ | with_reducible refine PCall.call (cg) ?_))
        exact leaf rfl (lit3 (tokP_lit _) (.int _ _) (.int _ _))
      | false =>
        have f2 := f2 hbad
        have lit := numD_lit s p
        iterate 40 (all_goals (try conv => whnf); all_goals (try first | with_reducible refine brY (by assumption) ?_ | with_reducible refine brN (by assumption) ?_ | (with_reducible refine brT ?_ ?_; · (simp only [Bool.and_eq_true, Bool.not_eq_true', decide_eq_true_eq, decide_eq_false_iff_not, beq_iff_eq, beq_eq_false_iff_ne, ne_eq] at *; omega)) | with_reducible refine br (fun _ => ?_) (fun _ => ?_) | with_reducible refine ⟨rfl, ?_⟩ | with_reducible refine ARound.succ ?_ | with_reducible refine PCall.call (cg) ?_))
        exact leaf f2.symm lit
  · have hd : decide (((p + j : Nat) : Int) < (s.length : Int)) = false := decide_eq_false (by omega)
    obtain ⟨f1, f2⟩ := fin (by omega)
    cases hbad : bad with
    | true =>
      rw [f1 hbad]
      iterate 40 (all_goals (try conv => whnf); all_goals (try first | with_reducible refine brY (by assumption) ?_ | with_reducible refine brN (by assumption) ?_ | (with_reducible refine brT ?_ ?_; · (simp only [Bool.and_eq_true, Bool.not_eq_true', decide_eq_true_eq, decide_eq_false_iff_not, beq_iff_eq, beq_eq_false_iff_ne, ne_eq] at *; omega)) | with_reducible refine br (fun _ => ?_) (fun _ => ?_) | with_reducible refine ⟨rfl, ?_⟩ | with_reducible refine ARound.succ ?_))
      exact leaf rfl (lit3 (tokP_lit _) (.int _ _) (.int _ _))
    | false =>
      have f2 := f2 hbad
      have lit := numD_lit s p
      iterate 40 (all_goals (try conv => whnf); all_goals (try first | with_reducible refine brY (by assumption) ?_ | with_reducible refine brN (by assumption) ?_ | (with_reducible refine brT ?_ ?_; · (simp only [Bool.and_eq_true, Bool.not_eq_true', decide_eq_true_eq, decide_eq_false_iff_not, beq_iff_eq, beq_eq_false_iff_ne, ne_eq] at *; omega)) | with_reducible refine br (fun _ => ?_) (fun _ => ?_) | with_reducible refine ⟨rfl, ?_⟩ | with_reducible refine ARound.succ ?_))
      exact leaf f2.symm lit
end Go.Proofs.YtlhpbcbkkbjhoaaGreatDoor
namespace Go.Proofs.YtlhpbcbkkbjhoaaGreatDoor
open Ab Go.RowKit
set_option maxRecDepth 100000
set_option linter.unusedVariables false
set_option linter.unusedSimpArgs false
set_option maxHeartbeats 4000000
set_option pp.maxSteps 3000
theorem bits_nat {op : BinOp} {f : Nat → Nat → Nat} {a b : Nat} (ha : a < 18446744073709551616) (hb : b < 18446744073709551616) :
    bitsI .or .u64 (a : Int) (b : Int) = ((a ||| b : Nat) : Int) ∧ bitsI .and .u64 (a : Int) (b : Int) = ((a &&& b : Nat) : Int) := by
  have h2 : (2 : Nat) ^ IntKind.u64.bits = 18446744073709551616 := rfl
  constructor
  · unfold bitsI
    dsimp only
    rw [BitVec.toNat_or, BitVec.ofInt_natCast, BitVec.ofInt_natCast, BitVec.toNat_ofNat, BitVec.toNat_ofNat, h2, Nat.mod_eq_of_lt ha, Nat.mod_eq_of_lt hb, IntKind.wrap_u64]
    have : a ||| b < 2 ^ 64 := Nat.or_lt_two_pow ha hb
    omega
  · unfold bitsI
    dsimp only
    rw [BitVec.toNat_and, BitVec.ofInt_natCast, BitVec.ofInt_natCast, BitVec.toNat_ofNat, BitVec.toNat_ofNat, h2, Nat.mod_eq_of_lt ha, Nat.mod_eq_of_lt hb, IntKind.wrap_u64]
    have : a &&& b ≤ a := Nat.and_le_left
    omega
/-- The bytes' word, as it is put together. -/
theorem word_step {x k b : Nat} (hx : x < 2 ^ k) (hb : b < 256) (hk : k ≤ 56) : bitsI .or .u64 (x : Int) (IntKind.u64.wrap (IntKind.u64.wrap (b : Int) * 2 ^ (min (Int.toNat (k : Int)) IntKind.u64.bits))) = ((x + 2 ^ k * b : Nat) : Int) ∧ x + 2 ^ k * b < 2 ^ (k + 8) := by
  have h64 : 2 ^ (k + 8) ≤ 18446744073709551616 := by
    have : 2 ^ (k + 8) ≤ 2 ^ 64 := Nat.pow_le_pow_right (by decide) (by omega)
    simpa using this
  have hm : min (Int.toNat (k : Int)) IntKind.u64.bits = k := by rw [Int.toNat_natCast]; show min k 64 = k; omega
  have hlt : x + 2 ^ k * b < 2 ^ (k + 8) := by
    have h1 : 2 ^ k * b ≤ 2 ^ k * 255 := Nat.mul_le_mul_left _ (by omega)
    have h2 : 2 ^ (k + 8) = 2 ^ k * 256 := by rw [Nat.pow_add]
    rw [h2]; omega
  have hw : IntKind.u64.wrap (IntKind.u64.wrap (b : Int) * 2 ^ k) = ((2 ^ k * b : Nat) : Int) := by
    have e1 : IntKind.u64.wrap (b : Int) = (b : Int) := by rw [IntKind.wrap_u64]; omega
    have e2 : (b : Int) * 2 ^ k = ((2 ^ k * b : Nat) : Int) := by
      rw [Int.mul_comm]; push_cast; rfl
    rw [e1, e2, IntKind.wrap_u64]
    omega
  refine ⟨?_, hlt⟩
  rw [hm, hw, (bits_nat (op := .or) (f := fun a _ => a) (by omega) (by omega)).1]
  congr 1
  have := Nat.two_pow_add_eq_or_of_lt (i := k) hx b
  rw [Nat.or_comm, ← this, Nat.add_comm]
def w8 (b : Nat → UInt8) : Nat := Lib.leNat [b 0, b 1, b 2, b 3, b 4, b 5, b 6, b 7]
theorem w8_eq (b : Nat → UInt8) : w8 b = ((((((((b 0).toNat + 2 ^ 8 * (b 1).toNat) + 2 ^ 16 * (b 2).toNat) + 2 ^ 24 * (b 3).toNat) + 2 ^ 32 * (b 4).toNat) + 2 ^ 40 * (b 5).toNat) + 2 ^ 48 * (b 6).toNat) + 2 ^ 56 * (b 7).toNat) := by
  unfold w8
  simp only [Lib.leNat]
  omega
theorem word8_any {n : Nat} {b : Nat → UInt8} (h8 : 8 ≤ n) (hn : n ≤ 1000000) : PCall Tryz.prog 70 [.lst 1 n fun i => byS (b i)] (.int .u64 (w8 b : Nat)) := by
  refine pcall_of (lits1 (.lst _ _ _)) (call70 rfl ?_)
  have hk : ∀ k : Nat, k < 8 → (decide (0 ≤ (k : Int)) && decide ((k : Int) < (n : Int))) = true := fun k hk => by simp only [Bool.and_eq_true, decide_eq_true_eq]; omega
  have q0 : (decide ((0 : Int) ≤ 0) && decide ((0 : Int) < (n : Int))) = true := hk 0 (by decide)
  have q1 : (decide ((0 : Int) ≤ 1) && decide ((1 : Int) < (n : Int))) = true := hk 1 (by decide)
  have q2 : (decide ((0 : Int) ≤ 2) && decide ((2 : Int) < (n : Int))) = true := hk 2 (by decide)
  have q3 : (decide ((0 : Int) ≤ 3) && decide ((3 : Int) < (n : Int))) = true := hk 3 (by decide)
  have q4 : (decide ((0 : Int) ≤ 4) && decide ((4 : Int) < (n : Int))) = true := hk 4 (by decide)
  have q5 : (decide ((0 : Int) ≤ 5) && decide ((5 : Int) < (n : Int))) = true := hk 5 (by decide)
  have q6 : (decide ((0 : Int) ≤ 6) && decide ((6 : Int) < (n : Int))) = true := hk 6 (by decide)
  have q7 : (decide ((0 : Int) ≤ 7) && decide ((7 : Int) < (n : Int))) = true := hk 7 (by decide)
  iterate 40 (all_goals (try conv => whnf); all_goals (try first | with_reducible refine brY (by assumption) ?_ | with_reducible refine brN (by assumption) ?_ | (with_reducible refine brT ?_ ?_; · (simp only [Bool.and_eq_true, Bool.not_eq_true', decide_eq_true_eq, decide_eq_false_iff_not, beq_iff_eq, beq_eq_false_iff_ne, ne_eq] at *; omega)) | with_reducible refine br (fun _ => ?_) (fun _ => ?_) | with_reducible refine ⟨rfl, ?_⟩ | with_reducible refine ARound.succ ?_))
  refine leaf ?_ (.int _ _)
  have hb : ∀ i, (b i).toNat < 256 := fun i => UInt8.toNat_lt _
  have h0 : IntKind.u64.wrap ((b 0).toNat : Int) = ((b 0).toNat : Int) := by rw [IntKind.wrap_u64]; have := hb 0; omega
  obtain ⟨s1, l1⟩ := word_step (x := (b 0).toNat) (k := 8) (b := (b 1).toNat) (hb 0) (hb 1) (by decide)
  obtain ⟨s2, l2⟩ := word_step (k := 16) (b := (b 2).toNat) l1 (hb 2) (by decide)
  obtain ⟨s3, l3⟩ := word_step (k := 24) (b := (b 3).toNat) l2 (hb 3) (by decide)
  obtain ⟨s4, l4⟩ := word_step (k := 32) (b := (b 4).toNat) l3 (hb 4) (by decide)
  obtain ⟨s5, l5⟩ := word_step (k := 40) (b := (b 5).toNat) l4 (hb 5) (by decide)
  obtain ⟨s6, l6⟩ := word_step (k := 48) (b := (b 6).toNat) l5 (hb 6) (by decide)
  obtain ⟨s7, l7⟩ := word_step (k := 56) (b := (b 7).toNat) l6 (hb 7) (by decide)
  rw [← w8_eq] at s7
  rw [← s1] at s2
  rw [← s2] at s3
  rw [← s3] at s4
  rw [← s4] at s5
  rw [← s5] at s6
  rw [← s6] at s7
  rw [← h0] at s7
  exact congrArg (SV.int .u64) s7
theorem w8_mask {b : Nat → UInt8} : w8 b &&& 9259542123273814144 = 0 ↔ ∀ i, i < 8 → (b i).toNat < 128 := by
  have := Lib.leNat_mask [b 0, b 1, b 2, b 3, b 4, b 5, b 6, b 7]
  rw [show Lib.maskN ([b 0, b 1, b 2, b 3, b 4, b 5, b 6, b 7] : List UInt8).length = 9259542123273814144 from Lib.maskN8] at this
  unfold w8
  rw [this]
  constructor
  · intro h i hi
    rcases (by omega : i = 0 ∨ i = 1 ∨ i = 2 ∨ i = 3 ∨ i = 4 ∨ i = 5 ∨ i = 6 ∨ i = 7) with rfl | rfl | rfl | rfl | rfl | rfl | rfl | rfl <;> exact h _ (by simp)
  · intro h c hc
    simp only [List.mem_cons, List.not_mem_nil, or_false] at hc
    rcases hc with rfl | rfl | rfl | rfl | rfl | rfl | rfl | rfl
    · exact h 0 (by decide)
    · exact h 1 (by decide)
    · exact h 2 (by decide)
    · exact h 3 (by decide)
    · exact h 4 (by decide)
    · exact h 5 (by decide)
    · exact h 6 (by decide)
    · exact h 7 (by decide)
theorem w8_lt (b : Nat → UInt8) : w8 b < 18446744073709551616 := by
  have h := Lib.leNat_lt [b 0, b 1, b 2, b 3, b 4, b 5, b 6, b 7]
  unfold w8
  simpa using h
theorem w_and1 (b : Nat → UInt8) : (bitsI .and .u64 (w8 b : Int) 9259542123273814144 == 0) = true ↔ (∀ i, i < 8 → (b i).toNat < 128) := by
  have h := (bits_nat (op := .or) (f := fun a _ => a) (w8_lt b) (b := 9259542123273814144) (by decide)).2
  rw [show ((9259542123273814144 : Int)) = ((9259542123273814144 : Nat) : Int) from rfl, h, beq_iff_eq, ← w8_mask]
  omega
theorem or_lt {a b : Nat} (ha : a < 18446744073709551616) (hb : b < 18446744073709551616) : a ||| b < 18446744073709551616 := by
  have : a ||| b < 2 ^ 64 := Nat.or_lt_two_pow ha hb
  omega
theorem w_and2 (b c : Nat → UInt8) : (bitsI .and .u64 (bitsI .or .u64 (w8 b : Int) (w8 c : Int)) 9259542123273814144 == 0) = true ↔ ((∀ i, i < 8 → (b i).toNat < 128) ∧ ∀ i, i < 8 → (c i).toNat < 128) := by
  rw [(bits_nat (op := .or) (f := fun a _ => a) (w8_lt b) (w8_lt c)).1]
  have h := (bits_nat (op := .or) (f := fun a _ => a) (or_lt (w8_lt b) (w8_lt c)) (b := 9259542123273814144) (by decide)).2
  rw [show ((9259542123273814144 : Int)) = ((9259542123273814144 : Nat) : Int) from rfl, h, beq_iff_eq, ← w8_mask, ← w8_mask, ← Lib.or_mask]
  omega
theorem w_and4 (b c d e : Nat → UInt8) : (bitsI .and .u64 (bitsI .or .u64 (bitsI .or .u64 (w8 b : Int) (w8 c : Int)) (bitsI .or .u64 (w8 d : Int) (w8 e : Int))) 9259542123273814144 == 0) = true ↔
    (((∀ i, i < 8 → (b i).toNat < 128) ∧ ∀ i, i < 8 → (c i).toNat < 128) ∧ (∀ i, i < 8 → (d i).toNat < 128) ∧ ∀ i, i < 8 → (e i).toNat < 128) := by
  rw [(bits_nat (op := .or) (f := fun a _ => a) (w8_lt b) (w8_lt c)).1, (bits_nat (op := .or) (f := fun a _ => a) (w8_lt d) (w8_lt e)).1, (bits_nat (op := .or) (f := fun a _ => a) (or_lt (w8_lt b) (w8_lt c)) (or_lt (w8_lt d) (w8_lt e))).1]
  have h := (bits_nat (op := .or) (f := fun a _ => a) (or_lt (or_lt (w8_lt b) (w8_lt c)) (or_lt (w8_lt d) (w8_lt e))) (b := 9259542123273814144) (by decide)).2
  rw [show ((9259542123273814144 : Int)) = ((9259542123273814144 : Nat) : Int) from rfl, h, beq_iff_eq, ← w8_mask, ← w8_mask, ← w8_mask, ← w8_mask, ← Lib.or_mask, ← Lib.or_mask, ← Lib.or_mask]
  omega
end Go.Proofs.YtlhpbcbkkbjhoaaGreatDoor
namespace Go.Proofs.YtlhpbcbkkbjhoaaGreatDoor
open Ab Go.RowKit
set_option maxRecDepth 100000
set_option linter.unusedVariables false
set_option linter.unusedSimpArgs false
set_option maxHeartbeats 4000000
set_option pp.maxSteps 3000
theorem readP_tab {h : Heap} {cs : List SV} {sub : Nat} {K : List SV → Nat → Prop} (hk : K cs sub) : readP h (.ipt (.agg cs) sub) K := hk
theorem loadS_tab {h : Heap} {cs : List SV} {sub : Nat} {x : SV} {K : SV → Prop} (hx : cs[sub]? = some x) (hk : K x) : readP h (.ipt (.agg cs) sub) (fun cs sub => match getL cs sub with | some v => K v | none => False) := by
  refine readP_tab ?_
  rw [getL_eq, hx]
  exact hk
theorem readP_int {h : Heap} {k : IntKind} {n : Int} {K : List SV → Nat → Prop} (hk : K [.int k n] 0) : readP h (.ipt (.int k n) 0) K := hk
theorem loadA_tab {h : Heap} {cs : List SV} {sub n : Nat} {xs : List SV} {K : SV → Prop} (hle : sub + n ≤ cs.length) (hx : (cs.drop sub).take n = xs) (hk : K (.agg xs)) : readP h (.ipt (.agg cs) sub) (fun cs sub => dropN cs sub fun cs => takeN cs n fun l => K (.agg l)) := by
  refine readP_tab ?_
  refine dropN_run (by omega) (takeN_run (by rw [List.length_drop]; omega) ?_)
  rw [hx]
  exact hk
@[reducible] def lstF (s : List UInt8) (p : Nat) : SV := .lst 1 (s.length - p) fun i => byS (s.getD (p + i) 0)
theorem lst_k {s : List UInt8} {p k n : Nat} {f : Nat → Nat} (hn : n = s.length - (p + k)) (hf : ∀ i, f i = p + k + i) : (SV.lst 1 n fun i => byS (s.getD (f i) 0)) = lstF s (p + k) := by
  unfold lstF
  rw [hn]
  congr 1
  funext i
  rw [hf]
theorem skip_asc {s : List UInt8} {p k : Nat} (h : p + k ≤ s.length) (ha : ∀ i, i < k → (s.getD (p + i) 0).toNat < 128) : Lib.validD (s.drop p) = Lib.validD (s.drop (p + k)) := by
  rw [Lib.validD_ascii k (s.drop p), List.drop_drop]
  intro b hb
  obtain ⟨i, hi, rfl⟩ := List.mem_iff_getElem.1 hb
  rw [List.length_take, List.length_drop] at hi
  have := ha i (by omega)
  rw [List.getElem_take, List.getElem_drop]
  simpa [List.getD, show p + i < s.length by omega] using this
/-- A loop of which just the first name's value turns. -/
theorem loop_hd {P : Program} {b : ACode} {Q : AExit → Env → Heap → Prop} {σ : Type} {k0 : Nat} {rest : Env} {h : Heap} (X : σ → SV) (μ : σ → Nat)
    (step : ∀ s, awp P b (backQ (Env.keys ((k0, X s) :: rest)) h.nxt Q (fun e' h' => ∃ s', μ s' < μ s ∧ e' = (k0, X s') :: rest ∧ h' = h)) ((k0, X s) :: rest) h) (s : σ) {x : SV} (hx : x = X s) : ALoop P b Q ((k0, x) :: rest) h := by
  rw [hx]
  exact loop_ind (fun s => (k0, X s) :: rest) (fun _ => h) μ step s
theorem getL_some {T : List SV} {idx : Nat} {x : SV} {K : SV → Prop} (hx : T[idx]? = some x) (hk : K x) : (match getL T idx with | some v => K v | none => False) := by
  rw [getL_eq, hx]
  exact hk
theorem lead_at {s : List UInt8} {p : Nat} (o : Option Nat) : (match o with | none => false | some k => Lib.validD ((s.drop p).drop k)) = (match o with | none => false | some k => Lib.validD (s.drop (p + k))) := by
  cases o with
  | none => rfl
  | some k => show Lib.validD ((s.drop p).drop k) = _; rw [List.drop_drop]
theorem takeN_run2 {l xs : List SV} {n : Nat} {k : List SV → Prop} (h : n ≤ l.length) (e : l.take n = xs) (hk : k xs) : takeN l n k := takeN_run h (by rw [e]; exact hk)
theorem valid_any {s : List UInt8} (hs : s.length ≤ 1000000) : PCall Tryz.prog 57 [lstB s] (.bool (Lib.validD s)) := by
  refine pcall_of (lits1 (.lst _ _ _)) (call57 rfl ?_)
  have q0 : (decide ((0 : Int) ≤ 0) && decide ((0 : Int) ≤ (s.length : Int)) && decide ((s.length : Int) ≤ (s.length : Int))) = true := by simp only [Bool.and_eq_true, decide_eq_true_eq]; omega
  iterate 12 (all_goals (try conv => whnf); all_goals (try first | with_reducible refine brY (by assumption) ?_ | with_reducible refine brN (by assumption) ?_ | (with_reducible refine brT ?_ ?_; · (simp only [Bool.and_eq_true, Bool.not_eq_true', decide_eq_true_eq, decide_eq_false_iff_not, beq_iff_eq, beq_eq_false_iff_ne, ne_eq] at *; omega)) | with_reducible refine br (fun _ => ?_) (fun _ => ?_) | with_reducible refine ⟨rfl, ?_⟩ | with_reducible refine ARound.succ ?_))
  refine loop_ind (σ := {p : Nat // p ≤ s.length ∧ Lib.validD s = Lib.validD (s.drop p)}) (fun y => [(0, lstF s y.1), (2, SV.bool false)])
    (fun _ => ⟨0, []⟩) (fun y => s.length - y.1) ?_ ⟨0, by omega, rfl⟩
  rintro ⟨p, hp, hv⟩
  dsimp only
  by_cases hlt : p < s.length
  · have hd : decide ((0 : Int) < ((s.length - p : Nat) : Int)) = true := decide_eq_true (by omega)
    have hb : (decide ((0 : Int) ≤ 0) && decide ((0 : Int) < ((s.length - p : Nat) : Int))) = true := by simp only [Bool.and_eq_true, decide_eq_true_eq]; omega
    by_cases h128 : (s.getD (p + Int.toNat 0) 0).toNat < 128
    · have q1 : decide (((s.getD (p + Int.toNat 0) 0).toNat : Int) < 128) = true := decide_eq_true (by omega)
      have hb1 : (decide ((0 : Int) ≤ 1) && decide ((1 : Int) ≤ ((s.length - p : Nat) : Int)) && decide (((s.length - p : Nat) : Int) ≤ ((s.length - p : Nat) : Int))) = true := by simp only [Bool.and_eq_true, decide_eq_true_eq]; omega
      have hN : ∀ (a b : Nat), (decide ((0 : Int) ≤ (a : Int)) && decide ((a : Int) ≤ (b : Int)) && decide ((b : Int) ≤ (b : Int))) = true → True := fun _ _ _ => trivial
      have k1 : ∀ e' : Env, e' = [(0, SV.lst 1 (((s.length - p : Nat) : Int).toNat - Int.toNat 1) fun i => byS (s.getD (p + (Int.toNat 1 + i)) 0)), (2, SV.bool false)] → e' = [(0, lstF s (p + 1)), (2, SV.bool false)] := fun e' he => by
        exact he.trans (congrArg (fun z => [(0, z), (2, SV.bool false)]) (lst_k (p := p) (k := 1) (f := fun i => p + (Int.toNat 1 + i)) (show s.length - p - 1 = _ by omega) (fun i => show p + (1 + i) = p + 1 + i by omega)))
      have v1 : Lib.validD s = Lib.validD (s.drop (p + 1)) := by
        rw [hv]; exact skip_asc (by omega) fun i hi => by obtain rfl : i = 0 := by omega
                                                          exact h128
      by_cases e8 : 8 < s.length - p - 1
      case neg =>
        have q2 : decide ((8 : Int) < ((((s.length - p : Nat) : Int).toNat - Int.toNat 1 : Nat) : Int)) = false := decide_eq_false (by show ¬ ((8 : Int) < ((s.length - p - 1 : Nat) : Int)); omega)
        iterate 40 (all_goals (try conv => whnf); all_goals (try first | with_reducible refine brY (by assumption) ?_ | with_reducible refine brN (by assumption) ?_ | (with_reducible refine brT ?_ ?_; · (simp only [Bool.and_eq_true, Bool.not_eq_true', decide_eq_true_eq, decide_eq_false_iff_not, beq_iff_eq, beq_eq_false_iff_ne, ne_eq] at *; omega)) | with_reducible refine br (fun _ => ?_) (fun _ => ?_) | with_reducible refine ⟨rfl, ?_⟩ | with_reducible refine ARound.succ ?_))
        exact ⟨⟨p + 1, by omega, v1⟩, by dsimp only; omega, k1 _ rfl, rfl⟩
      have q2 : decide ((8 : Int) < ((((s.length - p : Nat) : Int).toNat - Int.toNat 1 : Nat) : Int)) = true := decide_eq_true (by show ((8 : Int) < ((s.length - p - 1 : Nat) : Int)); omega)
      have cw1 := word8_any (n := ((s.length - p : Nat) : Int).toNat - Int.toNat 1) (b := fun i => s.getD (p + (Int.toNat 1 + i)) 0) (by show 8 ≤ s.length - p - 1; omega) (by show s.length - p - 1 ≤ 1000000; omega)
      have w1 := w_and1 (fun i => s.getD (p + (Int.toNat 1 + i)) 0)
      by_cases P1 : ∀ i, i < 8 → (s.getD (p + (Int.toNat 1 + i)) 0).toNat < 128
      case neg =>
        have w1 := Bool.eq_false_iff.2 fun h => P1 (w1.1 h)
        iterate 40 (all_goals (try conv => whnf); all_goals (try first | with_reducible refine brY (by assumption) ?_ | with_reducible refine brN (by assumption) ?_ | (with_reducible refine brT ?_ ?_; · (simp only [Bool.and_eq_true, Bool.not_eq_true', decide_eq_true_eq, decide_eq_false_iff_not, beq_iff_eq, beq_eq_false_iff_ne, ne_eq] at *; omega)) | with_reducible refine br (fun _ => ?_) (fun _ => ?_) | with_reducible refine ⟨rfl, ?_⟩ | with_reducible refine ARound.succ ?_ | with_reducible refine PCall.call (cw1) ?_))
        exact ⟨⟨p + 1, by omega, v1⟩, by dsimp only; omega, k1 _ rfl, rfl⟩
      have w1 := w1.2 P1
      have k9 : ∀ e' : Env, e' = [(0, SV.lst 1 (((((s.length - p : Nat) : Int).toNat - Int.toNat 1 : Nat) : Int).toNat - Int.toNat 8) fun i => byS (s.getD (p + (Int.toNat 1 + (Int.toNat 8 + i))) 0)), (2, SV.bool false)] → e' = [(0, lstF s (p + 9)), (2, SV.bool false)] := fun e' he => by
        exact he.trans (congrArg (fun z => [(0, z), (2, SV.bool false)]) (lst_k (p := p) (k := 9) (f := fun i => p + (Int.toNat 1 + (Int.toNat 8 + i))) (show s.length - p - 1 - 8 = _ by omega) (fun i => show p + (1 + (8 + i)) = p + 9 + i by omega)))
      have v9 : Lib.validD s = Lib.validD (s.drop (p + 9)) := by
        rw [hv]; exact skip_asc (by omega) fun i hi => by
          cases i with
          | zero => exact h128
          | succ i => have := P1 i (by omega); rw [show p + (Int.toNat 1 + i) = p + (i + 1) by show p + (1 + i) = _; omega] at this; exact this
      by_cases e16 : 16 < s.length - p - 1 - 8
      case neg =>
        have q3 : decide ((16 : Int) < ((((((s.length - p : Nat) : Int).toNat - Int.toNat 1 : Nat) : Int).toNat - Int.toNat 8 : Nat) : Int)) = false := decide_eq_false (by show ¬ ((16 : Int) < ((s.length - p - 1 - 8 : Nat) : Int)); omega)
        iterate 60 (all_goals (try conv => whnf); all_goals (try first | with_reducible refine brY (by assumption) ?_ | with_reducible refine brN (by assumption) ?_ | (with_reducible refine brT ?_ ?_; · (simp only [Bool.and_eq_true, Bool.not_eq_true', decide_eq_true_eq, decide_eq_false_iff_not, beq_iff_eq, beq_eq_false_iff_ne, ne_eq] at *; omega)) | with_reducible refine br (fun _ => ?_) (fun _ => ?_) | with_reducible refine ⟨rfl, ?_⟩ | with_reducible refine ARound.succ ?_ | with_reducible refine PCall.call (cw1) ?_))
        exact ⟨⟨p + 9, by omega, v9⟩, by dsimp only; omega, k9 _ rfl, rfl⟩
      have q3 : decide ((16 : Int) < ((((((s.length - p : Nat) : Int).toNat - Int.toNat 1 : Nat) : Int).toNat - Int.toNat 8 : Nat) : Int)) = true := decide_eq_true (by show ((16 : Int) < ((s.length - p - 1 - 8 : Nat) : Int)); omega)
      have cw2 := word8_any (n := ((((s.length - p : Nat) : Int).toNat - Int.toNat 1 : Nat) : Int).toNat - Int.toNat 8) (b := fun i => s.getD (p + (Int.toNat 1 + (Int.toNat 8 + i))) 0) (by show 8 ≤ s.length - p - 1 - 8; omega) (by show s.length - p - 1 - 8 ≤ 1000000; omega)
      have cw3 := word8_any (n := ((((((s.length - p : Nat) : Int).toNat - Int.toNat 1 : Nat) : Int).toNat - Int.toNat 8 : Nat) : Int).toNat - Int.toNat 8) (b := fun i => s.getD (p + (Int.toNat 1 + (Int.toNat 8 + (Int.toNat 8 + i)))) 0) (by show 8 ≤ s.length - p - 1 - 8 - 8; omega) (by show s.length - p - 1 - 8 - 8 ≤ 1000000; omega)
      have w2 := w_and2 (fun i => s.getD (p + (Int.toNat 1 + (Int.toNat 8 + i))) 0) (fun i => s.getD (p + (Int.toNat 1 + (Int.toNat 8 + (Int.toNat 8 + i)))) 0)
      by_cases P2 : (∀ i, i < 8 → (s.getD (p + (Int.toNat 1 + (Int.toNat 8 + i))) 0).toNat < 128) ∧ ∀ i, i < 8 → (s.getD (p + (Int.toNat 1 + (Int.toNat 8 + (Int.toNat 8 + i)))) 0).toNat < 128
      case neg =>
        have w2 := Bool.eq_false_iff.2 fun h => P2 (w2.1 h)
        iterate 60 (all_goals (try conv => whnf); all_goals (try first | with_reducible refine brY (by assumption) ?_ | with_reducible refine brN (by assumption) ?_ | (with_reducible refine brT ?_ ?_; · (simp only [Bool.and_eq_true, Bool.not_eq_true', decide_eq_true_eq, decide_eq_false_iff_not, beq_iff_eq, beq_eq_false_iff_ne, ne_eq] at *; omega)) | with_reducible refine br (fun _ => ?_) (fun _ => ?_) | with_reducible refine ⟨rfl, ?_⟩ | with_reducible refine ARound.succ ?_ | with_reducible refine PCall.call (cw1) ?_ | with_reducible refine PCall.call (cw2) ?_ | with_reducible refine PCall.call (cw3) ?_))
        exact ⟨⟨p + 9, by omega, v9⟩, by dsimp only; omega, k9 _ rfl, rfl⟩
      have w2 := w2.2 P2
      have v25 : Lib.validD s = Lib.validD (s.drop (p + 25)) := by
        rw [v9]; exact skip_asc (p := p + 9) (k := 16) (by omega) fun i hi => by
          rcases Nat.lt_or_ge i 8 with h | h
          · have := P2.1 i h; rw [show p + (Int.toNat 1 + (Int.toNat 8 + i)) = p + 9 + i by show p + (1 + (8 + i)) = _; omega] at this; exact this
          · have := P2.2 (i - 8) (by omega); rw [show p + (Int.toNat 1 + (Int.toNat 8 + (Int.toNat 8 + (i - 8)))) = p + 9 + i by show p + (1 + (8 + (8 + (i - 8)))) = _; omega] at this; exact this
      iterate 60 (all_goals (try conv => whnf); all_goals (try first | with_reducible refine brY (by assumption) ?_ | with_reducible refine brN (by assumption) ?_ | (with_reducible refine brT ?_ ?_; · (simp only [Bool.and_eq_true, Bool.not_eq_true', decide_eq_true_eq, decide_eq_false_iff_not, beq_iff_eq, beq_eq_false_iff_ne, ne_eq] at *; omega)) | with_reducible refine br (fun _ => ?_) (fun _ => ?_) | with_reducible refine ⟨rfl, ?_⟩ | with_reducible refine ARound.succ ?_ | with_reducible refine PCall.call (cw1) ?_ | with_reducible refine PCall.call (cw2) ?_ | with_reducible refine PCall.call (cw3) ?_))
      refine loop_hd (σ := {r : Nat // r ≤ s.length ∧ p < r ∧ Lib.validD s = Lib.validD (s.drop r)}) (fun y => lstF s y.1) (fun y => s.length - y.1) ?_ ⟨p + 25, by omega, by omega, v25⟩
        (lst_k (p := p) (k := 25) (f := fun i => p + (Int.toNat 1 + (Int.toNat 8 + (Int.toNat 16 + i)))) (show s.length - p - 1 - 8 - 16 = _ by omega) (fun i => show p + (1 + (8 + (16 + i))) = p + 25 + i by omega))
      rintro ⟨r, hr, hpr, hvr⟩
      dsimp only
      clear w2 P2 q3 e16 w1 P1 q2 e8 cw1 cw2 cw3
      by_cases e32 : 32 < s.length - r
      case neg =>
        have q5 : decide ((32 : Int) < ((s.length - r : Nat) : Int)) = false := decide_eq_false (by omega)
        iterate 40 (all_goals (try conv => whnf); all_goals (try first | with_reducible refine brY (by assumption) ?_ | with_reducible refine brN (by assumption) ?_ | (with_reducible refine brT ?_ ?_; · (simp only [Bool.and_eq_true, Bool.not_eq_true', decide_eq_true_eq, decide_eq_false_iff_not, beq_iff_eq, beq_eq_false_iff_ne, ne_eq] at *; omega)) | with_reducible refine br (fun _ => ?_) (fun _ => ?_) | with_reducible refine ⟨rfl, ?_⟩ | with_reducible refine ARound.succ ?_))
        exact ⟨⟨r, hr, hvr⟩, by dsimp only; omega, rfl, rfl⟩
      have q5 : decide ((32 : Int) < ((s.length - r : Nat) : Int)) = true := decide_eq_true (by omega)
      have d1 := word8_any (n := s.length - r) (b := fun i => s.getD (r + i) 0) (by omega) (by omega)
      have d2 := word8_any (n := ((s.length - r : Nat) : Int).toNat - Int.toNat 8) (b := fun i => s.getD (r + (Int.toNat 8 + i)) 0) (by show 8 ≤ s.length - r - 8; omega) (by show s.length - r - 8 ≤ 1000000; omega)
      have d3 := word8_any (n := ((s.length - r : Nat) : Int).toNat - Int.toNat 16) (b := fun i => s.getD (r + (Int.toNat 16 + i)) 0) (by show 8 ≤ s.length - r - 16; omega) (by show s.length - r - 16 ≤ 1000000; omega)
      have d4 := word8_any (n := ((s.length - r : Nat) : Int).toNat - Int.toNat 24) (b := fun i => s.getD (r + (Int.toNat 24 + i)) 0) (by show 8 ≤ s.length - r - 24; omega) (by show s.length - r - 24 ≤ 1000000; omega)
      have w4 := w_and4 (fun i => s.getD (r + i) 0) (fun i => s.getD (r + (Int.toNat 8 + i)) 0) (fun i => s.getD (r + (Int.toNat 16 + i)) 0) (fun i => s.getD (r + (Int.toNat 24 + i)) 0)
      by_cases P4 : ((∀ i, i < 8 → (s.getD (r + i) 0).toNat < 128) ∧ ∀ i, i < 8 → (s.getD (r + (Int.toNat 8 + i)) 0).toNat < 128) ∧ (∀ i, i < 8 → (s.getD (r + (Int.toNat 16 + i)) 0).toNat < 128) ∧ ∀ i, i < 8 → (s.getD (r + (Int.toNat 24 + i)) 0).toNat < 128
      case neg =>
        have w4 := Bool.eq_false_iff.2 fun h => P4 (w4.1 h)
        iterate 60 (all_goals (try conv => whnf); all_goals (try first | with_reducible refine brY (by assumption) ?_ | with_reducible refine brN (by assumption) ?_ | (with_reducible refine brT ?_ ?_; · (simp only [Bool.and_eq_true, Bool.not_eq_true', decide_eq_true_eq, decide_eq_false_iff_not, beq_iff_eq, beq_eq_false_iff_ne, ne_eq] at *; omega)) | with_reducible refine br (fun _ => ?_) (fun _ => ?_) | with_reducible refine ⟨rfl, ?_⟩ | with_reducible refine ARound.succ ?_ | with_reducible refine PCall.call (d1) ?_ | with_reducible refine PCall.call (d2) ?_ | with_reducible refine PCall.call (d3) ?_ | with_reducible refine PCall.call (d4) ?_))
        exact ⟨⟨r, hr, hvr⟩, by dsimp only; omega, rfl, rfl⟩
      have w4 := w4.2 P4
      iterate 60 (all_goals (try conv => whnf); all_goals (try first | with_reducible refine brY (by assumption) ?_ | with_reducible refine brN (by assumption) ?_ | (with_reducible refine brT ?_ ?_; · (simp only [Bool.and_eq_true, Bool.not_eq_true', decide_eq_true_eq, decide_eq_false_iff_not, beq_iff_eq, beq_eq_false_iff_ne, ne_eq] at *; omega)) | with_reducible refine br (fun _ => ?_) (fun _ => ?_) | with_reducible refine ⟨rfl, ?_⟩ | with_reducible refine ARound.succ ?_ | with_reducible refine PCall.call (d1) ?_ | with_reducible refine PCall.call (d2) ?_ | with_reducible refine PCall.call (d3) ?_ | with_reducible refine PCall.call (d4) ?_))
      have vr : Lib.validD s = Lib.validD (s.drop (r + 32)) := by
        rw [hvr]; exact skip_asc (by omega) fun i hi => by
          rcases (by omega : i < 8 ∨ (8 ≤ i ∧ i < 16) ∨ (16 ≤ i ∧ i < 24) ∨ 24 ≤ i) with h | h | h | h
          · exact P4.1.1 i h
          · have := P4.1.2 (i - 8) (by omega); rw [show r + (Int.toNat 8 + (i - 8)) = r + i by show r + (8 + (i - 8)) = _; omega] at this; exact this
          · have := P4.2.1 (i - 16) (by omega); rw [show r + (Int.toNat 16 + (i - 16)) = r + i by show r + (16 + (i - 16)) = _; omega] at this; exact this
          · have := P4.2.2 (i - 24) (by omega); rw [show r + (Int.toNat 24 + (i - 24)) = r + i by show r + (24 + (i - 24)) = _; omega] at this; exact this
      refine ⟨⟨r + 32, by omega, by omega, vr⟩, by dsimp only; omega, ?_, rfl⟩
      refine congrArg (fun z => (0, z) :: _) (lst_k (p := r) (k := 32) (f := fun i => r + (Int.toNat 32 + i)) (show s.length - r - 32 = _ by omega) (fun i => show r + (32 + i) = r + 32 + i by omega))
    · have q1 : decide (((s.getD (p + Int.toNat 0) 0).toNat : Int) < 128) = false := decide_eq_false (by omega)
      have hlead : Lib.validD s = match Lib.checkN (s.length - p) (s.getD (p + Int.toNat 1) 0).toNat (s.getD (p + Int.toNat 2) 0).toNat (s.getD (p + Int.toNat 3) 0).toNat (Lib.firstT (s.getD (p + Int.toNat 0) 0).toNat % 8) (Lib.accLo (Lib.firstT (s.getD (p + Int.toNat 0) 0).toNat / 16)) (Lib.accHi (Lib.firstT (s.getD (p + Int.toNat 0) 0).toNat / 16)) with
          | none => false
          | some k => Lib.validD (s.drop (p + k)) := by
        have h := Lib.validD_lead (s.drop p) (by rw [drop_cons hlt]; simp) (by rw [getD_drop]; exact Nat.le_of_not_lt h128)
        rw [getD_drop, getD_drop, getD_drop, getD_drop, List.length_drop] at h
        rw [hv, h]
        exact lead_at _
      have hc256 : (s.getD (p + Int.toNat 0) 0).toNat < 256 := UInt8.toNat_lt _
      have hx1 : (List.map (fun p => SV.int p.fst p.snd) (globTab 0))[0 + (((s.getD (p + Int.toNat 0) 0).toNat : Nat) : Int).toNat * 1]? = some (.int .u8 (Lib.firstT (s.getD (p + Int.toNat 0) 0).toNat : Int)) := by
        rw [Int.toNat_natCast, Nat.mul_one, Nat.zero_add, List.getElem?_map, first_tab ⟨_, hc256⟩]
        rfl
      have hb0 : (decide (0 ≤ ((s.getD (p + Int.toNat 0) 0).toNat : Int)) && decide (((s.getD (p + Int.toNat 0) 0).toNat : Int) < ((256 : Nat) : Int))) = true := by simp only [Bool.and_eq_true, decide_eq_true_eq]; omega
      generalize hF : Lib.firstT (s.getD (p + Int.toNat 0) 0).toNat = F at hlead hx1
      obtain ⟨hF256, hsz⟩ : F < 256 ∧ IntKind.i64.wrap (bitsI .and .u8 (F : Int) 7) = ((F % 8 : Nat) : Int) := by
        have : ∀ c : Fin 256, Lib.firstT c.val < 256 := by decide +kernel
        have h1 : F < 256 := by rw [← hF]; exact this ⟨_, hc256⟩
        have h2 : ∀ v : Fin 256, IntKind.i64.wrap (bitsI .and .u8 (v.val : Int) 7) = ((v.val % 8 : Nat) : Int) := by decide +kernel
        exact ⟨h1, h2 ⟨F, h1⟩⟩
      have hA : (F : Int).fdiv (2 ^ min (Int.toNat 4) IntKind.u8.bits) = ((F / 16 : Nat) : Int) := by
        show (F : Int).fdiv 16 = _
        rw [Int.fdiv_eq_ediv_of_nonneg _ (by decide)]; omega
      have hb16 : (decide (0 ≤ (F : Int).fdiv (2 ^ min (Int.toNat 4) IntKind.u8.bits)) && decide ((F : Int).fdiv (2 ^ min (Int.toNat 4) IntKind.u8.bits) < ((16 : Nat) : Int))) = true := by rw [hA]; simp only [Bool.and_eq_true, decide_eq_true_eq]; omega
      obtain ⟨t1, t2⟩ := acc_tab ⟨F / 16, by omega⟩
      dsimp only at t1 t2
      have hlen : (globTab 1).length = 32 := by decide +kernel
      have hx2 : ((List.map (fun p => SV.int p.fst p.snd) (globTab 1)).drop (0 + ((F : Int).fdiv (2 ^ min (Int.toNat 4) IntKind.u8.bits)).toNat * 2)).take 2 = [.int .u8 (Lib.accLo (F / 16) : Int), .int .u8 (Lib.accHi (F / 16) : Int)] := by
        rw [hA, Int.toNat_natCast, Nat.zero_add, Nat.mul_comm]
        apply List.ext_getElem?
        intro i
        rcases i with _ | _ | i
        · rw [List.getElem?_take, if_pos (by decide), List.getElem?_drop, Nat.add_zero, List.getElem?_map, t1]; rfl
        · rw [List.getElem?_take, if_pos (by decide), List.getElem?_drop, List.getElem?_map, t2]; rfl
        · rw [List.getElem?_take, if_neg (by omega)]; rfl
      have hle2 : 0 + ((F : Int).fdiv (2 ^ min (Int.toNat 4) IntKind.u8.bits)).toNat * 2 + 2 ≤ (List.map (fun p => SV.int p.fst p.snd) (globTab 1)).length := by
        rw [hA, Int.toNat_natCast, List.length_map, hlen]; omega
      generalize Lib.accLo (F / 16) = lo at hlead hx2
      generalize Lib.accHi (F / 16) = hi at hlead hx2
      clear t1 t2 hF
      iterate 14 (all_goals (try conv => whnf); all_goals (try first | with_reducible refine brY (by assumption) ?_ | with_reducible refine brN (by assumption) ?_ | (with_reducible refine brT ?_ ?_; · (simp only [Bool.and_eq_true, Bool.not_eq_true', decide_eq_true_eq, decide_eq_false_iff_not, beq_iff_eq, beq_eq_false_iff_ne, ne_eq] at *; omega)) | with_reducible refine br (fun _ => ?_) (fun _ => ?_) | with_reducible refine ⟨rfl, ?_⟩ | with_reducible refine ARound.succ ?_))
      generalize List.map (fun p => SV.int p.fst p.snd) (globTab 0) = T0 at hx1 ⊢
      refine getL_some hx1 ?_
      generalize hB : bitsI .and .u8 (F : Int) 7 = B at hsz
      generalize hAq : (F : Int).fdiv (2 ^ min (Int.toNat 4) IntKind.u8.bits) = A at hA hb16 hx2 hle2
      iterate 14 (all_goals (try conv => whnf); all_goals (try first | with_reducible refine brY (by assumption) ?_ | with_reducible refine brN (by assumption) ?_ | (with_reducible refine brT ?_ ?_; · (simp only [Bool.and_eq_true, Bool.not_eq_true', decide_eq_true_eq, decide_eq_false_iff_not, beq_iff_eq, beq_eq_false_iff_ne, ne_eq] at *; omega)) | with_reducible refine br (fun _ => ?_) (fun _ => ?_) | with_reducible refine ⟨rfl, ?_⟩ | with_reducible refine ARound.succ ?_))
      rw [hAq, hB]
      generalize List.map (fun p => SV.int p.fst p.snd) (globTab 1) = T1 at hx2 hle2 ⊢
      refine dropN_run (by omega) (takeN_run2 (by rw [List.length_drop]; omega) hx2 ?_)
      clear hx2 hle2 hA hb16 hAq hB hx1 hb0 hlen
      have k2 : ∀ e' : Env, e' = [(0, SV.lst 1 (((s.length - p : Nat) : Int).toNat - Int.toNat 2) fun i => byS (s.getD (p + (Int.toNat 2 + i)) 0)), (2, SV.bool false)] → e' = [(0, lstF s (p + 2)), (2, SV.bool false)] := fun e' he => by
        exact he.trans (congrArg (fun z => [(0, z), (2, SV.bool false)]) (lst_k (p := p) (k := 2) (f := fun i => p + (Int.toNat 2 + i)) (show s.length - p - 2 = _ by omega) (fun i => show p + (2 + i) = p + 2 + i by omega)))
      have k3 : ∀ e' : Env, e' = [(0, SV.lst 1 (((s.length - p : Nat) : Int).toNat - Int.toNat 3) fun i => byS (s.getD (p + (Int.toNat 3 + i)) 0)), (2, SV.bool false)] → e' = [(0, lstF s (p + 3)), (2, SV.bool false)] := fun e' he => by
        exact he.trans (congrArg (fun z => [(0, z), (2, SV.bool false)]) (lst_k (p := p) (k := 3) (f := fun i => p + (Int.toNat 3 + i)) (show s.length - p - 3 = _ by omega) (fun i => show p + (3 + i) = p + 3 + i by omega)))
      have k4 : ∀ e' : Env, e' = [(0, SV.lst 1 (((s.length - p : Nat) : Int).toNat - Int.toNat 4) fun i => byS (s.getD (p + (Int.toNat 4 + i)) 0)), (2, SV.bool false)] → e' = [(0, lstF s (p + 4)), (2, SV.bool false)] := fun e' he => by
        exact he.trans (congrArg (fun z => [(0, z), (2, SV.bool false)]) (lst_k (p := p) (k := 4) (f := fun i => p + (Int.toNat 4 + i)) (show s.length - p - 4 = _ by omega) (fun i => show p + (4 + i) = p + 4 + i by omega)))
      generalize hE : IntKind.i64.wrap B = E at hsz ⊢
      clear hE
      generalize hb1 : s.getD (p + Int.toNat 1) 0 = b1 at hlead
      generalize hb2 : s.getD (p + Int.toNat 2) 0 = b2 at hlead
      generalize hb3 : s.getD (p + Int.toNat 3) 0 = b3 at hlead
      by_cases f2 : F % 8 = 2
      case pos =>
        have g2 : (E == 2) = true := by rw [hsz, f2]; rfl
        have lead : Lib.validD s = if s.length - p < 2 ∨ b1.toNat < lo ∨ hi < b1.toNat then false else Lib.validD (s.drop (p + 2)) := by
          rw [hlead, f2]; unfold Lib.checkN; rw [if_pos rfl]; by_cases c : s.length - p < 2 ∨ b1.toNat < lo ∨ hi < b1.toNat
          · rw [if_pos c, if_pos c]
          · rw [if_neg c, if_neg c]
        rw [← hb1] at lead
        clear hb1 hb2 hb3 hlead
        iterate 60 (all_goals (try conv => whnf); all_goals (try first | with_reducible refine brY (by assumption) ?_ | with_reducible refine brN (by assumption) ?_ | (with_reducible refine brT ?_ ?_; · (simp only [Bool.and_eq_true, Bool.not_eq_true', decide_eq_true_eq, decide_eq_false_iff_not, beq_iff_eq, beq_eq_false_iff_ne, ne_eq] at *; omega)) | with_reducible refine br (fun _ => ?_) (fun _ => ?_) | with_reducible refine ⟨rfl, ?_⟩ | with_reducible refine ARound.succ ?_))
        all_goals first
          | (refine leaf ?_ (.bool _); rw [lead, if_pos]; simp only [decide_eq_true_eq, decide_eq_false_iff_not] at *; omega)
          | (have hbad : ¬ (s.length - p < 2 ∨ (s.getD (p + Int.toNat 1) 0).toNat < lo ∨ hi < (s.getD (p + Int.toNat 1) 0).toNat) := (by clear lead; simp only [decide_eq_true_eq, decide_eq_false_iff_not] at *; omega); exact ⟨⟨p + 2, by omega, by rw [lead, if_neg hbad]⟩, by dsimp only; omega, k2 _ rfl, rfl⟩)
      by_cases f3 : F % 8 = 3
      case pos =>
        have g2 : (E == 2) = false := by rw [hsz, f3]; rfl
        have g3 : (E == 3) = true := by rw [hsz, f3]; rfl
        have lead : Lib.validD s = if s.length - p < 3 ∨ b1.toNat < lo ∨ hi < b1.toNat ∨ b2.toNat < 128 ∨ 191 < b2.toNat then false else Lib.validD (s.drop (p + 3)) := by
          rw [hlead, f3]; unfold Lib.checkN; rw [if_neg (by decide), if_pos rfl]; by_cases c : s.length - p < 3 ∨ b1.toNat < lo ∨ hi < b1.toNat ∨ b2.toNat < 128 ∨ 191 < b2.toNat
          · rw [if_pos c, if_pos c]
          · rw [if_neg c, if_neg c]
        rw [← hb1, ← hb2] at lead
        clear hb1 hb2 hb3 hlead
        iterate 60 (all_goals (try conv => whnf); all_goals (try first | with_reducible refine brY (by assumption) ?_ | with_reducible refine brN (by assumption) ?_ | (with_reducible refine brT ?_ ?_; · (simp only [Bool.and_eq_true, Bool.not_eq_true', decide_eq_true_eq, decide_eq_false_iff_not, beq_iff_eq, beq_eq_false_iff_ne, ne_eq] at *; omega)) | with_reducible refine br (fun _ => ?_) (fun _ => ?_) | with_reducible refine ⟨rfl, ?_⟩ | with_reducible refine ARound.succ ?_))
        all_goals first
          | (refine leaf ?_ (.bool _); rw [lead, if_pos]; simp only [decide_eq_true_eq, decide_eq_false_iff_not] at *; omega)
          | (have hbad : ¬ (s.length - p < 3 ∨ (s.getD (p + Int.toNat 1) 0).toNat < lo ∨ hi < (s.getD (p + Int.toNat 1) 0).toNat ∨ (s.getD (p + Int.toNat 2) 0).toNat < 128 ∨ 191 < (s.getD (p + Int.toNat 2) 0).toNat) := (by clear lead; simp only [decide_eq_true_eq, decide_eq_false_iff_not] at *; omega); exact ⟨⟨p + 3, by omega, by rw [lead, if_neg hbad]⟩, by dsimp only; omega, k3 _ rfl, rfl⟩)
      by_cases f4 : F % 8 = 4
      case pos =>
        have g2 : (E == 2) = false := by rw [hsz, f4]; rfl
        have g3 : (E == 3) = false := by rw [hsz, f4]; rfl
        have g4 : (E == 4) = true := by rw [hsz, f4]; rfl
        have lead : Lib.validD s = if s.length - p < 4 ∨ b1.toNat < lo ∨ hi < b1.toNat ∨ b2.toNat < 128 ∨ 191 < b2.toNat ∨ b3.toNat < 128 ∨ 191 < b3.toNat then false else Lib.validD (s.drop (p + 4)) := by
          rw [hlead, f4]; unfold Lib.checkN; rw [if_neg (by decide), if_neg (by decide), if_pos rfl]; by_cases c : s.length - p < 4 ∨ b1.toNat < lo ∨ hi < b1.toNat ∨ b2.toNat < 128 ∨ 191 < b2.toNat ∨ b3.toNat < 128 ∨ 191 < b3.toNat
          · rw [if_pos c, if_pos c]
          · rw [if_neg c, if_neg c]
        rw [← hb1, ← hb2, ← hb3] at lead
        clear hb1 hb2 hb3 hlead
        iterate 60 (all_goals (try conv => whnf); all_goals (try first | with_reducible refine brY (by assumption) ?_ | with_reducible refine brN (by assumption) ?_ | (with_reducible refine brT ?_ ?_; · (simp only [Bool.and_eq_true, Bool.not_eq_true', decide_eq_true_eq, decide_eq_false_iff_not, beq_iff_eq, beq_eq_false_iff_ne, ne_eq] at *; omega)) | with_reducible refine br (fun _ => ?_) (fun _ => ?_) | with_reducible refine ⟨rfl, ?_⟩ | with_reducible refine ARound.succ ?_))
        all_goals first
          | (refine leaf ?_ (.bool _); rw [lead, if_pos]; simp only [decide_eq_true_eq, decide_eq_false_iff_not] at *; omega)
          | (have hbad : ¬ (s.length - p < 4 ∨ (s.getD (p + Int.toNat 1) 0).toNat < lo ∨ hi < (s.getD (p + Int.toNat 1) 0).toNat ∨ (s.getD (p + Int.toNat 2) 0).toNat < 128 ∨ 191 < (s.getD (p + Int.toNat 2) 0).toNat ∨ (s.getD (p + Int.toNat 3) 0).toNat < 128 ∨ 191 < (s.getD (p + Int.toNat 3) 0).toNat) := (by clear lead; simp only [decide_eq_true_eq, decide_eq_false_iff_not] at *; omega); exact ⟨⟨p + 4, by omega, by rw [lead, if_neg hbad]⟩, by dsimp only; omega, k4 _ rfl, rfl⟩)
      have g2 : (E == 2) = false := by rw [hsz, beq_eq_false_iff_ne]; omega
      have g3 : (E == 3) = false := by rw [hsz, beq_eq_false_iff_ne]; omega
      have g4 : (E == 4) = false := by rw [hsz, beq_eq_false_iff_ne]; omega
      have lead : Lib.validD s = false := by
        rw [hlead]; unfold Lib.checkN; rw [if_neg f2, if_neg f3, if_neg f4]
      iterate 60 (all_goals (try conv => whnf); all_goals (try first | with_reducible refine brY (by assumption) ?_ | with_reducible refine brN (by assumption) ?_ | (with_reducible refine brT ?_ ?_; · (simp only [Bool.and_eq_true, Bool.not_eq_true', decide_eq_true_eq, decide_eq_false_iff_not, beq_iff_eq, beq_eq_false_iff_ne, ne_eq] at *; omega)) | with_reducible refine br (fun _ => ?_) (fun _ => ?_) | with_reducible refine ⟨rfl, ?_⟩ | with_reducible refine ARound.succ ?_))
      exact leaf (by rw [lead]) (.bool _)
  · have hd : decide ((0 : Int) < ((s.length - p : Nat) : Int)) = false := decide_eq_false (by omega)
    iterate 12 (all_goals (try conv => whnf); all_goals (try first | with_reducible refine brY (by assumption) ?_ | with_reducible refine brN (by assumption) ?_ | (with_reducible refine brT ?_ ?_; · (simp only [Bool.and_eq_true, Bool.not_eq_true', decide_eq_true_eq, decide_eq_false_iff_not, beq_iff_eq, beq_eq_false_iff_ne, ne_eq] at *; omega)) | with_reducible refine br (fun _ => ?_) (fun _ => ?_) | with_reducible refine ⟨rfl, ?_⟩ | with_reducible refine ARound.succ ?_))
    exact leaf (by rw [hv, List.drop_of_length_le (by omega)]; rfl) (.bool _)
end Go.Proofs.YtlhpbcbkkbjhoaaGreatDoor
