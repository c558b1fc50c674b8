/- The law EncRow as a run. -/
import Derived.Test.YtcklfcagailoiaaDoorEr2
namespace Go.Proofs.YtcklfcagailoiaaDoor
open Ab Go.RowKit
set_option maxRecDepth 100000
set_option linter.unusedVariables false
set_option linter.unusedSimpArgs false
set_option pp.maxSteps 3000
@[reducible] def lstU (l : List Nat) : SV := .lst 1 l.length fun i => .int .u64 ((l.getD i 0 : Nat) : Int)
/-- What the law has appended so far. -/
def allV (l : List Nat) : Nat → SV
  | 0 => .nils
  | k + 1 => lstB (rowB (l.take (k + 1)))
theorem append_nil_any {x : Nat} (hx : x < 18446744073709551616) : PCall Tryd.prog 14 [.nils, .int .u64 x] (lstB (encB x)) :=
  append_gen (b := []) .nils (fun h k hk => hk) hx (by simp)
theorem append_any {b : List UInt8} {x : Nat} (hx : x < 18446744073709551616) (hb : b.length ≤ 140737488355318) : PCall Tryd.prog 14 [lstB b, .int .u64 x] (lstB (b ++ encB x)) :=
  append_gen (.lst _ _ _) (fun h => elems_bytes) hx hb
theorem getD_mem {l : List Nat} {k : Nat} (h : k < l.length) : l.getD k 0 ∈ l := by
  simp [List.getD, h]
theorem takeU {l : List Nat} {k : Nat} (h : k < l.length) : l.take (k + 1) = l.take k ++ [l.getD k 0] := by
  rw [List.take_add_one]
  simp [List.getD, h]
theorem dropU {l : List Nat} {k : Nat} (h : k < l.length) : l.drop k = l.getD k 0 :: l.drop (k + 1) := by
  rw [List.drop_eq_getElem_cons h]
  simp [List.getD, h]
theorem lst_drop {p q : List UInt8} : (SV.lst 1 ((((p ++ q).length : Int)).toNat - ((p.length : Int)).toNat) fun i => (fun i => byS ((p ++ q).getD i 0)) (((p.length : Int)).toNat + i)) = lstB q := by
  have e : (((p ++ q).length : Int)).toNat - ((p.length : Int)).toNat = q.length := by rw [List.length_append]; omega
  rw [e]
  congr 1
  funext i
  show byS ((p ++ q).getD (((p.length : Int)).toNat + i) 0) = byS (q.getD i 0)
  rw [Int.toNat_natCast]
  simp [List.getD, List.getElem?_append_right]
section
variable {l : List Nat} {b : List UInt8} (hl : ∀ x ∈ l, x < 18446744073709551616) (h200 : l.length ≤ 200)
include hl h200
theorem row_take_len (k : Nat) : (rowB (l.take k)).length ≤ 2000 := by
  have := rowB_len (l := l.take k) fun x hx => hl x (List.mem_of_mem_take hx)
  have h2 : (l.take k).length ≤ l.length := by rw [List.length_take]; omega
  omega
theorem row_drop_len (k : Nat) : (rowB (l.drop k)).length ≤ 2000 := by
  have := rowB_len (l := l.drop k) fun x hx => hl x (List.mem_of_mem_drop hx)
  have h2 : (l.drop k).length ≤ l.length := by rw [List.length_drop]; omega
  omega
theorem append_all {k : Nat} (hk : k < l.length) : PCall Tryd.prog 14 [allV l k, .int .u64 ((l.getD k 0 : Nat) : Int)] (allV l (k + 1)) := by
  have hx := hl _ (getD_mem hk)
  have e : allV l (k + 1) = lstB (rowB (l.take k) ++ encB (l.getD k 0)) := by
    show lstB (rowB (l.take (k + 1))) = _
    rw [takeU hk, rowB_snoc]
  cases k with
  | zero =>
    rw [e]
    exact append_nil_any hx
  | succ k =>
    rw [e]
    exact append_any hx (by have := row_take_len hl h200 (k + 1); omega)
theorem read_all {k : Nat} (hk : k < l.length) : PCall Tryd.prog 15 [lstB (rowB (l.drop k))] (rd3 (l.getD k 0 : Nat) (encB (l.getD k 0)).length 0) := by
  have h := read_any (b := rowB (l.drop k)) (by have := row_drop_len hl h200 k; omega)
  have hx := hl _ (getD_mem hk)
  have e : readB (rowB (l.drop k)) 10 0 0 = some (l.getD k 0, (encB (l.getD k 0)).length) := by
    rw [dropU hk]
    exact read_enc0 hx _
  unfold rdX rdN rdE at h
  rw [e] at h
  exact h
omit hl h200 in
theorem read_none (hb : b.length ≤ 140737488355318) (hr : readB b 10 0 0 = none) : PCall Tryd.prog 15 [lstB b] (rd3 0 0 5) := by
  have := read_any (b := b) (by omega)
  unfold rdX rdN rdE at this
  rwa [hr] at this
omit hl h200 in
theorem read_some (hb : b.length ≤ 140737488355318) {x n : Nat} (hr : readB b 10 0 0 = some (x, n)) : PCall Tryd.prog 15 [lstB b] (rd3 x n 0) := by
  have := read_any (b := b) (by omega)
  unfold rdX rdN rdE at this
  rwa [hr] at this
omit hl h200 in
theorem same_first {x n : Nat} (hx : x < 18446744073709551616) (h1 : n ≤ b.length) (h2 : b.take n = encB x) {R : AEnd → Heap → Prop} (hR : R (.ret (.bool true)) ⟨0, []⟩) :
    ACall Tryd.prog 16 [lstB (encB x), .lst 1 ((n : Int).toNat - Int.toNat 0) fun i => (fun i => byS (b.getD i 0)) (Int.toNat 0 + i)] ⟨0, []⟩ R := by
  have hle := encB_len10 hx
  have hc : PCall Tryd.prog 16 [lstB (encB x), lstB (b.take n)] (.bool true) := by
    have := sameBytes_any (a := encB x) (b := b.take n) (by omega)
    rw [h2, beq_self_eq_true] at this
    rw [h2]; exact this
  have e : (b.take n).length = (n : Int).toNat - Int.toNat 0 := by simp; omega
  refine ACall.freeze (fun _ => false) (args' := [lstB (encB x), lstB (b.take n)]) (.cons (.lit (.lst _ _ _)) (.cons ?_ .nil)) (PCall.call hc hR)
  show Hard _ _ (.lst 1 (b.take n).length fun i => byS ((b.take n).getD i 0))
  rw [e]
  refine .same fun j hj => ?_
  have hj : j < n := by simpa using hj
  show byS (b.getD (0 + j) 0) = byS ((b.take n).getD j 0)
  rw [Nat.zero_add]
  simp [List.getD, List.getElem?_take, hj]
theorem encRow_any (hb : b.length ≤ 140737488355318) : PCall Tryd.prog 3 [lstU l, lstB b] (.bool true) := by
  refine pcall_of (lits2 (.lst _ _ _) (.lst _ _ _)) (call3 rfl ?_)
  have hd : decide ((200 : Int) < (l.length : Int)) = false := decide_eq_false (by omega)
  iterate 8 (all_goals (try conv => whnf); all_goals (try first | with_reducible refine brY (by assumption) ?_ | with_reducible refine brN (by assumption) ?_ | (with_reducible refine brT ?_ ?_; · (simp only [Bool.and_eq_true, Bool.not_eq_true', decide_eq_true_eq, decide_eq_false_iff_not, beq_iff_eq, beq_eq_false_iff_ne, ne_eq] at *; omega)) | with_reducible refine br (fun _ => ?_) (fun _ => ?_) | with_reducible refine ⟨rfl, ?_⟩ | with_reducible refine ARound.succ ?_ | with_reducible refine PCall.call (lives_any) ?_))
  refine loop_ind (σ := {k : Nat // k ≤ l.length}) (fun s => [(0, lstU l), (1, lstB b), (4, SV.bool false), (15, SV.bool false), (18, SV.bool false), (5, allV l s.1), (6, SV.int IntKind.i64 s.1)]) (fun _ => ⟨0, []⟩) (fun s => l.length - s.1) ?_ ⟨0, by omega⟩
  rintro ⟨k, hk⟩
  dsimp only
  by_cases hkl : k < l.length
  · have hd : decide ((k : Int) < (l.length : Int)) = true := decide_eq_true (by omega)
    have e7 : IntKind.i64.wrap ((k : Int) + 1) = ((k + 1 : Nat) : Int) := w64add (by omega)
    have ca : PCall Tryd.prog 14 [allV l k, .int .u64 ((l.getD (k : Int).toNat 0 : Nat) : Int)] (allV l (k + 1)) := by rw [Int.toNat_natCast]; exact append_all hl h200 hkl
    iterate 12 (all_goals (try conv => whnf); all_goals (try first | with_reducible refine brY (by assumption) ?_ | with_reducible refine brN (by assumption) ?_ | (with_reducible refine brT ?_ ?_; · (simp only [Bool.and_eq_true, Bool.not_eq_true', decide_eq_true_eq, decide_eq_false_iff_not, beq_iff_eq, beq_eq_false_iff_ne, ne_eq] at *; omega)) | with_reducible refine br (fun _ => ?_) (fun _ => ?_) | with_reducible refine ⟨rfl, ?_⟩ | with_reducible refine ARound.succ ?_ | with_reducible refine PCall.call (ca) ?_))
    exact ⟨⟨k + 1, hkl⟩, by dsimp only; omega, by rw [e7], rfl⟩
  have hkl : k = l.length := by omega
  subst hkl
  have hd : decide ((l.length : Int) < (l.length : Int)) = false := decide_eq_false (by omega)
  iterate 5 (all_goals (try conv => whnf); all_goals (try first | with_reducible refine brY (by assumption) ?_ | with_reducible refine brN (by assumption) ?_ | (with_reducible refine brT ?_ ?_; · (simp only [Bool.and_eq_true, Bool.not_eq_true', decide_eq_true_eq, decide_eq_false_iff_not, beq_iff_eq, beq_eq_false_iff_ne, ne_eq] at *; omega)) | with_reducible refine br (fun _ => ?_) (fun _ => ?_) | with_reducible refine ⟨rfl, ?_⟩ | with_reducible refine ARound.succ ?_))
  by_cases hnil : l = []
  · subst hnil
    iterate 8 (all_goals (try conv => whnf); all_goals (try first | with_reducible refine brY (by assumption) ?_ | with_reducible refine brN (by assumption) ?_ | (with_reducible refine brT ?_ ?_; · (simp only [Bool.and_eq_true, Bool.not_eq_true', decide_eq_true_eq, decide_eq_false_iff_not, beq_iff_eq, beq_eq_false_iff_ne, ne_eq] at *; omega)) | with_reducible refine br (fun _ => ?_) (fun _ => ?_) | with_reducible refine ⟨rfl, ?_⟩ | with_reducible refine ARound.succ ?_ | with_reducible refine loop_rounds 2 ?_))
    cases hr : readB b 10 0 0 with
    | none =>
      have cb := read_none hb hr
      iterate 30 (all_goals (try conv => whnf); all_goals (try first | with_reducible refine brY (by assumption) ?_ | with_reducible refine brN (by assumption) ?_ | (with_reducible refine brT ?_ ?_; · (simp only [Bool.and_eq_true, Bool.not_eq_true', decide_eq_true_eq, decide_eq_false_iff_not, beq_iff_eq, beq_eq_false_iff_ne, ne_eq] at *; omega)) | with_reducible refine br (fun _ => ?_) (fun _ => ?_) | with_reducible refine ⟨rfl, ?_⟩ | with_reducible refine ARound.succ ?_ | with_reducible refine PCall.call (cb) ?_))
      exact leaf rfl (.bool _)
    | some p =>
      obtain ⟨x, n⟩ := p
      obtain ⟨hx, hn0, hn1, hn2⟩ := enc_read0 hr
      have cb := read_some hb hr
      have g1 : decide ((b.length : Int) < (n : Int)) = false := decide_eq_false (by omega)
      iterate 30 (all_goals (try conv => whnf); all_goals (try first | with_reducible refine brY (by assumption) ?_ | with_reducible refine brN (by assumption) ?_ | (with_reducible refine brT ?_ ?_; · (simp only [Bool.and_eq_true, Bool.not_eq_true', decide_eq_true_eq, decide_eq_false_iff_not, beq_iff_eq, beq_eq_false_iff_ne, ne_eq] at *; omega)) | with_reducible refine br (fun _ => ?_) (fun _ => ?_) | with_reducible refine ⟨rfl, ?_⟩ | with_reducible refine ARound.succ ?_ | with_reducible refine PCall.call (cb) ?_ | with_reducible refine PCall.call (append_nil_any hx) ?_ | (with_reducible refine same_first hx hn1 hn2 ?_)))
      exact leaf rfl (.bool _)
  have hpos : 0 < l.length := by cases l with | nil => exact absurd rfl hnil | cons c r => simp
  have e0 : allV l l.length = lstB (rowB (l.drop 0)) := by
    obtain ⟨n, hn⟩ : ∃ n, l.length = n + 1 := ⟨l.length - 1, by omega⟩
    rw [hn]
    show lstB (rowB (l.take (n + 1))) = _
    rw [List.take_of_length_le (by omega), List.drop_zero]
  rw [e0]
  refine loop_ind (σ := {k : Nat // k ≤ l.length}) (fun s => [(0, lstU l), (1, lstB b), (4, SV.bool false), (15, SV.bool false), (18, SV.bool false), (5, lstB (rowB (l.drop s.1))), (6, SV.int IntKind.i64 l.length), (22, SV.bool false), (7, SV.int IntKind.i64 s.1)]) (fun _ => ⟨0, []⟩) (fun s => l.length - s.1) ?_ ⟨0, by omega⟩
  rintro ⟨k, hk⟩
  dsimp only
  by_cases hkl : k < l.length
  · have hd : decide ((k : Int) < (l.length : Int)) = true := decide_eq_true (by omega)
    have e7 : IntKind.i64.wrap ((k : Int) + 1) = ((k + 1 : Nat) : Int) := w64add (by omega)
    have cr := read_all hl h200 hkl
    have ep := encB_pos (l.getD k 0)
    have el : (encB (l.getD k 0)).length ≤ (rowB (l.drop k)).length := by rw [dropU hkl]; simp [rowB]
    have g1 : (((l.getD k 0 : Nat) : Int) != ((l.getD (k : Int).toNat 0 : Nat) : Int)) = false := by rw [Int.toNat_natCast, bne_eq_false_iff_eq]
    have g2 : decide (((encB (l.getD k 0)).length : Int) < 1) = false := decide_eq_false (by omega)
    have g3 : decide (((rowB (l.drop k)).length : Int) < ((encB (l.getD k 0)).length : Int)) = false := decide_eq_false (by omega)
    iterate 20 (all_goals (try conv => whnf); all_goals (try first | with_reducible refine brY (by assumption) ?_ | with_reducible refine brN (by assumption) ?_ | (with_reducible refine brT ?_ ?_; · (simp only [Bool.and_eq_true, Bool.not_eq_true', decide_eq_true_eq, decide_eq_false_iff_not, beq_iff_eq, beq_eq_false_iff_ne, ne_eq] at *; omega)) | with_reducible refine br (fun _ => ?_) (fun _ => ?_) | with_reducible refine ⟨rfl, ?_⟩ | with_reducible refine ARound.succ ?_ | with_reducible refine PCall.call (cr) ?_))
    refine ⟨⟨k + 1, hkl⟩, by dsimp only; omega, ?_, rfl⟩
    have e9 := lst_drop (p := encB (l.getD k 0)) (q := rowB (l.drop (k + 1)))
    have e10 : rowB (l.drop k) = encB (l.getD k 0) ++ rowB (l.drop (k + 1)) := by rw [dropU hkl]; rfl
    rw [← e10] at e9
    rw [e7, e9]
  have hkl : k = l.length := by omega
  subst hkl
  have hd : decide ((l.length : Int) < (l.length : Int)) = false := decide_eq_false (by omega)
  have hz : (rowB (l.drop l.length)).length = 0 := by rw [List.drop_of_length_le (Nat.le_refl _)]; rfl
  cases hr : readB b 10 0 0 with
  | none =>
    have cb := read_none hb hr
    iterate 30 (all_goals (try conv => whnf); all_goals (try first | with_reducible refine brY (by assumption) ?_ | with_reducible refine brN (by assumption) ?_ | (with_reducible refine brT ?_ ?_; · (simp only [Bool.and_eq_true, Bool.not_eq_true', decide_eq_true_eq, decide_eq_false_iff_not, beq_iff_eq, beq_eq_false_iff_ne, ne_eq] at *; omega)) | with_reducible refine br (fun _ => ?_) (fun _ => ?_) | with_reducible refine ⟨rfl, ?_⟩ | with_reducible refine ARound.succ ?_ | with_reducible refine PCall.call (cb) ?_))
    exact leaf (by rw [hz]; rfl) (.bool _)
  | some p =>
    obtain ⟨x, n⟩ := p
    obtain ⟨hx, hn0, hn1, hn2⟩ := enc_read0 hr
    have cb := read_some hb hr
    have g1 : decide ((b.length : Int) < (n : Int)) = false := decide_eq_false (by omega)
    iterate 30 (all_goals (try conv => whnf); all_goals (try first | with_reducible refine brY (by assumption) ?_ | with_reducible refine brN (by assumption) ?_ | (with_reducible refine brT ?_ ?_; · (simp only [Bool.and_eq_true, Bool.not_eq_true', decide_eq_true_eq, decide_eq_false_iff_not, beq_iff_eq, beq_eq_false_iff_ne, ne_eq] at *; omega)) | with_reducible refine br (fun _ => ?_) (fun _ => ?_) | with_reducible refine ⟨rfl, ?_⟩ | with_reducible refine ARound.succ ?_ | with_reducible refine PCall.call (cb) ?_ | with_reducible refine PCall.call (append_nil_any hx) ?_ | (with_reducible refine same_first hx hn1 hn2 ?_)))
    exact leaf (by rw [hz]; rfl) (.bool _)
end
end Go.Proofs.YtcklfcagailoiaaDoor
