/- Parts of the proof of PLexBack, one behind the other. -/
import Derived.Test.YtlhpbcbkkbjhoaaDoorM12
import Derived.Test.YtlhpbcbkkbjhoaaDoorM11
import Derived.Test.YtlhpbcbkkbjhoaaDoorM8
import Derived.Test.YtlhpbcbkkbjhoaaDoorProg
import Derived.KernelRfl
namespace Go.Proofs.YtlhpbcbkkbjhoaaDoor
open Ab Go.RowKit
set_option maxRecDepth 100000
set_option linter.unusedVariables false
set_option linter.unusedSimpArgs false
set_option pp.maxSteps 3000
theorem indexByte_any (s : List UInt8) (b : UInt8) : PCall Tryd.prog 22 [.str s, .int .u8 b.toNat] (.int .i64 (Lib.indexByte s b)) := by
  refine pcall_of (lits2 (.str _) (.int _ _)) (call22 rfl ?_)
  iterate 3 (all_goals (try conv => whnf); all_goals (try first | with_reducible refine brY (by assumption) ?_ | with_reducible refine brN (by assumption) ?_ | (with_reducible refine brT ?_ ?_; · (simp only [Bool.and_eq_true, Bool.not_eq_true', decide_eq_true_eq, decide_eq_false_iff_not, beq_iff_eq, beq_eq_false_iff_ne, ne_eq] at *; omega)) | with_reducible refine br (fun _ => ?_) (fun _ => ?_) | with_reducible refine ⟨rfl, ?_⟩ | with_reducible refine ARound.succ ?_))
  refine leaf ?_ (.int _ _)
  have e : (Int.toNat (b.toNat : Int)).toUInt8 = b := by rw [Int.toNat_natCast]; simp
  show SV.int .i64 (Lib.indexByte s (Int.toNat (b.toNat : Int)).toUInt8) = _
  rw [e]
theorem index_any (s : List UInt8) (b : UInt8) : PCall Tryd.prog 67 [.str s, .str [b]] (.int .i64 (Lib.indexByte s b)) := by
  have h1 : PCall Tryd.prog 82 [.str s, .str [b]] (.int .i64 (Lib.indexByte s b)) := by
    refine pcall_of (lits2 (.str _) (.str _)) (call82 rfl ?_)
    iterate 12 (all_goals (try conv => whnf); all_goals (try first | with_reducible refine brY (by assumption) ?_ | with_reducible refine brN (by assumption) ?_ | (with_reducible refine brT ?_ ?_; · (simp only [Bool.and_eq_true, Bool.not_eq_true', decide_eq_true_eq, decide_eq_false_iff_not, beq_iff_eq, beq_eq_false_iff_ne, ne_eq] at *; omega)) | with_reducible refine br (fun _ => ?_) (fun _ => ?_) | with_reducible refine ⟨rfl, ?_⟩ | with_reducible refine ARound.succ ?_ | with_reducible refine PCall.call (indexByte_any _ _) ?_))
    · rename_i h
      have h := beq_iff_eq.1 h
      subst h
      exact leaf (by simp [Lib.indexByte]) (.int _ _)
    · exact leaf rfl (.int _ _)
  refine pcall_of (lits2 (.str _) (.str _)) (call67 rfl ?_)
  iterate 3 (all_goals (try conv => whnf); all_goals (try first | with_reducible refine brY (by assumption) ?_ | with_reducible refine brN (by assumption) ?_ | (with_reducible refine brT ?_ ?_; · (simp only [Bool.and_eq_true, Bool.not_eq_true', decide_eq_true_eq, decide_eq_false_iff_not, beq_iff_eq, beq_eq_false_iff_ne, ne_eq] at *; omega)) | with_reducible refine br (fun _ => ?_) (fun _ => ?_) | with_reducible refine ⟨rfl, ?_⟩ | with_reducible refine ARound.succ ?_ | with_reducible refine PCall.call (h1) ?_))
  exact leaf rfl (.int _ _)
theorem grow_new {n : Int} {R : AEnd → Heap → Prop} (h0 : 0 < n) (hn : n ≤ 140737488355328) (hk : R (.ret (.tup [])) ⟨2, [(1, bufO 5 0 []), (0, bldO 46 0 1 0 0)]⟩) :
    ACall Tryd.prog 13 [.ref 0 0 0 0, .int .i64 n] ⟨1, [(0, .vec 0 2 [.agg [.nilp, .nils]] ⟨false, some 46⟩)]⟩ R := by
  refine call13 rfl ?_
  have q1 : decide (n < 0) = false := decide_eq_false (by omega)
  have e0 : IntKind.i64.wrap (0 - 0) = 0 := by decide
  have q2 : decide (IntKind.i64.wrap (0 - 0) < n) = true := by rw [e0]; exact decide_eq_true h0
  have e1 : IntKind.i64.wrap (IntKind.i64.wrap (2 * 0) + n) = n := by
    rw [show IntKind.i64.wrap (2 * 0) = 0 by decide, Int.zero_add, w64 (by omega) (by omega)]
  have q3 : (decide (0 ≤ IntKind.i64.wrap (IntKind.i64.wrap (2 * 0) + n)) && decide (IntKind.i64.wrap (IntKind.i64.wrap (2 * 0) + n) ≤ 140737488355328)) = true := by
    rw [e1, decide_eq_true (show 0 ≤ n by omega), decide_eq_true hn]; rfl
  iterate 30 (all_goals (try conv => whnf); all_goals (try first | with_reducible refine brY (by assumption) ?_ | with_reducible refine brN (by assumption) ?_ | (with_reducible refine brT ?_ ?_; · (simp only [Bool.and_eq_true, Bool.not_eq_true', decide_eq_true_eq, decide_eq_false_iff_not, beq_iff_eq, beq_eq_false_iff_ne, ne_eq] at *; omega)) | with_reducible refine br (fun _ => ?_) (fun _ => ?_) | with_reducible refine ⟨rfl, ?_⟩ | with_reducible refine ARound.succ ?_ | (refine call30 rfl ?_) | (refine call31 rfl ?_)))
  exact hk
theorem count_any (s : List UInt8) (b : UInt8) : PCall Tryd.prog 66 [.str s, .str [b]] (.int .i64 (s.count b)) := by
  refine pcall_of (lits2 (.str _) (.str _)) (call66 rfl ?_)
  iterate 8 (all_goals (try conv => whnf); all_goals (try first | with_reducible refine brY (by assumption) ?_ | with_reducible refine brN (by assumption) ?_ | (with_reducible refine brT ?_ ?_; · (simp only [Bool.and_eq_true, Bool.not_eq_true', decide_eq_true_eq, decide_eq_false_iff_not, beq_iff_eq, beq_eq_false_iff_ne, ne_eq] at *; omega)) | with_reducible refine br (fun _ => ?_) (fun _ => ?_) | with_reducible refine ⟨rfl, ?_⟩ | with_reducible refine ARound.succ ?_))
  refine leaf ?_ (.int _ _)
  have e : (Int.toNat (([b].getD (Int.toNat 0) 0).toNat : Int)).toUInt8 = b := by rw [Int.toNat_natCast]; simp
  show SV.int .i64 ((Lib.countByte s (Int.toNat (([b].getD (Int.toNat 0) 0).toNat : Int)).toUInt8 : Nat) : Int) = _
  rw [e]; rfl
theorem ltH2 {g n : Nat} {o : List UInt8} : ltH [(1, bufO 5 g o), (0, bldO 46 0 1 g n)] 2 := by
  intro i ob h
  unfold objL at h
  split at h
  · cases h; rename_i h; subst h; exact ⟨by omega, objLt_by⟩
  · unfold objL at h
    split at h
    · cases h; rename_i h; subst h; exact ⟨by omega, fun v hv => by simp only [List.mem_singleton] at hv; subst hv; rfl⟩
    · cases h
theorem ws2 {g : Nat} {o s : List UInt8} {R : AEnd → Heap → Prop} (hlen : o.length + s.length ≤ 140737488355328)
    (hk : ∀ g', R (.ret (.tup [.int .i64 s.length, .nili])) ⟨2, [(1, bufO 5 g' (o ++ s)), (0, bldO 46 0 1 g' (o ++ s).length)]⟩) :
    ACall Tryd.prog 14 [.ref 0 0 0 0, .str s] ⟨2, [(1, bufO 5 g o), (0, bldO 46 0 1 g o.length)]⟩ R :=
  ws_app (bi := 0) (j := 1) rfl rfl (by omega) (by omega) (by omega) ltH2 hlen hk
/-- Replacing: the state of its loop. -/
structure RpS (b : UInt8) (nw s : List UInt8) where
  k : Nat
  p : List UInt8
  r : List UInt8
  g : Nat
  hs : s = p ++ r
  hk : k + r.count b = s.count b
theorem replace_any {b : UInt8} {nw s : List UInt8} (hne : nw ≠ [b]) (h1 : 1 ≤ nw.length) (h4 : nw.length ≤ 4) (hs : s.length ≤ 1099511627776) :
    PCall Tryd.prog 53 [.str s, .str [b], .str nw, .int .i64 (-1)] (.str (repB b nw s)) := by
  refine pcall_of (lits4 (.str _) (.str _) (.str _) (.int _ _)) (call53 rfl ?_)
  have q1 : ([b] == nw) = false := beq_eq_false_iff_ne.2 fun h => hne h.symm
  by_cases hc : s.count b = 0
  · have q2 : (((s.count b : Nat) : Int) == 0) = true := by rw [beq_iff_eq]; omega
    iterate 12 (all_goals (try conv => whnf); all_goals (try first | with_reducible refine brY (by assumption) ?_ | with_reducible refine brN (by assumption) ?_ | (with_reducible refine brT ?_ ?_; · (simp only [Bool.and_eq_true, Bool.not_eq_true', decide_eq_true_eq, decide_eq_false_iff_not, beq_iff_eq, beq_eq_false_iff_ne, ne_eq] at *; omega)) | with_reducible refine br (fun _ => ?_) (fun _ => ?_) | with_reducible refine ⟨rfl, ?_⟩ | with_reducible refine ARound.succ ?_ | with_reducible refine PCall.call (count_any _ _) ?_))
    exact leaf (by rw [repB_none b nw s hc]) (.str _)
  have q2 : (((s.count b : Nat) : Int) == 0) = false := by rw [beq_eq_false_iff_ne]; omega
  have hcl : s.count b ≤ s.length := List.count_le_length
  have hm : s.count b * (nw.length - 1) ≤ s.length * 3 := Nat.mul_le_mul hcl (by omega)
  have em : ((s.count b : Nat) : Int) * ((nw.length : Int) - 1) = ((s.count b * (nw.length - 1) : Nat) : Int) := by
    rw [Int.natCast_mul, show ((nw.length - 1 : Nat) : Int) = (nw.length : Int) - 1 by omega]
  have en : IntKind.i64.wrap ((s.length : Int) + IntKind.i64.wrap (((s.count b : Nat) : Int) * IntKind.i64.wrap ((nw.length : Int) - 1))) = ((s.length + s.count b * (nw.length - 1) : Nat) : Int) := by
    rw [w64 (x := (nw.length : Int) - 1) (by omega) (by omega), em, w64 (x := ((s.count b * (nw.length - 1) : Nat) : Int)) (by omega) (by omega), w64 (by omega) (by omega)]
    omega
  have hpos : 0 < s.length := by omega
  have gr : ∀ {R : AEnd → Heap → Prop}, R (.ret (.tup [])) ⟨2, [(1, bufO 5 0 []), (0, bldO 46 0 1 0 0)]⟩ → ACall Tryd.prog 13 [.ref 0 0 0 0, .int .i64 (IntKind.i64.wrap ((s.length : Int) + IntKind.i64.wrap (((s.count b : Nat) : Int) * IntKind.i64.wrap ((nw.length : Int) - 1))))] ⟨1, [(0, .vec 0 2 [.agg [.nilp, .nils]] ⟨false, some 46⟩)]⟩ R := fun h => by
    rw [en]; exact grow_new (by omega) (by omega) h
  iterate 20 (all_goals (try conv => whnf); all_goals (try first | with_reducible refine brY (by assumption) ?_ | with_reducible refine brN (by assumption) ?_ | (with_reducible refine brT ?_ ?_; · (simp only [Bool.and_eq_true, Bool.not_eq_true', decide_eq_true_eq, decide_eq_false_iff_not, beq_iff_eq, beq_eq_false_iff_ne, ne_eq] at *; omega)) | with_reducible refine br (fun _ => ?_) (fun _ => ?_) | with_reducible refine ⟨rfl, ?_⟩ | with_reducible refine ARound.succ ?_ | with_reducible refine PCall.call (count_any _ _) ?_ | (refine gr ?_)))
  refine loop_ind (σ := RpS b nw s) (fun q => [(0, SV.str s), (1, SV.str [b]), (2, SV.str nw), (3, SV.int IntKind.i64 ((s.count b : Nat) : Int)), (8, SV.str []), (22, SV.bool false), (9, SV.int IntKind.i64 ((s.count b : Nat) : Int)), (28, SV.bool false), (36, SV.bool true), (10, SV.ref 0 0 0 0), (11, SV.int IntKind.i64 q.p.length), (51, SV.bool true), (52, SV.int IntKind.i64 ((s.count b : Nat) : Int)), (53, SV.int IntKind.i64 q.k)])
    (fun q => ⟨2, [(1, bufO 5 q.g (repB b nw q.p)), (0, bldO 46 0 1 q.g (repB b nw q.p).length)]⟩) (fun q => s.count b - q.k) ?_ ⟨0, [], s, 0, rfl, by omega⟩
  rintro ⟨k, p, r, g, hpr, hk⟩
  dsimp only
  have hpl : p.length + r.length = s.length := by rw [hpr, List.length_append]
  have hrp := repB_len b (nw := nw) (k := 4) h4 (by omega) p
  by_cases hlt : k < s.count b
  · have hd : decide ((k : Int) < ((s.count b : Nat) : Int)) = true := decide_eq_true (by omega)
    obtain ⟨q, r', e1, e2, e3⟩ := index_split b r (by omega)
    have hql : q.length + (r'.length + 1) = r.length := by rw [e1]; simp
    have es : (s.drop (p.length : Int).toNat).take ((s.length : Int).toNat - (p.length : Int).toNat) = r := by
      rw [Int.toNat_natCast, Int.toNat_natCast, List.take_of_length_le (by simp), hpr, List.drop_left]
    have ci : PCall Tryd.prog 67 [.str ((s.drop (p.length : Int).toNat).take ((s.length : Int).toNat - (p.length : Int).toNat)), .str [b]] (.int .i64 q.length) := by
      rw [es, ← e3]; exact index_any _ _
    have ej : IntKind.i64.wrap ((p.length : Int) + (q.length : Int)) = ((p.length + q.length : Nat) : Int) := by rw [w64 (by omega) (by omega)]; omega
    have e5 : IntKind.i64.wrap (IntKind.i64.wrap ((p.length : Int) + (q.length : Int)) + (([b].length : Nat) : Int)) = ((p.length + (q.length + 1) : Nat) : Int) := by rw [List.length_singleton, ej, w64 (by omega) (by omega)]; omega
    have e8 : repB b nw (p ++ (q ++ [b])) = repB b nw p ++ q ++ nw := by
      rw [repB_app, repB_app, repB_none b nw q e2, List.append_assoc]
      simp [repB]
    have eq : (s.drop (p.length : Int).toNat).take ((IntKind.i64.wrap ((p.length : Int) + (q.length : Int))).toNat - (p.length : Int).toNat) = q := by
      rw [ej, Int.toNat_natCast, Int.toNat_natCast, Nat.add_sub_cancel_left, hpr, List.drop_left, e1, List.take_left]
    have e7 : IntKind.i64.wrap ((k : Int) + 1) = ((k + 1 : Nat) : Int) := w64add (by omega)
    iterate 30 (all_goals (try conv => whnf); all_goals (try first | with_reducible refine brY (by assumption) ?_ | with_reducible refine brN (by assumption) ?_ | (with_reducible refine brT ?_ ?_; · (simp only [Bool.and_eq_true, Bool.not_eq_true', decide_eq_true_eq, decide_eq_false_iff_not, beq_iff_eq, beq_eq_false_iff_ne, ne_eq] at *; omega)) | with_reducible refine br (fun _ => ?_) (fun _ => ?_) | with_reducible refine ⟨rfl, ?_⟩ | with_reducible refine ARound.succ ?_ | with_reducible refine PCall.call (ci) ?_ | (rw [eq]; refine ws2 (by omega) (fun g1 => ?_)) | (refine ws2 (by rw [List.length_append]; omega) (fun g2 => ?_))))
    refine ⟨⟨k + 1, p ++ (q ++ [b]), r', g2, by rw [hpr, e1]; simp, by rw [e1, List.count_append, List.count_cons_self, e2] at hk; omega⟩, by dsimp only; omega, ?_, ?_⟩
    · rw [e7, e5]; simp only [List.length_append, List.length_singleton]
    · dsimp only; rw [e8]
  · have hd : decide ((k : Int) < ((s.count b : Nat) : Int)) = false := decide_eq_false (by omega)
    have hr0 : r.count b = 0 := by have : r.count b ≤ s.count b := by rw [hpr, List.count_append]; omega
                                   omega
    have es : (s.drop (p.length : Int).toNat).take ((s.length : Int).toNat - (p.length : Int).toNat) = r := by
      rw [Int.toNat_natCast, Int.toNat_natCast, List.take_of_length_le (by simp), hpr, List.drop_left]
    have e8 : repB b nw s = repB b nw p ++ r := by rw [hpr, repB_app, repB_none b nw r hr0]
    have hp0 : 0 < (repB b nw p ++ r).length := by
      rw [← e8]
      obtain ⟨q, r', e1, e2, e3⟩ := index_split b s (by omega)
      rw [e1, repB_app, repB, if_pos rfl]
      simp only [List.length_append]; omega
    iterate 30 (all_goals (try conv => whnf); all_goals (try first | with_reducible refine brY (by assumption) ?_ | with_reducible refine brN (by assumption) ?_ | (with_reducible refine brT ?_ ?_; · (simp only [Bool.and_eq_true, Bool.not_eq_true', decide_eq_true_eq, decide_eq_false_iff_not, beq_iff_eq, beq_eq_false_iff_ne, ne_eq] at *; omega)) | with_reducible refine br (fun _ => ?_) (fun _ => ?_) | with_reducible refine ⟨rfl, ?_⟩ | with_reducible refine ARound.succ ?_ | (rw [es]; refine ws2 (by omega) (fun g1 => ?_)) | (refine bs_str (g := g1) (o := repB b nw p ++ r) rfl rfl hp0 (by rw [List.length_append]; omega) (fun l' => ?_))))
    exact leaf (by rw [e8]) (.str _)
theorem replaceAll_any {b : UInt8} {nw s : List UInt8} (hne : nw ≠ [b]) (h1 : 1 ≤ nw.length) (h4 : nw.length ≤ 4) (hs : s.length ≤ 1099511627776) :
    PCall Tryd.prog 39 [.str s, .str [b], .str nw] (.str (repB b nw s)) := by
  refine pcall_of (lits3 (.str _) (.str _) (.str _)) (call39 rfl ?_)
  iterate 4 (all_goals (try conv => whnf); all_goals (try first | with_reducible refine brY (by assumption) ?_ | with_reducible refine brN (by assumption) ?_ | (with_reducible refine brT ?_ ?_; · (simp only [Bool.and_eq_true, Bool.not_eq_true', decide_eq_true_eq, decide_eq_false_iff_not, beq_iff_eq, beq_eq_false_iff_ne, ne_eq] at *; omega)) | with_reducible refine br (fun _ => ?_) (fun _ => ?_) | with_reducible refine ⟨rfl, ?_⟩ | with_reducible refine ARound.succ ?_ | with_reducible refine PCall.call (replace_any hne h1 h4 hs) ?_))
  exact leaf rfl (.str _)
end Go.Proofs.YtlhpbcbkkbjhoaaDoor
namespace Go.Proofs.YtlhpbcbkkbjhoaaDoor
open Ab Go.RowKit
set_option maxRecDepth 100000
set_option linter.unusedVariables false
set_option linter.unusedSimpArgs false
set_option maxHeartbeats 4000000
set_option pp.maxSteps 3000
theorem below_drawn {B : Nat} {a w : World} (h : Below B a w) (q : Nat) : Below B a (w.drewN q) := ⟨h.os, h.tape, h.output, h.size, h.block⟩
theorem formatUint_any {n : Nat} (h : n < 18446744073709551616) : PCall Tryd.prog 38 [.int .u64 n, .int .i64 10] (.str (Lib.decDigits n)) := by
  have key : PCall Tryd.prog 52 [.int .u64 n, .int .i64 10] (.str (Lib.decDigits n)) := by
    refine pcall_below (lits2 (.int _ _) (.int _ _)) (.str _) fun Im w xs hg him hs hv => ?_
    obtain rfl := args2 hs hv (fun _ h => h.int_inv') (fun _ h => h.int_inv')
    have htab : Lib.TabIs Tryd.prog w "internal/strconv.uint64pow10" .u64 Lib.pow10Tab := hg.var (g := 6) (by decide) (by kernel_rfl)
    refine (formatUint_in n h w htab).mono fun e w' h => ?_
    obtain ⟨rfl, k, os, rfl⟩ := h
    have hb := below_drawn (Below.refl w.heap.size w) k
    exact ⟨⟨_, rfl, .str _⟩, below_grow os hb hb.size⟩
  refine pcall_of (lits2 (.int _ _) (.int _ _)) (call38 rfl ?_)
  iterate 6 (all_goals (try conv => whnf); all_goals (try first | with_reducible refine brY (by assumption) ?_ | with_reducible refine brN (by assumption) ?_ | (with_reducible refine brT ?_ ?_; · (simp only [Bool.and_eq_true, Bool.not_eq_true', decide_eq_true_eq, decide_eq_false_iff_not, beq_iff_eq, beq_eq_false_iff_ne, ne_eq] at *; omega)) | with_reducible refine br (fun _ => ?_) (fun _ => ?_) | with_reducible refine ⟨rfl, ?_⟩ | with_reducible refine ARound.succ ?_ | with_reducible refine PCall.call (key) ?_))
  exact leaf rfl (.str _)
theorem validString_any {s : List UInt8} (hs : s.length ≤ 9223372036854775807) : PCall Tryd.prog 37 [.str s] (.bool (Lib.validD s)) := by
  refine pcall_below (lits1 (.str _)) (.bool _) fun Im w xs hg him hz hv => ?_
  obtain rfl := args1 hz hv (fun _ h => h.str_inv')
  refine (Any.utf8_ValidString Tryd.lays196 ⟨s.toArray⟩ w (by simpa [ByteArray.size] using hs) (utf8_tabs hg)).mono fun e w' h => ?_
  obtain ⟨rfl, hb⟩ := h
  exact ⟨⟨_, rfl, .bool _⟩, hb⟩
theorem quot_rep : ∀ t : List UInt8, repB 39 [39, 39] t = quot t
  | [] => rfl
  | c :: r => by
    rw [repB, quot, quot_rep r]
    split <;> rfl
@[reducible] def lstS (l : List (List UInt8)) : SV := .lst 1 l.length fun i => .str (l.getD i [])
/-- A list of texts as bytes' arrays. -/
theorem join_any {l : List (List UInt8)} {sep : List UInt8} (hn : l.length ≤ 100000) (hl : (Lib.join l sep).length ≤ 140737488355328) : PCall Tryd.prog 21 [lstS l, .str sep] (.str (Lib.join l sep)) := by
  refine pcall_below (lits2 (.lst _ _ _) (.str _)) (.str _) fun Im w xs hg him hz hv => ?_
  obtain ⟨x0, h0⟩ : ∃ x0, xs[0]? = some x0 := ⟨xs[0]'(by rw [hz]; show 0 < 2; decide), by simp⟩
  obtain ⟨x1, h1⟩ : ∃ x1, xs[1]? = some x1 := ⟨xs[1]'(by rw [hz]; show 1 < 2; decide), by simp⟩
  have hx : xs = #[x0, x1] := by
    apply Array.ext'
    apply List.ext_getElem?
    intro i
    rcases i with _ | _ | i
    · simpa using h0
    · simpa using h1
    · simp [hz]
  have v0 := hv 0 _ x0 rfl h0
  have v1 := (hv 1 _ x1 rfl h1).str_inv'
  subst hx v1
  have em : (l.map fun s => (⟨s.toArray⟩ : ByteArray)).map (·.data.toList) = l := by
    rw [List.map_map]
    conv => rhs; rw [← List.map_id l]
    rfl
  have fin : ∀ (a : Option Addr) (c : Nat), x0 = .slice a 0 c → l = [] → Calls Tryd.prog 21 #[x0, .string ⟨sep.toArray⟩] w fun e w' => (∃ x, e = .returned x ∧ VP Im w' (.str (Lib.join l sep)) x) ∧ Below w.heap.size w w' := by
    rintro a c rfl rfl
    refine (Any.strings_Join_none Tryd.lays156 Tryd.builderExtra156 a c _ w).mono fun e w' h => ?_
    obtain ⟨rfl, rfl⟩ := h
    exact ⟨⟨_, rfl, .str _⟩, Below.refl _ _⟩
  generalize hq : lstS l = q at v0
  cases v0 <;> first | (cases hq; done) | skip
  · rename_i sz get a c
    refine fin a c rfl (List.eq_nil_of_length_eq_zero ?_)
    injection hq
  · rename_i sz n get b off cap C ty fz hb hw hn hcap hc h
    have e1 : n = l.length := by injection hq with _ h2 _; exact h2.symm
    have e2 : get = fun i => SV.str (l.getD i []) := by injection hq with _ _ h3; exact h3.symm
    have e3 : sz = 1 := by injection hq with h1 _ _; exact h1.symm
    subst e1 e2 e3
    have hcells : ∀ (j : Nat) x, (l.map fun s => (⟨s.toArray⟩ : ByteArray))[j]? = some x → w.cell? ⟨b, off + j, none⟩ = some (.string x) := by
      intro j x hx
      rw [List.getElem?_map] at hx
      obtain ⟨t, ht, rfl⟩ := Option.map_eq_some_iff.1 hx
      have hj : j < l.length := (List.getElem?_eq_some_iff.1 ht).1
      obtain ⟨y, hy⟩ : ∃ y, C[off + j]? = some y := ⟨C[off + j]'(by omega), by simp⟩
      have := h j 0 (.str t) y hj (by show [SV.str (l.getD j [])][0]? = _; simp [List.getD, ht]) (by rw [Nat.mul_one, Nat.add_zero]; exact hy)
      rw [this.str_inv'] at hy
      unfold World.cell?
      rw [hw]
      exact hy
    have hJ := Any.strings_Join Tryd.lays156 Tryd.builderExtra156 b off cap (l.map fun s => (⟨s.toArray⟩ : ByteArray)) ⟨sep.toArray⟩ w hcells (him b hb) (by rw [List.length_map]; omega) (by rw [List.length_map]; exact hcap) (by rw [em]; exact hl)
    rw [em, List.length_map] at hJ
    refine hJ.mono fun e w' h => ?_
    obtain ⟨rfl, hb⟩ := h
    exact ⟨⟨_, rfl, .str _⟩, hb⟩
theorem said_any {x : TI} (h3 : x.1.k = 3 → x.1.t.length ≤ 1000) (hn : x.1.n < 18446744073709551616) : PCall Tryd.prog 20 [tokI x] (.str (saidL x.1)) := by
  obtain ⟨⟨k, t, n⟩, a⟩ := x
  dsimp only at h3 hn
  refine pcall_of (lits1 (.agg (by simp only [List.mem_cons, List.not_mem_nil, or_false]; rintro _ (rfl | rfl | rfl | rfl) <;> constructor))) (call20 rfl ?_)
  by_cases k2 : k = 2
  · subst k2
    have cf := formatUint_any hn
    iterate 20 (all_goals (try conv => whnf); all_goals (try first | with_reducible refine brY (by assumption) ?_ | with_reducible refine brN (by assumption) ?_ | (with_reducible refine brT ?_ ?_; · (simp only [Bool.and_eq_true, Bool.not_eq_true', decide_eq_true_eq, decide_eq_false_iff_not, beq_iff_eq, beq_eq_false_iff_ne, ne_eq] at *; omega)) | with_reducible refine br (fun _ => ?_) (fun _ => ?_) | with_reducible refine ⟨rfl, ?_⟩ | with_reducible refine ARound.succ ?_ | with_reducible refine PCall.call (cf) ?_))
    exact leaf rfl (.str _)
  by_cases k3 : k = 3
  · subst k3
    have h3 := h3 rfl
    have cr := replaceAll_any (b := 39) (nw := [39, 39]) (s := t) (by decide) (by decide) (by decide) (by omega)
    rw [quot_rep] at cr
    have hql := quot_len t
    have q1 : decide (([39] : List UInt8).length + (quot t).length ≤ 9223372036854775807) = true := decide_eq_true (by simp only [List.length_singleton]; omega)
    have q2 : decide (([39] ++ quot t : List UInt8).length + ([39] : List UInt8).length ≤ 9223372036854775807) = true := decide_eq_true (by simp only [List.length_append, List.length_singleton]; omega)
    iterate 20 (all_goals (try conv => whnf); all_goals (try first | with_reducible refine brY (by assumption) ?_ | with_reducible refine brN (by assumption) ?_ | (with_reducible refine brT ?_ ?_; · (simp only [Bool.and_eq_true, Bool.not_eq_true', decide_eq_true_eq, decide_eq_false_iff_not, beq_iff_eq, beq_eq_false_iff_ne, ne_eq] at *; omega)) | with_reducible refine br (fun _ => ?_) (fun _ => ?_) | with_reducible refine ⟨rfl, ?_⟩ | with_reducible refine ARound.succ ?_ | with_reducible refine PCall.call (cr) ?_))
    exact leaf rfl (.str _)
  · have q2 : (k == 2) = false := by rw [beq_eq_false_iff_ne]; exact k2
    have q3 : (k == 3) = false := by rw [beq_eq_false_iff_ne]; exact k3
    iterate 20 (all_goals (try conv => whnf); all_goals (try first | with_reducible refine brY (by assumption) ?_ | with_reducible refine brN (by assumption) ?_ | (with_reducible refine brT ?_ ?_; · (simp only [Bool.and_eq_true, Bool.not_eq_true', decide_eq_true_eq, decide_eq_false_iff_not, beq_iff_eq, beq_eq_false_iff_ne, ne_eq] at *; omega)) | with_reducible refine br (fun _ => ?_) (fun _ => ?_) | with_reducible refine ⟨rfl, ?_⟩ | with_reducible refine ARound.succ ?_))
    exact leaf (by unfold saidL; rw [if_neg k2, if_neg k3]) (.str _)
theorem lex_long {s : List UInt8} (hs : 65536 < s.length) : PCall Tryd.prog 6 [.str s] (.tup [.nils, fltS 3 (-1)]) := by
  refine pcall_of (lits1 (.str _)) (call6 rfl ?_)
  have h0 : decide ((65536 : Int) < (s.length : Int)) = true := decide_eq_true (by omega)
  iterate 10 (all_goals (try conv => whnf); all_goals (try first | with_reducible refine brY (by assumption) ?_ | with_reducible refine brN (by assumption) ?_ | (with_reducible refine brT ?_ ?_; · (simp only [Bool.and_eq_true, Bool.not_eq_true', decide_eq_true_eq, decide_eq_false_iff_not, beq_iff_eq, beq_eq_false_iff_ne, ne_eq] at *; omega)) | with_reducible refine br (fun _ => ?_) (fun _ => ?_) | with_reducible refine ⟨rfl, ?_⟩ | with_reducible refine ARound.succ ?_))
  exact leaf rfl (lit2 .nils (.agg (by simp only [List.mem_cons, List.not_mem_nil, or_false]; rintro _ (rfl | rfl) <;> constructor)))
theorem tokI_lit (x : TI) : LitV (tokI x) := .agg (by simp only [List.mem_cons, List.not_mem_nil, or_false]; rintro _ (rfl | rfl | rfl | rfl) <;> constructor)
theorem finB (y : Tk) (k : Int) (t : List UInt8) (n : Nat) : SV.bool ((fun q => y.k == k && q) ((fun q => y.t == t && q) ((fun q => (y.n : Int) == (n : Int) && q) (((0 : Nat) : Int) == 0)))) = SV.bool (y.k == k && y.t == t && y.n == n) := by
  have : (((0 : Nat) : Int) == 0) = true := rfl
  rw [this]
  simp only [int_beq, Bool.and_true, Bool.and_assoc]
theorem finC (y : Tk) (k : Int) (t : List UInt8) (p : Nat) : SV.bool ((fun q => y.k == k && q) ((fun q => y.t == t && q) ((fun q => (y.n : Int) == ((0 : Nat) : Int) && q) (((p + 1 : Nat) : Int) == 0)))) = SV.bool false := by
  have : (((p + 1 : Nat) : Int) == 0) = false := by rw [beq_eq_false_iff_ne]; omega
  rw [this]
  simp
def fineI (x : TI) : Bool := decide (x.2 = 0) && fineT x.1
theorem fine_any {x : TI} (hn : x.1.n < 18446744073709551616) (ht : x.1.t.length ≤ 9223372036854775807) : PCall Tryd.prog 19 [tokI x] (.bool (fineI x)) := by
  have hsaid := said_any (x := x)
  obtain ⟨⟨k, t, n⟩, a⟩ := x
  dsimp only at hn ht hsaid
  refine pcall_of (lits1 (tokI_lit _)) (call19 rfl ?_)
  by_cases ha : a = 0
  case neg =>
    have q1 : (a != 0) = true := by rw [bne_iff_ne]; exact ha
    iterate 30 (all_goals (try conv => whnf); all_goals (try first | with_reducible refine brY (by assumption) ?_ | with_reducible refine brN (by assumption) ?_ | (with_reducible refine brT ?_ ?_; · (simp only [Bool.and_eq_true, Bool.not_eq_true', decide_eq_true_eq, decide_eq_false_iff_not, beq_iff_eq, beq_eq_false_iff_ne, ne_eq] at *; omega)) | with_reducible refine br (fun _ => ?_) (fun _ => ?_) | with_reducible refine ⟨rfl, ?_⟩ | with_reducible refine ARound.succ ?_))
    all_goals exact leaf (by unfold fineI; rw [decide_eq_false (show ¬ (a = 0) from ha)]; rfl) (.bool _)
  subst ha
  have hI : fineI (⟨k, t, n⟩, 0) = fineT ⟨k, t, n⟩ := by unfold fineI; simp
  rw [hI]
  by_cases c1 : (k ≠ 2 ∧ n ≠ 0) ∨ k = 0 ∨ 4 < k
  · have hf : fineT ⟨k, t, n⟩ = false := by unfold fineT; rw [if_pos c1]
    rw [hf]
    by_cases k2 : k = 2
    · subst k2; exfalso; omega
    · have q2 : (k != 2) = true := by rw [bne_iff_ne]; exact k2
      have q4 : ((n : Int) != 0) = !(decide (n = 0)) := by by_cases h : n = 0 <;> simp [h]
      by_cases n0 : n = 0
      · subst n0
        by_cases k0 : k = 0
        · subst k0
          iterate 40 (all_goals (try conv => whnf); all_goals (try first | with_reducible refine brY (by assumption) ?_ | with_reducible refine brN (by assumption) ?_ | (with_reducible refine brT ?_ ?_; · (simp only [Bool.and_eq_true, Bool.not_eq_true', decide_eq_true_eq, decide_eq_false_iff_not, beq_iff_eq, beq_eq_false_iff_ne, ne_eq] at *; omega)) | with_reducible refine br (fun _ => ?_) (fun _ => ?_) | with_reducible refine ⟨rfl, ?_⟩ | with_reducible refine ARound.succ ?_))
          all_goals exact leaf rfl (.bool _)
        · have q5 : (k == 0) = false := by rw [beq_eq_false_iff_ne]; exact k0
          have q6 : decide (4 < k) = true := decide_eq_true (by omega)
          iterate 40 (all_goals (try conv => whnf); all_goals (try first | with_reducible refine brY (by assumption) ?_ | with_reducible refine brN (by assumption) ?_ | (with_reducible refine brT ?_ ?_; · (simp only [Bool.and_eq_true, Bool.not_eq_true', decide_eq_true_eq, decide_eq_false_iff_not, beq_iff_eq, beq_eq_false_iff_ne, ne_eq] at *; omega)) | with_reducible refine br (fun _ => ?_) (fun _ => ?_) | with_reducible refine ⟨rfl, ?_⟩ | with_reducible refine ARound.succ ?_))
          all_goals exact leaf rfl (.bool _)
      · have q5 : ((n : Int) != 0) = true := by rw [bne_iff_ne]; omega
        iterate 40 (all_goals (try conv => whnf); all_goals (try first | with_reducible refine brY (by assumption) ?_ | with_reducible refine brN (by assumption) ?_ | (with_reducible refine brT ?_ ?_; · (simp only [Bool.and_eq_true, Bool.not_eq_true', decide_eq_true_eq, decide_eq_false_iff_not, beq_iff_eq, beq_eq_false_iff_ne, ne_eq] at *; omega)) | with_reducible refine br (fun _ => ?_) (fun _ => ?_) | with_reducible refine ⟨rfl, ?_⟩ | with_reducible refine ARound.succ ?_))
        all_goals exact leaf rfl (.bool _)
  · have q5 : (k == 0) = false := by rw [beq_eq_false_iff_ne]; omega
    have q6 : decide (4 < k) = false := decide_eq_false (by omega)
    by_cases k2 : k = 2
    · subst k2
      have hf : fineT ⟨2, t, n⟩ = (t == [] && decide (n ≤ 9223372036854775808)) := by unfold fineT; rw [if_neg c1, if_pos rfl]
      rw [hf]
      have e9 : decide ((n : Int) ≤ 9223372036854775808) = decide (n ≤ 9223372036854775808) := by by_cases h : n ≤ 9223372036854775808 <;> simp [h] <;> omega
      by_cases t0 : t = []
      · subst t0
        iterate 60 (all_goals (try conv => whnf); all_goals (try first | with_reducible refine brY (by assumption) ?_ | with_reducible refine brN (by assumption) ?_ | (with_reducible refine brT ?_ ?_; · (simp only [Bool.and_eq_true, Bool.not_eq_true', decide_eq_true_eq, decide_eq_false_iff_not, beq_iff_eq, beq_eq_false_iff_ne, ne_eq] at *; omega)) | with_reducible refine br (fun _ => ?_) (fun _ => ?_) | with_reducible refine ⟨rfl, ?_⟩ | with_reducible refine ARound.succ ?_))
        exact leaf (by show SV.bool (decide ((n : Int) ≤ 9223372036854775808)) = _; rw [e9]; rfl) (.bool _)
      · have q7 : (t == []) = false := by rw [beq_eq_false_iff_ne]; exact t0
        iterate 60 (all_goals (try conv => whnf); all_goals (try first | with_reducible refine brY (by assumption) ?_ | with_reducible refine brN (by assumption) ?_ | (with_reducible refine brT ?_ ?_; · (simp only [Bool.and_eq_true, Bool.not_eq_true', decide_eq_true_eq, decide_eq_false_iff_not, beq_iff_eq, beq_eq_false_iff_ne, ne_eq] at *; omega)) | with_reducible refine br (fun _ => ?_) (fun _ => ?_) | with_reducible refine ⟨rfl, ?_⟩ | with_reducible refine ARound.succ ?_))
        exact leaf (by rw [q7]; rfl) (.bool _)
    · have q2 : (k != 2) = true := by rw [bne_iff_ne]; exact k2
      have q3 : (k == 2) = false := by rw [beq_eq_false_iff_ne]; exact k2
      obtain rfl : n = 0 := by omega
      have go : ∀ (b53 : Bool), True := fun _ => trivial
      by_cases c3 : k = 3 ∧ (64 < t.length ∨ Lib.validD t = false)
      · have hf : fineT ⟨k, t, 0⟩ = false := by unfold fineT; rw [if_neg c1, if_neg k2, if_pos c3]
        rw [hf]
        obtain ⟨rfl, c3⟩ := c3
        by_cases h64 : 64 < t.length
        · have q7 : decide ((64 : Int) < (t.length : Int)) = true := decide_eq_true (by omega)
          iterate 60 (all_goals (try conv => whnf); all_goals (try first | with_reducible refine brY (by assumption) ?_ | with_reducible refine brN (by assumption) ?_ | (with_reducible refine brT ?_ ?_; · (simp only [Bool.and_eq_true, Bool.not_eq_true', decide_eq_true_eq, decide_eq_false_iff_not, beq_iff_eq, beq_eq_false_iff_ne, ne_eq] at *; omega)) | with_reducible refine br (fun _ => ?_) (fun _ => ?_) | with_reducible refine ⟨rfl, ?_⟩ | with_reducible refine ARound.succ ?_))
          exact leaf rfl (.bool _)
        · have q7 : decide ((64 : Int) < (t.length : Int)) = false := decide_eq_false (by omega)
          have cv := validString_any ht
          have hv := c3.resolve_left h64
          rw [hv] at cv
          iterate 60 (all_goals (try conv => whnf); all_goals (try first | with_reducible refine brY (by assumption) ?_ | with_reducible refine brN (by assumption) ?_ | (with_reducible refine brT ?_ ?_; · (simp only [Bool.and_eq_true, Bool.not_eq_true', decide_eq_true_eq, decide_eq_false_iff_not, beq_iff_eq, beq_eq_false_iff_ne, ne_eq] at *; omega)) | with_reducible refine br (fun _ => ?_) (fun _ => ?_) | with_reducible refine ⟨rfl, ?_⟩ | with_reducible refine ARound.succ ?_ | with_reducible refine PCall.call (cv) ?_))
          exact leaf rfl (.bool _)
      · have cs := hsaid (fun h => by have : ¬ 64 < t.length := fun h' => c3 ⟨h, .inl h'⟩; omega) hn
        have hf : fineT ⟨k, t, 0⟩ = (if 65536 < (saidL ⟨k, t, 0⟩).length then false else match lexL (saidL ⟨k, t, 0⟩) with
            | .ok [(y, 0)] => y.k == k && y.t == t && y.n == 0
            | _ => false) := by unfold fineT; rw [if_neg c1, if_neg k2, if_neg c3]; rfl
        rw [hf]
        generalize saidL ⟨k, t, 0⟩ = w at cs ⊢
        have cv := validString_any ht
        have cond : (k = 3 → decide ((64 : Int) < (t.length : Int)) = false ∧ Lib.validD t = true) := fun h => ⟨decide_eq_false (by have : ¬ 64 < t.length := fun h' => c3 ⟨h, .inl h'⟩; omega), by cases hv : Lib.validD t with | true => rfl | false => exact absurd ⟨h, .inr hv⟩ c3⟩
        by_cases hw : 65536 < w.length
        · rw [if_pos hw]
          have cl := lex_long hw
          by_cases k3 : k = 3
          · subst k3
            obtain ⟨q7, q8⟩ := cond rfl
            rw [q8] at cv
            iterate 90 (all_goals (try conv => whnf); all_goals (try first | with_reducible refine brY (by assumption) ?_ | with_reducible refine brN (by assumption) ?_ | (with_reducible refine brT ?_ ?_; · (simp only [Bool.and_eq_true, Bool.not_eq_true', decide_eq_true_eq, decide_eq_false_iff_not, beq_iff_eq, beq_eq_false_iff_ne, ne_eq] at *; omega)) | with_reducible refine br (fun _ => ?_) (fun _ => ?_) | with_reducible refine ⟨rfl, ?_⟩ | with_reducible refine ARound.succ ?_ | with_reducible refine PCall.call (cv) ?_ | with_reducible refine PCall.call (cs) ?_ | with_reducible refine PCall.call (cl) ?_))
            exact leaf rfl (.bool _)
          · have q7 : (k == 3) = false := by rw [beq_eq_false_iff_ne]; exact k3
            iterate 90 (all_goals (try conv => whnf); all_goals (try first | with_reducible refine brY (by assumption) ?_ | with_reducible refine brN (by assumption) ?_ | (with_reducible refine brT ?_ ?_; · (simp only [Bool.and_eq_true, Bool.not_eq_true', decide_eq_true_eq, decide_eq_false_iff_not, beq_iff_eq, beq_eq_false_iff_ne, ne_eq] at *; omega)) | with_reducible refine br (fun _ => ?_) (fun _ => ?_) | with_reducible refine ⟨rfl, ?_⟩ | with_reducible refine ARound.succ ?_ | with_reducible refine PCall.call (cs) ?_ | with_reducible refine PCall.call (cl) ?_))
            exact leaf rfl (.bool _)
        · rw [if_neg hw]
          have cl := lex_any (s := w) (by omega)
          cases hL : lexL w with
          | error e =>
            obtain ⟨e, p⟩ := e
            rw [hL] at cl
            have he := lexGo_err0 w.length w 0 e p hL
            have q9 : (fun q => e == 0 && q) ((p : Int) == 0) = false := by
              have : (e == 0) = false := by rw [beq_eq_false_iff_ne]; exact he
              simp [this]
            by_cases k3 : k = 3
            · subst k3
              obtain ⟨q7, q8⟩ := cond rfl
              rw [q8] at cv
              iterate 90 (all_goals (try conv => whnf); all_goals (try first | with_reducible refine brY (by assumption) ?_ | with_reducible refine brN (by assumption) ?_ | (with_reducible refine brT ?_ ?_; · (simp only [Bool.and_eq_true, Bool.not_eq_true', decide_eq_true_eq, decide_eq_false_iff_not, beq_iff_eq, beq_eq_false_iff_ne, ne_eq] at *; omega)) | with_reducible refine br (fun _ => ?_) (fun _ => ?_) | with_reducible refine ⟨rfl, ?_⟩ | with_reducible refine ARound.succ ?_ | with_reducible refine PCall.call (cv) ?_ | with_reducible refine PCall.call (cs) ?_ | with_reducible refine PCall.call (cl) ?_))
              exact leaf rfl (.bool _)
            · have q7 : (k == 3) = false := by rw [beq_eq_false_iff_ne]; exact k3
              iterate 90 (all_goals (try conv => whnf); all_goals (try first | with_reducible refine brY (by assumption) ?_ | with_reducible refine brN (by assumption) ?_ | (with_reducible refine brT ?_ ?_; · (simp only [Bool.and_eq_true, Bool.not_eq_true', decide_eq_true_eq, decide_eq_false_iff_not, beq_iff_eq, beq_eq_false_iff_ne, ne_eq] at *; omega)) | with_reducible refine br (fun _ => ?_) (fun _ => ?_) | with_reducible refine ⟨rfl, ?_⟩ | with_reducible refine ARound.succ ?_ | with_reducible refine PCall.call (cs) ?_ | with_reducible refine PCall.call (cl) ?_))
              exact leaf rfl (.bool _)
          | ok l =>
            rw [hL] at cl
            cases l with
            | nil =>
              by_cases k3 : k = 3
              · subst k3
                obtain ⟨q7, q8⟩ := cond rfl
                rw [q8] at cv
                iterate 110 (all_goals (try conv => whnf); all_goals (try first | with_reducible refine brY (by assumption) ?_ | with_reducible refine brN (by assumption) ?_ | (with_reducible refine brT ?_ ?_; · (simp only [Bool.and_eq_true, Bool.not_eq_true', decide_eq_true_eq, decide_eq_false_iff_not, beq_iff_eq, beq_eq_false_iff_ne, ne_eq] at *; omega)) | with_reducible refine br (fun _ => ?_) (fun _ => ?_) | with_reducible refine ⟨rfl, ?_⟩ | with_reducible refine ARound.succ ?_ | with_reducible refine PCall.call (cv) ?_ | with_reducible refine PCall.call (cs) ?_ | with_reducible refine PCall.call (cl) ?_))
                exact leaf rfl (.bool _)
              · have q7 : (k == 3) = false := by rw [beq_eq_false_iff_ne]; exact k3
                iterate 110 (all_goals (try conv => whnf); all_goals (try first | with_reducible refine brY (by assumption) ?_ | with_reducible refine brN (by assumption) ?_ | (with_reducible refine brT ?_ ?_; · (simp only [Bool.and_eq_true, Bool.not_eq_true', decide_eq_true_eq, decide_eq_false_iff_not, beq_iff_eq, beq_eq_false_iff_ne, ne_eq] at *; omega)) | with_reducible refine br (fun _ => ?_) (fun _ => ?_) | with_reducible refine ⟨rfl, ?_⟩ | with_reducible refine ARound.succ ?_ | with_reducible refine PCall.call (cs) ?_ | with_reducible refine PCall.call (cl) ?_))
                exact leaf rfl (.bool _)
            | cons y r =>
              cases r with
              | nil =>
                obtain ⟨y, p⟩ := y
                cases p with
                | zero =>
                  by_cases k3 : k = 3
                  · subst k3
                    obtain ⟨q7, q8⟩ := cond rfl
                    rw [q8] at cv
                    iterate 110 (all_goals (try conv => whnf); all_goals (try first | with_reducible refine brY (by assumption) ?_ | with_reducible refine brN (by assumption) ?_ | (with_reducible refine brT ?_ ?_; · (simp only [Bool.and_eq_true, Bool.not_eq_true', decide_eq_true_eq, decide_eq_false_iff_not, beq_iff_eq, beq_eq_false_iff_ne, ne_eq] at *; omega)) | with_reducible refine br (fun _ => ?_) (fun _ => ?_) | with_reducible refine ⟨rfl, ?_⟩ | with_reducible refine ARound.succ ?_ | with_reducible refine PCall.call (cv) ?_ | with_reducible refine PCall.call (cs) ?_ | with_reducible refine PCall.call (cl) ?_))
                    exact leaf (finB y _ t 0) (.bool _)
                  · have q7 : (k == 3) = false := by rw [beq_eq_false_iff_ne]; exact k3
                    iterate 110 (all_goals (try conv => whnf); all_goals (try first | with_reducible refine brY (by assumption) ?_ | with_reducible refine brN (by assumption) ?_ | (with_reducible refine brT ?_ ?_; · (simp only [Bool.and_eq_true, Bool.not_eq_true', decide_eq_true_eq, decide_eq_false_iff_not, beq_iff_eq, beq_eq_false_iff_ne, ne_eq] at *; omega)) | with_reducible refine br (fun _ => ?_) (fun _ => ?_) | with_reducible refine ⟨rfl, ?_⟩ | with_reducible refine ARound.succ ?_ | with_reducible refine PCall.call (cs) ?_ | with_reducible refine PCall.call (cl) ?_))
                    exact leaf (finB y k t 0) (.bool _)
                | succ p =>
                  by_cases k3 : k = 3
                  · subst k3
                    obtain ⟨q7, q8⟩ := cond rfl
                    rw [q8] at cv
                    iterate 110 (all_goals (try conv => whnf); all_goals (try first | with_reducible refine brY (by assumption) ?_ | with_reducible refine brN (by assumption) ?_ | (with_reducible refine brT ?_ ?_; · (simp only [Bool.and_eq_true, Bool.not_eq_true', decide_eq_true_eq, decide_eq_false_iff_not, beq_iff_eq, beq_eq_false_iff_ne, ne_eq] at *; omega)) | with_reducible refine br (fun _ => ?_) (fun _ => ?_) | with_reducible refine ⟨rfl, ?_⟩ | with_reducible refine ARound.succ ?_ | with_reducible refine PCall.call (cv) ?_ | with_reducible refine PCall.call (cs) ?_ | with_reducible refine PCall.call (cl) ?_))
                    exact leaf (finC y _ t p) (.bool _)
                  · have q7 : (k == 3) = false := by rw [beq_eq_false_iff_ne]; exact k3
                    iterate 110 (all_goals (try conv => whnf); all_goals (try first | with_reducible refine brY (by assumption) ?_ | with_reducible refine brN (by assumption) ?_ | (with_reducible refine brT ?_ ?_; · (simp only [Bool.and_eq_true, Bool.not_eq_true', decide_eq_true_eq, decide_eq_false_iff_not, beq_iff_eq, beq_eq_false_iff_ne, ne_eq] at *; omega)) | with_reducible refine br (fun _ => ?_) (fun _ => ?_) | with_reducible refine ⟨rfl, ?_⟩ | with_reducible refine ARound.succ ?_ | with_reducible refine PCall.call (cs) ?_ | with_reducible refine PCall.call (cl) ?_))
                    exact leaf (finC y k t p) (.bool _)
              | cons z r =>
                have q10 : (((y :: z :: r).length : Int) == 1) = false := by rw [beq_eq_false_iff_ne]; simp only [List.length_cons]; omega
                by_cases k3 : k = 3
                · subst k3
                  obtain ⟨q7, q8⟩ := cond rfl
                  rw [q8] at cv
                  iterate 110 (all_goals (try conv => whnf); all_goals (try first | with_reducible refine brY (by assumption) ?_ | with_reducible refine brN (by assumption) ?_ | (with_reducible refine brT ?_ ?_; · (simp only [Bool.and_eq_true, Bool.not_eq_true', decide_eq_true_eq, decide_eq_false_iff_not, beq_iff_eq, beq_eq_false_iff_ne, ne_eq] at *; omega)) | with_reducible refine br (fun _ => ?_) (fun _ => ?_) | with_reducible refine ⟨rfl, ?_⟩ | with_reducible refine ARound.succ ?_ | with_reducible refine PCall.call (cv) ?_ | with_reducible refine PCall.call (cs) ?_ | with_reducible refine PCall.call (cl) ?_))
                  exact leaf (by obtain ⟨a, b⟩ := y; cases b <;> rfl) (.bool _)
                · have q7 : (k == 3) = false := by rw [beq_eq_false_iff_ne]; exact k3
                  iterate 110 (all_goals (try conv => whnf); all_goals (try first | with_reducible refine brY (by assumption) ?_ | with_reducible refine brN (by assumption) ?_ | (with_reducible refine brT ?_ ?_; · (simp only [Bool.and_eq_true, Bool.not_eq_true', decide_eq_true_eq, decide_eq_false_iff_not, beq_iff_eq, beq_eq_false_iff_ne, ne_eq] at *; omega)) | with_reducible refine br (fun _ => ?_) (fun _ => ?_) | with_reducible refine ⟨rfl, ?_⟩ | with_reducible refine ARound.succ ?_ | with_reducible refine PCall.call (cs) ?_ | with_reducible refine PCall.call (cl) ?_))
                  exact leaf (by obtain ⟨a, b⟩ := y; cases b <;> rfl) (.bool _)
end Go.Proofs.YtlhpbcbkkbjhoaaDoor
namespace Go.Proofs.YtlhpbcbkkbjhoaaDoor
open Ab Go.RowKit
set_option maxRecDepth 100000
set_option linter.unusedVariables false
set_option linter.unusedSimpArgs false
set_option maxHeartbeats 4000000
set_option pp.maxSteps 3000
/-- Which is the first that may not be. -/
def badI : List TI → Nat → Option Nat
  | [], _ => none
  | x :: r, i => if fineI x then badI r (i + 1) else some i
theorem badI_none : ∀ {l : List TI} {i : Nat}, badI l i = none → ∀ x ∈ l, fineI x = true
  | [], _, _ => by simp
  | x :: r, i, h => by
    rw [badI] at h
    split at h
    · rename_i hx
      simp only [List.mem_cons]
      rintro y (rfl | hy)
      · exact hx
      · exact badI_none h y hy
    · cases h
theorem badI_some : ∀ {l : List TI} {i j : Nat}, badI l i = some j → i ≤ j ∧ j < i + l.length
  | [], _, _, h => by cases h
  | x :: r, i, j, h => by
    rw [badI] at h
    simp only [List.length_cons]
    split at h
    · have := badI_some h
      omega
    · cases h; omega
theorem badI_at : ∀ (l : List TI) (k i : Nat), i < l.length → (∀ j, j < i → fineI (l.getD j inull) = true) → fineI (l.getD i inull) = false → badI l k = some (k + i)
  | [], _, _, h, _, _ => by simp at h
  | x :: r, k, 0, _, _, h => by
    rw [badI, if_neg (by rw [show fineI x = false from h]; decide)]; rfl
  | x :: r, k, i + 1, hi, h1, h2 => by
    rw [badI, if_pos (show fineI x = true from h1 0 (by omega)), badI_at r (k + 1) i (by simpa using hi) (fun j hj => h1 (j + 1) (by omega)) h2]
    congr 1
    omega
theorem badI_all : ∀ (l : List TI) (k : Nat), (∀ j, j < l.length → fineI (l.getD j inull) = true) → badI l k = none
  | [], _, _ => rfl
  | x :: r, k, h => by
    rw [badI, if_pos (show fineI x = true from h 0 (by simp)), badI_all r (k + 1) fun j hj => h (j + 1) (by simpa using hj)]
/-- What is told of tokens. -/
def textI (l : List TI) : SV := match badI l 0 with
  | some i => .tup [.str [], fltS 2 i]
  | none => .tup [.str (joinT (l.map (·.1))), fltS 0 0]
theorem textI_lit (l : List TI) : LitV (textI l) := by
  have hf : ∀ e a : Int, LitV (fltS e a) := fun e a => .agg (by simp only [List.mem_cons, List.not_mem_nil, or_false]; rintro _ (rfl | rfl) <;> constructor)
  unfold textI
  split <;> exact lit2 (.str _) (hf _ _)
theorem join_joinT : ∀ l : List Tk, Lib.join (l.map saidL) [32] = joinT l
  | [] => rfl
  | [x] => by simp [Lib.join, joinT, List.intercalate]
  | x :: y :: r => by
    rw [joinT, ← join_joinT (y :: r)]
    simp [Lib.join, List.intercalate]
theorem dec_len : ∀ (k n : Nat), n < 10 ^ (k + 1) → (Lib.decDigits n).length ≤ k + 1
  | 0, n, h => by rw [Lib.decDigits, dif_pos (by simpa using h)]; simp
  | k+1, n, h => by
    rw [Lib.decDigits]
    split
    · simp
    · have := dec_len k (n / 10) (by rw [Nat.pow_succ] at h; omega)
      simp only [List.length_append, List.length_cons, List.length_nil]
      omega
theorem fine_len {x : Tk} (h : fineT x = true) : (saidL x).length ≤ 65536 ∧ x.t.length ≤ 65536 ∧ (x.k = 3 → x.t.length ≤ 64) := by
  unfold fineT at h
  split at h
  · cases h
  · split at h
    · rename_i h2
      simp only [Bool.and_eq_true, beq_iff_eq, decide_eq_true_eq] at h
      have hs : saidL x = Lib.decDigits x.n := by unfold saidL; rw [if_pos h2]
      have := dec_len 19 x.n (by omega)
      refine ⟨by rw [hs]; omega, by rw [h.1]; simp, fun h3 => by omega⟩
    · rename_i h2
      split at h
      · cases h
      · rename_i h3
        split at h
        · cases h
        · rename_i h4
          refine ⟨by omega, ?_, fun hk => by have : ¬ 64 < x.t.length := fun h' => h3 ⟨hk, .inl h'⟩; omega⟩
          by_cases hk : x.k = 3
          · have : ¬ 64 < x.t.length := fun h' => h3 ⟨hk, .inl h'⟩
            omega
          · have : saidL x = x.t := by unfold saidL; rw [if_neg h2, if_neg hk]
            rw [← this]; omega
attribute [local irreducible] appendK allLtK storeP
@[reducible] def wordsT (l : List TI) (i : Nat) : List SV := ((l.take i).map fun x => SV.str (saidL x.1)) ++ List.replicate (l.length - i) (SV.str [])
theorem words_get {l : List TI} {i : Nat} (h : i < l.length) : (wordsT l i)[0 + i]? = some (SV.str []) := by
  have h1 : ((l.take i).map fun x => SV.str (saidL x.1)).length = i := by simp; omega
  rw [Nat.zero_add]
  unfold wordsT
  rw [List.getElem?_append_right (by omega), h1, Nat.sub_self, List.getElem?_replicate, if_pos (by omega)]
theorem words_set {l : List TI} {i : Nat} (h : i < l.length) : (wordsT l i).set (0 + i) (SV.str (saidL (l.getD i inull).1)) = wordsT l (i + 1) := by
  have h1 : ((l.take i).map fun x => SV.str (saidL x.1)).length = i := by simp; omega
  rw [Nat.zero_add]
  unfold wordsT
  have e : List.replicate (l.length - i) (SV.str []) = SV.str [] :: List.replicate (l.length - (i + 1)) (SV.str []) := by rw [show l.length - i = (l.length - (i + 1)) + 1 by omega]; rfl
  have e2 : l.take (i + 1) = l.take i ++ [l.getD i inull] := by rw [List.take_add_one]; simp [List.getD, h]
  rw [List.set_append_right _ _ (by omega), h1, Nat.sub_self, e, List.set_cons_zero, e2, List.map_append, List.append_assoc]
  rfl
theorem agree_ws : ∀ (s : List (List UInt8)) (k : Nat) (get : Nat → SV), (∀ j, j < s.length → get (k + j) = SV.str (s.getD j [])) → agree (s.map SV.str) k get
  | [], _, _, _ => trivial
  | b :: r, k, get, h => by
    refine ⟨?_, .str _, agree_ws r (k + 1) get fun j hj => ?_⟩
    · have := h 0 (by simp)
      simpa using this.symm
    · have := h (j + 1) (by simp; omega)
      rw [show k + 1 + j = k + (j + 1) by omega, this]
      simp [List.getD]
theorem hard_ws {A : Heap} {i g : Nat} {cap : Option Nat} {s : List (List UInt8)} {n : Nat} {sk : Sk} (ho : A.obj i = some (.vec g 1 (s.map SV.str) sk)) (hn : n = s.length) : Hard A (.sl i g 1 0 n cap) (lstS s) := by
  subst hn
  have := hard_all (cap := cap) (get := fun i => SV.str (s.getD i [])) ho (agree_ws s 0 _ fun j _ => by rw [Nat.zero_add])
  rw [List.length_map] at this
  exact this
theorem lt_ws {n : Nat} {l : List TI} {i : Nat} : ∀ v ∈ wordsT l i, SV.lt 8 n v = true := by
  intro v hv
  rcases List.mem_append.1 hv with h | h
  · obtain ⟨b, _, rfl⟩ := List.mem_map.1 h; rfl
  · rw [List.eq_of_mem_replicate h]; rfl
theorem fineI_tk {x : TI} (h : fineI x = true) : fineT x.1 = true := by
  unfold fineI at h
  simp only [Bool.and_eq_true] at h
  exact h.2
theorem toks_any {l : List TI} (hl : l.length ≤ 5000) (hin : ∀ x ∈ l, x.1.n < 18446744073709551616 ∧ x.1.t.length ≤ 9223372036854775807) : PCall Tryd.prog 10 [lstI l] (textI l) := by
  refine pcall_of (lits1 (.lst _ _ _)) (call10 rfl ?_)
  have q1 : (decide (0 ≤ (l.length : Int)) && decide ((l.length : Int) ≤ (l.length : Int)) && decide (((16 : Nat) : Int) * (l.length : Int) ≤ 140737488355328) && decide ((l.length : Int) ≤ 9223372036854775807)) = true := by
    simp only [Bool.and_eq_true, decide_eq_true_eq]; omega
  iterate 10 (all_goals (try conv => whnf); all_goals (try first | with_reducible refine brY (by assumption) ?_ | with_reducible refine brN (by assumption) ?_ | (with_reducible refine brT ?_ ?_; · (simp only [Bool.and_eq_true, Bool.not_eq_true', decide_eq_true_eq, decide_eq_false_iff_not, beq_iff_eq, beq_eq_false_iff_ne, ne_eq] at *; omega)) | with_reducible refine br (fun _ => ?_) (fun _ => ?_) | with_reducible refine ⟨rfl, ?_⟩ | with_reducible refine ARound.succ ?_ | (refine storeP_of ?_)))
  refine loop_ind (σ := {i : Nat // i ≤ l.length ∧ ∀ j, j < i → fineI (l.getD j inull) = true}) (fun y => [(0, lstI l), (2, SV.str []), (3, SV.ref 0 0 0 0), (4, SV.sl 1 0 1 0 l.length (some l.length)), (10, lstI l), (11, SV.int IntKind.i64 l.length), (12, SV.int IntKind.i64 y.1)])
    (fun y => ⟨2, [(1, .vec 0 1 (wordsT l y.1) ⟨false, some 9⟩), (0, .vec 0 2 [fltS 0 0] ⟨false, some 26⟩)]⟩) (fun y => l.length - y.1) ?_ ⟨0, by omega, fun j hj => by omega⟩
  rintro ⟨i, hi, hf⟩
  dsimp only
  have e7 : IntKind.i64.wrap ((i : Int) + 1) = ((i + 1 : Nat) : Int) := w64add (by omega)
  have et := Int.toNat_natCast i
  by_cases hil : i < l.length
  · have hd : decide ((i : Int) < (l.length : Int)) = true := decide_eq_true (by omega)
    have hb : (decide (0 ≤ (i : Int)) && decide ((i : Int) < (l.length : Int))) = true := by simp only [Bool.and_eq_true, decide_eq_true_eq]; omega
    have hm : l.getD i inull ∈ l := by
      rw [show l.getD i inull = l[i] by simp [List.getD, hil]]
      exact List.getElem_mem _
    obtain ⟨hn, ht⟩ := hin _ hm
    have cf := fine_any hn ht
    rw [← et] at cf
    cases hfi : fineI (l.getD i inull) with
    | false =>
      rw [← et] at hfi
      rw [hfi] at cf
      rw [et] at hfi
      have hbad := badI_at l 0 i hil hf hfi
      rw [Nat.zero_add] at hbad
      iterate 40 (all_goals (try conv => whnf); all_goals (try first | with_reducible refine brY (by assumption) ?_ | with_reducible refine brN (by assumption) ?_ | (with_reducible refine brT ?_ ?_; · (simp only [Bool.and_eq_true, Bool.not_eq_true', decide_eq_true_eq, decide_eq_false_iff_not, beq_iff_eq, beq_eq_false_iff_ne, ne_eq] at *; omega)) | with_reducible refine br (fun _ => ?_) (fun _ => ?_) | with_reducible refine ⟨rfl, ?_⟩ | with_reducible refine ARound.succ ?_ | with_reducible refine PCall.call (cf) ?_ | (refine storeP_of ?_)))
      exact leaf (by unfold textI; rw [hbad]) (textI_lit l)
    | true =>
      obtain ⟨fl1, fl2, fl3⟩ := fine_len (fineI_tk hfi)
      have cs := said_any (x := l.getD i inull) (fun h => Nat.le_trans (fl3 h) (by decide)) hn
      rw [← et] at cs
      rw [← et] at hfi
      rw [hfi] at cf
      rw [et] at hfi
      iterate 60 (all_goals (try conv => whnf); all_goals (try first | with_reducible refine brY (by assumption) ?_ | with_reducible refine brN (by assumption) ?_ | (with_reducible refine brT ?_ ?_; · (simp only [Bool.and_eq_true, Bool.not_eq_true', decide_eq_true_eq, decide_eq_false_iff_not, beq_iff_eq, beq_eq_false_iff_ne, ne_eq] at *; omega)) | with_reducible refine br (fun _ => ?_) (fun _ => ?_) | with_reducible refine ⟨rfl, ?_⟩ | with_reducible refine ARound.succ ?_ | with_reducible refine PCall.call (cf) ?_ | with_reducible refine PCall.call (cs) ?_ | (refine storeP_run (elems := wordsT l i) (w := SV.str []) rfl (by rw [et]; exact words_get hil) (by intro cs h; cases h) rfl ?_) | (refine storeP_of ?_) | (refine allLtK_of (by rw [et, words_set hil]; exact lt_ws) ?_) | (refine allLtK_of (lt_one rfl) ?_)))
      refine ⟨⟨i + 1, hil, fun j hj => ?_⟩, by dsimp only; omega, by rw [e7], ?_⟩
      · rcases (by omega : j < i ∨ j = i) with h | rfl
        · exact hf j h
        · exact hfi
      · dsimp only
        rw [← words_set hil]
        rfl
  · have hd : decide ((i : Int) < (l.length : Int)) = false := decide_eq_false (by omega)
    obtain rfl : i = l.length := by omega
    have hnone := badI_all l 0 hf
    have hall := badI_none hnone
    have ej : (l.map fun x => saidL x.1) = (l.map (·.1)).map saidL := by rw [List.map_map]; rfl
    have hjl := joinT_len (k := 65536) (l := l.map (·.1)) fun x hx => by
      obtain ⟨y, hy, rfl⟩ := List.mem_map.1 hx
      exact (fine_len (fineI_tk (hall y hy))).1
    rw [List.length_map] at hjl
    have cj := join_any (l := l.map fun x => saidL x.1) (sep := [32]) (by rw [List.length_map]; omega) (by
      rw [ej, join_joinT]
      have : l.length * (65536 + 1) ≤ 5000 * (65536 + 1) := Nat.mul_le_mul_right _ hl
      omega)
    have ew : wordsT l l.length = (l.map fun x => saidL x.1).map SV.str := by
      unfold wordsT
      rw [List.take_length, Nat.sub_self, List.map_map]
      simp
    rw [ew]
    iterate 40 (all_goals (try conv => whnf); all_goals (try first | with_reducible refine brY (by assumption) ?_ | with_reducible refine brN (by assumption) ?_ | (with_reducible refine brT ?_ ?_; · (simp only [Bool.and_eq_true, Bool.not_eq_true', decide_eq_true_eq, decide_eq_false_iff_not, beq_iff_eq, beq_eq_false_iff_ne, ne_eq] at *; omega)) | with_reducible refine br (fun _ => ?_) (fun _ => ?_) | with_reducible refine ⟨rfl, ?_⟩ | with_reducible refine ARound.succ ?_ | (refine PCall.lend cj (fun j => Nat.beq j 1) (.cons (hard_ws rfl (by rw [List.length_map])) (.cons (.lit (.str _)) .nil)) (.str _) ?_) | (refine storeP_of ?_)))
    exact leaf (by unfold textI; rw [hnone, ej, join_joinT]) (textI_lit l)
end Go.Proofs.YtlhpbcbkkbjhoaaDoor
namespace Go.Proofs.YtlhpbcbkkbjhoaaDoor
open Ab Go.RowKit
set_option maxRecDepth 100000
set_option linter.unusedVariables false
set_option linter.unusedSimpArgs false
set_option maxHeartbeats 4000000
set_option pp.maxSteps 3000
theorem getD_memI {L : List TI} {j : Nat} (hj : j < L.length) : L.getD j inull ∈ L := by
  rw [show L.getD j inull = L[j] by simp [List.getD, hj]]
  exact List.getElem_mem _
/-- Lexed tokens, each at place 0, may all be. -/
theorem badI_lexed {l : List TP} (h : ∀ x ∈ l, fineT x.1 = true) : badI ((at0 (l.map (·.1))).map toI) 0 = none := by
  refine badI_all _ 0 fun j hj => ?_
  have hm : ((at0 (l.map (·.1))).map toI).getD j inull ∈ (at0 (l.map (·.1))).map toI := getD_memI hj
  obtain ⟨y, hy, e⟩ := List.mem_map.1 hm
  rw [← e]
  unfold at0 at hy
  obtain ⟨z, hz, rfl⟩ := List.mem_map.1 hy
  obtain ⟨w, hw, rfl⟩ := List.mem_map.1 hz
  show (decide ((0 : Int) = 0) && fineT w.1) = true
  rw [h w hw]; rfl
theorem at0_tk (l : List Tk) : ((at0 l).map toI).map (·.1) = l := by
  unfold at0
  rw [List.map_map, List.map_map]
  conv => rhs; rw [← List.map_id l]
  rfl
theorem text_lexed {l : List TP} (h : ∀ x ∈ l, fineT x.1 = true) : textI ((at0 (l.map (·.1))).map toI) = .tup [.str (joinT (l.map (·.1))), fltS 0 0] := by
  unfold textI
  rw [badI_lexed h, at0_tk]
/-- Tokens that all may be stand at place 0. -/
theorem fine_at0 {l : List TI} (h : ∀ x ∈ l, fineI x = true) : lstI l = lstT (at0 (l.map (·.1))) := by
  rw [lst_toI]
  congr 1
  unfold at0
  rw [List.map_map, List.map_map]
  conv => lhs; rw [← List.map_id l]
  refine List.map_congr_left fun x hx => ?_
  have := h x hx
  unfold fineI at this
  simp only [Bool.and_eq_true, decide_eq_true_eq] at this
  obtain ⟨k, a⟩ := x
  show (k, a) = (k, ((0 : Nat) : Int))
  rw [show a = 0 from this.1]; rfl
theorem fine_in {x : Tk} (h : fineT x = true) : x.n < 18446744073709551616 ∧ x.t.length ≤ 9223372036854775807 := by
  have hl := (fine_len h).2.1
  refine ⟨?_, by omega⟩
  unfold fineT at h
  split at h
  · cases h
  · rename_i h1
    split at h
    · simp only [Bool.and_eq_true, beq_iff_eq, decide_eq_true_eq] at h; omega
    · rename_i h2
      have : x.n = 0 := by
        rcases Nat.eq_zero_or_pos x.n with h0 | h0
        · exact h0
        · exact absurd (.inl ⟨h2, by omega⟩) h1
      omega
theorem lexed_in {l : List TP} (h : ∀ x ∈ l, fineT x.1 = true) : ∀ x ∈ (at0 (l.map (·.1))).map toI, x.1.n < 18446744073709551616 ∧ x.1.t.length ≤ 9223372036854775807 := by
  intro x hx
  obtain ⟨y, hy, rfl⟩ := List.mem_map.1 hx
  unfold at0 at hy
  obtain ⟨z, hz, rfl⟩ := List.mem_map.1 hy
  obtain ⟨w, hw, rfl⟩ := List.mem_map.1 hz
  exact fine_in (h w hw)
def InTs (l : List TI) : Prop := ∀ x ∈ l, x.1.n < 18446744073709551616 ∧ x.1.t.length ≤ 9223372036854775807
theorem lexBack_any {s : List UInt8} {l : List TI} (hin : InTs l) : PCall Tryd.prog 4 [.str s, lstI l] (.bool true) := by
  refine pcall_of (lits2 (.str _) (.lst _ _ _)) (call4 rfl ?_)
  by_cases h4 : 4000 < s.length
  · have q1 : decide ((4000 : Int) < (s.length : Int)) = true := decide_eq_true (by omega)
    iterate 20 (all_goals (try conv => whnf); all_goals (try first | with_reducible refine brY (by assumption) ?_ | with_reducible refine brN (by assumption) ?_ | (with_reducible refine brT ?_ ?_; · (simp only [Bool.and_eq_true, Bool.not_eq_true', decide_eq_true_eq, decide_eq_false_iff_not, beq_iff_eq, beq_eq_false_iff_ne, ne_eq] at *; omega)) | with_reducible refine br (fun _ => ?_) (fun _ => ?_) | with_reducible refine ⟨rfl, ?_⟩ | with_reducible refine ARound.succ ?_ | with_reducible refine PCall.call (lives_any) ?_))
    exact leaf rfl (.bool _)
  have q1 : decide ((4000 : Int) < (s.length : Int)) = false := decide_eq_false (by omega)
  by_cases h5 : 200 < l.length
  · have q2 : decide ((200 : Int) < (l.length : Int)) = true := decide_eq_true (by omega)
    iterate 20 (all_goals (try conv => whnf); all_goals (try first | with_reducible refine brY (by assumption) ?_ | with_reducible refine brN (by assumption) ?_ | (with_reducible refine brT ?_ ?_; · (simp only [Bool.and_eq_true, Bool.not_eq_true', decide_eq_true_eq, decide_eq_false_iff_not, beq_iff_eq, beq_eq_false_iff_ne, ne_eq] at *; omega)) | with_reducible refine br (fun _ => ?_) (fun _ => ?_) | with_reducible refine ⟨rfl, ?_⟩ | with_reducible refine ARound.succ ?_ | with_reducible refine PCall.call (lives_any) ?_))
    exact leaf rfl (.bool _)
  have q2 : decide ((200 : Int) < (l.length : Int)) = false := decide_eq_false (by omega)
  have hl := lex_any (s := s) (by omega)
  have ct := toks_any (l := l) (by omega) hin
  have hlx := lexGo_lexed s.length s 0
  cases hL : lexL s with
  | error e =>
    obtain ⟨e, p⟩ := e
    rw [hL] at hl
    have he := lexGo_err0 s.length s 0 e p hL
    have qA : (fun q => e == 0 && q) ((p : Int) == 0) = false := by
      have : (e == 0) = false := by rw [beq_eq_false_iff_ne]; exact he
      simp [this]
    cases hbad : badI l 0 with
    | some i =>
      obtain ⟨_, hi⟩ := badI_some hbad
      have ct : PCall Tryd.prog 10 [lstI l] (.tup [.str [], fltS 2 i]) := by unfold textI at ct; rw [hbad] at ct; exact ct
      have q3 : decide ((i : Int) < (l.length : Int)) = true := decide_eq_true (by omega)
      have q4 : decide (0 ≤ (i : Int)) = true := decide_eq_true (by omega)
      iterate 120 (all_goals (try conv => whnf); all_goals (try first | with_reducible refine brY (by assumption) ?_ | with_reducible refine brN (by assumption) ?_ | (with_reducible refine brT ?_ ?_; · (simp only [Bool.and_eq_true, Bool.not_eq_true', decide_eq_true_eq, decide_eq_false_iff_not, beq_iff_eq, beq_eq_false_iff_ne, ne_eq] at *; omega)) | with_reducible refine br (fun _ => ?_) (fun _ => ?_) | with_reducible refine ⟨rfl, ?_⟩ | with_reducible refine ARound.succ ?_ | with_reducible refine PCall.call (lives_any) ?_ | with_reducible refine PCall.call (ct) ?_ | with_reducible refine PCall.call (hl) ?_))
      exact leaf (by rw [q3]) (.bool _)
    | none =>
      have ct : PCall Tryd.prog 10 [lstI l] (.tup [.str (joinT (l.map (·.1))), fltS 0 0]) := by unfold textI at ct; rw [hbad] at ct; exact ct
      have hall := badI_none hbad
      by_cases l0 : l = []
      · subst l0
        have lb := lex_any (s := []) (by simp)
        rw [show lexL [] = .ok [] from rfl] at lb
        have ct : PCall Tryd.prog 10 [lstI []] (.tup [.str [], fltS 0 0]) := ct
        have smB : PCall Tryd.prog 8 [lstT [], lstI []] (.bool true) := same_T (l := []) (by simp)
        iterate 120 (all_goals (try conv => whnf); all_goals (try first | with_reducible refine brY (by assumption) ?_ | with_reducible refine brN (by assumption) ?_ | (with_reducible refine brT ?_ ?_; · (simp only [Bool.and_eq_true, Bool.not_eq_true', decide_eq_true_eq, decide_eq_false_iff_not, beq_iff_eq, beq_eq_false_iff_ne, ne_eq] at *; omega)) | with_reducible refine br (fun _ => ?_) (fun _ => ?_) | with_reducible refine ⟨rfl, ?_⟩ | with_reducible refine ARound.succ ?_ | with_reducible refine PCall.call (lives_any) ?_ | with_reducible refine PCall.call (ct) ?_ | with_reducible refine PCall.call (lb) ?_ | with_reducible refine PCall.call (placed_nils) ?_ | with_reducible refine PCall.call (smB) ?_ | with_reducible refine PCall.call (hl) ?_))
        exact leaf rfl (.bool _)
      · obtain ⟨m2, hn1, hn2⟩ := lexL_join (l := l.map (·.1)) fun y hy => by
          obtain ⟨z, hz, rfl⟩ := List.mem_map.1 hy
          exact fineI_tk (hall z hz)
        have hnl : m2.length = l.length := by have := congrArg List.length hn2; simpa using this
        generalize joinT (l.map (·.1)) = TB at ct hn1
        by_cases hTb : 65536 < TB.length
        · have qB : decide ((65536 : Int) < (TB.length : Int)) = true := decide_eq_true (by omega)
          have lb := lex_long (s := TB) hTb
          iterate 120 (all_goals (try conv => whnf); all_goals (try first | with_reducible refine brY (by assumption) ?_ | with_reducible refine brN (by assumption) ?_ | (with_reducible refine brT ?_ ?_; · (simp only [Bool.and_eq_true, Bool.not_eq_true', decide_eq_true_eq, decide_eq_false_iff_not, beq_iff_eq, beq_eq_false_iff_ne, ne_eq] at *; omega)) | with_reducible refine br (fun _ => ?_) (fun _ => ?_) | with_reducible refine ⟨rfl, ?_⟩ | with_reducible refine ARound.succ ?_ | with_reducible refine PCall.call (lives_any) ?_ | with_reducible refine PCall.call (ct) ?_ | with_reducible refine PCall.call (lb) ?_ | with_reducible refine PCall.call (hl) ?_))
          exact leaf rfl (.bool _)
        · have qB : decide ((65536 : Int) < (TB.length : Int)) = false := decide_eq_false (by omega)
          have lb := lex_any (s := TB) (by omega)
          rw [hn1] at lb
          have hl0 : 0 < l.length := by cases l with | nil => exact absurd rfl l0 | cons a b => simp
          obtain ⟨z, n', rfl⟩ : ∃ z n', m2 = z :: n' := by
            cases m2 with
            | nil => simp at hnl; omega
            | cons z n' => exact ⟨z, n', rfl⟩
          have pz := placed_any (l := z :: n') (by omega)
          rw [hn2] at pz
          have smB : PCall Tryd.prog 8 [lstT (at0 (l.map (·.1))), lstI l] (.bool true) := by
            rw [fine_at0 hall]
            exact same_T (by unfold at0; simp only [List.length_map]; omega)
          iterate 120 (all_goals (try conv => whnf); all_goals (try first | with_reducible refine brY (by assumption) ?_ | with_reducible refine brN (by assumption) ?_ | (with_reducible refine brT ?_ ?_; · (simp only [Bool.and_eq_true, Bool.not_eq_true', decide_eq_true_eq, decide_eq_false_iff_not, beq_iff_eq, beq_eq_false_iff_ne, ne_eq] at *; omega)) | with_reducible refine br (fun _ => ?_) (fun _ => ?_) | with_reducible refine ⟨rfl, ?_⟩ | with_reducible refine ARound.succ ?_ | with_reducible refine PCall.call (lives_any) ?_ | with_reducible refine PCall.call (ct) ?_ | with_reducible refine PCall.call (lb) ?_ | with_reducible refine PCall.call (pz) ?_ | with_reducible refine PCall.call (smB) ?_ | with_reducible refine PCall.call (hl) ?_))
          exact leaf rfl (.bool _)
  | ok L =>
    rw [hL] at hl
    cases L with
    | nil =>
      have pa := placed_nils
      have ta := toks_any (l := []) (by simp) (by simp)
      rw [show textI [] = .tup [.str [], fltS 0 0] from rfl] at ta
      have ta : PCall Tryd.prog 10 [lstT []] (.tup [.str [], fltS 0 0]) := ta
      have la := lex_any (s := []) (by simp)
      rw [show lexL [] = .ok [] from rfl] at la
      have smA := same_T (l := []) (by simp)
      cases hbad : badI l 0 with
      | some i =>
        obtain ⟨_, hi⟩ := badI_some hbad
        have ct : PCall Tryd.prog 10 [lstI l] (.tup [.str [], fltS 2 i]) := by unfold textI at ct; rw [hbad] at ct; exact ct
        have q3 : decide ((i : Int) < (l.length : Int)) = true := decide_eq_true (by omega)
        have q4 : decide (0 ≤ (i : Int)) = true := decide_eq_true (by omega)
        iterate 120 (all_goals (try conv => whnf); all_goals (try first | with_reducible refine brY (by assumption) ?_ | with_reducible refine brN (by assumption) ?_ | (with_reducible refine brT ?_ ?_; · (simp only [Bool.and_eq_true, Bool.not_eq_true', decide_eq_true_eq, decide_eq_false_iff_not, beq_iff_eq, beq_eq_false_iff_ne, ne_eq] at *; omega)) | with_reducible refine br (fun _ => ?_) (fun _ => ?_) | with_reducible refine ⟨rfl, ?_⟩ | with_reducible refine ARound.succ ?_ | with_reducible refine PCall.call (lives_any) ?_ | with_reducible refine PCall.call (ct) ?_ | with_reducible refine PCall.call (hl) ?_ | with_reducible refine PCall.call (pa) ?_ | with_reducible refine PCall.call (ta) ?_ | with_reducible refine PCall.call (la) ?_ | with_reducible refine PCall.call (smA) ?_))
        exact leaf (by rw [q3]) (.bool _)
      | none =>
        have ct : PCall Tryd.prog 10 [lstI l] (.tup [.str (joinT (l.map (·.1))), fltS 0 0]) := by unfold textI at ct; rw [hbad] at ct; exact ct
        have hall := badI_none hbad
        by_cases l0 : l = []
        · subst l0
          have lb := lex_any (s := []) (by simp)
          rw [show lexL [] = .ok [] from rfl] at lb
          have ct : PCall Tryd.prog 10 [lstI []] (.tup [.str [], fltS 0 0]) := ct
          have smB : PCall Tryd.prog 8 [lstT [], lstI []] (.bool true) := same_T (l := []) (by simp)
          iterate 120 (all_goals (try conv => whnf); all_goals (try first | with_reducible refine brY (by assumption) ?_ | with_reducible refine brN (by assumption) ?_ | (with_reducible refine brT ?_ ?_; · (simp only [Bool.and_eq_true, Bool.not_eq_true', decide_eq_true_eq, decide_eq_false_iff_not, beq_iff_eq, beq_eq_false_iff_ne, ne_eq] at *; omega)) | with_reducible refine br (fun _ => ?_) (fun _ => ?_) | with_reducible refine ⟨rfl, ?_⟩ | with_reducible refine ARound.succ ?_ | with_reducible refine PCall.call (lives_any) ?_ | with_reducible refine PCall.call (ct) ?_ | with_reducible refine PCall.call (lb) ?_ | with_reducible refine PCall.call (placed_nils) ?_ | with_reducible refine PCall.call (smB) ?_ | with_reducible refine PCall.call (hl) ?_ | with_reducible refine PCall.call (pa) ?_ | with_reducible refine PCall.call (ta) ?_ | with_reducible refine PCall.call (la) ?_ | with_reducible refine PCall.call (smA) ?_))
          exact leaf rfl (.bool _)
        · obtain ⟨m2, hn1, hn2⟩ := lexL_join (l := l.map (·.1)) fun y hy => by
            obtain ⟨z, hz, rfl⟩ := List.mem_map.1 hy
            exact fineI_tk (hall z hz)
          have hnl : m2.length = l.length := by have := congrArg List.length hn2; simpa using this
          generalize joinT (l.map (·.1)) = TB at ct hn1
          by_cases hTb : 65536 < TB.length
          · have qB : decide ((65536 : Int) < (TB.length : Int)) = true := decide_eq_true (by omega)
            have lb := lex_long (s := TB) hTb
            iterate 120 (all_goals (try conv => whnf); all_goals (try first | with_reducible refine brY (by assumption) ?_ | with_reducible refine brN (by assumption) ?_ | (with_reducible refine brT ?_ ?_; · (simp only [Bool.and_eq_true, Bool.not_eq_true', decide_eq_true_eq, decide_eq_false_iff_not, beq_iff_eq, beq_eq_false_iff_ne, ne_eq] at *; omega)) | with_reducible refine br (fun _ => ?_) (fun _ => ?_) | with_reducible refine ⟨rfl, ?_⟩ | with_reducible refine ARound.succ ?_ | with_reducible refine PCall.call (lives_any) ?_ | with_reducible refine PCall.call (ct) ?_ | with_reducible refine PCall.call (lb) ?_ | with_reducible refine PCall.call (hl) ?_ | with_reducible refine PCall.call (pa) ?_ | with_reducible refine PCall.call (ta) ?_ | with_reducible refine PCall.call (la) ?_ | with_reducible refine PCall.call (smA) ?_))
            exact leaf rfl (.bool _)
          · have qB : decide ((65536 : Int) < (TB.length : Int)) = false := decide_eq_false (by omega)
            have lb := lex_any (s := TB) (by omega)
            rw [hn1] at lb
            have hl0 : 0 < l.length := by cases l with | nil => exact absurd rfl l0 | cons a b => simp
            obtain ⟨z, n', rfl⟩ : ∃ z n', m2 = z :: n' := by
              cases m2 with
              | nil => simp at hnl; omega
              | cons z n' => exact ⟨z, n', rfl⟩
            have pz := placed_any (l := z :: n') (by omega)
            rw [hn2] at pz
            have smB : PCall Tryd.prog 8 [lstT (at0 (l.map (·.1))), lstI l] (.bool true) := by
              rw [fine_at0 hall]
              exact same_T (by unfold at0; simp only [List.length_map]; omega)
            iterate 120 (all_goals (try conv => whnf); all_goals (try first | with_reducible refine brY (by assumption) ?_ | with_reducible refine brN (by assumption) ?_ | (with_reducible refine brT ?_ ?_; · (simp only [Bool.and_eq_true, Bool.not_eq_true', decide_eq_true_eq, decide_eq_false_iff_not, beq_iff_eq, beq_eq_false_iff_ne, ne_eq] at *; omega)) | with_reducible refine br (fun _ => ?_) (fun _ => ?_) | with_reducible refine ⟨rfl, ?_⟩ | with_reducible refine ARound.succ ?_ | with_reducible refine PCall.call (lives_any) ?_ | with_reducible refine PCall.call (ct) ?_ | with_reducible refine PCall.call (lb) ?_ | with_reducible refine PCall.call (pz) ?_ | with_reducible refine PCall.call (smB) ?_ | with_reducible refine PCall.call (hl) ?_ | with_reducible refine PCall.call (pa) ?_ | with_reducible refine PCall.call (ta) ?_ | with_reducible refine PCall.call (la) ?_ | with_reducible refine PCall.call (smA) ?_))
            exact leaf rfl (.bool _)
    | cons x L' =>
      have hX := hlx (x :: L') (Nat.le_refl _) hL
      have hlen := lexed_len hX
      have hfin := lexed_fine hX
      have hL0 : 0 < (x :: L').length := by simp
      generalize hxl : x :: L' = L at hX hlen hfin hL0
      have pa := placed_any (l := L) (by omega)
      have ta := toks_any (l := (at0 (L.map (·.1))).map toI) (by unfold at0; simp only [List.length_map]; omega) (lexed_in hfin)
      rw [text_lexed hfin, ← lst_toI] at ta
      have smA := same_T (l := at0 (L.map (·.1))) (by unfold at0; simp only [List.length_map]; omega)
      obtain ⟨m, hm1, hm2⟩ := lexL_join (l := L.map (·.1)) fun y hy => by
        obtain ⟨z, hz, rfl⟩ := List.mem_map.1 hy
        exact hfin z hz
      have hml : m.length = L.length := by have := congrArg List.length hm2; simpa using this
      generalize hTq : joinT (L.map (·.1)) = TA at ta hm1
      have hl : PCall Tryd.prog 6 [.str s] (.tup [lstT L, fltS 0 0]) := by rw [← hxl]; exact hl
      by_cases hTl : TA.length ≤ 65536
      · have qT : decide ((TA.length : Int) ≤ 65536) = true := decide_eq_true (by omega)
        have la := lex_any (s := TA) hTl
        rw [hm1] at la
        obtain ⟨y, m', rfl⟩ : ∃ y m', m = y :: m' := by
          cases m with
          | nil => simp at hml; omega
          | cons y m' => exact ⟨y, m', rfl⟩
        have pb := placed_any (l := y :: m') (by omega)
        rw [hm2] at pb
        cases hbad : badI l 0 with
        | some i =>
          obtain ⟨_, hi⟩ := badI_some hbad
          have ct : PCall Tryd.prog 10 [lstI l] (.tup [.str [], fltS 2 i]) := by unfold textI at ct; rw [hbad] at ct; exact ct
          have q3 : decide ((i : Int) < (l.length : Int)) = true := decide_eq_true (by omega)
          have q4 : decide (0 ≤ (i : Int)) = true := decide_eq_true (by omega)
          iterate 120 (all_goals (try conv => whnf); all_goals (try first | with_reducible refine brY (by assumption) ?_ | with_reducible refine brN (by assumption) ?_ | (with_reducible refine brT ?_ ?_; · (simp only [Bool.and_eq_true, Bool.not_eq_true', decide_eq_true_eq, decide_eq_false_iff_not, beq_iff_eq, beq_eq_false_iff_ne, ne_eq] at *; omega)) | with_reducible refine br (fun _ => ?_) (fun _ => ?_) | with_reducible refine ⟨rfl, ?_⟩ | with_reducible refine ARound.succ ?_ | with_reducible refine PCall.call (lives_any) ?_ | with_reducible refine PCall.call (ct) ?_ | with_reducible refine PCall.call (hl) ?_ | with_reducible refine PCall.call (pa) ?_ | with_reducible refine PCall.call (ta) ?_ | with_reducible refine PCall.call (la) ?_ | with_reducible refine PCall.call (pb) ?_ | with_reducible refine PCall.call (smA) ?_))
          exact leaf (by rw [q3]) (.bool _)
        | none =>
          have ct : PCall Tryd.prog 10 [lstI l] (.tup [.str (joinT (l.map (·.1))), fltS 0 0]) := by unfold textI at ct; rw [hbad] at ct; exact ct
          have hall := badI_none hbad
          by_cases l0 : l = []
          · subst l0
            have lb := lex_any (s := []) (by simp)
            rw [show lexL [] = .ok [] from rfl] at lb
            have ct : PCall Tryd.prog 10 [lstI []] (.tup [.str [], fltS 0 0]) := ct
            have smB : PCall Tryd.prog 8 [lstT [], lstI []] (.bool true) := same_T (l := []) (by simp)
            iterate 120 (all_goals (try conv => whnf); all_goals (try first | with_reducible refine brY (by assumption) ?_ | with_reducible refine brN (by assumption) ?_ | (with_reducible refine brT ?_ ?_; · (simp only [Bool.and_eq_true, Bool.not_eq_true', decide_eq_true_eq, decide_eq_false_iff_not, beq_iff_eq, beq_eq_false_iff_ne, ne_eq] at *; omega)) | with_reducible refine br (fun _ => ?_) (fun _ => ?_) | with_reducible refine ⟨rfl, ?_⟩ | with_reducible refine ARound.succ ?_ | with_reducible refine PCall.call (lives_any) ?_ | with_reducible refine PCall.call (ct) ?_ | with_reducible refine PCall.call (lb) ?_ | with_reducible refine PCall.call (placed_nils) ?_ | with_reducible refine PCall.call (smB) ?_ | with_reducible refine PCall.call (hl) ?_ | with_reducible refine PCall.call (pa) ?_ | with_reducible refine PCall.call (ta) ?_ | with_reducible refine PCall.call (la) ?_ | with_reducible refine PCall.call (pb) ?_ | with_reducible refine PCall.call (smA) ?_))
            exact leaf rfl (.bool _)
          · obtain ⟨m2, hn1, hn2⟩ := lexL_join (l := l.map (·.1)) fun y hy => by
              obtain ⟨z, hz, rfl⟩ := List.mem_map.1 hy
              exact fineI_tk (hall z hz)
            have hnl : m2.length = l.length := by have := congrArg List.length hn2; simpa using this
            generalize joinT (l.map (·.1)) = TB at ct hn1
            by_cases hTb : 65536 < TB.length
            · have qB : decide ((65536 : Int) < (TB.length : Int)) = true := decide_eq_true (by omega)
              have lb := lex_long (s := TB) hTb
              iterate 120 (all_goals (try conv => whnf); all_goals (try first | with_reducible refine brY (by assumption) ?_ | with_reducible refine brN (by assumption) ?_ | (with_reducible refine brT ?_ ?_; · (simp only [Bool.and_eq_true, Bool.not_eq_true', decide_eq_true_eq, decide_eq_false_iff_not, beq_iff_eq, beq_eq_false_iff_ne, ne_eq] at *; omega)) | with_reducible refine br (fun _ => ?_) (fun _ => ?_) | with_reducible refine ⟨rfl, ?_⟩ | with_reducible refine ARound.succ ?_ | with_reducible refine PCall.call (lives_any) ?_ | with_reducible refine PCall.call (ct) ?_ | with_reducible refine PCall.call (lb) ?_ | with_reducible refine PCall.call (hl) ?_ | with_reducible refine PCall.call (pa) ?_ | with_reducible refine PCall.call (ta) ?_ | with_reducible refine PCall.call (la) ?_ | with_reducible refine PCall.call (pb) ?_ | with_reducible refine PCall.call (smA) ?_))
              exact leaf rfl (.bool _)
            · have qB : decide ((65536 : Int) < (TB.length : Int)) = false := decide_eq_false (by omega)
              have lb := lex_any (s := TB) (by omega)
              rw [hn1] at lb
              have hl0 : 0 < l.length := by cases l with | nil => exact absurd rfl l0 | cons a b => simp
              obtain ⟨z, n', rfl⟩ : ∃ z n', m2 = z :: n' := by
                cases m2 with
                | nil => simp at hnl; omega
                | cons z n' => exact ⟨z, n', rfl⟩
              have pz := placed_any (l := z :: n') (by omega)
              rw [hn2] at pz
              have smB : PCall Tryd.prog 8 [lstT (at0 (l.map (·.1))), lstI l] (.bool true) := by
                rw [fine_at0 hall]
                exact same_T (by unfold at0; simp only [List.length_map]; omega)
              iterate 120 (all_goals (try conv => whnf); all_goals (try first | with_reducible refine brY (by assumption) ?_ | with_reducible refine brN (by assumption) ?_ | (with_reducible refine brT ?_ ?_; · (simp only [Bool.and_eq_true, Bool.not_eq_true', decide_eq_true_eq, decide_eq_false_iff_not, beq_iff_eq, beq_eq_false_iff_ne, ne_eq] at *; omega)) | with_reducible refine br (fun _ => ?_) (fun _ => ?_) | with_reducible refine ⟨rfl, ?_⟩ | with_reducible refine ARound.succ ?_ | with_reducible refine PCall.call (lives_any) ?_ | with_reducible refine PCall.call (ct) ?_ | with_reducible refine PCall.call (lb) ?_ | with_reducible refine PCall.call (pz) ?_ | with_reducible refine PCall.call (smB) ?_ | with_reducible refine PCall.call (hl) ?_ | with_reducible refine PCall.call (pa) ?_ | with_reducible refine PCall.call (ta) ?_ | with_reducible refine PCall.call (la) ?_ | with_reducible refine PCall.call (pb) ?_ | with_reducible refine PCall.call (smA) ?_))
              exact leaf rfl (.bool _)
      · have qT : decide ((TA.length : Int) ≤ 65536) = false := decide_eq_false (by omega)
        have la := lex_long (s := TA) (by omega)
        cases hbad : badI l 0 with
        | some i =>
          obtain ⟨_, hi⟩ := badI_some hbad
          have ct : PCall Tryd.prog 10 [lstI l] (.tup [.str [], fltS 2 i]) := by unfold textI at ct; rw [hbad] at ct; exact ct
          have q3 : decide ((i : Int) < (l.length : Int)) = true := decide_eq_true (by omega)
          have q4 : decide (0 ≤ (i : Int)) = true := decide_eq_true (by omega)
          iterate 120 (all_goals (try conv => whnf); all_goals (try first | with_reducible refine brY (by assumption) ?_ | with_reducible refine brN (by assumption) ?_ | (with_reducible refine brT ?_ ?_; · (simp only [Bool.and_eq_true, Bool.not_eq_true', decide_eq_true_eq, decide_eq_false_iff_not, beq_iff_eq, beq_eq_false_iff_ne, ne_eq] at *; omega)) | with_reducible refine br (fun _ => ?_) (fun _ => ?_) | with_reducible refine ⟨rfl, ?_⟩ | with_reducible refine ARound.succ ?_ | with_reducible refine PCall.call (lives_any) ?_ | with_reducible refine PCall.call (ct) ?_ | with_reducible refine PCall.call (hl) ?_ | with_reducible refine PCall.call (pa) ?_ | with_reducible refine PCall.call (ta) ?_ | with_reducible refine PCall.call (la) ?_))
          exact leaf (by rw [q3]) (.bool _)
        | none =>
          have ct : PCall Tryd.prog 10 [lstI l] (.tup [.str (joinT (l.map (·.1))), fltS 0 0]) := by unfold textI at ct; rw [hbad] at ct; exact ct
          have hall := badI_none hbad
          by_cases l0 : l = []
          · subst l0
            have lb := lex_any (s := []) (by simp)
            rw [show lexL [] = .ok [] from rfl] at lb
            have ct : PCall Tryd.prog 10 [lstI []] (.tup [.str [], fltS 0 0]) := ct
            have smB : PCall Tryd.prog 8 [lstT [], lstI []] (.bool true) := same_T (l := []) (by simp)
            iterate 120 (all_goals (try conv => whnf); all_goals (try first | with_reducible refine brY (by assumption) ?_ | with_reducible refine brN (by assumption) ?_ | (with_reducible refine brT ?_ ?_; · (simp only [Bool.and_eq_true, Bool.not_eq_true', decide_eq_true_eq, decide_eq_false_iff_not, beq_iff_eq, beq_eq_false_iff_ne, ne_eq] at *; omega)) | with_reducible refine br (fun _ => ?_) (fun _ => ?_) | with_reducible refine ⟨rfl, ?_⟩ | with_reducible refine ARound.succ ?_ | with_reducible refine PCall.call (lives_any) ?_ | with_reducible refine PCall.call (ct) ?_ | with_reducible refine PCall.call (lb) ?_ | with_reducible refine PCall.call (placed_nils) ?_ | with_reducible refine PCall.call (smB) ?_ | with_reducible refine PCall.call (hl) ?_ | with_reducible refine PCall.call (pa) ?_ | with_reducible refine PCall.call (ta) ?_ | with_reducible refine PCall.call (la) ?_))
            exact leaf rfl (.bool _)
          · obtain ⟨m2, hn1, hn2⟩ := lexL_join (l := l.map (·.1)) fun y hy => by
              obtain ⟨z, hz, rfl⟩ := List.mem_map.1 hy
              exact fineI_tk (hall z hz)
            have hnl : m2.length = l.length := by have := congrArg List.length hn2; simpa using this
            generalize joinT (l.map (·.1)) = TB at ct hn1
            by_cases hTb : 65536 < TB.length
            · have qB : decide ((65536 : Int) < (TB.length : Int)) = true := decide_eq_true (by omega)
              have lb := lex_long (s := TB) hTb
              iterate 120 (all_goals (try conv => whnf); all_goals (try first | with_reducible refine brY (by assumption) ?_ | with_reducible refine brN (by assumption) ?_ | (with_reducible refine brT ?_ ?_; · (simp only [Bool.and_eq_true, Bool.not_eq_true', decide_eq_true_eq, decide_eq_false_iff_not, beq_iff_eq, beq_eq_false_iff_ne, ne_eq] at *; omega)) | with_reducible refine br (fun _ => ?_) (fun _ => ?_) | with_reducible refine ⟨rfl, ?_⟩ | with_reducible refine ARound.succ ?_ | with_reducible refine PCall.call (lives_any) ?_ | with_reducible refine PCall.call (ct) ?_ | with_reducible refine PCall.call (lb) ?_ | with_reducible refine PCall.call (hl) ?_ | with_reducible refine PCall.call (pa) ?_ | with_reducible refine PCall.call (ta) ?_ | with_reducible refine PCall.call (la) ?_))
              exact leaf rfl (.bool _)
            · have qB : decide ((65536 : Int) < (TB.length : Int)) = false := decide_eq_false (by omega)
              have lb := lex_any (s := TB) (by omega)
              rw [hn1] at lb
              have hl0 : 0 < l.length := by cases l with | nil => exact absurd rfl l0 | cons a b => simp
              obtain ⟨z, n', rfl⟩ : ∃ z n', m2 = z :: n' := by
                cases m2 with
                | nil => simp at hnl; omega
                | cons z n' => exact ⟨z, n', rfl⟩
              have pz := placed_any (l := z :: n') (by omega)
              rw [hn2] at pz
              have smB : PCall Tryd.prog 8 [lstT (at0 (l.map (·.1))), lstI l] (.bool true) := by
                rw [fine_at0 hall]
                exact same_T (by unfold at0; simp only [List.length_map]; omega)
              iterate 120 (all_goals (try conv => whnf); all_goals (try first | with_reducible refine brY (by assumption) ?_ | with_reducible refine brN (by assumption) ?_ | (with_reducible refine brT ?_ ?_; · (simp only [Bool.and_eq_true, Bool.not_eq_true', decide_eq_true_eq, decide_eq_false_iff_not, beq_iff_eq, beq_eq_false_iff_ne, ne_eq] at *; omega)) | with_reducible refine br (fun _ => ?_) (fun _ => ?_) | with_reducible refine ⟨rfl, ?_⟩ | with_reducible refine ARound.succ ?_ | with_reducible refine PCall.call (lives_any) ?_ | with_reducible refine PCall.call (ct) ?_ | with_reducible refine PCall.call (lb) ?_ | with_reducible refine PCall.call (pz) ?_ | with_reducible refine PCall.call (smB) ?_ | with_reducible refine PCall.call (hl) ?_ | with_reducible refine PCall.call (pa) ?_ | with_reducible refine PCall.call (ta) ?_ | with_reducible refine PCall.call (la) ?_))
              exact leaf rfl (.bool _)
end Go.Proofs.YtlhpbcbkkbjhoaaDoor
namespace Go.Proofs.YtlhpbcbkkbjhoaaDoor
open Ab Go.RowKit
set_option linter.unusedVariables false
theorem i64_in {n : Int} (h : IntKind.i64.min ≤ n ∧ n ≤ IntKind.i64.max) : -9223372036854775808 ≤ n ∧ n ≤ 9223372036854775807 := by
  have e1 : IntKind.i64.min = -9223372036854775808 := by decide
  have e2 : IntKind.i64.max = 9223372036854775807 := by decide
  omega
theorem u8_in {n : Int} (h : IntKind.u8.min ≤ n ∧ n ≤ IntKind.u8.max) : 0 ≤ n ∧ n ≤ 255 := by
  have e1 : IntKind.u8.min = 0 := by decide
  have e2 : IntKind.u8.max = 255 := by decide
  omega
theorem u64_in {n : Int} (h : IntKind.u64.min ≤ n ∧ n ≤ IntKind.u64.max) : 0 ≤ n ∧ n ≤ 18446744073709551615 := by
  have e1 : IntKind.u64.min = 0 := by decide
  have e2 : IntKind.u64.max = 18446744073709551615 := by decide
  omega
/-- The same values in other words, where they are as the type asks. -/
def mapOk {P : Program} {t : TypeId} {α β : Type} (r : Rd P t α) (g : α → β) (sv : β → List SV) (ok : β → Prop) (h1 : ∀ x, r.ok x → r.sv x = sv (g x)) (h2 : ∀ x, r.ok x → ok (g x)) (h3 : ∀ y, (sv y).length = r.sz) : Rd P t β where
  sv := sv
  ok := ok
  rich y := ∃ x, g x = y ∧ r.rich x
  sz := r.sz
  szof := r.szof
  len := h3
  rd h := by
    obtain ⟨x, hx, hw, hc⟩ := r.rd h
    exact ⟨g x, h2 x hx, fun h => ⟨x, rfl, hw h⟩, h1 x hx ▸ hc⟩
noncomputable def rdStr : Rd Tryd.prog 9 (List UInt8) := Rd.str Tryd.underlying9 (by kernel_rfl)
noncomputable def rdInt : Rd Tryd.prog 3 Int := (Rd.int (k := .i64) Tryd.underlying3 (by kernel_rfl)).map id (fun n => [.int .i64 n]) (fun n => -9223372036854775808 ≤ n ∧ n ≤ 9223372036854775807) (fun _ => rfl) (fun _ h => i64_in h) fun _ => rfl
theorem u64_sv {x : Int} (h : 0 ≤ x ∧ x ≤ 18446744073709551615) : [SV.int .u64 x] = [SV.int .u64 ((x.toNat : Nat) : Int)] := by rw [Int.toNat_of_nonneg h.1]
theorem u64_nat {x : Int} (h : 0 ≤ x ∧ x ≤ 18446744073709551615) : x.toNat < 18446744073709551616 := by omega
noncomputable def rdU64 : Rd Tryd.prog 30 Nat := mapOk (Rd.int (k := .u64) Tryd.underlying30 (by kernel_rfl)) Int.toNat (fun n => [.int .u64 n]) (fun n => n < 18446744073709551616)
  (fun _ h => u64_sv (u64_in h)) (fun _ h => u64_nat (u64_in h)) fun _ => rfl
noncomputable def rdTk : Rd Tryd.prog 29 Int := (Rd.int (k := .u8) Tryd.underlying29 (by kernel_rfl)).map id (fun n => [.int .u8 n]) (fun n => 0 ≤ n ∧ n ≤ 255) (fun _ => rfl) (fun _ h => u8_in h) fun _ => rfl
/-- A token as it may come in. -/
def InT (x : TI) : Prop := (0 ≤ x.1.k ∧ x.1.k ≤ 255) ∧ x.1.n < 18446744073709551616 ∧ x.1.t.length ≤ 9223372036854775807
noncomputable def rdToken : Rd Tryd.prog 32 TI :=
  (Rd.struct Tryd.underlying32 (.cons rdTk rfl (.cons rdStr rfl (.cons rdU64 rfl (.cons rdInt rfl .nil)))) (by kernel_rfl)).map (fun x => (⟨x.1, x.2.1, x.2.2.1⟩, x.2.2.2.1)) (fun v => [.int .u8 v.1.k, .str v.1.t, .int .u64 v.1.n, .int .i64 v.2]) InT (fun _ => rfl) (fun _ h => ⟨h.1, h.2.2.1, h.2.1⟩) fun _ => rfl
@[reducible] noncomputable def rdTokens : Rd Tryd.prog 23 (List TI) := Rd.slice Tryd.underlying23 (by kernel_rfl) rdToken (by decide) tokI (fun _ => rfl) inull
end Go.Proofs.YtlhpbcbkkbjhoaaDoor
