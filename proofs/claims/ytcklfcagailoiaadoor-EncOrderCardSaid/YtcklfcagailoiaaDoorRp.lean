/- strings.ReplaceAll of a byte: its contract. -/
import Derived.Test.YtcklfcagailoiaaDoorBw
import Derived.Test.YtcklfcagailoiaaDoorEp4
namespace Go.Proofs.YtcklfcagailoiaaDoor
open Ab Go.RowKit
set_option maxRecDepth 100000
set_option linter.unusedVariables false
set_option linter.unusedSimpArgs false
set_option pp.maxSteps 3000
theorem indexByte_any (s : List UInt8) (b : UInt8) : PCall Tryd.prog 129 [.str s, .int .u8 b.toNat] (.int .i64 (Lib.indexByte s b)) := by
  refine pcall_of (lits2 (.str _) (.int _ _)) (call129 rfl ?_)
  iterate 3 (all_goals (try conv => whnf); all_goals (try first | with_reducible refine brY (by assumption) ?_ | with_reducible refine brN (by assumption) ?_ | (with_reducible refine brT ?_ ?_; · (simp only [Bool.and_eq_true, Bool.not_eq_true', decide_eq_true_eq, decide_eq_false_iff_not, beq_iff_eq, beq_eq_false_iff_ne, ne_eq] at *; omega)) | with_reducible refine br (fun _ => ?_) (fun _ => ?_) | with_reducible refine ⟨rfl, ?_⟩ | with_reducible refine ARound.succ ?_))
  refine leaf ?_ (.int _ _)
  have e : (Int.toNat (b.toNat : Int)).toUInt8 = b := by rw [Int.toNat_natCast]; simp
  show SV.int .i64 (Lib.indexByte s (Int.toNat (b.toNat : Int)).toUInt8) = _
  rw [e]
theorem index_any (s : List UInt8) (b : UInt8) : PCall Tryd.prog 106 [.str s, .str [b]] (.int .i64 (Lib.indexByte s b)) := by
  have h1 : PCall Tryd.prog 119 [.str s, .str [b]] (.int .i64 (Lib.indexByte s b)) := by
    refine pcall_of (lits2 (.str _) (.str _)) (call119 rfl ?_)
    iterate 12 (all_goals (try conv => whnf); all_goals (try first | with_reducible refine brY (by assumption) ?_ | with_reducible refine brN (by assumption) ?_ | (with_reducible refine brT ?_ ?_; · (simp only [Bool.and_eq_true, Bool.not_eq_true', decide_eq_true_eq, decide_eq_false_iff_not, beq_iff_eq, beq_eq_false_iff_ne, ne_eq] at *; omega)) | with_reducible refine br (fun _ => ?_) (fun _ => ?_) | with_reducible refine ⟨rfl, ?_⟩ | with_reducible refine ARound.succ ?_ | with_reducible refine PCall.call (indexByte_any _ _) ?_))
    · rename_i h
      have h := beq_iff_eq.1 h
      subst h
      exact leaf (by simp [Lib.indexByte]) (.int _ _)
    · exact leaf rfl (.int _ _)
  refine pcall_of (lits2 (.str _) (.str _)) (call106 rfl ?_)
  iterate 3 (all_goals (try conv => whnf); all_goals (try first | with_reducible refine brY (by assumption) ?_ | with_reducible refine brN (by assumption) ?_ | (with_reducible refine brT ?_ ?_; · (simp only [Bool.and_eq_true, Bool.not_eq_true', decide_eq_true_eq, decide_eq_false_iff_not, beq_iff_eq, beq_eq_false_iff_ne, ne_eq] at *; omega)) | with_reducible refine br (fun _ => ?_) (fun _ => ?_) | with_reducible refine ⟨rfl, ?_⟩ | with_reducible refine ARound.succ ?_ | with_reducible refine PCall.call (h1) ?_))
  exact leaf rfl (.int _ _)
theorem grow_new {n : Int} {R : AEnd → Heap → Prop} (h0 : 0 < n) (hn : n ≤ 140737488355328) (hk : R (.ret (.tup [])) ⟨2, [(1, bufO 5 0 []), (0, bldO 85 0 1 0 0)]⟩) :
    ACall Tryd.prog 99 [.ref 0 0 0 0, .int .i64 n] ⟨1, [(0, .vec 0 2 [.agg [.nilp, .nils]] ⟨false, some 85⟩)]⟩ R := by
  refine call99 rfl ?_
  have q1 : decide (n < 0) = false := decide_eq_false (by omega)
  have e0 : IntKind.i64.wrap (0 - 0) = 0 := by decide
  have q2 : decide (IntKind.i64.wrap (0 - 0) < n) = true := by rw [e0]; exact decide_eq_true h0
  have e1 : IntKind.i64.wrap (IntKind.i64.wrap (2 * 0) + n) = n := by
    rw [show IntKind.i64.wrap (2 * 0) = 0 by decide, Int.zero_add, w64 (by omega) (by omega)]
  have q3 : (decide (0 ≤ IntKind.i64.wrap (IntKind.i64.wrap (2 * 0) + n)) && decide (IntKind.i64.wrap (IntKind.i64.wrap (2 * 0) + n) ≤ 140737488355328)) = true := by
    rw [e1, decide_eq_true (show 0 ≤ n by omega), decide_eq_true hn]; rfl
  iterate 30 (all_goals (try conv => whnf); all_goals (try first | with_reducible refine brY (by assumption) ?_ | with_reducible refine brN (by assumption) ?_ | (with_reducible refine brT ?_ ?_; · (simp only [Bool.and_eq_true, Bool.not_eq_true', decide_eq_true_eq, decide_eq_false_iff_not, beq_iff_eq, beq_eq_false_iff_ne, ne_eq] at *; omega)) | with_reducible refine br (fun _ => ?_) (fun _ => ?_) | with_reducible refine ⟨rfl, ?_⟩ | with_reducible refine ARound.succ ?_ | (refine call89 rfl ?_) | (refine call108 rfl ?_)))
  exact hk
theorem count_any (s : List UInt8) (b : UInt8) : PCall Tryd.prog 105 [.str s, .str [b]] (.int .i64 (s.count b)) := by
  refine pcall_of (lits2 (.str _) (.str _)) (call105 rfl ?_)
  iterate 8 (all_goals (try conv => whnf); all_goals (try first | with_reducible refine brY (by assumption) ?_ | with_reducible refine brN (by assumption) ?_ | (with_reducible refine brT ?_ ?_; · (simp only [Bool.and_eq_true, Bool.not_eq_true', decide_eq_true_eq, decide_eq_false_iff_not, beq_iff_eq, beq_eq_false_iff_ne, ne_eq] at *; omega)) | with_reducible refine br (fun _ => ?_) (fun _ => ?_) | with_reducible refine ⟨rfl, ?_⟩ | with_reducible refine ARound.succ ?_))
  refine leaf ?_ (.int _ _)
  have e : (Int.toNat (([b].getD (Int.toNat 0) 0).toNat : Int)).toUInt8 = b := by rw [Int.toNat_natCast]; simp
  show SV.int .i64 ((Lib.countByte s (Int.toNat (([b].getD (Int.toNat 0) 0).toNat : Int)).toUInt8 : Nat) : Int) = _
  rw [e]; rfl
theorem ltH2 {g n : Nat} {o : List UInt8} : ltH [(1, bufO 5 g o), (0, bldO 85 0 1 g n)] 2 := by
  intro i ob h
  unfold objL at h
  split at h
  · cases h; rename_i h; subst h; exact ⟨by omega, objLt_by⟩
  · unfold objL at h
    split at h
    · cases h; rename_i h; subst h; exact ⟨by omega, fun v hv => by simp only [List.mem_singleton] at hv; subst hv; rfl⟩
    · cases h
theorem ws2 {g : Nat} {o s : List UInt8} {R : AEnd → Heap → Prop} (hlen : o.length + s.length ≤ 140737488355328)
    (hk : ∀ g', R (.ret (.tup [.int .i64 s.length, .nili])) ⟨2, [(1, bufO 5 g' (o ++ s)), (0, bldO 85 0 1 g' (o ++ s).length)]⟩) :
    ACall Tryd.prog 62 [.ref 0 0 0 0, .str s] ⟨2, [(1, bufO 5 g o), (0, bldO 85 0 1 g o.length)]⟩ R :=
  ws_app (bi := 0) (j := 1) rfl rfl (by omega) (by omega) (by omega) ltH2 hlen hk
/-- Replacing: the state of its loop. -/
structure RpS (b : UInt8) (nw s : List UInt8) where
  k : Nat
  p : List UInt8
  r : List UInt8
  g : Nat
  hs : s = p ++ r
  hk : k + r.count b = s.count b
theorem replace_any {b : UInt8} {nw s : List UInt8} (hne : nw ≠ [b]) (h1 : 1 ≤ nw.length) (h4 : nw.length ≤ 4) (hs : s.length ≤ 1099511627776) :
    PCall Tryd.prog 90 [.str s, .str [b], .str nw, .int .i64 (-1)] (.str (repB b nw s)) := by
  refine pcall_of (lits4 (.str _) (.str _) (.str _) (.int _ _)) (call90 rfl ?_)
  have q1 : ([b] == nw) = false := beq_eq_false_iff_ne.2 fun h => hne h.symm
  by_cases hc : s.count b = 0
  · have q2 : (((s.count b : Nat) : Int) == 0) = true := by rw [beq_iff_eq]; omega
    iterate 12 (all_goals (try conv => whnf); all_goals (try first | with_reducible refine brY (by assumption) ?_ | with_reducible refine brN (by assumption) ?_ | (with_reducible refine brT ?_ ?_; · (simp only [Bool.and_eq_true, Bool.not_eq_true', decide_eq_true_eq, decide_eq_false_iff_not, beq_iff_eq, beq_eq_false_iff_ne, ne_eq] at *; omega)) | with_reducible refine br (fun _ => ?_) (fun _ => ?_) | with_reducible refine ⟨rfl, ?_⟩ | with_reducible refine ARound.succ ?_ | with_reducible refine PCall.call (count_any _ _) ?_))
    exact leaf (by rw [repB_none b nw s hc]) (.str _)
  have q2 : (((s.count b : Nat) : Int) == 0) = false := by rw [beq_eq_false_iff_ne]; omega
  have hcl : s.count b ≤ s.length := List.count_le_length
  have hm : s.count b * (nw.length - 1) ≤ s.length * 3 := Nat.mul_le_mul hcl (by omega)
  have em : ((s.count b : Nat) : Int) * ((nw.length : Int) - 1) = ((s.count b * (nw.length - 1) : Nat) : Int) := by
    rw [Int.natCast_mul, show ((nw.length - 1 : Nat) : Int) = (nw.length : Int) - 1 by omega]
  have en : IntKind.i64.wrap ((s.length : Int) + IntKind.i64.wrap (((s.count b : Nat) : Int) * IntKind.i64.wrap ((nw.length : Int) - 1))) = ((s.length + s.count b * (nw.length - 1) : Nat) : Int) := by
    rw [w64 (x := (nw.length : Int) - 1) (by omega) (by omega), em, w64 (x := ((s.count b * (nw.length - 1) : Nat) : Int)) (by omega) (by omega), w64 (by omega) (by omega)]
    omega
  have hpos : 0 < s.length := by omega
  have gr : ∀ {R : AEnd → Heap → Prop}, R (.ret (.tup [])) ⟨2, [(1, bufO 5 0 []), (0, bldO 85 0 1 0 0)]⟩ → ACall Tryd.prog 99 [.ref 0 0 0 0, .int .i64 (IntKind.i64.wrap ((s.length : Int) + IntKind.i64.wrap (((s.count b : Nat) : Int) * IntKind.i64.wrap ((nw.length : Int) - 1))))] ⟨1, [(0, .vec 0 2 [.agg [.nilp, .nils]] ⟨false, some 85⟩)]⟩ R := fun h => by
    rw [en]; exact grow_new (by omega) (by omega) h
  iterate 20 (all_goals (try conv => whnf); all_goals (try first | with_reducible refine brY (by assumption) ?_ | with_reducible refine brN (by assumption) ?_ | (with_reducible refine brT ?_ ?_; · (simp only [Bool.and_eq_true, Bool.not_eq_true', decide_eq_true_eq, decide_eq_false_iff_not, beq_iff_eq, beq_eq_false_iff_ne, ne_eq] at *; omega)) | with_reducible refine br (fun _ => ?_) (fun _ => ?_) | with_reducible refine ⟨rfl, ?_⟩ | with_reducible refine ARound.succ ?_ | with_reducible refine PCall.call (count_any _ _) ?_ | (refine gr ?_)))
  refine loop_ind (σ := RpS b nw s) (fun q => [(0, SV.str s), (1, SV.str [b]), (2, SV.str nw), (3, SV.int IntKind.i64 ((s.count b : Nat) : Int)), (8, SV.str []), (22, SV.bool false), (9, SV.int IntKind.i64 ((s.count b : Nat) : Int)), (28, SV.bool false), (36, SV.bool true), (10, SV.ref 0 0 0 0), (11, SV.int IntKind.i64 q.p.length), (51, SV.bool true), (52, SV.int IntKind.i64 ((s.count b : Nat) : Int)), (53, SV.int IntKind.i64 q.k)])
    (fun q => ⟨2, [(1, bufO 5 q.g (repB b nw q.p)), (0, bldO 85 0 1 q.g (repB b nw q.p).length)]⟩) (fun q => s.count b - q.k) ?_ ⟨0, [], s, 0, rfl, by omega⟩
  rintro ⟨k, p, r, g, hpr, hk⟩
  dsimp only
  have hpl : p.length + r.length = s.length := by rw [hpr, List.length_append]
  have hrp := repB_len b (nw := nw) (k := 4) h4 (by omega) p
  by_cases hlt : k < s.count b
  · have hd : decide ((k : Int) < ((s.count b : Nat) : Int)) = true := decide_eq_true (by omega)
    obtain ⟨q, r', e1, e2, e3⟩ := index_split b r (by omega)
    have hql : q.length + (r'.length + 1) = r.length := by rw [e1]; simp
    have es : (s.drop (p.length : Int).toNat).take ((s.length : Int).toNat - (p.length : Int).toNat) = r := by
      rw [Int.toNat_natCast, Int.toNat_natCast, List.take_of_length_le (by simp), hpr, List.drop_left]
    have ci : PCall Tryd.prog 106 [.str ((s.drop (p.length : Int).toNat).take ((s.length : Int).toNat - (p.length : Int).toNat)), .str [b]] (.int .i64 q.length) := by
      rw [es, ← e3]; exact index_any _ _
    have ej : IntKind.i64.wrap ((p.length : Int) + (q.length : Int)) = ((p.length + q.length : Nat) : Int) := by rw [w64 (by omega) (by omega)]; omega
    have e5 : IntKind.i64.wrap (IntKind.i64.wrap ((p.length : Int) + (q.length : Int)) + (([b].length : Nat) : Int)) = ((p.length + (q.length + 1) : Nat) : Int) := by rw [List.length_singleton, ej, w64 (by omega) (by omega)]; omega
    have e8 : repB b nw (p ++ (q ++ [b])) = repB b nw p ++ q ++ nw := by
      rw [repB_app, repB_app, repB_none b nw q e2, List.append_assoc]
      simp [repB]
    have eq : (s.drop (p.length : Int).toNat).take ((IntKind.i64.wrap ((p.length : Int) + (q.length : Int))).toNat - (p.length : Int).toNat) = q := by
      rw [ej, Int.toNat_natCast, Int.toNat_natCast, Nat.add_sub_cancel_left, hpr, List.drop_left, e1, List.take_left]
    have e7 : IntKind.i64.wrap ((k : Int) + 1) = ((k + 1 : Nat) : Int) := w64add (by omega)
    iterate 30 (all_goals (try conv => whnf); all_goals (try first | with_reducible refine brY (by assumption) ?_ | with_reducible refine brN (by assumption) ?_ | (with_reducible refine brT ?_ ?_; · (simp only [Bool.and_eq_true, Bool.not_eq_true', decide_eq_true_eq, decide_eq_false_iff_not, beq_iff_eq, beq_eq_false_iff_ne, ne_eq] at *; omega)) | with_reducible refine br (fun _ => ?_) (fun _ => ?_) | with_reducible refine ⟨rfl, ?_⟩ | with_reducible refine ARound.succ ?_ | with_reducible refine PCall.call (ci) ?_ | (rw [eq]; refine ws2 (by omega) (fun g1 => ?_)) | (refine ws2 (by rw [List.length_append]; omega) (fun g2 => ?_))))
    refine ⟨⟨k + 1, p ++ (q ++ [b]), r', g2, by rw [hpr, e1]; simp, by rw [e1, List.count_append, List.count_cons_self, e2] at hk; omega⟩, by dsimp only; omega, ?_, ?_⟩
    · rw [e7, e5]; simp only [List.length_append, List.length_singleton]
    · dsimp only; rw [e8]
  · have hd : decide ((k : Int) < ((s.count b : Nat) : Int)) = false := decide_eq_false (by omega)
    have hr0 : r.count b = 0 := by have : r.count b ≤ s.count b := by rw [hpr, List.count_append]; omega
                                   omega
    have es : (s.drop (p.length : Int).toNat).take ((s.length : Int).toNat - (p.length : Int).toNat) = r := by
      rw [Int.toNat_natCast, Int.toNat_natCast, List.take_of_length_le (by simp), hpr, List.drop_left]
    have e8 : repB b nw s = repB b nw p ++ r := by rw [hpr, repB_app, repB_none b nw r hr0]
    have hp0 : 0 < (repB b nw p ++ r).length := by
      rw [← e8]
      obtain ⟨q, r', e1, e2, e3⟩ := index_split b s (by omega)
      rw [e1, repB_app, repB, if_pos rfl]
      simp only [List.length_append]; omega
    iterate 30 (all_goals (try conv => whnf); all_goals (try first | with_reducible refine brY (by assumption) ?_ | with_reducible refine brN (by assumption) ?_ | (with_reducible refine brT ?_ ?_; · (simp only [Bool.and_eq_true, Bool.not_eq_true', decide_eq_true_eq, decide_eq_false_iff_not, beq_iff_eq, beq_eq_false_iff_ne, ne_eq] at *; omega)) | with_reducible refine br (fun _ => ?_) (fun _ => ?_) | with_reducible refine ⟨rfl, ?_⟩ | with_reducible refine ARound.succ ?_ | (rw [es]; refine ws2 (by omega) (fun g1 => ?_)) | (refine bs_str (g := g1) (o := repB b nw p ++ r) rfl rfl hp0 (by rw [List.length_append]; omega) (fun l' => ?_))))
    exact leaf (by rw [e8]) (.str _)
theorem replaceAll_any {b : UInt8} {nw s : List UInt8} (hne : nw ≠ [b]) (h1 : 1 ≤ nw.length) (h4 : nw.length ≤ 4) (hs : s.length ≤ 1099511627776) :
    PCall Tryd.prog 63 [.str s, .str [b], .str nw] (.str (repB b nw s)) := by
  refine pcall_of (lits3 (.str _) (.str _) (.str _)) (call63 rfl ?_)
  iterate 4 (all_goals (try conv => whnf); all_goals (try first | with_reducible refine brY (by assumption) ?_ | with_reducible refine brN (by assumption) ?_ | (with_reducible refine brT ?_ ?_; · (simp only [Bool.and_eq_true, Bool.not_eq_true', decide_eq_true_eq, decide_eq_false_iff_not, beq_iff_eq, beq_eq_false_iff_ne, ne_eq] at *; omega)) | with_reducible refine br (fun _ => ?_) (fun _ => ?_) | with_reducible refine ⟨rfl, ?_⟩ | with_reducible refine ARound.succ ?_ | with_reducible refine PCall.call (replace_any hne h1 h4 hs) ?_))
  exact leaf rfl (.str _)
end Go.Proofs.YtcklfcagailoiaaDoor
