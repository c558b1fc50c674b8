/- strings.Builder: contracts of what is written behind bytes that are there. -/
import Derived.Test.YtboinbjiemmggaaDoorEh
import Derived.Test.YtboinbjiemmggaaDoorLy3
import Derived.Test.YtboinbjiemmggaaDoorAbM
namespace Go.Proofs.YtboinbjiemmggaaDoor
open Ab Go.RowKit
set_option maxRecDepth 100000
set_option linter.unusedVariables false
set_option linter.unusedSimpArgs false
set_option pp.maxSteps 3000
attribute [local irreducible] appendK
section
variable {m : Nat} {l : List (Nat × AObj)} {bi j g : Nat} {o : List UInt8} {R : AEnd → Heap → Prop}
theorem wb_app {c : UInt8} {x : Int} (hx : SV.int .u8 x = byS c) (hb : objL l bi = some (bldO 51 bi j g o.length)) (hj : objL l j = some (bufO 5 g o)) (hbm : bi < m) (hjm : j < m) (hne : bi ≠ j) (hl : ltH l m) (hlen : o.length + 1 ≤ 140737488355328)
    (hk : R (.ret .nili) ⟨m, bset 51 5 l bi j (g + 1) (o ++ [c])⟩) : ACall Tryd.prog 24 [.ref bi 0 0 0, .int .u8 x] ⟨m, l⟩ R := by
  refine ACall.cut (Nat.le_refl m) (call24 rfl ?_)
  have q1 : Nat.beq m bi = false := nbeq (by omega)
  have q2 : Nat.beq m j = false := nbeq (by omega)
  have q4 : (Nat.beq bi bi && Nat.beq 0 0 && (Nat.beq 0 0 && Nat.beq 0 0)) = true := by rw [nbeq_self]; rfl
  have q5 : objL (putO l j (.vec (g + 1) 1 (o.map byS ++ [SV.int .u8 x]) ⟨true, some 5⟩)) bi = some (bldO 51 bi j g o.length) := by rw [objL_put_ne hne]; exact hb
  iterate 40 (all_goals (try conv => whnf); all_goals (try first | with_reducible refine brY (by assumption) ?_ | with_reducible refine brN (by assumption) ?_ | (with_reducible refine brT ?_ ?_; · (simp only [Bool.and_eq_true, Bool.not_eq_true', decide_eq_true_eq, decide_eq_false_iff_not, beq_iff_eq, beq_eq_false_iff_ne, ne_eq] at *; omega)) | with_reducible refine br (fun _ => ?_) (fun _ => ?_) | with_reducible refine ⟨rfl, ?_⟩ | with_reducible refine ARound.succ ?_ | (refine call35 rfl ?_) | (with_reducible refine lookO_run hb ?_) | (with_reducible refine lookO_run hj ?_) | (with_reducible refine lookO_run q5 ?_) | (refine append_one hj hjm rfl hlen ?_) | (with_reducible refine setO_run ?_)))
  have e : putO (putO l j (.vec (g + 1) 1 (o.map byS ++ [SV.int .u8 x]) ⟨true, some 5⟩)) bi (.vec 0 2 [.agg [.ref bi 0 0 0, .sl j (g + 1) 1 0 (o.length + 1) none]] ⟨false, some 51⟩) = bset 51 5 l bi j (g + 1) (o ++ [c]) := by
    unfold bset; rw [hx, List.length_append, bufO, List.map_append]; rfl
  rw [e]
  exact ⟨_, fun i ob h => ⟨sub_skip (ltH_bset hl hbm hjm hne i ob h).1 h, ltH_bset hl hbm hjm hne i ob h⟩, .nili, hk⟩
theorem ws_app {s : List UInt8} (hb : objL l bi = some (bldO 51 bi j g o.length)) (hj : objL l j = some (bufO 5 g o)) (hbm : bi < m) (hjm : j < m) (hne : bi ≠ j) (hl : ltH l m) (hlen : o.length + s.length ≤ 140737488355328)
    (hk : ∀ g', R (.ret (.tup [.int .i64 s.length, .nili])) ⟨m, bset 51 5 l bi j g' (o ++ s)⟩) : ACall Tryd.prog 23 [.ref bi 0 0 0, .str s] ⟨m, l⟩ R := by
  refine ACall.cut (Nat.le_refl m) (call23 rfl ?_)
  have q4 : (Nat.beq bi bi && Nat.beq 0 0 && (Nat.beq 0 0 && Nat.beq 0 0)) = true := by rw [nbeq_self]; rfl
  have lit : LitEnd (.ret (.tup [.int .i64 s.length, .nili])) := lit2 (.int _ _) .nili
  by_cases h0 : s = []
  · subst h0
    iterate 40 (all_goals (try conv => whnf); all_goals (try first | with_reducible refine brY (by assumption) ?_ | with_reducible refine brN (by assumption) ?_ | (with_reducible refine brT ?_ ?_; · (simp only [Bool.and_eq_true, Bool.not_eq_true', decide_eq_true_eq, decide_eq_false_iff_not, beq_iff_eq, beq_eq_false_iff_ne, ne_eq] at *; omega)) | with_reducible refine br (fun _ => ?_) (fun _ => ?_) | with_reducible refine ⟨rfl, ?_⟩ | with_reducible refine ARound.succ ?_ | (refine call35 rfl ?_) | (with_reducible refine lookO_run hb ?_) | (with_reducible refine lookO_run hj ?_) | (refine append_noneS (elems_str []) hj ?_) | (with_reducible refine setO_run ?_)))
    have e : putO l bi (bldO 51 bi j g o.length) = bset 51 5 l bi j g (o ++ []) := by
      unfold bset; rw [List.append_nil, putO_self hj]
    refine ⟨bset 51 5 l bi j g (o ++ []), fun i ob h => ⟨?_, ltH_bset hl hbm hjm hne i ob h⟩, lit, hk g⟩
    rw [← e] at h
    exact h
  · have hpos : 0 < s.length := by cases s with | nil => exact absurd rfl h0 | cons c r => simp
    have q5 : objL (putO l j (.vec (g + 1) 1 (o.map byS ++ s.map byS) ⟨true, some 5⟩)) bi = some (bldO 51 bi j g o.length) := by rw [objL_put_ne hne]; exact hb
    iterate 40 (all_goals (try conv => whnf); all_goals (try first | with_reducible refine brY (by assumption) ?_ | with_reducible refine brN (by assumption) ?_ | (with_reducible refine brT ?_ ?_; · (simp only [Bool.and_eq_true, Bool.not_eq_true', decide_eq_true_eq, decide_eq_false_iff_not, beq_iff_eq, beq_eq_false_iff_ne, ne_eq] at *; omega)) | with_reducible refine br (fun _ => ?_) (fun _ => ?_) | with_reducible refine ⟨rfl, ?_⟩ | with_reducible refine ARound.succ ?_ | (refine call35 rfl ?_) | (with_reducible refine lookO_run hb ?_) | (with_reducible refine lookO_run hj ?_) | (with_reducible refine lookO_run q5 ?_) | (refine append_str hj hpos hlen ?_) | (with_reducible refine setO_run ?_)))
    have e : putO (putO l j (.vec (g + 1) 1 (o.map byS ++ s.map byS) ⟨true, some 5⟩)) bi (.vec 0 2 [.agg [.ref bi 0 0 0, .sl j (g + 1) 1 0 (o.length + s.length) none]] ⟨false, some 51⟩) = bset 51 5 l bi j (g + 1) (o ++ s) := by
      unfold bset; rw [List.length_append, bufO, List.map_append]
    refine ⟨bset 51 5 l bi j (g + 1) (o ++ s), fun i ob h => ⟨?_, ltH_bset hl hbm hjm hne i ob h⟩, lit, hk _⟩
    rw [← e] at h
    exact h
theorem bs_str (hb : objL l bi = some (bldO 51 bi j g o.length)) (hj : objL l j = some (bufO 5 g o)) (h0 : 0 < o.length) (hlen : o.length ≤ 9223372036854775807)
    (hk : ∀ l', R (.ret (.str o)) ⟨m, l'⟩) : ACall Tryd.prog 26 [.ref bi 0 0 0] ⟨m, l⟩ R := by
  refine call26 rfl ?_
  have q1 : Nat.blt 0 o.length = true := by rw [Nat.blt, Nat.ble_eq]; exact h0
  have q2 : (Nat.beq g g && (Nat.beq 0 0 && Nat.beq 0 0) && (Nat.beq 1 1 && tyIs (Sk.ty ⟨true, some 5⟩) 5) && (decide (0 < (o.length : Int)) && decide ((o.length : Int) ≤ 9223372036854775807))) = true := by
    rw [nbeq_self, decide_eq_true (show 0 < (o.length : Int) by omega), decide_eq_true (show (o.length : Int) ≤ 9223372036854775807 by omega)]; rfl
  have q3 : Nat.beq g g = true := nbeq_self g
  have q4 : Nat.beq j j = true := nbeq_self j
  iterate 40 (all_goals (try conv => whnf); all_goals (try first | with_reducible refine brY (by assumption) ?_ | with_reducible refine brN (by assumption) ?_ | (with_reducible refine brT ?_ ?_; · (simp only [Bool.and_eq_true, Bool.not_eq_true', decide_eq_true_eq, decide_eq_false_iff_not, beq_iff_eq, beq_eq_false_iff_ne, ne_eq] at *; omega)) | with_reducible refine br (fun _ => ?_) (fun _ => ?_) | with_reducible refine ⟨rfl, ?_⟩ | with_reducible refine ARound.succ ?_ | (with_reducible refine lookO_run hb ?_) | (with_reducible refine lookO_run hj ?_) | (refine takeN_all (by simp) ?_) | (refine bytesK_run ?_) | (with_reducible refine setO_run ?_)))
  exact hk _
end
theorem bs_empty {R : AEnd → Heap → Prop} (hk : R (.ret (.str [])) ⟨1, [(0, .vec 0 2 [.agg [.nilp, .nils]] ⟨false, some 51⟩)]⟩) :
    ACall Tryd.prog 26 [.ref 0 0 0 0] ⟨1, [(0, .vec 0 2 [.agg [.nilp, .nils]] ⟨false, some 51⟩)]⟩ R := by
  refine call26 rfl ?_
  iterate 20 (all_goals (try conv => whnf); all_goals (try first | with_reducible refine brY (by assumption) ?_ | with_reducible refine brN (by assumption) ?_ | (with_reducible refine brT ?_ ?_; · (simp only [Bool.and_eq_true, Bool.not_eq_true', decide_eq_true_eq, decide_eq_false_iff_not, beq_iff_eq, beq_eq_false_iff_ne, ne_eq] at *; omega)) | with_reducible refine br (fun _ => ?_) (fun _ => ?_) | with_reducible refine ⟨rfl, ?_⟩ | with_reducible refine ARound.succ ?_))
  exact hk
end Go.Proofs.YtboinbjiemmggaaDoor
