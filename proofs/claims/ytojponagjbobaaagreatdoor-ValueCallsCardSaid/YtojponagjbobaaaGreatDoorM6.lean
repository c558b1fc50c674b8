/- Parts of the proof of PCalls, one behind the other. -/
import Derived.Test.YtojponagjbobaaaGreatDoorM5
namespace Go.Proofs.YtojponagjbobaaaGreatDoor
open Ab Go.RowKit
set_option maxRecDepth 100000
set_option linter.unusedVariables false
set_option linter.unusedSimpArgs false
set_option maxHeartbeats 4000000
set_option pp.maxSteps 3000
attribute [local irreducible] appendK allLtK
theorem takeV {l : List V} {k : Nat} (h : k < l.length) : l.take (k + 1) = l.take k ++ [l.getD k vnull] := by
  rw [List.take_add_one]
  simp [List.getD, h]
theorem agree_vs : ∀ (s : List V) (k : Nat) (get : Nat → SV), (∀ j, j < s.length → get (k + j) = (s.getD j vnull).sv) → agree (s.map V.sv) k get
  | [], _, _, _ => trivial
  | b :: r, k, get, h => by
    refine ⟨?_, V.lit _, agree_vs r (k + 1) get fun j hj => ?_⟩
    · have := h 0 (by simp)
      simpa using this.symm
    · have := h (j + 1) (by simp; omega)
      rw [show k + 1 + j = k + (j + 1) by omega, this]
      simp [List.getD]
theorem hard_vs {A : Heap} {i g : Nat} {cap : Option Nat} {s : List V} {n : Nat} {sk : Sk} (ho : A.obj i = some (.vec g 3 (s.map V.sv) sk)) (hn : n = s.length) : Hard A (.sl i g 3 0 n cap) (lstV s) := by
  subst hn
  have := hard_all (cap := cap) (get := fun i => (s.getD i vnull).sv) ho (agree_vs s 0 _ fun j _ => by rw [Nat.zero_add])
  rw [List.length_map] at this
  exact this
theorem lt_vs {n : Nat} {s : List V} : ∀ v ∈ s.map V.sv, SV.lt 8 n v = true := by
  intro v hv
  obtain ⟨b, _, rfl⟩ := List.mem_map.1 hv
  rfl
theorem app_val1 {m : Nat} {v : V} {sk : Sk} {l : List (Nat × AObj)} {k : SV → Heap → Prop}
    (hk : k (.sl (m + 1) 0 3 0 1 none) ⟨m + 2, (m + 1, .vec 0 3 [v.sv] ⟨true, some 29⟩) :: (m, .vec 0 3 [v.sv] sk) :: l⟩) :
    appendK 29 3 32 ⟨m + 1, (m, .vec 0 3 [v.sv] sk) :: l⟩ .nils (.sl m 0 3 0 1 (some 1)) k :=
  append_new (elems_all objL_hd rfl) (by simp) rfl (by simp) (by simp) hk
theorem app_val {m i g : Nat} {vs : List V} {v : V} {sk : Sk} {l : List (Nat × AObj)} {k : SV → Heap → Prop} (ho : objL l i = some (.vec g 3 (vs.map V.sv) ⟨true, some 29⟩)) (him : i < m) (hlen : vs.length ≤ 100000)
    (hk : k (.sl i (g + 1) 3 0 (vs.length + 1) none) ⟨m + 1, (m, .vec 0 3 [v.sv] sk) :: putO l i (.vec (g + 1) 3 ((vs ++ [v]).map V.sv) ⟨true, some 29⟩)⟩) :
    appendK 29 3 32 ⟨m + 1, (m, .vec 0 3 [v.sv] sk) :: l⟩ (.sl i g 3 0 vs.length none) (.sl m 0 3 0 1 (some 1)) k := by
  refine append_mv (elems_all objL_hd rfl) (by simp) rfl (by rw [objL_nx (by omega)]; exact ho) (by simp) (by simp; omega) (by simp; omega) ?_
  rw [setO_eq]
  unfold putO
  rw [if_neg (by omega), joinTy_self]
  rw [List.map_append] at hk
  exact hk
noncomputable def sameL (a b : List V) : Bool := @decide (a = b) (Classical.propDecidable _)
theorem sameL_self (a : List V) : sameL a a = true := by unfold sameL; exact @decide_eq_true _ (Classical.propDecidable _) rfl
theorem sameL_no {a b : List V} (h : a ≠ b) : sameL a b = false := by unfold sameL; exact @decide_eq_false _ (Classical.propDecidable _) h
structure SvS (a b : List V) where
  k : Nat
  hk : k ≤ a.length
  he : a.take k = b.take k
theorem eqV_iff {v w : V} : (v.k == w.k && (v.n == w.n && v.t == w.t)) = true ↔ v = w := by
  obtain ⟨a, b, c⟩ := v
  obtain ⟨a', b', c'⟩ := w
  simp [V.mk.injEq]
theorem sameValues_any {a b : List V} (ha : a.length ≤ 4611686018427387904) : PCall Tryz.prog 35 [lstV a, lstV b] (.bool (sameL a b)) := by
  refine pcall_of (lits2 (.lst _ _ _) (.lst _ _ _)) (call35 rfl ?_)
  by_cases hlen : ¬ a.length = b.length
  · have hd : ((a.length : Int) != (b.length : Int)) = true := by rw [bne_iff_ne]; omega
    iterate 4 (all_goals (try conv => whnf); all_goals (try first | with_reducible refine brY (by assumption) ?_ | with_reducible refine brN (by assumption) ?_ | (with_reducible refine brT ?_ ?_; · (simp only [Bool.and_eq_true, Bool.not_eq_true', decide_eq_true_eq, decide_eq_false_iff_not, beq_iff_eq, beq_eq_false_iff_ne, ne_eq] at *; omega)) | with_reducible refine br (fun _ => ?_) (fun _ => ?_) | with_reducible refine ⟨rfl, ?_⟩ | with_reducible refine ARound.succ ?_))
    exact leaf (by rw [sameL_no fun h => hlen (by rw [h])]) (.bool _)
  have hlen : a.length = b.length := by omega
  have hd : ((a.length : Int) != (b.length : Int)) = false := by rw [bne_eq_false_iff_eq]; omega
  iterate 3 (all_goals (try conv => whnf); all_goals (try first | with_reducible refine brY (by assumption) ?_ | with_reducible refine brN (by assumption) ?_ | (with_reducible refine brT ?_ ?_; · (simp only [Bool.and_eq_true, Bool.not_eq_true', decide_eq_true_eq, decide_eq_false_iff_not, beq_iff_eq, beq_eq_false_iff_ne, ne_eq] at *; omega)) | with_reducible refine br (fun _ => ?_) (fun _ => ?_) | with_reducible refine ⟨rfl, ?_⟩ | with_reducible refine ARound.succ ?_))
  refine loop_ind (σ := SvS a b) (fun s => [(0, lstV a), (1, lstV b), (4, SV.bool false), (10, SV.bool false), (5, SV.int IntKind.i64 s.k)]) (fun _ => ⟨0, []⟩) (fun s => a.length - s.k) ?_ ⟨0, by omega, rfl⟩
  rintro ⟨k, hk, he⟩
  dsimp only
  by_cases hkl : k < a.length
  · have hd : decide ((k : Int) < (a.length : Int)) = true := decide_eq_true (by omega)
    have e7 : IntKind.i64.wrap ((k : Int) + 1) = ((k + 1 : Nat) : Int) := w64add (by omega)
    have et := Int.toNat_natCast k
    by_cases hv : a.getD k vnull = b.getD k vnull
    · have hc : (!((a.getD (k : Int).toNat vnull).k == (b.getD (k : Int).toNat vnull).k && ((a.getD (k : Int).toNat vnull).n == (b.getD (k : Int).toNat vnull).n && (a.getD (k : Int).toNat vnull).t == (b.getD (k : Int).toNat vnull).t))) = false := by
        rw [et, eqV_iff.2 hv]; rfl
      iterate 14 (all_goals (try conv => whnf); all_goals (try first | with_reducible refine brY (by assumption) ?_ | with_reducible refine brN (by assumption) ?_ | (with_reducible refine brT ?_ ?_; · (simp only [Bool.and_eq_true, Bool.not_eq_true', decide_eq_true_eq, decide_eq_false_iff_not, beq_iff_eq, beq_eq_false_iff_ne, ne_eq] at *; omega)) | with_reducible refine br (fun _ => ?_) (fun _ => ?_) | with_reducible refine ⟨rfl, ?_⟩ | with_reducible refine ARound.succ ?_))
      refine ⟨⟨k + 1, hkl, by rw [takeV hkl, takeV (by omega), he, hv]⟩, by dsimp only; omega, by rw [e7], rfl⟩
    · have hc : (!((a.getD (k : Int).toNat vnull).k == (b.getD (k : Int).toNat vnull).k && ((a.getD (k : Int).toNat vnull).n == (b.getD (k : Int).toNat vnull).n && (a.getD (k : Int).toNat vnull).t == (b.getD (k : Int).toNat vnull).t))) = true := by
        rw [et, Bool.eq_false_iff.2 fun h => hv (eqV_iff.1 h)]; rfl
      iterate 14 (all_goals (try conv => whnf); all_goals (try first | with_reducible refine brY (by assumption) ?_ | with_reducible refine brN (by assumption) ?_ | (with_reducible refine brT ?_ ?_; · (simp only [Bool.and_eq_true, Bool.not_eq_true', decide_eq_true_eq, decide_eq_false_iff_not, beq_iff_eq, beq_eq_false_iff_ne, ne_eq] at *; omega)) | with_reducible refine br (fun _ => ?_) (fun _ => ?_) | with_reducible refine ⟨rfl, ?_⟩ | with_reducible refine ARound.succ ?_))
      exact leaf (by rw [sameL_no fun h => hv (by rw [h])]) (.bool _)
  · have hd : decide ((k : Int) < (a.length : Int)) = false := decide_eq_false (by omega)
    iterate 8 (all_goals (try conv => whnf); all_goals (try first | with_reducible refine brY (by assumption) ?_ | with_reducible refine brN (by assumption) ?_ | (with_reducible refine brT ?_ ?_; · (simp only [Bool.and_eq_true, Bool.not_eq_true', decide_eq_true_eq, decide_eq_false_iff_not, beq_iff_eq, beq_eq_false_iff_ne, ne_eq] at *; omega)) | with_reducible refine br (fun _ => ?_) (fun _ => ?_) | with_reducible refine ⟨rfl, ?_⟩ | with_reducible refine ARound.succ ?_))
    rw [List.take_of_length_le (by omega), List.take_of_length_le (by omega)] at he
    exact leaf (by rw [he, sameL_self]) (.bool _)
theorem sameValues_nil : PCall Tryz.prog 35 [.nils, lstV []] (.bool true) := by
  refine pcall_of (lits2 .nils (.lst _ _ _)) (call35 rfl ?_)
  iterate 8 (all_goals (try conv => whnf); all_goals (try first | with_reducible refine brY (by assumption) ?_ | with_reducible refine brN (by assumption) ?_ | (with_reducible refine brT ?_ ?_; · (simp only [Bool.and_eq_true, Bool.not_eq_true', decide_eq_true_eq, decide_eq_false_iff_not, beq_iff_eq, beq_eq_false_iff_ne, ne_eq] at *; omega)) | with_reducible refine br (fun _ => ?_) (fun _ => ?_) | with_reducible refine ⟨rfl, ?_⟩ | with_reducible refine ARound.succ ?_ | with_reducible refine loop_rounds 2 ?_))
  exact leaf rfl (.bool _)
theorem sameValues_nils : PCall Tryz.prog 35 [.nils, .nils] (.bool true) := by
  refine pcall_of (lits2 .nils .nils) (call35 rfl ?_)
  iterate 8 (all_goals (try conv => whnf); all_goals (try first | with_reducible refine brY (by assumption) ?_ | with_reducible refine brN (by assumption) ?_ | (with_reducible refine brT ?_ ?_; · (simp only [Bool.and_eq_true, Bool.not_eq_true', decide_eq_true_eq, decide_eq_false_iff_not, beq_iff_eq, beq_eq_false_iff_ne, ne_eq] at *; omega)) | with_reducible refine br (fun _ => ?_) (fun _ => ?_) | with_reducible refine ⟨rfl, ?_⟩ | with_reducible refine ARound.succ ?_ | with_reducible refine loop_rounds 2 ?_))
  exact leaf rfl (.bool _)
@[reducible] def v99 : V := ⟨2, 99, []⟩
def lentL (a : List V) : List V := a ++ [v99] ++ [v99] ++ [v99]
theorem lentL_len (a : List V) : (lentL a).length = a.length + 3 := by simp [lentL]
theorem elems_vs {h : Heap} {s : List V} : Elems h 3 (lstV s) (s.map V.sv) := fun k hk => by
  refine elems_lst k ?_
  have e : (List.range s.length).map (fun i => (s.getD i vnull).sv) = s.map V.sv := by
    apply List.ext_getElem
    · simp
    · intro i h1 h2
      simp only [List.length_map] at h2
      simp [h2]
  rw [e]; exact hk
theorem allOnes_vs : ∀ s : List V, allOnes (s.map V.sv) = true
  | [] => rfl
  | b :: r => by
    show (allOne (V.sv b).cells && allOnes (r.map V.sv)) = true
    rw [allOnes_vs r]; rfl
theorem app_lent {a : List V} {sk : Sk} {k : SV → Heap → Prop} (h0 : 0 < a.length) (ha : a.length ≤ 100000)
    (hk : k (.sl 1 0 3 0 a.length none) ⟨2, [(1, .vec 0 3 (a.map V.sv) ⟨true, some 29⟩), (0, .vec 0 3 [] sk)]⟩) :
    appendK 29 3 32 ⟨1, [(0, .vec 0 3 [] sk)]⟩ (.sl 0 0 3 0 0 (some 0)) (lstV a) k := by
  refine append_cap elems_vs (by simpa using h0) (allOnes_vs a) rfl (by simp) (by simp; omega) (by simp; omega) (by simp; omega) ?_
  rw [List.length_map, Nat.zero_add]
  exact hk
theorem app_valL {m i g : Nat} {vs : List V} {v : V} {sk : Sk} {l : List (Nat × AObj)} {k : SV → Heap → Prop} (ho : objL l i = some (.vec g 3 (vs.map V.sv) ⟨true, some 29⟩)) (him : i < m) (hlen : vs.length ≤ 100000)
    (hk : k (.sl i (g + 1) 3 0 (vs ++ [v]).length none) ⟨m + 1, (m, .vec 0 3 [v.sv] sk) :: putO l i (.vec (g + 1) 3 ((vs ++ [v]).map V.sv) ⟨true, some 29⟩)⟩) :
    appendK 29 3 32 ⟨m + 1, (m, .vec 0 3 [v.sv] sk) :: l⟩ (.sl i g 3 0 vs.length none) (.sl m 0 3 0 1 (some 1)) k := by
  refine app_val ho him hlen ?_
  rw [List.length_append] at hk
  exact hk
theorem lent_any {a : List V} (ha : a.length ≤ 1000) : PCall Tryz.prog 5 [lstV a] (lstV (lentL a)) := by
  refine pcall_of (lits1 (.lst _ _ _)) (call5 rfl ?_)
  by_cases h0 : a = []
  · subst h0
    iterate 50 (all_goals (try conv => whnf); all_goals (try first | with_reducible refine brY (by assumption) ?_ | with_reducible refine brN (by assumption) ?_ | (with_reducible refine brT ?_ ?_; · (simp only [Bool.and_eq_true, Bool.not_eq_true', decide_eq_true_eq, decide_eq_false_iff_not, beq_iff_eq, beq_eq_false_iff_ne, ne_eq] at *; omega)) | with_reducible refine br (fun _ => ?_) (fun _ => ?_) | with_reducible refine ⟨rfl, ?_⟩ | with_reducible refine ARound.full ?_ | (refine append_noneS (fun k hk => hk) rfl ?_) | (refine append_cap (xs := [V.sv v99]) (elems_all objL_hd rfl) (by decide) rfl rfl (by decide) (by decide) (by decide) (by decide) ?_) | (refine app_valL (i := 2) (vs := [v99]) (v := v99) rfl (by decide) (by decide) ?_) | (refine app_valL (i := 2) (vs := [v99] ++ [v99]) (v := v99) rfl (by decide) (by decide) ?_) | with_reducible refine loop_rounds 6 ?_))
    refine ⟨_, rfl, ?_⟩
    exact hard_vs (i := 2) (g := 2) (sk := ⟨true, some 29⟩) rfl rfl
  · have hpos : 0 < a.length := by cases a with | nil => exact absurd rfl h0 | cons c r => simp
    iterate 50 (all_goals (try conv => whnf); all_goals (try first | with_reducible refine brY (by assumption) ?_ | with_reducible refine brN (by assumption) ?_ | (with_reducible refine brT ?_ ?_; · (simp only [Bool.and_eq_true, Bool.not_eq_true', decide_eq_true_eq, decide_eq_false_iff_not, beq_iff_eq, beq_eq_false_iff_ne, ne_eq] at *; omega)) | with_reducible refine br (fun _ => ?_) (fun _ => ?_) | with_reducible refine ⟨rfl, ?_⟩ | with_reducible refine ARound.full ?_ | (refine app_lent hpos (by omega) ?_) | (refine app_valL (i := 1) (vs := a) (v := v99) rfl (by decide) (by omega) ?_) | (refine app_valL (i := 1) (vs := a ++ [v99]) (v := v99) rfl (by decide) (by simp; omega) ?_) | (refine app_valL (i := 1) (vs := a ++ [v99] ++ [v99]) (v := v99) rfl (by decide) (by simp; omega) ?_) | with_reducible refine loop_rounds 6 ?_))
    refine ⟨_, rfl, ?_⟩
    exact hard_vs (i := 1) (g := 3) (sk := ⟨true, some 29⟩) rfl rfl
theorem kept_any {a : List V} (ha : a.length ≤ 1000) : PCall Tryz.prog 12 [lstV (lentL a), lstV a] (.bool true) := by
  refine pcall_of (lits2 (.lst _ _ _) (.lst _ _ _)) (call12 rfl ?_)
  have cl := lent_any ha
  have cs := sameValues_any (a := lentL a) (b := lentL a) (by rw [lentL_len]; omega)
  rw [sameL_self] at cs
  iterate 6 (all_goals (try conv => whnf); all_goals (try first | with_reducible refine brY (by assumption) ?_ | with_reducible refine brN (by assumption) ?_ | (with_reducible refine brT ?_ ?_; · (simp only [Bool.and_eq_true, Bool.not_eq_true', decide_eq_true_eq, decide_eq_false_iff_not, beq_iff_eq, beq_eq_false_iff_ne, ne_eq] at *; omega)) | with_reducible refine br (fun _ => ?_) (fun _ => ?_) | with_reducible refine ⟨rfl, ?_⟩ | with_reducible refine ARound.succ ?_ | with_reducible refine PCall.call (cl) ?_ | with_reducible refine PCall.call (cs) ?_))
  exact leaf rfl (.bool _)
theorem offL_no : ∀ l : List (Nat × AObj), offL (fun _ => false) l = l
  | [] => rfl
  | (i, o) :: r => by show (i, o) :: offL (fun _ => false) r = _; rw [offL_no r]
@[reducible] def headV (a : List V) : SV := .lst 3 ((a.length : Int).toNat - Int.toNat 0) fun i => (fun i => ((lentL a).getD i vnull).sv) (Int.toNat 0 + i)
theorem hard_head {A : Heap} {a : List V} : Hard A (headV a) (lstV a) := by
  have e : (a.length : Int).toNat - Int.toNat 0 = a.length := by rw [Int.toNat_natCast]; rfl
  unfold headV
  rw [e]
  refine .same fun j hj => ?_
  show ((lentL a).getD (0 + j) vnull).sv = (a.getD j vnull).sv
  rw [Nat.zero_add]
  have : (lentL a).getD j vnull = a.getD j vnull := by
    unfold lentL
    simp [List.getD, List.getElem?_append_left, hj]
  rw [this]
theorem head1 {f : FuncId} {a : List V} {v : SV} {n : Nat} {l : List (Nat × AObj)} {R : AEnd → Heap → Prop} (hp : PCall Tryz.prog f [lstV a] v) (hR : R (.ret v) ⟨n, l⟩) : ACall Tryz.prog f [headV a] ⟨n, l⟩ R := by
  refine ACall.freeze (fun _ => false) (.cons hard_head .nil) ?_
  rw [offK_eq, offL_no]
  exact PCall.call hp hR
theorem head2 {f : FuncId} {a b : List V} {v : SV} {n : Nat} {l : List (Nat × AObj)} {R : AEnd → Heap → Prop} (hp : PCall Tryz.prog f [lstV a, lstV b] v) (hR : R (.ret v) ⟨n, l⟩) : ACall Tryz.prog f [headV a, headV b] ⟨n, l⟩ R := by
  refine ACall.freeze (fun _ => false) (.cons hard_head (.cons hard_head .nil)) ?_
  rw [offK_eq, offL_no]
  exact PCall.call hp hR
end Go.Proofs.YtojponagjbobaaaGreatDoor
namespace Go.Proofs.YtojponagjbobaaaGreatDoor
open Ab Go.RowKit
set_option maxRecDepth 100000
set_option linter.unusedVariables false
set_option linter.unusedSimpArgs false
set_option maxHeartbeats 4000000
set_option pp.maxSteps 3000

section
variable {x y : V} (kx : 0 ≤ x.k) (ky : 0 ≤ y.k) (hx : -9223372036854775808 ≤ x.n) (hx' : x.n ≤ 9223372036854775807) (hy : -9223372036854775808 ≤ y.n) (hy' : y.n ≤ 9223372036854775807)
include kx ky hx hx' hy hy'
theorem refDo2 {op : Int} (h : takes op = 2) : PCall Tryz.prog 7 [.int .u8 op, twoV x y] (V.two (doV op [x, y])) := by
  refine pcall_of (lits2 (.int _ _) (.lst _ _ _)) (call7 rfl ?_)
  rcases takes2 h with rfl | rfl | rfl | rfl | rfl | rfl | rfl | rfl | rfl | rfl | rfl | rfl | rfl | rfl
  all_goals iterate 40 (all_goals (try conv => whnf); all_goals (try first | with_reducible refine brY (by assumption) ?_ | with_reducible refine brN (by assumption) ?_ | (with_reducible refine brT ?_ ?_; · (simp only [Bool.and_eq_true, Bool.not_eq_true', decide_eq_true_eq, decide_eq_false_iff_not, beq_iff_eq, beq_eq_false_iff_ne, ne_eq] at *; omega)) | with_reducible refine br (fun _ => ?_) (fun _ => ?_) | with_reducible refine ⟨rfl, ?_⟩ | with_reducible refine ARound.full ?_ | with_reducible refine PCall.call (refTakes_any _) ?_ | with_reducible refine PCall.call (refCheck_any _) ?_ | with_reducible refine PCall.call (refCheck_any x) ?_ | with_reducible refine PCall.call (refCheck_any y) ?_ | (refine PCall.call (refGives2 _ _ _ (by first | exact kx | (simp only [gd0, gd1]; exact kx)) (by first | exact ky | (simp only [gd0, gd1]; exact ky)) rfl) ?_) | with_reducible refine PCall.call (refTruth_any _) ?_ | with_reducible refine PCall.call (refTrue_any x) ?_ | with_reducible refine PCall.call (refTrue_any y) ?_ | with_reducible refine PCall.call (refNumber_any _) ?_ | with_reducible refine PCall.call (logic_any _ x y) ?_ | (refine PCall.call (logic_any _ x y) ?_) | (refine PCall.call (counted3 hx hx' hy hy') ?_) | (refine PCall.call (counted4 hx hx' hy hy') ?_) | (refine PCall.call (counted5 hx hx' hy hy') ?_) | (refine PCall.call (counted6 hx hx' hy hy') ?_) | (refine PCall.call (counted7 hy hy') ?_) | (with_reducible refine ACall.frz (fun i => Nat.beq i 2) (.cons (.lit (.int _ _)) (.cons (hardK2 rfl) .nil)) ?_) | with_reducible refine PCall.call (refCompare_any (xs := [x]) (ys := [y]) (by simp)) ?_ | (refine ACall.frz (fun i => false) (.cons hardFst (.cons hardSnd .nil)) ?_) | with_reducible refine PCall.call (compared_any _ _) ?_ | with_reducible refine loop_rounds 5 ?_))
  all_goals simp only [gd0, gd1, gd2] at *
  all_goals try (have h1 := chk_len (x := x) (by assumption); have h2 := chk_len (x := y) (by assumption))
  all_goals first | refine leaf ?_ (V.two_lit _) | (exfalso; have h3 : ¬ (x.t.length + y.t.length ≤ 9223372036854775807) := of_decide_eq_false (by assumption); omega)
  all_goals first
    | (rw [doV_logic (x := x) (y := y) (.inl rfl) (by assumption) (by assumption) (by assumption)]; try rfl; done)
    | (rw [doV_logic (x := x) (y := y) (.inr rfl) (by assumption) (by assumption) (by assumption)]; try rfl; done)
    | skip
  all_goals simp_all [doV, takes, chk, doOn, V.two, V.sv, vnull, vbool, vint, cond_false, cond_true]
  all_goals first
    | (have h3 := of_decide_eq_true (by assumption : decide (64 < IntKind.i64.wrap _) = true); rw [IntKind.wrap_i64] at h3; rw [if_pos (by omega)]; exact ⟨⟨rfl, rfl, rfl⟩, rfl⟩)
    | (have h3 := of_decide_eq_false (by assumption : decide (64 < IntKind.i64.wrap _) = false); rw [IntKind.wrap_i64] at h3; rw [if_neg (by omega)]; exact ⟨⟨rfl, rfl, rfl⟩, rfl⟩)
    | (simp_all [numV, vint, vnull]; done)
    | trace_state
end
end Go.Proofs.YtojponagjbobaaaGreatDoor
namespace Go.Proofs.YtojponagjbobaaaGreatDoor
open Ab Go.RowKit
set_option maxRecDepth 100000
set_option linter.unusedVariables false
set_option linter.unusedSimpArgs false
set_option maxHeartbeats 4000000
set_option pp.maxSteps 3000

section
variable {x : V} (hx : -9223372036854775808 ≤ x.n) (hx' : x.n ≤ 9223372036854775807)
include hx hx'
theorem refDo1 {op : Int} (h : takes op = 1) : PCall Tryz.prog 7 [.int .u8 op, oneV x] (V.two (doV op [x])) := by
  refine pcall_of (lits2 (.int _ _) (.lst _ _ _)) (call7 rfl ?_)
  rcases takes1 h with rfl | rfl | rfl | rfl
  all_goals iterate 40 (all_goals (try conv => whnf); all_goals (try first | with_reducible refine brY (by assumption) ?_ | with_reducible refine brN (by assumption) ?_ | (with_reducible refine brT ?_ ?_; · (simp only [Bool.and_eq_true, Bool.not_eq_true', decide_eq_true_eq, decide_eq_false_iff_not, beq_iff_eq, beq_eq_false_iff_ne, ne_eq] at *; omega)) | with_reducible refine br (fun _ => ?_) (fun _ => ?_) | with_reducible refine ⟨rfl, ?_⟩ | with_reducible refine ARound.full ?_ | with_reducible refine PCall.call (refTakes_any _) ?_ | with_reducible refine PCall.call (refCheck_any _) ?_ | with_reducible refine PCall.call (refCheck_any x) ?_ | with_reducible refine PCall.call (refGives1 _ _ rfl) ?_ | with_reducible refine PCall.call (refTruth_any _) ?_ | with_reducible refine PCall.call (refTrue_any x) ?_ | with_reducible refine PCall.call (refNumber_any _) ?_ | (refine PCall.call (counted4 (by omega) (by omega) hx hx') ?_) | (with_reducible refine ACall.frz (fun i => Nat.beq i 2) (.cons (.lit (.int _ _)) (.cons (hardK1 rfl) .nil)) ?_) | with_reducible refine loop_rounds 5 ?_))
  all_goals simp only [ge0] at *
  all_goals refine leaf ?_ (V.two_lit _)
  all_goals first
    | (rw [doV_not (x := x) (by assumption) (by assumption) (by assumption)]; try rfl; done)
    | skip
  all_goals simp_all [doV, takes, chk, doOn, V.two, V.sv, vnull, vbool, vint, cond_false, cond_true]
  all_goals first
    | (simp_all [numV, numI, vint, vnull]; done)
    | trace_state
end
theorem refDo_bad (op : Int) (l : List V) (h : takes op = 0 ∨ (l.length : Int) ≠ takes op) : PCall Tryz.prog 7 [.int .u8 op, lstV l] (V.two (doV op l)) := by
  refine pcall_of (lits2 (.int _ _) (.lst _ _ _)) (call7 rfl ?_)
  have e : doV op l = (vnull, 2) := by unfold doV; rw [if_pos h]
  rw [e]
  iterate 10 (all_goals (try conv => whnf); all_goals (try first | with_reducible refine brY (by assumption) ?_ | with_reducible refine brN (by assumption) ?_ | (with_reducible refine brT ?_ ?_; · (simp only [Bool.and_eq_true, Bool.not_eq_true', decide_eq_true_eq, decide_eq_false_iff_not, beq_iff_eq, beq_eq_false_iff_ne, ne_eq] at *; omega)) | with_reducible refine br (fun _ => ?_) (fun _ => ?_) | with_reducible refine ⟨rfl, ?_⟩ | with_reducible refine ARound.succ ?_ | with_reducible refine PCall.call (refTakes_any _) ?_))
  · exact leaf rfl (V.two_lit _)
  · exact leaf rfl (V.two_lit _)
  all_goals exfalso
  all_goals simp only [beq_iff_eq, beq_eq_false_iff_ne, cond_false, bne_eq_false_iff_eq, ne_eq] at *
  all_goals omega
end Go.Proofs.YtojponagjbobaaaGreatDoor
namespace Ab
open Go
/-- Arguments told in other words. -/
theorem ACall.conv {P : Program} {f : FuncId} {args args' : List SV} {h : Heap} {R : AEnd → Heap → Prop} (hl : args.length = args'.length)
    (hc : ∀ (i : Nat) (u u' : SV), args[i]? = some u → args'[i]? = some u' → ∀ (c : Cx) (w : World) (x : Value), VR c h w u x → VR c h w u' x) (hp : ACall P f args' h R) : ACall P f args h R := by
  refine ⟨fun c w xs hr hs hv => hp.calls c w xs hr (hs.trans hl) fun i u' x hi hx => ?_⟩
  have hlt : i < args.length := by
    rw [hl]
    rcases Nat.lt_or_ge i args'.length with h | h
    · exact h
    · rw [List.getElem?_eq_none h] at hi; cases hi
  exact hc i _ u' (List.getElem?_eq_getElem hlt) hi c w x (hv i _ x (List.getElem?_eq_getElem hlt) hx)
/-- A second argument that is nil is an empty list. -/
theorem ACall.nil2 {P : Program} {f : FuncId} {a : SV} {sz : Nat} {get : Nat → SV} {h : Heap} {R : AEnd → Heap → Prop} (hp : ACall P f [a, .lst sz 0 get] h R) : ACall P f [a, .nils] h R := by
  refine ACall.conv (args' := [a, .lst sz 0 get]) rfl (fun i u u' h1 h2 c w x hv => ?_) hp
  rcases i with _ | _ | i
  · cases h1; cases h2; exact hv
  · cases h1; cases h2; rw [hv.nils_inv]; exact .pure (.lst0 _ _ _ _)
  · simp at h1

end Ab
namespace Go.Proofs.YtojponagjbobaaaGreatDoor
open Ab Go.RowKit
set_option maxRecDepth 100000
set_option linter.unusedVariables false
set_option linter.unusedSimpArgs false
set_option maxHeartbeats 4000000
theorem numberL_any (n : Int) : PCall Tryz.prog 18 [.int .i64 n] (vint n).sv := by
  refine pcall_of (lits1 (.int _ _)) (call18 rfl ?_)
  iterate 2 (all_goals (try conv => whnf); all_goals (try first | with_reducible refine brY (by assumption) ?_ | with_reducible refine brN (by assumption) ?_ | (with_reducible refine brT ?_ ?_; · (simp only [Bool.and_eq_true, Bool.not_eq_true', decide_eq_true_eq, decide_eq_false_iff_not, beq_iff_eq, beq_eq_false_iff_ne, ne_eq] at *; omega)) | with_reducible refine br (fun _ => ?_) (fun _ => ?_) | with_reducible refine ⟨rfl, ?_⟩ | with_reducible refine ARound.succ ?_))
  exact leaf rfl (V.lit _)
theorem truthL_any (b : Bool) : PCall Tryz.prog 19 [.bool b] (vbool b).sv := by
  refine pcall_of (lits1 (.bool _)) (call19 rfl ?_)
  cases b
  · iterate 2 (all_goals (try conv => whnf); all_goals (try first | with_reducible refine brY (by assumption) ?_ | with_reducible refine brN (by assumption) ?_ | (with_reducible refine brT ?_ ?_; · (simp only [Bool.and_eq_true, Bool.not_eq_true', decide_eq_true_eq, decide_eq_false_iff_not, beq_iff_eq, beq_eq_false_iff_ne, ne_eq] at *; omega)) | with_reducible refine br (fun _ => ?_) (fun _ => ?_) | with_reducible refine ⟨rfl, ?_⟩ | with_reducible refine ARound.succ ?_))
    exact leaf rfl (V.lit _)
  · iterate 2 (all_goals (try conv => whnf); all_goals (try first | with_reducible refine brY (by assumption) ?_ | with_reducible refine brN (by assumption) ?_ | (with_reducible refine brT ?_ ?_; · (simp only [Bool.and_eq_true, Bool.not_eq_true', decide_eq_true_eq, decide_eq_false_iff_not, beq_iff_eq, beq_eq_false_iff_ne, ne_eq] at *; omega)) | with_reducible refine br (fun _ => ?_) (fun _ => ?_) | with_reducible refine ⟨rfl, ?_⟩ | with_reducible refine ARound.succ ?_))
    exact leaf rfl (V.lit _)
def isV (op : Int) (a b w : V) : Bool := (doV op [a, b]).2 == 0 && eqV (doV op [a, b]).1 w
def failsV (op : Int) (a b : V) (e : Int) : Bool := (doV op [a, b]).2 == e && eqV (doV op [a, b]).1 vnull
theorem is_any {op : Int} (h : takes op = 2) {a b : V} (ha : a.In) (hb : b.In) (w : V) : PCall Tryz.prog 17 [.int .u8 op, a.sv, b.sv, w.sv] (.bool (isV op a b w)) := by
  refine pcall_of (lits4 (.int _ _) (V.lit _) (V.lit _) (V.lit _)) (call17 rfl ?_)
  iterate 12 (all_goals (try conv => whnf); all_goals (try first | with_reducible refine brY (by assumption) ?_ | with_reducible refine brN (by assumption) ?_ | (with_reducible refine brT ?_ ?_; · (simp only [Bool.and_eq_true, Bool.not_eq_true', decide_eq_true_eq, decide_eq_false_iff_not, beq_iff_eq, beq_eq_false_iff_ne, ne_eq] at *; omega)) | with_reducible refine br (fun _ => ?_) (fun _ => ?_) | with_reducible refine ⟨rfl, ?_⟩ | with_reducible refine ARound.succ ?_ | with_reducible refine PCall.call (do2 ha.lo ha.hi hb.lo hb.hi h) ?_ | (refine ACall.frz (fun i => Nat.beq i 3) (.cons (.lit (.int _ _)) (.cons (hardV2 (x := a) (y := b) rfl) .nil)) ?_)))
  all_goals refine leaf ?_ (.bool _)
  all_goals simp_all [isV, eqV, eq3]
theorem fails_any {op : Int} (h : takes op = 2) {a b : V} (ha : a.In) (hb : b.In) (e : Int) : PCall Tryz.prog 20 [.int .u8 op, a.sv, b.sv, .int .i64 e] (.bool (failsV op a b e)) := by
  refine pcall_of (lits4 (.int _ _) (V.lit _) (V.lit _) (.int _ _)) (call20 rfl ?_)
  iterate 12 (all_goals (try conv => whnf); all_goals (try first | with_reducible refine brY (by assumption) ?_ | with_reducible refine brN (by assumption) ?_ | (with_reducible refine brT ?_ ?_; · (simp only [Bool.and_eq_true, Bool.not_eq_true', decide_eq_true_eq, decide_eq_false_iff_not, beq_iff_eq, beq_eq_false_iff_ne, ne_eq] at *; omega)) | with_reducible refine br (fun _ => ?_) (fun _ => ?_) | with_reducible refine ⟨rfl, ?_⟩ | with_reducible refine ARound.succ ?_ | with_reducible refine PCall.call (do2 ha.lo ha.hi hb.lo hb.hi h) ?_ | (refine ACall.frz (fun i => Nat.beq i 2) (.cons (.lit (.int _ _)) (.cons (hardV2 (x := a) (y := b) rfl) .nil)) ?_)))
  all_goals refine leaf ?_ (.bool _)
  all_goals simp_all [failsV, eqV, vnull, eq3]
theorem vint_in {n : Int} (h : -9223372036854775808 ≤ n) (h' : n ≤ 9223372036854775807) : (vint n).In := ⟨by show (0:Int) ≤ 2; decide, h, h'⟩
theorem vbool_in (b : Bool) : (vbool b).In := ⟨by cases b <;> decide, by cases b <;> decide, by cases b <;> decide⟩
theorem vnull_in : vnull.In := ⟨by decide, by decide, by decide⟩
theorem lives_any : PCall Tryz.prog 4 [] (.bool true) := by
  refine pcall_of (fun _ h => by simp at h) (call4 rfl ?_)
  iterate 16 (all_goals (try conv => whnf); all_goals (try first | with_reducible refine brY (by assumption) ?_ | with_reducible refine brN (by assumption) ?_ | (with_reducible refine brT ?_ ?_; · (simp only [Bool.and_eq_true, Bool.not_eq_true', decide_eq_true_eq, decide_eq_false_iff_not, beq_iff_eq, beq_eq_false_iff_ne, ne_eq] at *; omega)) | with_reducible refine br (fun _ => ?_) (fun _ => ?_) | with_reducible refine ⟨rfl, ?_⟩ | with_reducible refine ARound.succ ?_ | with_reducible refine PCall.call (numberL_any _) ?_ | with_reducible refine PCall.call (truthL_any _) ?_ | with_reducible refine PCall.call (is_any (op := 6) rfl (vint_in (by omega) (by omega)) (vint_in (by omega) (by omega)) _) ?_ | (refine PCall.call (is_any (op := 15) rfl vnull_in (vbool_in false) (vbool false)) ?_) | with_reducible refine PCall.call (fails_any (op := 6) rfl (vint_in (by omega) (by omega)) (vint_in (by omega) (by omega)) _) ?_))
  exact leaf (by rfl) (.bool _)
theorem takes_le (op : Int) : takes op = 0 ∨ takes op = 1 ∨ takes op = 2 := by unfold takes; (repeat' split) <;> omega
theorem do_any (op : Int) (vs : List V) (h : ∀ v ∈ vs, v.In) : PCall Tryz.prog 6 [.int .u8 op, lstV vs] (V.two (doV op vs)) := by
  by_cases hb : takes op = 0 ∨ (vs.length : Int) ≠ takes op
  · exact do_bad op vs hb
  · rcases takes_le op with h0 | h0 | h0
    · omega
    · match vs, h, hb with
      | [x], h, hb => exact do1 (h x (by simp)).lo (h x (by simp)).hi h0
      | [], _, hb => simp at hb; omega
      | _ :: _ :: _, _, hb => simp at hb; omega
    · match vs, h, hb with
      | [x, y], h, hb => exact do2 (h x (by simp)).lo (h x (by simp)).hi (h y (by simp)).lo (h y (by simp)).hi h0
      | [], _, hb => simp at hb; omega
      | [_], _, hb => simp at hb; omega
      | _ :: _ :: _ :: _, _, hb => simp at hb; omega
theorem gives_any (op : Int) (ks : List Int) : PCall Tryz.prog 8 [.int .u8 op, lstK ks] (K2 (givesI op ks)) := by
  by_cases hb : takes op = 0 ∨ (ks.length : Int) ≠ takes op
  · exact gives_bad op ks hb
  · rcases takes_le op with h0 | h0 | h0
    · omega
    · match ks, hb with
      | [x], hb => exact gives1 op x h0
      | [], hb => simp at hb; omega
      | _ :: _ :: _, hb => simp at hb; omega
    · match ks, hb with
      | [x, y], hb => exact gives2 op x y h0
      | [], hb => simp at hb; omega
      | [_], hb => simp at hb; omega
      | _ :: _ :: _ :: _, hb => simp at hb; omega

theorem refDo_any (op : Int) (vs : List V) (h : ∀ v ∈ vs, v.In) : PCall Tryz.prog 7 [.int .u8 op, lstV vs] (V.two (doV op vs)) := by
  by_cases hb : takes op = 0 ∨ (vs.length : Int) ≠ takes op
  · exact refDo_bad op vs hb
  · rcases takes_le op with h0 | h0 | h0
    · omega
    · match vs, h, hb with
      | [x], h, hb => exact refDo1 (h x (by simp)).lo (h x (by simp)).hi h0
      | [], _, hb => simp at hb; omega
      | _ :: _ :: _, _, hb => simp at hb; omega
    · match vs, h, hb with
      | [x, y], h, hb => exact refDo2 (h x (by simp)).k0 (h y (by simp)).k0 (h x (by simp)).lo (h x (by simp)).hi (h y (by simp)).lo (h y (by simp)).hi h0
      | [], _, hb => simp at hb; omega
      | [_], _, hb => simp at hb; omega
      | _ :: _ :: _ :: _, _, hb => simp at hb; omega
theorem refGives_any (op : Int) (ks : List Int) (hk : ∀ k ∈ ks, 0 ≤ k) : PCall Tryz.prog 9 [.int .u8 op, lstK ks] (K2 (givesI op ks)) := by
  by_cases hb : takes op = 0 ∨ (ks.length : Int) ≠ takes op
  · exact refGives_bad op ks hb
  · rcases takes_le op with h0 | h0 | h0
    · omega
    · match ks, hk, hb with
      | [x], hk, hb => exact refGives1 op x h0
      | [], _, hb => simp at hb; omega
      | _ :: _ :: _, _, hb => simp at hb; omega
    · match ks, hk, hb with
      | [x, y], hk, hb => exact refGives2 op x y (hk x (by simp)) (hk y (by simp)) h0
      | [], _, hb => simp at hb; omega
      | [_], _, hb => simp at hb; omega
      | _ :: _ :: _ :: _, _, hb => simp at hb; omega

end Go.Proofs.YtojponagjbobaaaGreatDoor
namespace Go.Proofs.YtojponagjbobaaaGreatDoor
open Ab Go.RowKit
set_option maxRecDepth 100000
set_option linter.unusedVariables false
set_option linter.unusedSimpArgs false
set_option maxHeartbeats 4000000
set_option pp.maxSteps 3000
theorem head1o {f : FuncId} {a : List V} {o v : SV} (ho : LitV o) {n : Nat} {l : List (Nat × AObj)} {R : AEnd → Heap → Prop} (hp : PCall Tryz.prog f [o, lstV a] v) (hR : R (.ret v) ⟨n, l⟩) : ACall Tryz.prog f [o, headV a] ⟨n, l⟩ R := by
  refine ACall.freeze (fun _ => false) (.cons (.lit ho) (.cons hard_head .nil)) ?_
  rw [offK_eq, offL_no]
  exact PCall.call hp hR
theorem valueCalls_any {op : Int} {l : List V} {ks : List Int} (il : ∀ v ∈ l, v.In) (ik : ∀ k ∈ ks, 0 ≤ k) : PCall Tryz.prog 3 [.int .u8 op, lstV l, lstK ks] (.bool true) := by
  refine pcall_of (lits3 (.int _ _) (.lst _ _ _) (.lst _ _ _)) (call3 rfl ?_)
  by_cases h5 : 5 < l.length
  · have q1 : decide ((5 : Int) < (l.length : Int)) = true := decide_eq_true (by omega)
    iterate 10 (all_goals (try conv => whnf); all_goals (try first | with_reducible refine brY (by assumption) ?_ | with_reducible refine brN (by assumption) ?_ | (with_reducible refine brT ?_ ?_; · (simp only [Bool.and_eq_true, Bool.not_eq_true', decide_eq_true_eq, decide_eq_false_iff_not, beq_iff_eq, beq_eq_false_iff_ne, ne_eq] at *; omega)) | with_reducible refine br (fun _ => ?_) (fun _ => ?_) | with_reducible refine ⟨rfl, ?_⟩ | with_reducible refine ARound.succ ?_ | with_reducible refine PCall.call (lives_any) ?_))
    exact leaf rfl (.bool _)
  have q1 : decide ((5 : Int) < (l.length : Int)) = false := decide_eq_false (by omega)
  by_cases k5 : 5 < ks.length
  · have q2 : decide ((5 : Int) < (ks.length : Int)) = true := decide_eq_true (by omega)
    iterate 10 (all_goals (try conv => whnf); all_goals (try first | with_reducible refine brY (by assumption) ?_ | with_reducible refine brN (by assumption) ?_ | (with_reducible refine brT ?_ ?_; · (simp only [Bool.and_eq_true, Bool.not_eq_true', decide_eq_true_eq, decide_eq_false_iff_not, beq_iff_eq, beq_eq_false_iff_ne, ne_eq] at *; omega)) | with_reducible refine br (fun _ => ?_) (fun _ => ?_) | with_reducible refine ⟨rfl, ?_⟩ | with_reducible refine ARound.succ ?_ | with_reducible refine PCall.call (lives_any) ?_))
    exact leaf rfl (.bool _)
  have q2 : decide ((5 : Int) < (ks.length : Int)) = false := decide_eq_false (by omega)
  have cl := lent_any (a := l) (by omega)
  have ck := kept_any (a := l) (by omega)
  have e1 : (!(fun q => (doV op l).1.k == (doV op l).1.k && q) ((fun q => (doV op l).1.n == (doV op l).1.n && q) ((doV op l).1.t == (doV op l).1.t))) = false := by simp
  have e2 : ((doV op l).2 != (doV op l).2) = false := by simp
  have e3 : ((givesI op ks).1 != (givesI op ks).1) = false := by simp
  have e4 : ((givesI op ks).2 != (givesI op ks).2) = false := by simp
  have e5 : (takes op != takes op) = false := by simp
  have e6 : (decide ((0 : Int) ≤ 0) && decide ((0 : Int) ≤ (l.length : Int)) && decide ((l.length : Int) ≤ ((lentL l).length : Int))) = true := by
    rw [lentL_len]; simp only [Bool.and_eq_true, decide_eq_true_eq]; omega
  iterate 30 (all_goals (try conv => whnf); all_goals (try first | with_reducible refine brY (by assumption) ?_ | with_reducible refine brN (by assumption) ?_ | (with_reducible refine brT ?_ ?_; · (simp only [Bool.and_eq_true, Bool.not_eq_true', decide_eq_true_eq, decide_eq_false_iff_not, beq_iff_eq, beq_eq_false_iff_ne, ne_eq] at *; omega)) | with_reducible refine br (fun _ => ?_) (fun _ => ?_) | with_reducible refine ⟨rfl, ?_⟩ | with_reducible refine ARound.succ ?_ | with_reducible refine PCall.call (lives_any) ?_ | with_reducible refine PCall.call (cl) ?_ | with_reducible refine PCall.call (ck) ?_ | (refine head1o (.int _ _) (do_any op l il) ?_) | with_reducible refine PCall.call (refDo_any op l il) ?_ | with_reducible refine PCall.call (gives_any op ks) ?_ | with_reducible refine PCall.call (refGives_any op ks ik) ?_ | with_reducible refine PCall.call (takes_any op) ?_ | with_reducible refine PCall.call (refTakes_any op) ?_))
  refine loop_ind (σ := {i : Nat // i ≤ l.length}) (fun s => [(0, SV.int IntKind.u8 op), (1, lstV l), (2, lstK ks), (6, SV.bool false), (22, SV.bool false), (30, SV.bool false), (7, lstV (lentL l)), (8, SV.ref 0 0 0 0), (9, SV.int IntKind.i64 (doV op l).snd),
      (10, SV.ref 1 0 0 0), (11, SV.int IntKind.i64 (doV op l).snd), (12, SV.int IntKind.u8 (givesI op ks).fst), (13, SV.int IntKind.i64 (givesI op ks).snd), (14, SV.int IntKind.u8 (givesI op ks).fst), (15, SV.int IntKind.i64 (givesI op ks).snd), (90, SV.bool false), (16, SV.int IntKind.i64 s.1)])
    (fun _ => ⟨2, [(1, .vec 0 3 [(doV op l).1.sv] ⟨false, some 29⟩), (0, .vec 0 3 [(doV op l).1.sv] ⟨false, some 29⟩)]⟩) (fun s => l.length - s.1) ?_ ⟨0, by omega⟩
  rintro ⟨i, hi⟩
  dsimp only
  by_cases hil : i < l.length
  · have hd : decide ((i : Int) < (l.length : Int)) = true := decide_eq_true (by omega)
    have e7 : IntKind.i64.wrap ((i : Int) + 1) = ((i + 1 : Nat) : Int) := w64add (by omega)
    have iv : (l.getD (i : Int).toNat vnull).In := by
      rw [Int.toNat_natCast]
      refine il _ ?_
      rw [show l.getD i vnull = l[i] by simp [List.getD, hil]]
      exact List.getElem_mem _
    generalize hvv : l.getD (i : Int).toNat vnull = vv at iv
    have hL := literal_any iv
    have hR := refLiteral_any iv
    have hT := true_any vv
    have hT' := refTrue_any vv
    rw [← hvv] at hL hR hT hT'
    have c1 : (!((litV (l.getD (i : Int).toNat vnull)).1 == (litV (l.getD (i : Int).toNat vnull)).1)) = false := by simp
    have c2 : ((litV (l.getD (i : Int).toNat vnull)).2 != (litV (l.getD (i : Int).toNat vnull)).2) = false := by simp
    have c3 : (!(isT (l.getD (i : Int).toNat vnull) == isT (l.getD (i : Int).toNat vnull))) = false := by simp
    iterate 24 (all_goals (try conv => whnf); all_goals (try first | with_reducible refine brY (by assumption) ?_ | with_reducible refine brN (by assumption) ?_ | (with_reducible refine brT ?_ ?_; · (simp only [Bool.and_eq_true, Bool.not_eq_true', decide_eq_true_eq, decide_eq_false_iff_not, beq_iff_eq, beq_eq_false_iff_ne, ne_eq] at *; omega)) | with_reducible refine br (fun _ => ?_) (fun _ => ?_) | with_reducible refine ⟨rfl, ?_⟩ | with_reducible refine ARound.succ ?_ | with_reducible refine PCall.call (hL) ?_ | with_reducible refine PCall.call (hR) ?_ | with_reducible refine PCall.call (hT) ?_ | with_reducible refine PCall.call (hT') ?_))
    refine ⟨⟨i + 1, hil⟩, by dsimp only; omega, by rw [e7], rfl⟩
  · have hd : decide ((i : Int) < (l.length : Int)) = false := decide_eq_false (by omega)
    iterate 8 (all_goals (try conv => whnf); all_goals (try first | with_reducible refine brY (by assumption) ?_ | with_reducible refine brN (by assumption) ?_ | (with_reducible refine brT ?_ ?_; · (simp only [Bool.and_eq_true, Bool.not_eq_true', decide_eq_true_eq, decide_eq_false_iff_not, beq_iff_eq, beq_eq_false_iff_ne, ne_eq] at *; omega)) | with_reducible refine br (fun _ => ?_) (fun _ => ?_) | with_reducible refine ⟨rfl, ?_⟩ | with_reducible refine ARound.succ ?_))
    exact leaf rfl (.bool _)
end Go.Proofs.YtojponagjbobaaaGreatDoor
