/- enc.Values: its contract. -/
import Derived.Test.YtcklfcagailoiaaDoorVl
import Derived.Test.YtcklfcagailoiaaDoorTv
namespace Go.Proofs.YtcklfcagailoiaaDoor
open Ab Go.RowKit
set_option maxRecDepth 100000
set_option linter.unusedVariables false
set_option linter.unusedSimpArgs false
set_option pp.maxSteps 3000
attribute [local irreducible] allLtK appendK
theorem agree_vs : ∀ (s : List V) (k : Nat) (get : Nat → SV), (∀ j, j < s.length → get (k + j) = (s.getD j vnull).sv) → agree (s.map V.sv) k get
  | [], _, _, _ => trivial
  | b :: r, k, get, h => by
    refine ⟨?_, V.lit _, agree_vs r (k + 1) get fun j hj => ?_⟩
    · have := h 0 (by simp)
      simpa using this.symm
    · have := h (j + 1) (by simp; omega)
      rw [show k + 1 + j = k + (j + 1) by omega, this]
      simp [List.getD]
theorem hard_vs {A : Heap} {i g : Nat} {cap : Option Nat} {s : List V} {n : Nat} {sk : Sk} (ho : A.obj i = some (.vec g 3 (s.map V.sv) sk)) (hn : n = s.length) : Hard A (.sl i g 3 0 n cap) (lstV s) := by
  subst hn
  have := hard_all (cap := cap) (get := fun i => (s.getD i vnull).sv) ho (agree_vs s 0 _ fun j _ => by rw [Nat.zero_add])
  rw [List.length_map] at this
  exact this
theorem lt_vs {n : Nat} {s : List V} : ∀ v ∈ s.map V.sv, SV.lt 8 n v = true := by
  intro v hv
  obtain ⟨b, _, rfl⟩ := List.mem_map.1 hv
  rfl
theorem hard_two {A : Heap} {a a' : SV} {n : Int} (h : Hard A a a') : Hard A (.tup [a, .int .i64 n]) (.tup [a', .int .i64 n]) :=
  .tup rfl fun i v v' h1 h2 => by
    rcases i with _ | _ | i
    · cases h1; cases h2; exact h
    · cases h1; cases h2; exact .lit (.int _ _)
    · simp at h1
theorem app_val1 {m : Nat} {v : V} {sk : Sk} {l : List (Nat × AObj)} {k : SV → Heap → Prop}
    (hk : k (.sl (m + 1) 0 3 0 1 none) ⟨m + 2, (m + 1, .vec 0 3 [v.sv] ⟨true, some 65⟩) :: (m, .vec 0 3 [v.sv] sk) :: l⟩) :
    appendK 65 3 32 ⟨m + 1, (m, .vec 0 3 [v.sv] sk) :: l⟩ .nils (.sl m 0 3 0 1 (some 1)) k :=
  append_new (elems_all objL_hd rfl) (by simp) rfl (by simp) (by simp) hk
theorem app_val {m i g : Nat} {vs : List V} {v : V} {sk : Sk} {l : List (Nat × AObj)} {k : SV → Heap → Prop} (ho : objL l i = some (.vec g 3 (vs.map V.sv) ⟨true, some 65⟩)) (him : i < m) (hlen : vs.length ≤ 100000)
    (hk : k (.sl i (g + 1) 3 0 (vs.length + 1) none) ⟨m + 1, (m, .vec 0 3 [v.sv] sk) :: putO l i (.vec (g + 1) 3 ((vs ++ [v]).map V.sv) ⟨true, some 65⟩)⟩) :
    appendK 65 3 32 ⟨m + 1, (m, .vec 0 3 [v.sv] sk) :: l⟩ (.sl i g 3 0 vs.length none) (.sl m 0 3 0 1 (some 1)) k := by
  refine append_mv (elems_all objL_hd rfl) (by simp) rfl (by rw [objL_nx (by omega)]; exact ho) (by simp) (by simp; omega) (by simp; omega) ?_
  rw [setO_eq]
  unfold putO
  rw [if_neg (by omega), joinTy_self]
  rw [List.map_append] at hk
  exact hk
/-- What Values tells: the list; the error. -/
def vsL (s : List UInt8) : SV := match vlsB 16 s with | some (v :: r) => lstV (v :: r) | _ => .nils
def vsE (s : List UInt8) : Int := match vlsB 16 s with | some _ => 0 | none => 5
theorem vsL_lit (s : List UInt8) : LitV (vsL s) := by unfold vsL; split <;> constructor
structure VsS (s : List UInt8) where
  vs : List V
  r : List UInt8
  g : Nat
  h1 : 0 < vs.length
  h2 : vs.length ≤ 16
  hr : r.length ≤ s.length
  he : vlsB 16 s = (vlsB (16 - vs.length) r).map (vs ++ ·)
theorem vls_step {f : Nat} {r : List UInt8} (h0 : 0 < r.length) (ho : vlO r = true) : vlsB (f + 1) r = (vlsB f (r.drop (vlN r))).map (vlV r :: ·) := by
  cases r with
  | nil => cases h0
  | cons c t => conv => lhs; unfold vlsB
                rw [if_pos ho]
theorem vls_bad {f : Nat} {r : List UInt8} (h0 : 0 < r.length) (ho : vlO r = false) : vlsB f r = none := by
  cases r with
  | nil => cases h0
  | cons c t =>
    cases f with
    | zero => rfl
    | succ f => unfold vlsB; rw [ho]; rfl
theorem vls_zero {r : List UInt8} (h0 : 0 < r.length) : vlsB 0 r = none := by
  cases r with
  | nil => cases h0
  | cons c t => rfl
theorem values_any {s : List UInt8} (hs : s.length ≤ 140737488351232) : PCall Tryd.prog 38 [.str s] (.tup [vsL s, .int .i64 (vsE s)]) := by
  refine pcall_of (lits1 (.str _)) (call38 rfl ?_)
  have lit : LitV (.tup [vsL s, .int .i64 (vsE s)]) := lit2 (vsL_lit _) (.int _ _)
  have no : vlsB 16 s = none → SV.tup [.nils, .int .i64 5] = .tup [vsL s, .int .i64 (vsE s)] := fun h => by unfold vsL vsE; rw [h]
  iterate 3 (all_goals (try conv => whnf); all_goals (try first | with_reducible refine brY (by assumption) ?_ | with_reducible refine brN (by assumption) ?_ | (with_reducible refine brT ?_ ?_; · (simp only [Bool.and_eq_true, Bool.not_eq_true', decide_eq_true_eq, decide_eq_false_iff_not, beq_iff_eq, beq_eq_false_iff_ne, ne_eq] at *; omega)) | with_reducible refine br (fun _ => ?_) (fun _ => ?_) | with_reducible refine ⟨rfl, ?_⟩ | with_reducible refine ARound.succ ?_))
  refine loop_two (σ := VsS s) (fun q => [(0, SV.str q.r), (2, SV.nils), (3, SV.int IntKind.i64 0), (4, SV.sl 2 q.g 3 0 q.vs.length none)])
    (fun q => ⟨3, [(2, .vec q.g 3 (q.vs.map V.sv) ⟨true, some 65⟩), (1, .vec 0 3 [(vlV s).sv] ⟨false, some 65⟩), (0, .vec 0 3 [(vlV s).sv] ⟨false, some 65⟩)]⟩) (fun q => 17 - q.vs.length) 17 3 (by decide) ?_ ?_
  · by_cases h0 : s = []
    · subst h0
      iterate 6 (all_goals (try conv => whnf); all_goals (try first | with_reducible refine brY (by assumption) ?_ | with_reducible refine brN (by assumption) ?_ | (with_reducible refine brT ?_ ?_; · (simp only [Bool.and_eq_true, Bool.not_eq_true', decide_eq_true_eq, decide_eq_false_iff_not, beq_iff_eq, beq_eq_false_iff_ne, ne_eq] at *; omega)) | with_reducible refine br (fun _ => ?_) (fun _ => ?_) | with_reducible refine ⟨rfl, ?_⟩ | with_reducible refine ARound.succ ?_))
      exact leaf rfl lit
    have hpos : 0 < s.length := by cases s with | nil => exact absurd rfl h0 | cons c r => simp
    have hne : (!(s == [])) = true := by rw [beq_eq_false_iff_ne.2 h0]; rfl
    have cv := value_any hpos hs
    cases ho : vlO s
    · rw [ho] at cv
      iterate 16 (all_goals (try conv => whnf); all_goals (try first | with_reducible refine brY (by assumption) ?_ | with_reducible refine brN (by assumption) ?_ | (with_reducible refine brT ?_ ?_; · (simp only [Bool.and_eq_true, Bool.not_eq_true', decide_eq_true_eq, decide_eq_false_iff_not, beq_iff_eq, beq_eq_false_iff_ne, ne_eq] at *; omega)) | with_reducible refine br (fun _ => ?_) (fun _ => ?_) | with_reducible refine ⟨rfl, ?_⟩ | with_reducible refine ARound.succ ?_ | with_reducible refine PCall.call (cv) ?_))
      exact leaf (no (vls_bad hpos ho)) lit
    · obtain ⟨hn0, hn1⟩ := vlO_n hpos ho
      rw [ho] at cv
      iterate 30 (all_goals (try conv => whnf); all_goals (try first | with_reducible refine brY (by assumption) ?_ | with_reducible refine brN (by assumption) ?_ | (with_reducible refine brT ?_ ?_; · (simp only [Bool.and_eq_true, Bool.not_eq_true', decide_eq_true_eq, decide_eq_false_iff_not, beq_iff_eq, beq_eq_false_iff_ne, ne_eq] at *; omega)) | with_reducible refine br (fun _ => ?_) (fun _ => ?_) | with_reducible refine ⟨rfl, ?_⟩ | with_reducible refine ARound.succ ?_ | with_reducible refine PCall.call (cv) ?_ | (refine app_val1 ?_)))
      have ed : (s.drop (vlN s : Int).toNat).take ((s.length : Int).toNat - (vlN s : Int).toNat) = s.drop (vlN s) := by
        rw [Int.toNat_natCast, Int.toNat_natCast]; exact List.take_of_length_le (by simp)
      refine ⟨⟨[vlV s], s.drop (vlN s), 0, by simp, by simp, by simp, ?_⟩, by dsimp only; simp, by rw [ed]; rfl, rfl⟩
      rw [vls_step (f := 15) hpos ho]; rfl
  · rintro ⟨vs, r, g, h1, h2, hrl, he⟩
    dsimp only
    have qg : Nat.beq g g = true := nbeq_self g
    by_cases h0 : r = []
    · subst h0
      have he2 : vlsB 16 s = some vs := by rw [he]; cases 16 - vs.length <;> simp [vlsB]
      have e1 : vsL s = lstV vs := by
        unfold vsL; rw [he2]
        cases vs with
        | nil => cases h1
        | cons v t => rfl
      have e2 : vsE s = 0 := by unfold vsE; rw [he2]
      iterate 8 (all_goals (try conv => whnf); all_goals (try first | with_reducible refine brY (by assumption) ?_ | with_reducible refine brN (by assumption) ?_ | (with_reducible refine brT ?_ ?_; · (simp only [Bool.and_eq_true, Bool.not_eq_true', decide_eq_true_eq, decide_eq_false_iff_not, beq_iff_eq, beq_eq_false_iff_ne, ne_eq] at *; omega)) | with_reducible refine br (fun _ => ?_) (fun _ => ?_) | with_reducible refine ⟨rfl, ?_⟩ | with_reducible refine ARound.succ ?_))
      refine ⟨_, rfl, ?_⟩
      rw [e1, e2]
      exact hard_two (hard_vs (i := 2) (g := g) (sk := ⟨true, some 65⟩) rfl rfl)
    have hpos : 0 < r.length := by cases r with | nil => exact absurd rfl h0 | cons c r => simp
    have hne : (!(r == [])) = true := by rw [beq_eq_false_iff_ne.2 h0]; rfl
    have cv := value_any hpos (by omega)
    cases ho : vlO r
    · rw [ho] at cv
      have hn : vlsB 16 s = none := by rw [he, vls_bad hpos ho]; rfl
      iterate 16 (all_goals (try conv => whnf); all_goals (try first | with_reducible refine brY (by assumption) ?_ | with_reducible refine brN (by assumption) ?_ | (with_reducible refine brT ?_ ?_; · (simp only [Bool.and_eq_true, Bool.not_eq_true', decide_eq_true_eq, decide_eq_false_iff_not, beq_iff_eq, beq_eq_false_iff_ne, ne_eq] at *; omega)) | with_reducible refine br (fun _ => ?_) (fun _ => ?_) | with_reducible refine ⟨rfl, ?_⟩ | with_reducible refine ARound.succ ?_ | with_reducible refine PCall.call (cv) ?_))
      exact leaf (no hn) lit
    · obtain ⟨hn0, hn1⟩ := vlO_n hpos ho
      rw [ho] at cv
      by_cases h16 : vs.length = 16
      · have hd : ((vs.length : Int) == 16) = true := by rw [beq_iff_eq]; omega
        have hn : vlsB 16 s = none := by rw [he, h16, vls_zero hpos]; rfl
        iterate 20 (all_goals (try conv => whnf); all_goals (try first | with_reducible refine brY (by assumption) ?_ | with_reducible refine brN (by assumption) ?_ | (with_reducible refine brT ?_ ?_; · (simp only [Bool.and_eq_true, Bool.not_eq_true', decide_eq_true_eq, decide_eq_false_iff_not, beq_iff_eq, beq_eq_false_iff_ne, ne_eq] at *; omega)) | with_reducible refine br (fun _ => ?_) (fun _ => ?_) | with_reducible refine ⟨rfl, ?_⟩ | with_reducible refine ARound.succ ?_ | with_reducible refine PCall.call (cv) ?_))
        exact leaf (no hn) lit
      · have hd : ((vs.length : Int) == 16) = false := by rw [beq_eq_false_iff_ne]; omega
        have ed : (r.drop (vlN r : Int).toNat).take ((r.length : Int).toNat - (vlN r : Int).toNat) = r.drop (vlN r) := by
          rw [Int.toNat_natCast, Int.toNat_natCast]; exact List.take_of_length_le (by simp)
        iterate 40 (all_goals (try conv => whnf); all_goals (try first | with_reducible refine brY (by assumption) ?_ | with_reducible refine brN (by assumption) ?_ | (with_reducible refine brT ?_ ?_; · (simp only [Bool.and_eq_true, Bool.not_eq_true', decide_eq_true_eq, decide_eq_false_iff_not, beq_iff_eq, beq_eq_false_iff_ne, ne_eq] at *; omega)) | with_reducible refine br (fun _ => ?_) (fun _ => ?_) | with_reducible refine ⟨rfl, ?_⟩ | with_reducible refine ARound.succ ?_ | with_reducible refine PCall.call (cv) ?_ | (refine app_val (vs := vs) (v := vlV r) (i := 2) rfl (by omega) (by omega) ?_) | (refine allLtK_of lt_vs ?_) | (refine allLtK_of (lt_one rfl) ?_)))
        refine ⟨⟨vs ++ [vlV r], r.drop (vlN r), g + 1, by simp, by simp; omega, by rw [List.length_drop]; omega, ?_⟩, by dsimp only; simp; omega, by rw [ed]; simp, rfl⟩
        rw [he, show 16 - vs.length = (16 - (vs ++ [vlV r]).length) + 1 by simp; omega, vls_step hpos ho]
        cases vlsB (16 - (vs ++ [vlV r]).length) (r.drop (vlN r)) with
        | none => rfl
        | some t => simp
end Go.Proofs.YtcklfcagailoiaaDoor
