/- Parts of the proof of PTuples, one behind the other. -/
import Derived.Test.YtcklfcagailoiaaDoorM4
import Derived.Test.YtcklfcagailoiaaDoorCEM
import Derived.Test.YtcklfcagailoiaaDoorM3
import Derived.Test.YtcklfcagailoiaaDoorProg
import Derived.KernelRfl
namespace Go.Proofs.YtcklfcagailoiaaDoor
open Ab Go.RowKit
set_option maxRecDepth 100000
set_option linter.unusedVariables false
set_option linter.unusedSimpArgs false
set_option pp.maxSteps 3000
attribute [local irreducible] allLtK appendK
theorem agree_vs : ∀ (s : List V) (k : Nat) (get : Nat → SV), (∀ j, j < s.length → get (k + j) = (s.getD j vnull).sv) → agree (s.map V.sv) k get
  | [], _, _, _ => trivial
  | b :: r, k, get, h => by
    refine ⟨?_, V.lit _, agree_vs r (k + 1) get fun j hj => ?_⟩
    · have := h 0 (by simp)
      simpa using this.symm
    · have := h (j + 1) (by simp; omega)
      rw [show k + 1 + j = k + (j + 1) by omega, this]
      simp [List.getD]
theorem hard_vs {A : Heap} {i g : Nat} {cap : Option Nat} {s : List V} {n : Nat} {sk : Sk} (ho : A.obj i = some (.vec g 3 (s.map V.sv) sk)) (hn : n = s.length) : Hard A (.sl i g 3 0 n cap) (lstV s) := by
  subst hn
  have := hard_all (cap := cap) (get := fun i => (s.getD i vnull).sv) ho (agree_vs s 0 _ fun j _ => by rw [Nat.zero_add])
  rw [List.length_map] at this
  exact this
theorem lt_vs {n : Nat} {s : List V} : ∀ v ∈ s.map V.sv, SV.lt 8 n v = true := by
  intro v hv
  obtain ⟨b, _, rfl⟩ := List.mem_map.1 hv
  rfl
theorem hard_two {A : Heap} {a a' : SV} {n : Int} (h : Hard A a a') : Hard A (.tup [a, .int .i64 n]) (.tup [a', .int .i64 n]) :=
  .tup rfl fun i v v' h1 h2 => by
    rcases i with _ | _ | i
    · cases h1; cases h2; exact h
    · cases h1; cases h2; exact .lit (.int _ _)
    · simp at h1
theorem app_val1 {m : Nat} {v : V} {sk : Sk} {l : List (Nat × AObj)} {k : SV → Heap → Prop}
    (hk : k (.sl (m + 1) 0 3 0 1 none) ⟨m + 2, (m + 1, .vec 0 3 [v.sv] ⟨true, some 65⟩) :: (m, .vec 0 3 [v.sv] sk) :: l⟩) :
    appendK 65 3 32 ⟨m + 1, (m, .vec 0 3 [v.sv] sk) :: l⟩ .nils (.sl m 0 3 0 1 (some 1)) k :=
  append_new (elems_all objL_hd rfl) (by simp) rfl (by simp) (by simp) hk
theorem app_val {m i g : Nat} {vs : List V} {v : V} {sk : Sk} {l : List (Nat × AObj)} {k : SV → Heap → Prop} (ho : objL l i = some (.vec g 3 (vs.map V.sv) ⟨true, some 65⟩)) (him : i < m) (hlen : vs.length ≤ 100000)
    (hk : k (.sl i (g + 1) 3 0 (vs.length + 1) none) ⟨m + 1, (m, .vec 0 3 [v.sv] sk) :: putO l i (.vec (g + 1) 3 ((vs ++ [v]).map V.sv) ⟨true, some 65⟩)⟩) :
    appendK 65 3 32 ⟨m + 1, (m, .vec 0 3 [v.sv] sk) :: l⟩ (.sl i g 3 0 vs.length none) (.sl m 0 3 0 1 (some 1)) k := by
  refine append_mv (elems_all objL_hd rfl) (by simp) rfl (by rw [objL_nx (by omega)]; exact ho) (by simp) (by simp; omega) (by simp; omega) ?_
  rw [setO_eq]
  unfold putO
  rw [if_neg (by omega), joinTy_self]
  rw [List.map_append] at hk
  exact hk
/-- What Values tells: the list; the error. -/
def vsL (s : List UInt8) : SV := match vlsB 16 s with | some (v :: r) => lstV (v :: r) | _ => .nils
def vsE (s : List UInt8) : Int := match vlsB 16 s with | some _ => 0 | none => 5
theorem vsL_lit (s : List UInt8) : LitV (vsL s) := by unfold vsL; split <;> constructor
structure VsS (s : List UInt8) where
  vs : List V
  r : List UInt8
  g : Nat
  h1 : 0 < vs.length
  h2 : vs.length ≤ 16
  hr : r.length ≤ s.length
  he : vlsB 16 s = (vlsB (16 - vs.length) r).map (vs ++ ·)
theorem vls_step {f : Nat} {r : List UInt8} (h0 : 0 < r.length) (ho : vlO r = true) : vlsB (f + 1) r = (vlsB f (r.drop (vlN r))).map (vlV r :: ·) := by
  cases r with
  | nil => cases h0
  | cons c t => conv => lhs; unfold vlsB
                rw [if_pos ho]
theorem vls_bad {f : Nat} {r : List UInt8} (h0 : 0 < r.length) (ho : vlO r = false) : vlsB f r = none := by
  cases r with
  | nil => cases h0
  | cons c t =>
    cases f with
    | zero => rfl
    | succ f => unfold vlsB; rw [ho]; rfl
theorem vls_zero {r : List UInt8} (h0 : 0 < r.length) : vlsB 0 r = none := by
  cases r with
  | nil => cases h0
  | cons c t => rfl
theorem values_any {s : List UInt8} (hs : s.length ≤ 140737488351232) : PCall Tryd.prog 38 [.str s] (.tup [vsL s, .int .i64 (vsE s)]) := by
  refine pcall_of (lits1 (.str _)) (call38 rfl ?_)
  have lit : LitV (.tup [vsL s, .int .i64 (vsE s)]) := lit2 (vsL_lit _) (.int _ _)
  have no : vlsB 16 s = none → SV.tup [.nils, .int .i64 5] = .tup [vsL s, .int .i64 (vsE s)] := fun h => by unfold vsL vsE; rw [h]
  iterate 3 (all_goals (try conv => whnf); all_goals (try first | with_reducible refine brY (by assumption) ?_ | with_reducible refine brN (by assumption) ?_ | (with_reducible refine brT ?_ ?_; · (simp only [Bool.and_eq_true, Bool.not_eq_true', decide_eq_true_eq, decide_eq_false_iff_not, beq_iff_eq, beq_eq_false_iff_ne, ne_eq] at *; omega)) | with_reducible refine br (fun _ => ?_) (fun _ => ?_) | with_reducible refine ⟨rfl, ?_⟩ | with_reducible refine ARound.succ ?_))
  refine loop_two (σ := VsS s) (fun q => [(0, SV.str q.r), (2, SV.nils), (3, SV.int IntKind.i64 0), (4, SV.sl 2 q.g 3 0 q.vs.length none)])
    (fun q => ⟨3, [(2, .vec q.g 3 (q.vs.map V.sv) ⟨true, some 65⟩), (1, .vec 0 3 [(vlV s).sv] ⟨false, some 65⟩), (0, .vec 0 3 [(vlV s).sv] ⟨false, some 65⟩)]⟩) (fun q => 17 - q.vs.length) 17 3 (by decide) ?_ ?_
  · by_cases h0 : s = []
    · subst h0
      iterate 6 (all_goals (try conv => whnf); all_goals (try first | with_reducible refine brY (by assumption) ?_ | with_reducible refine brN (by assumption) ?_ | (with_reducible refine brT ?_ ?_; · (simp only [Bool.and_eq_true, Bool.not_eq_true', decide_eq_true_eq, decide_eq_false_iff_not, beq_iff_eq, beq_eq_false_iff_ne, ne_eq] at *; omega)) | with_reducible refine br (fun _ => ?_) (fun _ => ?_) | with_reducible refine ⟨rfl, ?_⟩ | with_reducible refine ARound.succ ?_))
      exact leaf rfl lit
    have hpos : 0 < s.length := by cases s with | nil => exact absurd rfl h0 | cons c r => simp
    have hne : (!(s == [])) = true := by rw [beq_eq_false_iff_ne.2 h0]; rfl
    have cv := value_any hpos hs
    cases ho : vlO s
    · rw [ho] at cv
      iterate 16 (all_goals (try conv => whnf); all_goals (try first | with_reducible refine brY (by assumption) ?_ | with_reducible refine brN (by assumption) ?_ | (with_reducible refine brT ?_ ?_; · (simp only [Bool.and_eq_true, Bool.not_eq_true', decide_eq_true_eq, decide_eq_false_iff_not, beq_iff_eq, beq_eq_false_iff_ne, ne_eq] at *; omega)) | with_reducible refine br (fun _ => ?_) (fun _ => ?_) | with_reducible refine ⟨rfl, ?_⟩ | with_reducible refine ARound.succ ?_ | with_reducible refine PCall.call (cv) ?_))
      exact leaf (no (vls_bad hpos ho)) lit
    · obtain ⟨hn0, hn1⟩ := vlO_n hpos ho
      rw [ho] at cv
      iterate 30 (all_goals (try conv => whnf); all_goals (try first | with_reducible refine brY (by assumption) ?_ | with_reducible refine brN (by assumption) ?_ | (with_reducible refine brT ?_ ?_; · (simp only [Bool.and_eq_true, Bool.not_eq_true', decide_eq_true_eq, decide_eq_false_iff_not, beq_iff_eq, beq_eq_false_iff_ne, ne_eq] at *; omega)) | with_reducible refine br (fun _ => ?_) (fun _ => ?_) | with_reducible refine ⟨rfl, ?_⟩ | with_reducible refine ARound.succ ?_ | with_reducible refine PCall.call (cv) ?_ | (refine app_val1 ?_)))
      have ed : (s.drop (vlN s : Int).toNat).take ((s.length : Int).toNat - (vlN s : Int).toNat) = s.drop (vlN s) := by
        rw [Int.toNat_natCast, Int.toNat_natCast]; exact List.take_of_length_le (by simp)
      refine ⟨⟨[vlV s], s.drop (vlN s), 0, by simp, by simp, by simp, ?_⟩, by dsimp only; simp, by rw [ed]; rfl, rfl⟩
      rw [vls_step (f := 15) hpos ho]; rfl
  · rintro ⟨vs, r, g, h1, h2, hrl, he⟩
    dsimp only
    have qg : Nat.beq g g = true := nbeq_self g
    by_cases h0 : r = []
    · subst h0
      have he2 : vlsB 16 s = some vs := by rw [he]; cases 16 - vs.length <;> simp [vlsB]
      have e1 : vsL s = lstV vs := by
        unfold vsL; rw [he2]
        cases vs with
        | nil => cases h1
        | cons v t => rfl
      have e2 : vsE s = 0 := by unfold vsE; rw [he2]
      iterate 8 (all_goals (try conv => whnf); all_goals (try first | with_reducible refine brY (by assumption) ?_ | with_reducible refine brN (by assumption) ?_ | (with_reducible refine brT ?_ ?_; · (simp only [Bool.and_eq_true, Bool.not_eq_true', decide_eq_true_eq, decide_eq_false_iff_not, beq_iff_eq, beq_eq_false_iff_ne, ne_eq] at *; omega)) | with_reducible refine br (fun _ => ?_) (fun _ => ?_) | with_reducible refine ⟨rfl, ?_⟩ | with_reducible refine ARound.succ ?_))
      refine ⟨_, rfl, ?_⟩
      rw [e1, e2]
      exact hard_two (hard_vs (i := 2) (g := g) (sk := ⟨true, some 65⟩) rfl rfl)
    have hpos : 0 < r.length := by cases r with | nil => exact absurd rfl h0 | cons c r => simp
    have hne : (!(r == [])) = true := by rw [beq_eq_false_iff_ne.2 h0]; rfl
    have cv := value_any hpos (by omega)
    cases ho : vlO r
    · rw [ho] at cv
      have hn : vlsB 16 s = none := by rw [he, vls_bad hpos ho]; rfl
      iterate 16 (all_goals (try conv => whnf); all_goals (try first | with_reducible refine brY (by assumption) ?_ | with_reducible refine brN (by assumption) ?_ | (with_reducible refine brT ?_ ?_; · (simp only [Bool.and_eq_true, Bool.not_eq_true', decide_eq_true_eq, decide_eq_false_iff_not, beq_iff_eq, beq_eq_false_iff_ne, ne_eq] at *; omega)) | with_reducible refine br (fun _ => ?_) (fun _ => ?_) | with_reducible refine ⟨rfl, ?_⟩ | with_reducible refine ARound.succ ?_ | with_reducible refine PCall.call (cv) ?_))
      exact leaf (no hn) lit
    · obtain ⟨hn0, hn1⟩ := vlO_n hpos ho
      rw [ho] at cv
      by_cases h16 : vs.length = 16
      · have hd : ((vs.length : Int) == 16) = true := by rw [beq_iff_eq]; omega
        have hn : vlsB 16 s = none := by rw [he, h16, vls_zero hpos]; rfl
        iterate 20 (all_goals (try conv => whnf); all_goals (try first | with_reducible refine brY (by assumption) ?_ | with_reducible refine brN (by assumption) ?_ | (with_reducible refine brT ?_ ?_; · (simp only [Bool.and_eq_true, Bool.not_eq_true', decide_eq_true_eq, decide_eq_false_iff_not, beq_iff_eq, beq_eq_false_iff_ne, ne_eq] at *; omega)) | with_reducible refine br (fun _ => ?_) (fun _ => ?_) | with_reducible refine ⟨rfl, ?_⟩ | with_reducible refine ARound.succ ?_ | with_reducible refine PCall.call (cv) ?_))
        exact leaf (no hn) lit
      · have hd : ((vs.length : Int) == 16) = false := by rw [beq_eq_false_iff_ne]; omega
        have ed : (r.drop (vlN r : Int).toNat).take ((r.length : Int).toNat - (vlN r : Int).toNat) = r.drop (vlN r) := by
          rw [Int.toNat_natCast, Int.toNat_natCast]; exact List.take_of_length_le (by simp)
        iterate 40 (all_goals (try conv => whnf); all_goals (try first | with_reducible refine brY (by assumption) ?_ | with_reducible refine brN (by assumption) ?_ | (with_reducible refine brT ?_ ?_; · (simp only [Bool.and_eq_true, Bool.not_eq_true', decide_eq_true_eq, decide_eq_false_iff_not, beq_iff_eq, beq_eq_false_iff_ne, ne_eq] at *; omega)) | with_reducible refine br (fun _ => ?_) (fun _ => ?_) | with_reducible refine ⟨rfl, ?_⟩ | with_reducible refine ARound.succ ?_ | with_reducible refine PCall.call (cv) ?_ | (refine app_val (vs := vs) (v := vlV r) (i := 2) rfl (by omega) (by omega) ?_) | (refine allLtK_of lt_vs ?_) | (refine allLtK_of (lt_one rfl) ?_)))
        refine ⟨⟨vs ++ [vlV r], r.drop (vlN r), g + 1, by simp, by simp; omega, by rw [List.length_drop]; omega, ?_⟩, by dsimp only; simp; omega, by rw [ed]; simp, rfl⟩
        rw [he, show 16 - vs.length = (16 - (vs ++ [vlV r]).length) + 1 by simp; omega, vls_step hpos ho]
        cases vlsB (16 - (vs ++ [vlV r]).length) (r.drop (vlN r)) with
        | none => rfl
        | some t => simp
end Go.Proofs.YtcklfcagailoiaaDoor
namespace Go.Proofs.YtcklfcagailoiaaDoor
open Go Ab
set_option linter.unusedVariables false
set_option linter.unusedSimpArgs false
theorem u8_tri (c d : UInt8) : c < d ∨ c = d ∨ d < c := by
  rcases Nat.lt_trichotomy c.toNat d.toNat with h | h | h
  · exact .inl (u8_lt_iff.2 h)
  · exact .inr (.inl (UInt8.toNat_inj.1 h))
  · exact .inr (.inr (u8_lt_iff.2 h))
theorem u8_irr (c : UInt8) : ¬ c < c := fun h => Nat.lt_irrefl _ (u8_lt_iff.1 h)
theorem u8_asym {c d : UInt8} (h : c < d) : ¬ d < c := fun h' => Nat.lt_asymm (u8_lt_iff.1 h) (u8_lt_iff.1 h')
theorem cmpS_lt {c d : UInt8} (x y : List UInt8) (h : c < d) : cmpS (c :: x) (d :: y) = -1 := by
  unfold cmpS; rw [less_cons, decide_eq_true h]; rfl
theorem cmpS_gt {c d : UInt8} (x y : List UInt8) (h : d < c) : cmpS (c :: x) (d :: y) = 1 := by
  have hn : ¬ c < d := u8_asym h
  have he : (c == d) = false := beq_eq_false_iff_ne.2 fun e => u8_irr d (by rw [e] at h; exact h)
  unfold cmpS
  rw [less_cons, decide_eq_false hn, he, Bool.false_and, Bool.false_or, List.cons_beq_cons, he]
  rfl
theorem cmpS_eq (c : UInt8) (x y : List UInt8) : cmpS (c :: x) (c :: y) = cmpS x y := by
  unfold cmpS
  rw [less_cons, decide_eq_false (u8_irr c), beq_self_eq_true, Bool.true_and, Bool.false_or, List.cons_beq_cons, beq_self_eq_true, Bool.true_and]
theorem cmpS_nn : cmpS [] [] = 0 := rfl
theorem cmpS_nc (d : UInt8) (y : List UInt8) : cmpS [] (d :: y) = -1 := rfl
theorem cmpS_cn (d : UInt8) (y : List UInt8) : cmpS (d :: y) [] = 1 := rfl
theorem cmpS_zero : ∀ {x y : List UInt8}, cmpS x y = 0 → x = y
  | [], [], _ => rfl
  | [], d :: y, h => by cases h
  | d :: y, [], h => by cases h
  | c :: x, d :: y, h => by
    rcases u8_tri c d with hc | rfl | hc
    · rw [cmpS_lt _ _ hc] at h; cases h
    · rw [cmpS_eq] at h; rw [cmpS_zero h]
    · rw [cmpS_gt _ _ hc] at h; cases h
theorem cmpS_self : ∀ x : List UInt8, cmpS x x = 0
  | [] => rfl
  | c :: x => by rw [cmpS_eq, cmpS_self x]
theorem cmpS_neg : ∀ x y : List UInt8, cmpS y x = - cmpS x y
  | [], [] => rfl
  | [], d :: y => rfl
  | d :: y, [] => rfl
  | c :: x, d :: y => by
    rcases u8_tri c d with hc | rfl | hc
    · rw [cmpS_lt _ _ hc, cmpS_gt _ _ hc]; rfl
    · rw [cmpS_eq, cmpS_eq, cmpS_neg x y]
    · rw [cmpS_lt _ _ hc, cmpS_gt _ _ hc]
theorem cmpS_app : ∀ {a b x y : List UInt8}, a.length = b.length → cmpS (a ++ x) (b ++ y) = if cmpS a b = 0 then cmpS x y else cmpS a b
  | [], [], x, y, _ => by rw [cmpS_nn, if_pos rfl]; rfl
  | [], _ :: _, _, _, h => by cases h
  | _ :: _, [], _, _, h => by cases h
  | c :: a, d :: b, x, y, h => by
    rw [List.cons_append, List.cons_append]
    rcases u8_tri c d with hc | rfl | hc
    · rw [cmpS_lt _ _ hc, cmpS_lt _ _ hc, if_neg (by decide)]
    · rw [cmpS_eq, cmpS_eq, cmpS_app (Nat.succ.inj h)]
    · rw [cmpS_gt _ _ hc, cmpS_gt _ _ hc, if_neg (by decide)]
theorem zero_lt_u8 {c : UInt8} (h : c ≠ 0) : (0 : UInt8) < c := by
  rcases u8_tri 0 c with h1 | h1 | h1
  · exact h1
  · exact absurd h1.symm h
  · exact absurd (u8_lt_iff.1 h1) (Nat.not_lt_zero _)
abbrev rep0 (t : List UInt8) : List UInt8 := repB 0 [0, 255] t
theorem rep_cons0 (t : List UInt8) : rep0 (0 :: t) = 0 :: 255 :: rep0 t := by show repB _ _ _ = _; rw [repB, if_pos rfl]; rfl
theorem rep_consn {c : UInt8} (h : c ≠ 0) (t : List UInt8) : rep0 (c :: t) = c :: rep0 t := by show repB _ _ _ = _; rw [repB, if_neg h]; rfl
theorem cmpS_rep : ∀ (t u x y : List UInt8), cmpS (rep0 t ++ (0 :: 1 :: x)) (rep0 u ++ (0 :: 1 :: y)) = if cmpS t u = 0 then cmpS x y else cmpS t u
  | [], [], x, y => by
    rw [cmpS_nn, if_pos rfl]
    show cmpS (0 :: 1 :: x) (0 :: 1 :: y) = _
    rw [cmpS_eq, cmpS_eq]
  | [], d :: u, x, y => by
    rw [cmpS_nc, if_neg (by decide)]
    show cmpS (0 :: 1 :: x) _ = _
    by_cases hd : d = 0
    · subst hd
      rw [rep_cons0, List.cons_append, cmpS_eq, List.cons_append, cmpS_lt _ _ (by decide)]
    · rw [rep_consn hd, List.cons_append, cmpS_lt _ _ (zero_lt_u8 hd)]
  | c :: t, [], x, y => by
    rw [cmpS_cn, if_neg (by decide)]
    show cmpS _ (0 :: 1 :: y) = _
    by_cases hd : c = 0
    · subst hd
      rw [rep_cons0, List.cons_append, cmpS_eq, List.cons_append, cmpS_gt _ _ (by decide)]
    · rw [rep_consn hd, List.cons_append, cmpS_gt _ _ (zero_lt_u8 hd)]
  | c :: t, d :: u, x, y => by
    by_cases hc : c = 0
    · subst hc
      by_cases hd : d = 0
      · subst hd
        rw [rep_cons0, rep_cons0, cmpS_eq]
        simp only [List.cons_append]
        rw [cmpS_eq, cmpS_eq, cmpS_rep t u x y]
      · rw [rep_cons0, rep_consn hd, cmpS_lt _ _ (zero_lt_u8 hd), if_neg (by decide)]
        simp only [List.cons_append]
        rw [cmpS_lt _ _ (zero_lt_u8 hd)]
    · by_cases hd : d = 0
      · subst hd
        rw [rep_cons0, rep_consn hc, cmpS_gt _ _ (zero_lt_u8 hc), if_neg (by decide)]
        simp only [List.cons_append]
        rw [cmpS_gt _ _ (zero_lt_u8 hc)]
      · rw [rep_consn hc, rep_consn hd, List.cons_append, List.cons_append]
        rcases u8_tri c d with h | rfl | h
        · rw [cmpS_lt _ _ h, cmpS_lt _ _ h, if_neg (by decide)]
        · rw [cmpS_eq, cmpS_eq, cmpS_rep t u x y]
        · rw [cmpS_gt _ _ h, cmpS_gt _ _ h, if_neg (by decide)]
theorem cmpS_be {a b : Nat} (ha : a < 18446744073709551616) (hb : b < 18446744073709551616) : cmpS (beB 8 a) (beB 8 b) = cmpI a b := by
  have hl : (beB 8 a).length = (beB 8 b).length := by rw [beB_len, beB_len]
  have e : (256 : Nat) ^ 8 = 18446744073709551616 := by decide
  have va : beV (beB 8 a) = a := by rw [beV_beB, e, Nat.mod_eq_of_lt ha]
  have vb : beV (beB 8 b) = b := by rw [beV_beB, e, Nat.mod_eq_of_lt hb]
  unfold cmpS cmpI
  rw [less_beV hl, va, vb]
  by_cases h1 : a < b
  · rw [decide_eq_true h1, if_pos rfl, if_pos (by omega)]
  · rw [decide_eq_false h1, if_neg (by decide), if_neg (show ¬ (a : Int) < b by omega)]
    by_cases h2 : a = b
    · subst h2; rw [if_pos (beq_self_eq_true _), if_neg (by omega)]
    · have h3 : (beB 8 a == beB 8 b) = false := beq_eq_false_iff_ne.2 fun h => h2 (by rw [← va, ← vb, h])
      rw [h3, if_neg (by decide), if_pos (by omega)]
theorem textB_0 {v : V} (h : v.k = 0) : textB v = [1] := by unfold textB; rw [if_pos h]
theorem textB_1 {v : V} (h : v.k = 1) : textB v = [2, if v.n = 0 then 0 else 1] := by unfold textB; rw [if_neg (by omega), if_pos h]
theorem textB_2 {v : V} (h : v.k = 2) : textB v = 3 :: beB 8 (v.n + 9223372036854775808).toNat := by unfold textB; rw [if_neg (by omega), if_neg (by omega), if_pos h]
theorem textB_3 {v : V} (h : v.k = 3) : textB v = 4 :: (rep0 v.t ++ [0, 1]) := by unfold textB; rw [if_neg (by omega), if_neg (by omega), if_neg (by omega)]
theorem okV_0 {v : V} (h : okV v = true) (hk : v.k = 0) : v.n = 0 ∧ v.t = [] := by unfold okV at h; rw [if_pos hk] at h; simpa using h
theorem okV_1 {v : V} (h : okV v = true) (hk : v.k = 1) : (v.n = 0 ∨ v.n = 1) ∧ v.t = [] := by unfold okV at h; rw [if_neg (by omega), if_pos hk] at h; simpa using h
theorem okV_2 {v : V} (h : okV v = true) (hk : v.k = 2) : v.t = [] := by unfold okV at h; rw [if_neg (by omega), if_neg (by omega), if_pos hk] at h; simpa using h
theorem okV_3 {v : V} (h : okV v = true) (hk : v.k = 3) : v.n = 0 ∧ v.t.length ≤ 64 := by unfold okV at h; rw [if_neg (by omega), if_neg (by omega), if_neg (by omega), if_pos hk] at h; simpa using h
theorem cmpI_self (a : Int) : cmpI a a = 0 := by unfold cmpI; rw [if_neg (by omega), if_neg (by omega)]
theorem cmpI_lt {a b : Int} (h : a < b) : cmpI a b = -1 := by unfold cmpI; rw [if_pos h]
theorem cmpI_gt {a b : Int} (h : b < a) : cmpI a b = 1 := by unfold cmpI; rw [if_neg (by omega), if_pos h]
theorem cmpI_shift (a b : Int) (ha : -9223372036854775808 ≤ a) (hb : -9223372036854775808 ≤ b) : cmpI ((a + 9223372036854775808).toNat : Int) ((b + 9223372036854775808).toNat : Int) = cmpI a b := by
  unfold cmpI
  by_cases h : a < b
  · rw [if_pos (by omega), if_pos h]
  · rw [if_neg (by omega), if_neg h]
    by_cases h2 : b < a
    · rw [if_pos (by omega), if_pos h2]
    · rw [if_neg (by omega), if_neg h2]
theorem or3_mid (b : Int) : or3 0 b 0 = b := by
  unfold or3
  rw [if_neg (by decide)]
  by_cases h : b = 0
  · rw [if_neg (by omega), h]
  · rw [if_pos h]
theorem cmp_text {v w : V} (hv : okV v = true) (hw : okV w = true) (iv : v.In') (iw : w.In') (x y : List UInt8) :
    cmpS (textB v ++ x) (textB w ++ y) = if cmpV v w = 0 then cmpS x y else cmpV v w := by
  have kv := okV_kind hv
  have kw := okV_kind hw
  by_cases hk : v.k = w.k
  · have e0 : cmpV v w = or3 0 (cmpI v.n w.n) (cmpS v.t w.t) := by unfold cmpV; rw [hk, cmpI_self]
    rcases kv with h | h | h | h
    · obtain ⟨n1, t1⟩ := okV_0 hv h
      obtain ⟨n2, t2⟩ := okV_0 hw (by omega)
      rw [e0, n1, n2, t1, t2, textB_0 h, textB_0 (v := w) (by omega)]
      show cmpS (1 :: x) (1 :: y) = _
      rw [cmpS_eq]; rfl
    · obtain ⟨n1, t1⟩ := okV_1 hv h
      obtain ⟨n2, t2⟩ := okV_1 hw (by omega)
      rw [e0, t1, t2, textB_1 h, textB_1 (v := w) (by omega)]
      rcases n1 with n1 | n1 <;> rcases n2 with n2 | n2 <;> rw [n1, n2]
      · show cmpS (2 :: 0 :: x) (2 :: 0 :: y) = _
        rw [cmpS_eq, cmpS_eq]; rfl
      · show cmpS (2 :: 0 :: x) (2 :: 1 :: y) = _
        rw [cmpS_eq, cmpS_lt _ _ (by decide)]; rfl
      · show cmpS (2 :: 1 :: x) (2 :: 0 :: y) = _
        rw [cmpS_eq, cmpS_gt _ _ (by decide)]; rfl
      · show cmpS (2 :: 1 :: x) (2 :: 1 :: y) = _
        rw [cmpS_eq, cmpS_eq]; rfl
    · have t1 := okV_2 hv h
      have t2 := okV_2 hw (by omega)
      rw [e0, t1, t2, textB_2 h, textB_2 (v := w) (by omega), List.cons_append, List.cons_append, cmpS_eq, cmpS_app (by rw [beB_len, beB_len]), cmpS_be (by have := iv.2; omega) (by have := iw.2; omega), cmpI_shift _ _ iv.1 iw.1]
      rw [show or3 0 (cmpI v.n w.n) (cmpS [] []) = cmpI v.n w.n from or3_mid _]
    · obtain ⟨n1, t1⟩ := okV_3 hv h
      obtain ⟨n2, t2⟩ := okV_3 hw (by omega)
      rw [e0, n1, n2, textB_3 h, textB_3 (v := w) (by omega), List.cons_append, List.cons_append, cmpS_eq, List.append_assoc, List.append_assoc]
      have := cmpS_rep v.t w.t x y
      have e3 : or3 0 (cmpI 0 0) (cmpS v.t w.t) = cmpS v.t w.t := by rw [cmpI_self]; unfold or3; rw [if_neg (by decide), if_neg (by decide)]
      rw [e3]
      exact this
  · have e0 : cmpV v w = cmpI v.k w.k := by
      unfold cmpV or3
      rw [if_pos]
      rcases Int.lt_or_lt_of_ne hk with h | h
      · rw [cmpI_lt h]; decide
      · rw [cmpI_gt h]; decide
    have hd : ∀ u : V, okV u = true → ∃ r, textB u = UInt8.ofNat (u.k.toNat + 1) :: r := fun u hu => by
      rcases okV_kind hu with h | h | h | h
      · exact ⟨_, by rw [textB_0 h, h]; rfl⟩
      · exact ⟨_, by rw [textB_1 h, h]; rfl⟩
      · exact ⟨_, by rw [textB_2 h, h]; rfl⟩
      · exact ⟨_, by rw [textB_3 h, h]; rfl⟩
    obtain ⟨r1, h1⟩ := hd v hv
    obtain ⟨r2, h2⟩ := hd w hw
    have hlt : ∀ a b : Int, 0 ≤ a → a ≤ 3 → 0 ≤ b → b ≤ 3 → a < b → UInt8.ofNat (a.toNat + 1) < UInt8.ofNat (b.toNat + 1) := fun a b h1 h2 h3 h4 h => by
      rw [u8_lt_iff, ofNat_toNat (by omega), ofNat_toNat (by omega)]; omega
    rw [h1, h2, List.cons_append, List.cons_append, e0]
    rcases Int.lt_or_lt_of_ne hk with h | h
    · rw [cmpS_lt _ _ (hlt _ _ (by omega) (by omega) (by omega) (by omega) h), cmpI_lt h]; rfl
    · rw [cmpS_gt _ _ (hlt _ _ (by omega) (by omega) (by omega) (by omega) h), cmpI_gt h]; rfl
theorem cmp_texts : ∀ {a b : List V}, a.all okV = true → b.all okV = true → (∀ v ∈ a, v.In') → (∀ v ∈ b, v.In') → cmpS (a.flatMap textB) (b.flatMap textB) = cmpL a b
  | [], [], _, _, _, _ => rfl
  | [], w :: b, _, _, _, _ => by
    have := textB_pos w
    rw [List.flatMap_nil, List.flatMap_cons]
    cases h : textB w with
    | nil => rw [h] at this; cases this
    | cons c r =>
      show -1 = cmpI 0 _
      exact (cmpI_lt (by simp only [List.length_cons]; omega)).symm
  | v :: a, [], _, _, _, _ => by
    have := textB_pos v
    rw [List.flatMap_nil, List.flatMap_cons]
    cases h : textB v with
    | nil => rw [h] at this; cases this
    | cons c r =>
      show 1 = cmpI _ 0
      exact (cmpI_gt (by simp only [List.length_cons]; omega)).symm
  | v :: a, w :: b, ha, hb, ia, ib => by
    simp only [List.all_cons, Bool.and_eq_true] at ha hb
    rw [List.flatMap_cons, List.flatMap_cons, cmp_text ha.1 hb.1 (ia v (by simp)) (ib w (by simp)), cmp_texts ha.2 hb.2 (fun u hu => ia u (by simp [hu])) (fun u hu => ib u (by simp [hu]))]
    show _ = if cmpV v w ≠ 0 then cmpV v w else cmpL a b
    by_cases h : cmpV v w = 0
    · rw [if_pos h, if_neg (by omega)]
    · rw [if_neg h, if_pos h]
theorem cmpS_less {s t : List UInt8} : decide (cmpS s t < 0) = Op.bytesLess s t := by
  unfold cmpS
  cases Op.bytesLess s t
  · rw [if_neg (by decide)]
    split <;> rfl
  · rfl
theorem cmpS_same {s t : List UInt8} : (cmpS s t == 0) = (s == t) := by
  by_cases h : s = t
  · subst h; rw [cmpS_self]; simp
  · rw [beq_eq_false_iff_ne.2 h]
    exact beq_eq_false_iff_ne.2 fun e => h (cmpS_zero e)
theorem cmpS_more {s t : List UInt8} : decide (0 < cmpS s t) = !(Op.bytesLess s t || s == t) := by
  rw [← cmpS_less, ← cmpS_same]
  have h : cmpS s t = -1 ∨ cmpS s t = 0 ∨ cmpS s t = 1 := by
    unfold cmpS; split
    · exact .inl rfl
    · split
      · exact .inr (.inl rfl)
      · exact .inr (.inr rfl)
  rcases h with h | h | h <;> rw [h] <;> rfl
/-! Read back. -/
theorem txt_consn {c : UInt8} (hc : c ≠ 0) {l : List UInt8} (hl : 0 < l.length) : txtB (c :: l) = (txtB l).map (fun p => (c :: p.1, p.2 + 1)) := by
  cases l with
  | nil => cases hl
  | cons d r => rw [txtB, if_pos hc]
theorem txt_rep : ∀ (t r : List UInt8), txtB (rep0 t ++ (0 :: 1 :: r)) = some (t, (rep0 t).length + 2)
  | [], r => by
    show txtB (0 :: 1 :: r) = _
    rw [txtB, if_neg (by decide), if_pos rfl]; rfl
  | c :: t, r => by
    by_cases hc : c = 0
    · subst hc
      rw [rep_cons0]
      show txtB (0 :: 255 :: (rep0 t ++ (0 :: 1 :: r))) = _
      rw [txtB, if_neg (by decide), if_neg (by decide), if_pos rfl, txt_rep t r]
      simp only [Option.map_some, List.length_cons]
    · rw [rep_consn hc, List.cons_append, txt_consn hc (by simp only [List.length_append, List.length_cons]; omega), txt_rep t r]
      simp only [Option.map_some, List.length_cons]
theorem read_text {v : V} (hv : okV v = true) (iv : v.In') (r : List UInt8) : vlO (textB v ++ r) = true ∧ vlV (textB v ++ r) = v ∧ vlN (textB v ++ r) = (textB v).length := by
  obtain ⟨k, n, t⟩ := v
  rcases okV_kind hv with h | h | h | h
  · obtain ⟨n1, t1⟩ := okV_0 hv h
    dsimp only at h n1 t1
    subst h; subst n1; subst t1
    have hk : vk (textB ⟨0, 0, []⟩ ++ r) = 1 := rfl
    obtain ⟨e1, e2, e3⟩ := vl_1 hk
    rw [e1, e2, e3]; exact ⟨rfl, rfl, rfl⟩
  · obtain ⟨n1, t1⟩ := okV_1 hv h
    dsimp only at h n1 t1
    subst h; subst t1
    have hb : textB ⟨1, n, []⟩ = [2, if n = 0 then 0 else 1] := rfl
    have hk : vk (textB ⟨1, n, []⟩ ++ r) = 2 := by
      rw [hb]; unfold vk
      rw [if_neg (by simp), if_pos]
      refine ⟨rfl, by simp, ?_⟩
      rcases n1 with rfl | rfl
      · show (0 : UInt8).toNat ≤ 1; decide
      · show (1 : UInt8).toNat ≤ 1; decide
    obtain ⟨e1, e2, e3⟩ := vl_2 hk
    rw [e1, e2, e3]
    refine ⟨rfl, ?_, rfl⟩
    rw [hb]
    rcases n1 with rfl | rfl <;> rfl
  · have t1 := okV_2 hv h
    dsimp only at h t1
    subst h; subst t1
    have hb : textB ⟨2, n, []⟩ = 3 :: beB 8 (n + 9223372036854775808).toNat := rfl
    have hk : vk (textB ⟨2, n, []⟩ ++ r) = 3 := by
      rw [hb]; unfold vk
      rw [if_neg (by simp), if_neg (by simp), if_pos]
      refine ⟨rfl, ?_⟩
      simp only [List.cons_append, List.length_cons, List.length_append, beB_len]
      omega
    obtain ⟨e1, e2, e3⟩ := vl_3 hk
    have i1 : -9223372036854775808 ≤ n ∧ n ≤ 9223372036854775807 := iv
    rw [e1, e2, e3, hb]
    refine ⟨rfl, ?_, by rw [List.length_cons, beB_len]⟩
    have e4 : ((3 :: beB 8 (n + 9223372036854775808).toNat ++ r).drop 1).take 8 = beB 8 (n + 9223372036854775808).toNat := by
      rw [List.cons_append, List.drop_succ_cons, List.drop_zero, List.take_append_of_le_length (by rw [beB_len]; omega), List.take_of_length_le (by rw [beB_len]; omega)]
    have e5 : (256 : Nat) ^ 8 = 18446744073709551616 := by decide
    rw [e4, beV_beB, e5, Nat.mod_eq_of_lt (by omega)]
    congr 1
    omega
  · obtain ⟨n1, t1⟩ := okV_3 hv h
    dsimp only at h n1 t1
    subst h; subst n1
    have hb : textB ⟨3, 0, t⟩ ++ r = 4 :: (rep0 t ++ (0 :: 1 :: r)) := by
      show 4 :: (rep0 t ++ [0, 1]) ++ r = _
      simp
    have hk : vk (textB ⟨3, 0, t⟩ ++ r) = 4 := by
      rw [hb]; unfold vk
      rw [if_neg (by simp), if_neg (by simp), if_neg (by simp), if_pos (by simp)]
    have hd : (textB ⟨3, 0, t⟩ ++ r).drop 1 = rep0 t ++ (0 :: 1 :: r) := by rw [hb]; rfl
    obtain ⟨e1, e2, e3⟩ := vl_4 hk
    rw [e1, e2, e3, hd]
    unfold txT txN txO
    rw [txt_rep]
    refine ⟨?_, rfl, ?_⟩
    · simp only [Option.isSome_some, Bool.true_and, decide_eq_true_eq]; omega
    · show (rep0 t).length + 2 + 1 = (4 :: (rep0 t ++ [0, 1])).length
      simp
theorem read_texts : ∀ (f : Nat) {a : List V}, a.length ≤ f → a.all okV = true → (∀ v ∈ a, v.In') → vlsB f (a.flatMap textB) = some a
  | f, [], _, _, _ => by cases f <;> rfl
  | 0, v :: a, h, _, _ => by simp at h
  | f + 1, v :: a, h, ha, ia => by
    simp only [List.all_cons, Bool.and_eq_true] at ha
    rw [List.flatMap_cons]
    obtain ⟨h1, h2, h3⟩ := read_text ha.1 (ia v (by simp)) (a.flatMap textB)
    have hp := textB_pos v
    rw [vls_step (by rw [List.length_append]; omega) h1, h2, h3, List.drop_left, read_texts f (by simpa using h) ha.2 (fun u hu => ia u (by simp [hu]))]
    rfl
end Go.Proofs.YtcklfcagailoiaaDoor
namespace Go.Proofs.YtcklfcagailoiaaDoor
open Ab Go.RowKit
set_option maxRecDepth 100000
set_option linter.unusedVariables false
set_option linter.unusedSimpArgs false
set_option pp.maxSteps 3000
noncomputable def sameL (a b : List V) : Bool := @decide (a = b) (Classical.propDecidable _)
theorem sameL_self (a : List V) : sameL a a = true := by unfold sameL; exact @decide_eq_true _ (Classical.propDecidable _) rfl
theorem sameL_no {a b : List V} (h : a ≠ b) : sameL a b = false := by unfold sameL; exact @decide_eq_false _ (Classical.propDecidable _) h
structure SvS (a b : List V) where
  k : Nat
  hk : k ≤ a.length
  he : a.take k = b.take k
theorem eqV_iff {v w : V} : (v.k == w.k && (v.n == w.n && v.t == w.t)) = true ↔ v = w := by
  obtain ⟨a, b, c⟩ := v
  obtain ⟨a', b', c'⟩ := w
  simp [V.mk.injEq]
theorem sameValues_any {a b : List V} (ha : a.length ≤ 4611686018427387904) : PCall Tryd.prog 28 [lstV a, lstV b] (.bool (sameL a b)) := by
  refine pcall_of (lits2 (.lst _ _ _) (.lst _ _ _)) (call28 rfl ?_)
  by_cases hlen : ¬ a.length = b.length
  · have hd : ((a.length : Int) != (b.length : Int)) = true := by rw [bne_iff_ne]; omega
    iterate 4 (all_goals (try conv => whnf); all_goals (try first | with_reducible refine brY (by assumption) ?_ | with_reducible refine brN (by assumption) ?_ | (with_reducible refine brT ?_ ?_; · (simp only [Bool.and_eq_true, Bool.not_eq_true', decide_eq_true_eq, decide_eq_false_iff_not, beq_iff_eq, beq_eq_false_iff_ne, ne_eq] at *; omega)) | with_reducible refine br (fun _ => ?_) (fun _ => ?_) | with_reducible refine ⟨rfl, ?_⟩ | with_reducible refine ARound.succ ?_))
    exact leaf (by rw [sameL_no fun h => hlen (by rw [h])]) (.bool _)
  have hlen : a.length = b.length := by omega
  have hd : ((a.length : Int) != (b.length : Int)) = false := by rw [bne_eq_false_iff_eq]; omega
  iterate 3 (all_goals (try conv => whnf); all_goals (try first | with_reducible refine brY (by assumption) ?_ | with_reducible refine brN (by assumption) ?_ | (with_reducible refine brT ?_ ?_; · (simp only [Bool.and_eq_true, Bool.not_eq_true', decide_eq_true_eq, decide_eq_false_iff_not, beq_iff_eq, beq_eq_false_iff_ne, ne_eq] at *; omega)) | with_reducible refine br (fun _ => ?_) (fun _ => ?_) | with_reducible refine ⟨rfl, ?_⟩ | with_reducible refine ARound.succ ?_))
  refine loop_ind (σ := SvS a b) (fun s => [(0, lstV a), (1, lstV b), (4, SV.bool false), (10, SV.bool false), (5, SV.int IntKind.i64 s.k)]) (fun _ => ⟨0, []⟩) (fun s => a.length - s.k) ?_ ⟨0, by omega, rfl⟩
  rintro ⟨k, hk, he⟩
  dsimp only
  by_cases hkl : k < a.length
  · have hd : decide ((k : Int) < (a.length : Int)) = true := decide_eq_true (by omega)
    have e7 : IntKind.i64.wrap ((k : Int) + 1) = ((k + 1 : Nat) : Int) := w64add (by omega)
    have et := Int.toNat_natCast k
    by_cases hv : a.getD k vnull = b.getD k vnull
    · have hc : (!((a.getD (k : Int).toNat vnull).k == (b.getD (k : Int).toNat vnull).k && ((a.getD (k : Int).toNat vnull).n == (b.getD (k : Int).toNat vnull).n && (a.getD (k : Int).toNat vnull).t == (b.getD (k : Int).toNat vnull).t))) = false := by
        rw [et, eqV_iff.2 hv]; rfl
      iterate 14 (all_goals (try conv => whnf); all_goals (try first | with_reducible refine brY (by assumption) ?_ | with_reducible refine brN (by assumption) ?_ | (with_reducible refine brT ?_ ?_; · (simp only [Bool.and_eq_true, Bool.not_eq_true', decide_eq_true_eq, decide_eq_false_iff_not, beq_iff_eq, beq_eq_false_iff_ne, ne_eq] at *; omega)) | with_reducible refine br (fun _ => ?_) (fun _ => ?_) | with_reducible refine ⟨rfl, ?_⟩ | with_reducible refine ARound.succ ?_))
      refine ⟨⟨k + 1, hkl, by rw [takeV hkl, takeV (by omega), he, hv]⟩, by dsimp only; omega, by rw [e7], rfl⟩
    · have hc : (!((a.getD (k : Int).toNat vnull).k == (b.getD (k : Int).toNat vnull).k && ((a.getD (k : Int).toNat vnull).n == (b.getD (k : Int).toNat vnull).n && (a.getD (k : Int).toNat vnull).t == (b.getD (k : Int).toNat vnull).t))) = true := by
        rw [et, Bool.eq_false_iff.2 fun h => hv (eqV_iff.1 h)]; rfl
      iterate 14 (all_goals (try conv => whnf); all_goals (try first | with_reducible refine brY (by assumption) ?_ | with_reducible refine brN (by assumption) ?_ | (with_reducible refine brT ?_ ?_; · (simp only [Bool.and_eq_true, Bool.not_eq_true', decide_eq_true_eq, decide_eq_false_iff_not, beq_iff_eq, beq_eq_false_iff_ne, ne_eq] at *; omega)) | with_reducible refine br (fun _ => ?_) (fun _ => ?_) | with_reducible refine ⟨rfl, ?_⟩ | with_reducible refine ARound.succ ?_))
      exact leaf (by rw [sameL_no fun h => hv (by rw [h])]) (.bool _)
  · have hd : decide ((k : Int) < (a.length : Int)) = false := decide_eq_false (by omega)
    iterate 8 (all_goals (try conv => whnf); all_goals (try first | with_reducible refine brY (by assumption) ?_ | with_reducible refine brN (by assumption) ?_ | (with_reducible refine brT ?_ ?_; · (simp only [Bool.and_eq_true, Bool.not_eq_true', decide_eq_true_eq, decide_eq_false_iff_not, beq_iff_eq, beq_eq_false_iff_ne, ne_eq] at *; omega)) | with_reducible refine br (fun _ => ?_) (fun _ => ?_) | with_reducible refine ⟨rfl, ?_⟩ | with_reducible refine ARound.succ ?_))
    rw [List.take_of_length_le (by omega), List.take_of_length_le (by omega)] at he
    exact leaf (by rw [he, sameL_self]) (.bool _)
theorem sameValues_nil : PCall Tryd.prog 28 [.nils, lstV []] (.bool true) := by
  refine pcall_of (lits2 .nils (.lst _ _ _)) (call28 rfl ?_)
  iterate 8 (all_goals (try conv => whnf); all_goals (try first | with_reducible refine brY (by assumption) ?_ | with_reducible refine brN (by assumption) ?_ | (with_reducible refine brT ?_ ?_; · (simp only [Bool.and_eq_true, Bool.not_eq_true', decide_eq_true_eq, decide_eq_false_iff_not, beq_iff_eq, beq_eq_false_iff_ne, ne_eq] at *; omega)) | with_reducible refine br (fun _ => ?_) (fun _ => ?_) | with_reducible refine ⟨rfl, ?_⟩ | with_reducible refine ARound.succ ?_ | with_reducible refine loop_rounds 2 ?_))
  exact leaf rfl (.bool _)
theorem sameValues_nils : PCall Tryd.prog 28 [.nils, .nils] (.bool true) := by
  refine pcall_of (lits2 .nils .nils) (call28 rfl ?_)
  iterate 8 (all_goals (try conv => whnf); all_goals (try first | with_reducible refine brY (by assumption) ?_ | with_reducible refine brN (by assumption) ?_ | (with_reducible refine brT ?_ ?_; · (simp only [Bool.and_eq_true, Bool.not_eq_true', decide_eq_true_eq, decide_eq_false_iff_not, beq_iff_eq, beq_eq_false_iff_ne, ne_eq] at *; omega)) | with_reducible refine br (fun _ => ?_) (fun _ => ?_) | with_reducible refine ⟨rfl, ?_⟩ | with_reducible refine ARound.succ ?_ | with_reducible refine loop_rounds 2 ?_))
  exact leaf rfl (.bool _)
theorem encOrder_any {a b : List V} (ia : ∀ v ∈ a, v.In') (ib : ∀ v ∈ b, v.In') (ha : a.length ≤ 4611686018427387904) (hb : b.length ≤ 4611686018427387904) :
    PCall Tryd.prog 9 [lstV a, lstV b] (.bool true) := by
  refine pcall_of (lits2 (.lst _ _ _) (.lst _ _ _)) (call9 rfl ?_)
  have ca := tuple_any ia ha
  have cb := tuple_any ib hb
  by_cases hea : ¬ tupE a = 0
  · have q1 : (tupE a != 0) = true := by rw [bne_iff_ne]; exact hea
    iterate 14 (all_goals (try conv => whnf); all_goals (try first | with_reducible refine brY (by assumption) ?_ | with_reducible refine brN (by assumption) ?_ | (with_reducible refine brT ?_ ?_; · (simp only [Bool.and_eq_true, Bool.not_eq_true', decide_eq_true_eq, decide_eq_false_iff_not, beq_iff_eq, beq_eq_false_iff_ne, ne_eq] at *; omega)) | with_reducible refine br (fun _ => ?_) (fun _ => ?_) | with_reducible refine ⟨rfl, ?_⟩ | with_reducible refine ARound.succ ?_ | with_reducible refine PCall.call (lives_any) ?_ | with_reducible refine PCall.call (ca) ?_ | with_reducible refine PCall.call (cb) ?_))
    exact leaf rfl (.bool _)
  have hea : tupE a = 0 := by omega
  rw [hea] at ca
  by_cases heb : ¬ tupE b = 0
  · have q1 : (tupE b != 0) = true := by rw [bne_iff_ne]; exact heb
    iterate 14 (all_goals (try conv => whnf); all_goals (try first | with_reducible refine brY (by assumption) ?_ | with_reducible refine brN (by assumption) ?_ | (with_reducible refine brT ?_ ?_; · (simp only [Bool.and_eq_true, Bool.not_eq_true', decide_eq_true_eq, decide_eq_false_iff_not, beq_iff_eq, beq_eq_false_iff_ne, ne_eq] at *; omega)) | with_reducible refine br (fun _ => ?_) (fun _ => ?_) | with_reducible refine ⟨rfl, ?_⟩ | with_reducible refine ARound.succ ?_ | with_reducible refine PCall.call (lives_any) ?_ | with_reducible refine PCall.call (ca) ?_ | with_reducible refine PCall.call (cb) ?_))
    exact leaf rfl (.bool _)
  have heb : tupE b = 0 := by omega
  rw [heb] at cb
  have one : ∀ {l : List V}, tupE l = 0 → l.length ≤ 16 ∧ l.all okV = true ∧ tupT l = l.flatMap textB := fun {l} h => by
    unfold tupE at h
    unfold tupT
    split at h
    · omega
    · rename_i h16
      cases hk : l.all okV
      · rw [hk] at h; simp at h
      · rw [if_neg h16]; exact ⟨by omega, rfl, rfl⟩
  obtain ⟨a1, a2, a3⟩ := one hea
  obtain ⟨b1, b2, b3⟩ := one heb
  have hS := cmp_texts a2 b2 ia ib
  have hS2 := cmp_texts b2 a2 ib ia
  rw [← a3, ← b3] at hS
  rw [← a3, ← b3] at hS2
  have c1 : PCall Tryd.prog 37 [lstV a, lstV b] (.int .i64 (cmpS (tupT a) (tupT b))) := by rw [hS]; exact compare_any a b ha
  have c2 : PCall Tryd.prog 37 [lstV b, lstV a] (.int .i64 (cmpS (tupT b) (tupT a))) := by rw [hS2]; exact compare_any b a hb
  have hla : (tupT a).length ≤ 140737488351232 := by rw [a3]; have := flat_len a2; omega
  have hlb : (tupT b).length ≤ 140737488351232 := by rw [b3]; have := flat_len b2; omega
  have va := values_any hla
  have vb := values_any hlb
  have ra := read_texts 16 a1 a2 ia
  have rb := read_texts 16 b1 b2 ib
  rw [← a3] at ra
  rw [← b3] at rb
  have ea : vsE (tupT a) = 0 := by unfold vsE; rw [ra]
  have eb : vsE (tupT b) = 0 := by unfold vsE; rw [rb]
  rw [ea] at va
  rw [eb] at vb
  have sv : ∀ l : List V, l.length ≤ 16 → vlsB 16 (tupT l) = some l → PCall Tryd.prog 28 [vsL (tupT l), lstV l] (.bool true) := fun l hl h => by
    unfold vsL
    rw [h]
    cases l with
    | nil => exact sameValues_nil
    | cons v r =>
      have := sameValues_any (a := v :: r) (b := v :: r) (by omega)
      rw [sameL_self] at this
      exact this
  have sa := sv a a1 ra
  have sb := sv b b1 rb
  have tri : cmpS (tupT a) (tupT b) = -1 ∨ cmpS (tupT a) (tupT b) = 0 ∨ cmpS (tupT a) (tupT b) = 1 := by
    unfold cmpS; split
    · exact .inl rfl
    · split
      · exact .inr (.inl rfl)
      · exact .inr (.inr rfl)
  have q1 : (!(decide (cmpS (tupT a) (tupT b) < 0) == strLess (tupT a) (tupT b))) = false := by rw [cmpS_less]; unfold strLess; simp
  have q2 : (!(decide (0 < cmpS (tupT a) (tupT b)) == !(strLess (tupT a) (tupT b) || tupT a == tupT b))) = false := by rw [cmpS_more]; unfold strLess; simp
  have q3 : (!((cmpS (tupT a) (tupT b) == 0) == (tupT a == tupT b))) = false := by rw [cmpS_same]; simp
  have q4 : (cmpS (tupT b) (tupT a) != IntKind.i64.wrap (0 - cmpS (tupT a) (tupT b))) = false := by
    rw [cmpS_neg (tupT a) (tupT b)]
    rcases tri with h | h | h <;> rw [h] <;> rfl
  iterate 50 (all_goals (try conv => whnf); all_goals (try first | with_reducible refine brY (by assumption) ?_ | with_reducible refine brN (by assumption) ?_ | (with_reducible refine brT ?_ ?_; · (simp only [Bool.and_eq_true, Bool.not_eq_true', decide_eq_true_eq, decide_eq_false_iff_not, beq_iff_eq, beq_eq_false_iff_ne, ne_eq] at *; omega)) | with_reducible refine br (fun _ => ?_) (fun _ => ?_) | with_reducible refine ⟨rfl, ?_⟩ | with_reducible refine ARound.succ ?_ | with_reducible refine PCall.call (lives_any) ?_ | with_reducible refine PCall.call (ca) ?_ | with_reducible refine PCall.call (cb) ?_ | with_reducible refine PCall.call (c1) ?_ | with_reducible refine PCall.call (c2) ?_ | with_reducible refine PCall.call (va) ?_ | with_reducible refine PCall.call (vb) ?_ | with_reducible refine PCall.call (sa) ?_ | with_reducible refine PCall.call (sb) ?_))
  all_goals first
    | exact leaf rfl (.bool _)
    | trace_state
end Go.Proofs.YtcklfcagailoiaaDoor
namespace Go.Proofs.YtcklfcagailoiaaDoor
open Ab Go.RowKit
set_option maxRecDepth 100000
set_option linter.unusedVariables false
set_option linter.unusedSimpArgs false
set_option pp.maxSteps 3000
def laterB (w l g w' l' g' : Int) : Bool := decide (0 < or3 (cmpI w w') (cmpI l l') (cmpI g g'))
theorem later_any (w l g w' l' g' : Int) : PCall Tryd.prog 31 [stV w l g, stV w' l' g'] (.bool (laterB w l g w' l' g')) := by
  refine pcall_of (lits2 (stLit _ _ _) (stLit _ _ _)) (call31 rfl ?_)
  iterate 20 (all_goals (try conv => whnf); all_goals (try first | with_reducible refine brY (by assumption) ?_ | with_reducible refine brN (by assumption) ?_ | (with_reducible refine brT ?_ ?_; · (simp only [Bool.and_eq_true, Bool.not_eq_true', decide_eq_true_eq, decide_eq_false_iff_not, beq_iff_eq, beq_eq_false_iff_ne, ne_eq] at *; omega)) | with_reducible refine br (fun _ => ?_) (fun _ => ?_) | with_reducible refine ⟨rfl, ?_⟩ | with_reducible refine ARound.succ ?_ | with_reducible refine PCall.call (cmp64_any _ _) ?_ | with_reducible refine PCall.call (cmp32_any _ _) ?_ | with_reducible refine PCall.call (or_any _ _ _) ?_ | (with_reducible refine ACall.frz (fun i => Nat.beq i 2) (.cons (hard3 rfl) .nil) ?_)))
  exact leaf rfl (.bool _)
/-- A stamp's text as one number. -/
def stN (w l g : Int) : Nat := (9223372036854775807 - w).toNat * 18446744073709551616 + ((2147483647 - l).toNat * 4294967296 + (2147483647 - g).toNat)
theorem stT_len (w l g : Int) : (stT w l g).length = 16 := by simp [stT, beB_len]
section
variable {w l g w' l' g' : Int}
theorem stOk_iff : stOk w l g = true ↔ 0 ≤ w ∧ w ≤ 1099511627776 ∧ 0 ≤ l ∧ l ≤ 1048576 ∧ 0 ≤ g ∧ g ≤ 1048576 := by unfold stOk; rw [decide_eq_true_eq]
theorem beV_stT (h : stOk w l g = true) : beV (stT w l g) = stN w l g := by
  have hb := stOk_iff.1 h
  rw [stT, beV_append, beV_append, beB_len, beV_beB, beV_beB, beV_beB]
  rw [beB_len]
  simp only [Nat.reducePow]
  rw [Nat.mod_eq_of_lt (by omega), Nat.mod_eq_of_lt (by omega), Nat.mod_eq_of_lt (by omega)]
  unfold stN
  omega
theorem less_stT (h : stOk w l g = true) (h' : stOk w' l' g' = true) : strLess (stT w l g) (stT w' l' g') = laterB w l g w' l' g' := by
  unfold strLess
  rw [less_beV (by rw [stT_len, stT_len]), beV_stT h, beV_stT h']
  have hb := stOk_iff.1 h
  have hb' := stOk_iff.1 h'
  unfold laterB
  rw [decide_eq_decide]
  unfold stN or3 cmpI
  split <;> (try split) <;> (try split) <;> (try split) <;> (try split) <;> (try split) <;> omega
theorem same_stT (h : stOk w l g = true) (h' : stOk w' l' g' = true) : (stT w l g == stT w' l' g') = (w == w' && (l == l' && g == g')) := by
  have hb := stOk_iff.1 h
  have hb' := stOk_iff.1 h'
  by_cases he : w = w' ∧ l = l' ∧ g = g'
  · obtain ⟨rfl, rfl, rfl⟩ := he; simp
  · have hn : stT w l g ≠ stT w' l' g' := fun e => by
      have := congrArg beV e
      rw [beV_stT h, beV_stT h'] at this
      unfold stN at this
      omega
    rw [beq_eq_false_iff_ne.2 hn]
    symm
    simp only [Bool.and_eq_false_iff, beq_eq_false_iff_ne]
    omega
theorem le63 {w : Int} (h : 0 ≤ w) : (9223372036854775807 - w).toNat ≤ 9223372036854775807 := by omega
theorem le31 {w : Int} (h : 0 ≤ w) : (2147483647 - w).toNat ≤ 2147483647 := by omega
theorem un_stT (h : stOk w l g = true) : unOk (stT w l g) = true ∧ unW (stT w l g) = w ∧ unL (stT w l g) = l ∧ unG (stT w l g) = g := by
  have hb := stOk_iff.1 h
  have e1 : (stT w l g).take 8 = beB 8 (9223372036854775807 - w).toNat := by unfold stT; rw [List.append_assoc, List.take_append_of_le_length (by rw [beB_len]; omega), List.take_of_length_le (by rw [beB_len]; omega)]
  have e2 : ((stT w l g).drop 8).take 4 = beB 4 (2147483647 - l).toNat := by
    unfold stT
    rw [List.append_assoc, List.drop_append_of_le_length (by rw [beB_len]; omega), List.drop_of_length_le (by rw [beB_len]; omega), List.nil_append, List.take_append_of_le_length (by rw [beB_len]; omega), List.take_of_length_le (by rw [beB_len]; omega)]
  have e3 : ((stT w l g).drop 12).take 4 = beB 4 (2147483647 - g).toNat := by
    unfold stT
    rw [List.drop_append_of_le_length (by rw [List.length_append, beB_len, beB_len]; omega), List.drop_of_length_le (by rw [List.length_append, beB_len, beB_len]; omega), List.nil_append, List.take_of_length_le (by rw [beB_len]; omega)]
  have f1 : beV ((stT w l g).take 8) = (9223372036854775807 - w).toNat := by rw [e1, beV_beB, Nat.mod_eq_of_lt (by simp only [Nat.reducePow]; omega)]
  have f2 : beV (((stT w l g).drop 8).take 4) = (2147483647 - l).toNat := by rw [e2, beV_beB, Nat.mod_eq_of_lt (by simp only [Nat.reducePow]; omega)]
  have f3 : beV (((stT w l g).drop 12).take 4) = (2147483647 - g).toNat := by rw [e3, beV_beB, Nat.mod_eq_of_lt (by simp only [Nat.reducePow]; omega)]
  have g1 : unW (stT w l g) = w := by unfold unW; rw [f1]; omega
  have g2 : unL (stT w l g) = l := by unfold unL; rw [f2]; omega
  have g3 : unG (stT w l g) = g := by unfold unG; rw [f3]; omega
  refine ⟨?_, g1, g2, g3⟩
  have b1 := le63 hb.1
  have b2 := le31 hb.2.2.1
  have b3 := le31 hb.2.2.2.2.1
  have hl := stT_len w l g
  unfold unOk
  rw [g1, g2, g3, f1, f2, f3]
  exact decide_eq_true ⟨hl, b1, b2, b3, h⟩
end
theorem stT_un {s : List UInt8} (h : unOk s = true) : stOk (unW s) (unL s) (unG s) = true ∧ stT (unW s) (unL s) (unG s) = s := by
  unfold unOk at h
  rw [decide_eq_true_eq] at h
  obtain ⟨h1, h2, h3, h4, h5⟩ := h
  refine ⟨h5, ?_⟩
  have e : ∀ (x : Nat) (M : Int), (x : Int) ≤ M → (M - (M - (x : Int))).toNat = x := fun x M h => by omega
  unfold stT unW unL unG
  rw [e _ _ (by omega), e _ _ (by omega), e _ _ (by omega)]
  have q1 := beB_of_beV (s.take 8)
  have q2 := beB_of_beV ((s.drop 8).take 4)
  have q3 := beB_of_beV ((s.drop 12).take 4)
  have l1 : (s.take 8).length = 8 := by simp; omega
  have l2 : ((s.drop 8).take 4).length = 4 := by simp; omega
  have l3 : ((s.drop 12).take 4).length = 4 := by simp; omega
  rw [l1] at q1; rw [l2] at q2; rw [l3] at q3
  rw [q1, q2, q3]
  have r3 : (s.drop 12).take 4 = s.drop 12 := List.take_of_length_le (by simp; omega)
  have r2 : (s.drop 8).take 4 ++ s.drop 12 = s.drop 8 := by
    have := List.take_append_drop 4 (s.drop 8)
    rwa [List.drop_drop] at this
  rw [r3, List.append_assoc, r2, List.take_append_drop]
end Go.Proofs.YtcklfcagailoiaaDoor
namespace Go.Proofs.YtcklfcagailoiaaDoor
open Ab Go.RowKit
set_option maxRecDepth 100000
set_option linter.unusedVariables false
set_option linter.unusedSimpArgs false
set_option pp.maxSteps 3000
theorem stampY {w l g : Int} (h : stOk w l g = true) : PCall Tryd.prog 29 [stV w l g] (.tup [.str (stT w l g), .int .i64 0]) := by
  have := stampS_any w l g; simpa [h] using this
theorem stampN {w l g : Int} (h : stOk w l g = false) : PCall Tryd.prog 29 [stV w l g] (.tup [.str [], .int .i64 2]) := by
  have := stampS_any w l g; simpa [h] using this
theorem unstampY {s : List UInt8} (h : unOk s = true) : PCall Tryd.prog 30 [.str s] (.tup [stV (unW s) (unL s) (unG s), .int .i64 0]) := by
  have := unstamp_any s; rwa [unV_yes h] at this
theorem unstampN {s : List UInt8} (h : unOk s = false) : PCall Tryd.prog 30 [.str s] (.tup [stV 0 0 0, .int .i64 5]) := by
  have := unstamp_any s; rwa [unV_no h] at this
section
variable {w l g w' l' g' : Int} {s : List UInt8}
theorem unstampT (h : stOk w l g = true) : PCall Tryd.prog 30 [.str (stT w l g)] (.tup [stV w l g, .int .i64 0]) := by
  obtain ⟨h1, h2, h3, h4⟩ := un_stT h
  have := unstampY h1
  rwa [h2, h3, h4] at this
theorem stampU (h : unOk s = true) : PCall Tryd.prog 29 [stV (unW s) (unL s) (unG s)] (.tup [.str s, .int .i64 0]) := by
  obtain ⟨h1, h2⟩ := stT_un h
  have := stampY h1
  rwa [h2] at this
theorem encStamps_run {ta tb : List UInt8} {ea eb : Int} (c1 : PCall Tryd.prog 29 [stV w l g] (.tup [.str ta, .int .i64 ea])) (c2 : PCall Tryd.prog 29 [stV w' l' g'] (.tup [.str tb, .int .i64 eb]))
    (hab : ea ≠ 0 ∨ eb ≠ 0 ∨ (PCall Tryd.prog 30 [.str ta] (.tup [stV w l g, .int .i64 0]) ∧ ta.length = 16 ∧ laterB w l g w' l' g' = strLess ta tb ∧ (w == w' && (l == l' && g == g')) = (ta == tb))) :
    PCall Tryd.prog 7 [stV w l g, stV w' l' g', .str s] (.bool true) := by
  refine pcall_of (lits3 (stLit _ _ _) (stLit _ _ _) (.str _)) (call7 rfl ?_)
  cases hu : unOk s
  · have u := unstampN hu
    by_cases ha : ea = 0 ∧ eb = 0
    · obtain ⟨rfl, rfl⟩ := ha
      rcases hab with h | h | ⟨h1, h2, h3, h4⟩
      · exact absurd rfl h
      · exact absurd rfl h
      iterate 34 (all_goals (try conv => whnf); all_goals (try first | with_reducible refine brY (by assumption) ?_ | with_reducible refine brN (by assumption) ?_ | (with_reducible refine brT ?_ ?_; · (simp only [Bool.and_eq_true, Bool.not_eq_true', decide_eq_true_eq, decide_eq_false_iff_not, beq_iff_eq, beq_eq_false_iff_ne, ne_eq] at *; omega)) | with_reducible refine br (fun _ => ?_) (fun _ => ?_) | with_reducible refine ⟨rfl, ?_⟩ | with_reducible refine ARound.succ ?_ | with_reducible refine PCall.call (c1) ?_ | with_reducible refine PCall.call (c2) ?_ | with_reducible refine PCall.call (lives_any) ?_ | with_reducible refine PCall.call (u) ?_ | with_reducible refine PCall.call (h1) ?_ | with_reducible refine PCall.call (later_any _ _ _ _ _ _) ?_))
      all_goals first
        | exact leaf rfl (.bool _)
        | (exfalso; simp_all; done)
        | (refine leaf ?_ (.bool _); simp [h4]; done)
    · clear hab
      iterate 34 (all_goals (try conv => whnf); all_goals (try first | with_reducible refine brY (by assumption) ?_ | with_reducible refine brN (by assumption) ?_ | (with_reducible refine brT ?_ ?_; · (simp only [Bool.and_eq_true, Bool.not_eq_true', decide_eq_true_eq, decide_eq_false_iff_not, beq_iff_eq, beq_eq_false_iff_ne, ne_eq] at *; omega)) | with_reducible refine br (fun _ => ?_) (fun _ => ?_) | with_reducible refine ⟨rfl, ?_⟩ | with_reducible refine ARound.succ ?_ | with_reducible refine PCall.call (c1) ?_ | with_reducible refine PCall.call (c2) ?_ | with_reducible refine PCall.call (lives_any) ?_ | with_reducible refine PCall.call (u) ?_))
      all_goals first
        | exact leaf rfl (.bool _)
        | (exfalso; simp_all; done)
  · have u := unstampY hu
    have u2 := stampU hu
    by_cases ha : ea = 0 ∧ eb = 0
    · obtain ⟨rfl, rfl⟩ := ha
      rcases hab with h | h | ⟨h1, h2, h3, h4⟩
      · exact absurd rfl h
      · exact absurd rfl h
      iterate 34 (all_goals (try conv => whnf); all_goals (try first | with_reducible refine brY (by assumption) ?_ | with_reducible refine brN (by assumption) ?_ | (with_reducible refine brT ?_ ?_; · (simp only [Bool.and_eq_true, Bool.not_eq_true', decide_eq_true_eq, decide_eq_false_iff_not, beq_iff_eq, beq_eq_false_iff_ne, ne_eq] at *; omega)) | with_reducible refine br (fun _ => ?_) (fun _ => ?_) | with_reducible refine ⟨rfl, ?_⟩ | with_reducible refine ARound.succ ?_ | with_reducible refine PCall.call (c1) ?_ | with_reducible refine PCall.call (c2) ?_ | with_reducible refine PCall.call (lives_any) ?_ | with_reducible refine PCall.call (u) ?_ | with_reducible refine PCall.call (u2) ?_ | with_reducible refine PCall.call (h1) ?_ | with_reducible refine PCall.call (later_any _ _ _ _ _ _) ?_))
      all_goals first
        | exact leaf rfl (.bool _)
        | (exfalso; simp_all; done)
        | (refine leaf ?_ (.bool _); simp [h4]; done)
    · clear hab
      iterate 34 (all_goals (try conv => whnf); all_goals (try first | with_reducible refine brY (by assumption) ?_ | with_reducible refine brN (by assumption) ?_ | (with_reducible refine brT ?_ ?_; · (simp only [Bool.and_eq_true, Bool.not_eq_true', decide_eq_true_eq, decide_eq_false_iff_not, beq_iff_eq, beq_eq_false_iff_ne, ne_eq] at *; omega)) | with_reducible refine br (fun _ => ?_) (fun _ => ?_) | with_reducible refine ⟨rfl, ?_⟩ | with_reducible refine ARound.succ ?_ | with_reducible refine PCall.call (c1) ?_ | with_reducible refine PCall.call (c2) ?_ | with_reducible refine PCall.call (lives_any) ?_ | with_reducible refine PCall.call (u) ?_ | with_reducible refine PCall.call (u2) ?_))
      all_goals first
        | exact leaf rfl (.bool _)
        | (exfalso; simp_all; done)
theorem encStamps_any : PCall Tryd.prog 7 [stV w l g, stV w' l' g', .str s] (.bool true) := by
  cases h : stOk w l g
  · exact encStamps_run (stampS_any w l g) (stampS_any w' l' g') (.inl (by simp [h]))
  cases h' : stOk w' l' g'
  · exact encStamps_run (stampS_any w l g) (stampS_any w' l' g') (.inr (.inl (by simp [h'])))
  · exact encStamps_run (stampY h) (stampY h') (.inr (.inr ⟨unstampT h, stT_len _ _ _, (less_stT h h').symm, (same_stT h h').symm⟩))
end
end Go.Proofs.YtcklfcagailoiaaDoor
namespace Go.Proofs.YtcklfcagailoiaaDoor
open Ab
set_option maxRecDepth 100000
set_option linter.unusedVariables false
set_option linter.unusedSimpArgs false
structure AftS (s : List UInt8) where
  n : Nat
  hn : n ≤ s.length
  he : afterR s = afterR (s.take n)
theorem after_any {s : List UInt8} (hs : s.length ≤ 9223372036854775807) : PCall Tryd.prog 17 [.str s] (.str (afterR s)) := by
  refine pcall_of (lits1 (.str _)) (call17 rfl ?_)
  iterate 1 (all_goals (try conv => whnf); all_goals (try first | with_reducible refine brY (by assumption) ?_ | with_reducible refine brN (by assumption) ?_ | (with_reducible refine brT ?_ ?_; · (simp only [Bool.and_eq_true, Bool.not_eq_true', decide_eq_true_eq, decide_eq_false_iff_not, beq_iff_eq, beq_eq_false_iff_ne, ne_eq] at *; omega)) | with_reducible refine br (fun _ => ?_) (fun _ => ?_) | with_reducible refine ⟨rfl, ?_⟩ | with_reducible refine ARound.succ ?_))
  refine loop_ind (σ := AftS s) (fun q => [(0, SV.str s), (2, SV.str []), (3, SV.int IntKind.i64 q.n)]) (fun _ => ⟨0, []⟩) (fun q => q.n) ?_ ⟨s.length, Nat.le_refl _, by rw [List.take_length]⟩
  rintro ⟨n, hn, he⟩
  dsimp only
  by_cases h0 : n = 0
  · subst h0
    iterate 3 (all_goals (try conv => whnf); all_goals (try first | with_reducible refine brY (by assumption) ?_ | with_reducible refine brN (by assumption) ?_ | (with_reducible refine brT ?_ ?_; · (simp only [Bool.and_eq_true, Bool.not_eq_true', decide_eq_true_eq, decide_eq_false_iff_not, beq_iff_eq, beq_eq_false_iff_ne, ne_eq] at *; omega)) | with_reducible refine br (fun _ => ?_) (fun _ => ?_) | with_reducible refine ⟨rfl, ?_⟩ | with_reducible refine ARound.succ ?_))
    refine leaf ?_ (.str _)
    rw [he]; rfl
  have e1 : IntKind.i64.wrap ((n : Int) - 1) = ((n - 1 : Nat) : Int) := w64sub (by omega) (by omega)
  have et := take_succ_getD (s := s) (n := n - 1) (by omega)
  rw [show n - 1 + 1 = n by omega] at et
  rw [et, afterR_snoc] at he
  iterate 10 (all_goals (try conv => whnf); all_goals (try first | with_reducible refine brY (by assumption) ?_ | with_reducible refine brN (by assumption) ?_ | (with_reducible refine brT ?_ ?_; · (simp only [Bool.and_eq_true, Bool.not_eq_true', decide_eq_true_eq, decide_eq_false_iff_not, beq_iff_eq, beq_eq_false_iff_ne, ne_eq] at *; omega)) | with_reducible refine br (fun _ => ?_) (fun _ => ?_) | with_reducible refine ⟨rfl, ?_⟩ | with_reducible refine ARound.succ ?_))
  all_goals simp only [e1, Int.toNat_natCast, Int.toNat_zero, Nat.sub_zero, List.drop_zero, Bool.and_eq_true, Bool.and_eq_false_iff, decide_eq_true_eq, decide_eq_false_iff_not, List.length_take, List.length_singleton] at *
  · rename_i h2 h3
    have h5 : s.getD (n - 1) 0 < 255 := u8_lt_iff.2 (by have : (255 : UInt8).toNat = 255 := rfl; omega)
    refine leaf ?_ (.str _)
    rw [he, if_pos h5, u8_succ h5]
  · omega
  · rename_i h3
    have h5 : ¬ s.getD (n - 1) 0 < 255 := fun h => h3 (by have h := u8_lt_iff.1 h; have : (255 : UInt8).toNat = 255 := rfl; omega)
    exact ⟨⟨n - 1, by omega, by rw [he, if_neg h5]⟩, by dsimp only; omega, rfl, trivial⟩
  · omega
theorem in_any (k a b : List UInt8) : PCall Tryd.prog 18 [.str k, .agg [.str a, .str b]] (.bool (inB k a b)) := by
  refine pcall_of (lits2 (.str _) (.agg (by simp; exact ⟨.str _, .str _⟩))) (call18 rfl ?_)
  iterate 10 (all_goals (try conv => whnf); all_goals (try first | with_reducible refine brY (by assumption) ?_ | with_reducible refine brN (by assumption) ?_ | (with_reducible refine brT ?_ ?_; · (simp only [Bool.and_eq_true, Bool.not_eq_true', decide_eq_true_eq, decide_eq_false_iff_not, beq_iff_eq, beq_eq_false_iff_ne, ne_eq] at *; omega)) | with_reducible refine br (fun _ => ?_) (fun _ => ?_) | with_reducible refine ⟨rfl, ?_⟩ | with_reducible refine ARound.succ ?_))
  · rename_i h1 h2
    exact leaf (by unfold inB strLess at *; rw [h1, h2]; rfl) (.bool _)
  · rename_i h1 h2
    exact leaf (by unfold inB strLess at *; rw [h1, h2]; simp) (.bool _)
  · rename_i h1
    exact leaf (by unfold inB strLess at *; rw [h1]; rfl) (.bool _)
end Go.Proofs.YtcklfcagailoiaaDoor
namespace Go.Proofs.YtcklfcagailoiaaDoor
open Ab Go.RowKit
set_option maxRecDepth 100000
set_option linter.unusedVariables false
set_option linter.unusedSimpArgs false
set_option pp.maxSteps 3000
theorem refIn_any (k a b : List UInt8) : PCall Tryd.prog 35 [.str k, .agg [.str a, .str b]] (.bool (inB k a b)) := by
  refine pcall_of (lits2 (.str _) (.agg (by simp; exact ⟨.str _, .str _⟩))) (call35 rfl ?_)
  iterate 10 (all_goals (try conv => whnf); all_goals (try first | with_reducible refine brY (by assumption) ?_ | with_reducible refine brN (by assumption) ?_ | (with_reducible refine brT ?_ ?_; · (simp only [Bool.and_eq_true, Bool.not_eq_true', decide_eq_true_eq, decide_eq_false_iff_not, beq_iff_eq, beq_eq_false_iff_ne, ne_eq] at *; omega)) | with_reducible refine br (fun _ => ?_) (fun _ => ?_) | with_reducible refine ⟨rfl, ?_⟩ | with_reducible refine ARound.succ ?_))
  · rename_i h1 h2
    exact leaf (by unfold inB strLess at *; rw [h1, h2]; rfl) (.bool _)
  · rename_i h1 h2
    exact leaf (by unfold inB strLess at *; rw [h1, h2]; simp) (.bool _)
  · rename_i h1
    exact leaf (by unfold inB strLess at *; rw [h1]; rfl) (.bool _)
theorem refLater_any (w l g w' l' g' : Int) : PCall Tryd.prog 36 [stV w l g, stV w' l' g'] (.bool (laterB w l g w' l' g')) := by
  refine pcall_of (lits2 (stLit _ _ _) (stLit _ _ _)) (call36 rfl ?_)
  iterate 10 (all_goals (try conv => whnf); all_goals (try first | with_reducible refine brY (by assumption) ?_ | with_reducible refine brN (by assumption) ?_ | (with_reducible refine brT ?_ ?_; · (simp only [Bool.and_eq_true, Bool.not_eq_true', decide_eq_true_eq, decide_eq_false_iff_not, beq_iff_eq, beq_eq_false_iff_ne, ne_eq] at *; omega)) | with_reducible refine br (fun _ => ?_) (fun _ => ?_) | with_reducible refine ⟨rfl, ?_⟩ | with_reducible refine ARound.succ ?_))
  all_goals (refine leaf ?_ (.bool _); congr 1; unfold laterB or3 cmpI; symm)
  all_goals simp only [bne_iff_ne, ne_eq, bne_eq_false_iff_eq] at *
  all_goals first
    | (rw [decide_eq_decide]; split <;> (try split) <;> (try split) <;> (try split) <;> (try split) <;> (try split) <;> omega)
theorem refAfter_any {s : List UInt8} (hs : s.length ≤ 9223372036854775807) : PCall Tryd.prog 34 [.str s] (.str (afterR s)) := by
  refine pcall_of (lits1 (.str _)) (call34 rfl ?_)
  iterate 1 (all_goals (try conv => whnf); all_goals (try first | with_reducible refine brY (by assumption) ?_ | with_reducible refine brN (by assumption) ?_ | (with_reducible refine brT ?_ ?_; · (simp only [Bool.and_eq_true, Bool.not_eq_true', decide_eq_true_eq, decide_eq_false_iff_not, beq_iff_eq, beq_eq_false_iff_ne, ne_eq] at *; omega)) | with_reducible refine br (fun _ => ?_) (fun _ => ?_) | with_reducible refine ⟨rfl, ?_⟩ | with_reducible refine ARound.succ ?_))
  refine loop_ind (σ := AftS s) (fun q => [(0, SV.str s), (2, SV.str []), (3, SV.int IntKind.i64 q.n)]) (fun _ => ⟨0, []⟩) (fun q => q.n) ?_ ⟨s.length, Nat.le_refl _, by rw [List.take_length]⟩
  rintro ⟨n, hn, he⟩
  dsimp only
  by_cases h0 : n = 0
  · subst h0
    iterate 3 (all_goals (try conv => whnf); all_goals (try first | with_reducible refine brY (by assumption) ?_ | with_reducible refine brN (by assumption) ?_ | (with_reducible refine brT ?_ ?_; · (simp only [Bool.and_eq_true, Bool.not_eq_true', decide_eq_true_eq, decide_eq_false_iff_not, beq_iff_eq, beq_eq_false_iff_ne, ne_eq] at *; omega)) | with_reducible refine br (fun _ => ?_) (fun _ => ?_) | with_reducible refine ⟨rfl, ?_⟩ | with_reducible refine ARound.succ ?_))
    refine leaf ?_ (.str _)
    rw [he]; rfl
  have e1 : IntKind.i64.wrap ((n : Int) - 1) = ((n - 1 : Nat) : Int) := w64sub (by omega) (by omega)
  have et := take_succ_getD (s := s) (n := n - 1) (by omega)
  rw [show n - 1 + 1 = n by omega] at et
  rw [et, afterR_snoc] at he
  iterate 10 (all_goals (try conv => whnf); all_goals (try first | with_reducible refine brY (by assumption) ?_ | with_reducible refine brN (by assumption) ?_ | (with_reducible refine brT ?_ ?_; · (simp only [Bool.and_eq_true, Bool.not_eq_true', decide_eq_true_eq, decide_eq_false_iff_not, beq_iff_eq, beq_eq_false_iff_ne, ne_eq] at *; omega)) | with_reducible refine br (fun _ => ?_) (fun _ => ?_) | with_reducible refine ⟨rfl, ?_⟩ | with_reducible refine ARound.succ ?_))
  all_goals simp only [e1, Int.toNat_natCast, Int.toNat_zero, Nat.sub_zero, List.drop_zero, Bool.and_eq_true, Bool.and_eq_false_iff, decide_eq_true_eq, decide_eq_false_iff_not, List.length_take, List.length_singleton, beq_iff_eq, beq_eq_false_iff_ne, ne_eq] at *
  · rename_i h2 h3
    have h5 : ¬ s.getD (n - 1) 0 < 255 := fun h => by have h := u8_lt_iff.1 h; have : (255 : UInt8).toNat = 255 := rfl; omega
    exact ⟨⟨n - 1, by omega, by rw [he, if_neg h5]⟩, by dsimp only; omega, rfl, trivial⟩
  · omega
  · rename_i h2 h3 h4 h5
    have hb := (s.getD (n - 1) 0).toNat_lt
    have h5 : s.getD (n - 1) 0 < 255 := u8_lt_iff.2 (by have : (255 : UInt8).toNat = 255 := rfl; omega)
    refine leaf ?_ (.str _)
    rw [he, if_pos h5, u8_succ h5]
  · omega
  all_goals omega
theorem mul_add_by {x : Nat} (b : UInt8) (hx : x < 72057594037927936) : IntKind.u64.wrap (IntKind.u64.wrap ((x : Int) * 256) + IntKind.u64.wrap (b.toNat : Int)) = ((x * 256 + b.toNat : Nat) : Int) := by
  have hb := b.toNat_lt
  rw [wu64 (x := (x : Int) * 256) (by omega) (by omega), wu64 (x := (b.toNat : Int)) (by omega) (by omega), wu64 (by omega) (by omega)]
  omega
theorem refUnstamp_any (s : List UInt8) : PCall Tryd.prog 33 [.str s] (unV s) := by
  refine pcall_of (lits1 (.str _)) (call33 rfl ?_)
  by_cases h16 : ¬ s.length = 16
  · have hno : unOk s = false := by unfold unOk; simp [h16]
    have hb : ((s.length : Int) != 16) = true := by rw [bne_iff_ne]; omega
    iterate 6 (all_goals (try conv => whnf); all_goals (try first | with_reducible refine brY (by assumption) ?_ | with_reducible refine brN (by assumption) ?_ | (with_reducible refine brT ?_ ?_; · (simp only [Bool.and_eq_true, Bool.not_eq_true', decide_eq_true_eq, decide_eq_false_iff_not, beq_iff_eq, beq_eq_false_iff_ne, ne_eq] at *; omega)) | with_reducible refine br (fun _ => ?_) (fun _ => ?_) | with_reducible refine ⟨rfl, ?_⟩ | with_reducible refine ARound.succ ?_))
    exact leaf (unV_no hno).symm (unlit s)
  have h16 : s.length = 16 := by omega
  have hb : ((s.length : Int) != 16) = false := by rw [bne_eq_false_iff_eq]; omega
  have key : beV (s.take 8) ≤ 9223372036854775807 → beV ((s.drop 8).take 4) ≤ 2147483647 → beV ((s.drop 12).take 4) ≤ 2147483647 → unOk s = stOk (unW s) (unL s) (unG s) := fun a b c => by
    unfold unOk
    cases hk : stOk (unW s) (unL s) (unG s)
    · rw [decide_eq_false_iff_not]; rintro ⟨_, _, _, _, h⟩; exact Bool.noConfusion h
    · rw [decide_eq_true_eq]; exact ⟨h16, a, b, c, rfl⟩
  iterate 2 (all_goals (try conv => whnf); all_goals (try first | with_reducible refine brY (by assumption) ?_ | with_reducible refine brN (by assumption) ?_ | (with_reducible refine brT ?_ ?_; · (simp only [Bool.and_eq_true, Bool.not_eq_true', decide_eq_true_eq, decide_eq_false_iff_not, beq_iff_eq, beq_eq_false_iff_ne, ne_eq] at *; omega)) | with_reducible refine br (fun _ => ?_) (fun _ => ?_) | with_reducible refine ⟨rfl, ?_⟩ | with_reducible refine ARound.succ ?_))
  have p8 : (256 : Nat) ^ 8 = 18446744073709551616 := by decide
  have p7 : (256 : Nat) ^ 7 = 72057594037927936 := by decide
  have p4 : (256 : Nat) ^ 4 = 4294967296 := by decide
  refine loop_ind (σ := {k : Nat // k ≤ 8}) (fun q => [(0, SV.str s), (2, SV.ref 0 0 0 0), (3, SV.int IntKind.i64 0), (12, SV.bool false), (4, SV.int IntKind.u64 (beV (s.take q.1))), (5, SV.int IntKind.u64 0), (6, SV.int IntKind.u64 0), (7, SV.int IntKind.i64 q.1)])
    (fun _ => ⟨1, [(0, .vec 0 3 [.agg [.int .i64 0, .int .i32 0, .int .i32 0]] ⟨false, some 51⟩)]⟩) (fun q => 8 - q.1) ?_ ⟨0, Nat.zero_le _⟩
  rintro ⟨k, hk⟩
  dsimp only
  by_cases hk8 : k < 8
  · have hd : decide ((k : Int) < 8) = true := decide_eq_true (by omega)
    have hlt := beV_take_lt s k
    have hpk : 256 ^ k ≤ 256 ^ 7 := Nat.pow_le_pow_right (by decide) (by omega)
    have e2 := mul_add_by (x := beV (s.take k)) (s.getD k 0) (by omega)
    rw [← beV_take (by omega)] at e2
    have e3 : IntKind.i64.wrap ((k : Int) + 1) = ((k + 1 : Nat) : Int) := w64add (by omega)
    iterate 10 (all_goals (try conv => whnf); all_goals (try first | with_reducible refine brY (by assumption) ?_ | with_reducible refine brN (by assumption) ?_ | (with_reducible refine brT ?_ ?_; · (simp only [Bool.and_eq_true, Bool.not_eq_true', decide_eq_true_eq, decide_eq_false_iff_not, beq_iff_eq, beq_eq_false_iff_ne, ne_eq] at *; omega)) | with_reducible refine br (fun _ => ?_) (fun _ => ?_) | with_reducible refine ⟨rfl, ?_⟩ | with_reducible refine ARound.succ ?_))
    refine ⟨⟨k + 1, by omega⟩, by dsimp only; omega, ?_, rfl⟩
    rw [e3, Int.toNat_natCast, e2]
  have hk8 : k = 8 := by omega
  subst hk8
  have hd : decide (((8 : Nat) : Int) < 8) = false := by decide
  iterate 4 (all_goals (try conv => whnf); all_goals (try first | with_reducible refine brY (by assumption) ?_ | with_reducible refine brN (by assumption) ?_ | (with_reducible refine brT ?_ ?_; · (simp only [Bool.and_eq_true, Bool.not_eq_true', decide_eq_true_eq, decide_eq_false_iff_not, beq_iff_eq, beq_eq_false_iff_ne, ne_eq] at *; omega)) | with_reducible refine br (fun _ => ?_) (fun _ => ?_) | with_reducible refine ⟨rfl, ?_⟩ | with_reducible refine ARound.succ ?_))
  refine loop_ind (σ := {k : Nat // k ≤ 4}) (fun q => [(0, SV.str s), (2, SV.ref 0 0 0 0), (3, SV.int IntKind.i64 0), (12, SV.bool false), (4, SV.int IntKind.u64 (beV (s.take 8))), (5, SV.int IntKind.u64 (beV ((s.drop 8).take q.1))), (6, SV.int IntKind.u64 (beV ((s.drop 12).take q.1))), (7, SV.int IntKind.i64 ((8 : Nat) : Int)), (15, SV.bool false), (8, SV.int IntKind.i64 ((8 + q.1 : Nat) : Int))])
    (fun _ => ⟨1, [(0, .vec 0 3 [.agg [.int .i64 0, .int .i32 0, .int .i32 0]] ⟨false, some 51⟩)]⟩) (fun q => 4 - q.1) ?_ ⟨0, Nat.zero_le _⟩
  rintro ⟨k, hk⟩
  dsimp only
  by_cases hk4 : k < 4
  · have hd : decide (((8 + k : Nat) : Int) < 12) = true := decide_eq_true (by omega)
    have hpk : 256 ^ k ≤ 256 ^ 4 := Nat.pow_le_pow_right (by decide) (by omega)
    have hlt := beV_take_lt (s.drop 8) k
    have hlt' := beV_take_lt (s.drop 12) k
    have g1 : (s.drop 8).getD k 0 = s.getD (8 + k) 0 := by simp [List.getD]
    have g2 : (s.drop 12).getD k 0 = s.getD (12 + k) 0 := by simp [List.getD]
    have e2 := mul_add_by (x := beV ((s.drop 8).take k)) (s.getD (8 + k) 0) (by omega)
    rw [← g1, ← beV_take (by simp; omega), g1] at e2
    have e2' := mul_add_by (x := beV ((s.drop 12).take k)) (s.getD (12 + k) 0) (by omega)
    rw [← g2, ← beV_take (by simp; omega), g2] at e2'
    have e3 : IntKind.i64.wrap (((8 + k : Nat) : Int) + 1) = ((8 + (k + 1) : Nat) : Int) := w64add (by omega)
    have e4 : IntKind.i64.wrap (((8 + k : Nat) : Int) + 4) = ((12 + k : Nat) : Int) := by rw [w64 (by omega) (by omega)]; omega
    iterate 12 (all_goals (try conv => whnf); all_goals (try first | with_reducible refine brY (by assumption) ?_ | with_reducible refine brN (by assumption) ?_ | (with_reducible refine brT ?_ ?_; · (simp only [Bool.and_eq_true, Bool.not_eq_true', decide_eq_true_eq, decide_eq_false_iff_not, beq_iff_eq, beq_eq_false_iff_ne, ne_eq] at *; omega)) | with_reducible refine br (fun _ => ?_) (fun _ => ?_) | with_reducible refine ⟨rfl, ?_⟩ | with_reducible refine ARound.succ ?_))
    refine ⟨⟨k + 1, by omega⟩, by dsimp only; omega, ?_, rfl⟩
    rw [e3, e4, Int.toNat_natCast, Int.toNat_natCast, e2, e2']
  have hk4 : k = 4 := by omega
  subst hk4
  have hd : decide (((8 + 4 : Nat) : Int) < 12) = false := by decide
  have b1 := beV_take_lt s 8
  have b2 := beV_take_lt (s.drop 8) 4
  have b3 := beV_take_lt (s.drop 12) 4
  have uw' : ∀ x : Nat, x ≤ 9223372036854775807 → IntKind.i64.wrap (IntKind.u64.wrap (9223372036854775807 - (x : Int))) = 9223372036854775807 - (x : Int) := fun x h => by rw [wu64 (by omega) (by omega), w64 (by omega) (by omega)]
  have ul' : ∀ x : Nat, x ≤ 2147483647 → IntKind.i32.wrap (IntKind.u64.wrap (2147483647 - (x : Int))) = 2147483647 - (x : Int) := fun x h => by rw [wu64 (by omega) (by omega), IntKind.wrap_i32]; omega
  iterate 12 (all_goals (try conv => whnf); all_goals (try first | with_reducible refine brY (by assumption) ?_ | with_reducible refine brN (by assumption) ?_ | (with_reducible refine brT ?_ ?_; · (simp only [Bool.and_eq_true, Bool.not_eq_true', decide_eq_true_eq, decide_eq_false_iff_not, beq_iff_eq, beq_eq_false_iff_ne, ne_eq] at *; omega)) | with_reducible refine br (fun _ => ?_) (fun _ => ?_) | with_reducible refine ⟨rfl, ?_⟩ | with_reducible refine ARound.succ ?_))
  all_goals simp only [decide_eq_true_eq, decide_eq_false_iff_not] at *
  all_goals first
    | (refine leaf ((unV_no ?_).symm) (unlit s); unfold unOk; rw [decide_eq_false_iff_not]; omega)
    | skip
  all_goals have q1 := uw' (beV (s.take 8)) (by omega)
  all_goals have q2 := ul' (beV ((s.drop 8).take 4)) (by omega)
  all_goals have q3 := ul' (beV ((s.drop 12).take 4)) (by omega)
  all_goals have q4 := key (by omega) (by omega) (by omega)
  all_goals first
    | (refine leaf ((unV_no ?_).symm) (unlit s); rw [q4]; unfold stOk unW unL unG; rw [decide_eq_false_iff_not]; omega)
    | (rw [q1, q2, q3]; refine leaf ((unV_yes ?_).symm) (unlit s); rw [q4]; unfold stOk unW unL unG; rw [decide_eq_true_eq]; omega)
    | trace_state
end Go.Proofs.YtcklfcagailoiaaDoor
namespace Go.Proofs.YtcklfcagailoiaaDoor
open Ab Go.RowKit
set_option maxRecDepth 100000
set_option linter.unusedVariables false
set_option linter.unusedSimpArgs false
set_option pp.maxSteps 3000
theorem tabsE : TabsOk Tryd.prog [(70, t70)] := .cons tab70 .nil
/-- A byte of a number that the document's answer shifts. -/
theorem eight_a {x : Int} {o : AObj} {R : AEnd → Heap → Prop}
    (h : R (.ret (.sl 2 7 1 0 8 none)) ⟨10, [(9, .vec 0 1 [byE x 0] ⟨false, some 5⟩), (8, .vec 0 1 [byE x 8] ⟨false, some 5⟩), (7, .vec 0 1 [byE x 16] ⟨false, some 5⟩), (6, .vec 0 1 [byE x 24] ⟨false, some 5⟩), (5, .vec 0 1 [byE x 32] ⟨false, some 5⟩), (4, .vec 0 1 [byE x 40] ⟨false, some 5⟩), (3, .vec 0 1 [byE x 48] ⟨false, some 5⟩), (2, .vec 7 1 [byE x 56, byE x 48, byE x 40, byE x 32, byE x 24, byE x 16, byE x 8, byE x 0] ⟨true, some 5⟩), (1, .vec 0 1 [byE x 56] ⟨false, some 5⟩), (0, o)]⟩) :
    ACall Tryd.prog 70 [.int .u64 x] ⟨1, [(0, o)]⟩ R :=
  (lvl_sound mixed tabsE 30).1.call _ _ _ _ (Eq.mpr (show (lvl Tryd.prog [(70, t70)] 30).1.call 70 [.int .u64 x] ⟨1, [(0, o)]⟩ R = R (.ret (.sl 2 7 1 0 8 none)) ⟨10, [(9, .vec 0 1 [byE x 0] ⟨false, some 5⟩), (8, .vec 0 1 [byE x 8] ⟨false, some 5⟩), (7, .vec 0 1 [byE x 16] ⟨false, some 5⟩), (6, .vec 0 1 [byE x 24] ⟨false, some 5⟩), (5, .vec 0 1 [byE x 32] ⟨false, some 5⟩), (4, .vec 0 1 [byE x 40] ⟨false, some 5⟩), (3, .vec 0 1 [byE x 48] ⟨false, some 5⟩), (2, .vec 7 1 [byE x 56, byE x 48, byE x 40, byE x 32, byE x 24, byE x 16, byE x 8, byE x 0] ⟨true, some 5⟩), (1, .vec 0 1 [byE x 56] ⟨false, some 5⟩), (0, o)]⟩ by kernel_rfl) h)
theorem eight_b {x : Int} {R : AEnd → Heap → Prop}
    (h : R (.ret (.sl 1 7 1 0 8 none)) ⟨9, [(8, .vec 0 1 [byE x 0] ⟨false, some 5⟩), (7, .vec 0 1 [byE x 8] ⟨false, some 5⟩), (6, .vec 0 1 [byE x 16] ⟨false, some 5⟩), (5, .vec 0 1 [byE x 24] ⟨false, some 5⟩), (4, .vec 0 1 [byE x 32] ⟨false, some 5⟩), (3, .vec 0 1 [byE x 40] ⟨false, some 5⟩), (2, .vec 0 1 [byE x 48] ⟨false, some 5⟩), (1, .vec 7 1 [byE x 56, byE x 48, byE x 40, byE x 32, byE x 24, byE x 16, byE x 8, byE x 0] ⟨true, some 5⟩), (0, .vec 0 1 [byE x 56] ⟨false, some 5⟩)]⟩) :
    ACall Tryd.prog 70 [.int .u64 x] ⟨0, []⟩ R :=
  (lvl_sound mixed tabsE 30).1.call _ _ _ _ (Eq.mpr (show (lvl Tryd.prog [(70, t70)] 30).1.call 70 [.int .u64 x] ⟨0, []⟩ R = R (.ret (.sl 1 7 1 0 8 none)) ⟨9, [(8, .vec 0 1 [byE x 0] ⟨false, some 5⟩), (7, .vec 0 1 [byE x 8] ⟨false, some 5⟩), (6, .vec 0 1 [byE x 16] ⟨false, some 5⟩), (5, .vec 0 1 [byE x 24] ⟨false, some 5⟩), (4, .vec 0 1 [byE x 32] ⟨false, some 5⟩), (3, .vec 0 1 [byE x 40] ⟨false, some 5⟩), (2, .vec 0 1 [byE x 48] ⟨false, some 5⟩), (1, .vec 7 1 [byE x 56, byE x 48, byE x 40, byE x 32, byE x 24, byE x 16, byE x 8, byE x 0] ⟨true, some 5⟩), (0, .vec 0 1 [byE x 56] ⟨false, some 5⟩)]⟩ by kernel_rfl) h)
def eightG (x : Int) (i : Nat) : SV := List.getD [byE x 56, byE x 48, byE x 40, byE x 32, byE x 24, byE x 16, byE x 8, byE x 0] i .undef
theorem eight_any (x : Int) : PCall Tryd.prog 70 [.int .u64 x] (.lst 1 8 (eightG x)) :=
  pcall_of (lits1 (.int _ _)) (eight_b ⟨_, rfl, hard_all (elems := [byE x 56, byE x 48, byE x 40, byE x 32, byE x 24, byE x 16, byE x 8, byE x 0]) (get := eightG x) rfl ⟨rfl, .int _ _, rfl, .int _ _, rfl, .int _ _, rfl, .int _ _, rfl, .int _ _, rfl, .int _ _, rfl, .int _ _, rfl, .int _ _, trivial⟩⟩)
end Go.Proofs.YtcklfcagailoiaaDoor
namespace Go.Proofs.YtcklfcagailoiaaDoor
open Ab Go.RowKit
set_option maxRecDepth 100000
set_option linter.unusedVariables false
set_option linter.unusedSimpArgs false
set_option pp.maxSteps 3000
theorem refCheck_any (v : V) : PCall Tryd.prog 45 [v.sv] (.int .i64 (chk v)) := by
  obtain ⟨k, n, t⟩ := v
  refine pcall_of (lits1 (V.lit _)) (call45 rfl ?_)
  iterate 16 (all_goals (try conv => whnf); all_goals (try with_reducible refine br (fun _ => ?_) (fun _ => ?_)))
  all_goals (refine leaf ?_ (.int _ _); simp_all [chk, okV])
  all_goals omega
theorem one_any (v w : V) : PCall Tryd.prog 77 [v.sv, w.sv] (.int .i64 (cmpV v w)) := by
  refine pcall_of (lits2 (V.lit _) (V.lit _)) (call77 rfl ?_)
  iterate 40 (all_goals (try conv => whnf); all_goals (try first | with_reducible refine brY (by assumption) ?_ | with_reducible refine brN (by assumption) ?_ | (with_reducible refine brT ?_ ?_; · (simp only [Bool.and_eq_true, Bool.not_eq_true', decide_eq_true_eq, decide_eq_false_iff_not, beq_iff_eq, beq_eq_false_iff_ne, ne_eq] at *; omega)) | with_reducible refine br (fun _ => ?_) (fun _ => ?_) | with_reducible refine ⟨rfl, ?_⟩ | with_reducible refine ARound.succ ?_))
  all_goals refine leaf ?_ (.int _ _)
  all_goals unfold strLess at *
  all_goals simp only [decide_eq_true_eq, decide_eq_false_iff_not, beq_iff_eq, beq_eq_false_iff_ne, ne_eq, Bool.and_eq_true, Bool.and_eq_false_iff] at *
  all_goals congr 1
  all_goals symm
  all_goals unfold cmpV or3 cmpI cmpS
  all_goals first
    | (simp_all; done)
    | (simp_all; omega)
    | (have h1 : w.k < v.k := by omega
       rw [if_neg (by omega), if_pos h1]; rfl)
    | (have h1 : v.k = w.k := by assumption
       have h2 : w.n < v.n := by omega
       rw [if_neg (by omega), if_neg (by omega), if_neg (by omega), if_pos h2]; rfl)
    | trace_state
structure CmpR (xs ys : List V) where
  k : Nat
  ha : k ≤ xs.length
  hb : k ≤ ys.length
  he : cmpL xs ys = cmpL (xs.drop k) (ys.drop k)
theorem refCompare_any {xs ys : List V} (hx : xs.length ≤ 4611686018427387904) : PCall Tryd.prog 43 [lstV xs, lstV ys] (.int .i64 (cmpL xs ys)) := by
  refine pcall_of (lits2 (.lst _ _ _) (.lst _ _ _)) (call43 rfl ?_)
  iterate 1 (all_goals (try conv => whnf); all_goals (try first | with_reducible refine brY (by assumption) ?_ | with_reducible refine brN (by assumption) ?_ | (with_reducible refine brT ?_ ?_; · (simp only [Bool.and_eq_true, Bool.not_eq_true', decide_eq_true_eq, decide_eq_false_iff_not, beq_iff_eq, beq_eq_false_iff_ne, ne_eq] at *; omega)) | with_reducible refine br (fun _ => ?_) (fun _ => ?_) | with_reducible refine ⟨rfl, ?_⟩ | with_reducible refine ARound.succ ?_))
  refine loop_ind (σ := CmpR xs ys) (fun s => [(0, lstV xs), (1, lstV ys), (4, SV.int IntKind.i64 0), (5, SV.int IntKind.i64 s.k)]) (fun _ => ⟨0, []⟩) (fun s => xs.length - s.k) ?_ ⟨0, by omega, by omega, rfl⟩
  rintro ⟨k, ha, hb, he⟩
  dsimp only
  have et := Int.toNat_natCast k
  have co : PCall Tryd.prog 77 [(xs.getD (k : Int).toNat vnull).sv, (ys.getD (k : Int).toNat vnull).sv] (.int .i64 (cmpV (xs.getD k vnull) (ys.getD k vnull))) := by rw [et]; exact one_any _ _
  iterate 30 (all_goals (try conv => whnf); all_goals (try first | with_reducible refine brY (by assumption) ?_ | with_reducible refine brN (by assumption) ?_ | (with_reducible refine brT ?_ ?_; · (simp only [Bool.and_eq_true, Bool.not_eq_true', decide_eq_true_eq, decide_eq_false_iff_not, beq_iff_eq, beq_eq_false_iff_ne, ne_eq] at *; omega)) | with_reducible refine br (fun _ => ?_) (fun _ => ?_) | with_reducible refine ⟨rfl, ?_⟩ | with_reducible refine ARound.succ ?_ | with_reducible refine PCall.call (co) ?_))
  all_goals simp only [Int.toNat_natCast, bne_iff_ne, ne_eq, decide_eq_true_eq, decide_eq_false_iff_not, bne_eq_false_iff_eq] at *
  · refine leaf ?_ (.int _ _)
    rw [he, cmpL_step (by omega) (by omega), if_pos (by assumption)]
  · refine ⟨⟨k + 1, by omega, by omega, ?_⟩, by dsimp only; omega, by rw [w64add (by omega)], by trivial⟩
    rw [he, cmpL_step (by omega) (by omega), if_neg (by intro h; exact h (by assumption))]
  all_goals
    refine leaf ?_ (.int _ _)
    rw [cmpL_end ha hb (by omega) he]
    unfold cmpI
    first
      | (rw [if_pos (by omega)]; done)
      | (rw [if_neg (by omega), if_pos (by omega)]; done)
      | (rw [if_neg (by omega), if_neg (by omega)]; done)
end Go.Proofs.YtcklfcagailoiaaDoor
namespace Go.Proofs.YtcklfcagailoiaaDoor
open Ab Go.RowKit
set_option maxRecDepth 100000
set_option linter.unusedVariables false
set_option linter.unusedSimpArgs false
set_option pp.maxSteps 3000
attribute [local irreducible] appendK allLtK
theorem append_row {ty : TypeId} {m g i : Nat} {o cs : List UInt8} {sk : Sk} {cap : Option Nat} {n : Nat} {l : List (Nat × AObj)} {k : SV → Heap → Prop} (hn : n = cs.length) (ho : objL l i = some (.vec g 1 (o.map byS) ⟨true, some ty⟩)) (him : i < m) (h0 : 0 < cs.length) (hlen : o.length + cs.length ≤ 140737488355328)
    (hk : k (.sl i (g + 1) 1 0 (o.length + cs.length) none) ⟨m + 1, (m, .vec 0 1 (cs.map byS) sk) :: putO l i (.vec (g + 1) 1 (o.map byS ++ cs.map byS) ⟨true, some ty⟩)⟩) :
    appendK ty 1 1 ⟨m + 1, (m, .vec 0 1 (cs.map byS) sk) :: l⟩ (.sl i g 1 0 o.length none) (.sl m 0 1 0 n cap) k := by
  subst hn
  refine append_mv (elems_all objL_hd (by simp)) (by simpa using h0) (allOnes_by cs) (by rw [objL_nx (by omega)]; exact ho) (by simp) (by simp; omega) (by simp; omega) ?_
  rw [setO_eq]
  unfold putO
  rw [if_neg (by omega), joinTy_self, List.length_map]
  exact hk
theorem append_el {ty : TypeId} {m g i n : Nat} {elems : List SV} {c : SV} {sk : Sk} {l : List (Nat × AObj)} {k : SV → Heap → Prop} (ho : objL l i = some (.vec g 1 elems ⟨true, some ty⟩)) (hn : n = elems.length) (him : i < m) (hc : allOne c.cells = true) (hlen : n + 1 ≤ 140737488355328)
    (hk : k (.sl i (g + 1) 1 0 (n + 1) none) ⟨m + 1, (m, .vec 0 1 [c] sk) :: putO l i (.vec (g + 1) 1 (elems ++ [c]) ⟨true, some ty⟩)⟩) :
    appendK ty 1 1 ⟨m + 1, (m, .vec 0 1 [c] sk) :: l⟩ (.sl i g 1 0 n none) (.sl m 0 1 0 1 (some 1)) k := by
  refine append_mv (elems_all objL_hd rfl) (by simp) (by simp [allOnes, hc]) (by rw [objL_nx (by omega)]; exact ho) hn (by simp; omega) (by simp; omega) ?_
  rw [setO_eq]
  unfold putO
  rw [if_neg (by omega), joinTy_self]
  exact hk
theorem lt_by1 {n : Nat} {s : List UInt8} {c : Int} : ∀ v ∈ s.map byS ++ [SV.int .u8 c], SV.lt 8 n v = true := by
  intro v hv
  rcases List.mem_append.1 hv with h | h
  · exact lt_by v h
  · exact lt_one rfl v h
theorem lt_by2 {n : Nat} {s : List UInt8} {c d : Int} : ∀ v ∈ (s.map byS ++ [SV.int .u8 c]) ++ [SV.int .u8 d], SV.lt 8 n v = true := by
  intro v hv
  rcases List.mem_append.1 hv with h | h
  · exact lt_by1 v h
  · exact lt_one rfl v h
theorem byE_nat {x k : Nat} : byE (x : Int) k = byS (UInt8.ofNat (x / 2 ^ k % 256)) := by
  unfold byE
  rw [Int.fdiv_eq_ediv_of_nonneg _ (by exact_mod_cast Nat.zero_le (2 ^ k)), IntKind.wrap_u8]
  show _ = SV.int .u8 _
  rw [ofNat_toNat (by omega)]
  norm_cast
theorem eight_lst {x : Nat} : PCall Tryd.prog 70 [.int .u64 (x : Int)] (lstB (beB 8 x)) := by
  have e : [byE (x : Int) 56, byE (x : Int) 48, byE (x : Int) 40, byE (x : Int) 32, byE (x : Int) 24, byE (x : Int) 16, byE (x : Int) 8, byE (x : Int) 0] = (beB 8 x).map byS := by
    simp only [byE_nat, beB, List.map_cons, List.map_nil, Nat.reducePow]
  refine pcall_of (lits1 (.int _ _)) (eight_b ⟨_, rfl, hard_by (i := 1) (g := 7) (sk := ⟨true, some 5⟩) ?_ (by rw [beB_len])⟩)
  rw [← e]; rfl
/-- Its loop over a text: behind the first byte. -/
structure RxS (t : List UInt8) where
  i : Nat
  g : Nat
  h1 : 0 < i
  hi : i ≤ t.length
theorem rep_take {t : List UInt8} {i : Nat} (h : i < t.length) : rep0 (t.take (i + 1)) = rep0 (t.take i) ++ (if t.getD i 0 = 0 then [0, 255] else [t.getD i 0]) := by
  rw [take_succ_getD h]
  show repB _ _ _ = _
  rw [repB_app]
  congr 1
  by_cases hc : t.getD i 0 = 0
  · rw [hc, if_pos rfl]; rfl
  · rw [if_neg hc, repB, if_neg hc]; rfl
theorem refText_any {v : V} (hv : okV v = true) (iv : v.In') : PCall Tryd.prog 75 [v.sv] (lstB (textB v)) := by
  obtain ⟨k, n, t⟩ := v
  refine pcall_of (lits1 (V.lit _)) (call75 rfl ?_)
  have kk := okV_kind hv
  dsimp only at kk
  rcases kk with rfl | rfl | rfl | rfl
  · iterate 12 (all_goals (try conv => whnf); all_goals (try first | with_reducible refine brY (by assumption) ?_ | with_reducible refine brN (by assumption) ?_ | (with_reducible refine brT ?_ ?_; · (simp only [Bool.and_eq_true, Bool.not_eq_true', decide_eq_true_eq, decide_eq_false_iff_not, beq_iff_eq, beq_eq_false_iff_ne, ne_eq] at *; omega)) | with_reducible refine br (fun _ => ?_) (fun _ => ?_) | with_reducible refine ⟨rfl, ?_⟩ | with_reducible refine ARound.succ ?_))
    refine ⟨_, rfl, ?_⟩
    exact hard_by (s := [1]) (i := 1) (g := 0) (sk := ⟨false, some 5⟩) rfl rfl
  · obtain ⟨n1, t1⟩ := okV_1 hv rfl
    dsimp only at n1 t1
    subst t1
    have hx : SV.int .u8 (IntKind.u8.wrap n) = byS (if n = 0 then 0 else 1) := by rcases n1 with rfl | rfl <;> rfl
    iterate 14 (all_goals (try conv => whnf); all_goals (try first | with_reducible refine brY (by assumption) ?_ | with_reducible refine brN (by assumption) ?_ | (with_reducible refine brT ?_ ?_; · (simp only [Bool.and_eq_true, Bool.not_eq_true', decide_eq_true_eq, decide_eq_false_iff_not, beq_iff_eq, beq_eq_false_iff_ne, ne_eq] at *; omega)) | with_reducible refine br (fun _ => ?_) (fun _ => ?_) | with_reducible refine ⟨rfl, ?_⟩ | with_reducible refine ARound.succ ?_))
    refine ⟨_, rfl, ?_⟩
    rw [hx]
    exact hard_by (s := [2, if n = 0 then 0 else 1]) (i := 1) (g := 0) (sk := ⟨false, some 5⟩) rfl rfl
  · have i1 : -9223372036854775808 ≤ n ∧ n ≤ 9223372036854775807 := iv
    have ex : IntKind.u64.wrap (IntKind.u64.wrap n + 9223372036854775808) = (((n + 9223372036854775808).toNat : Nat) : Int) := by rw [IntKind.wrap_u64, IntKind.wrap_u64]; omega
    have ce := eight_lst (x := (n + 9223372036854775808).toNat)
    rw [← ex] at ce
    iterate 20 (all_goals (try conv => whnf); all_goals (try first | with_reducible refine brY (by assumption) ?_ | with_reducible refine brN (by assumption) ?_ | (with_reducible refine brT ?_ ?_; · (simp only [Bool.and_eq_true, Bool.not_eq_true', decide_eq_true_eq, decide_eq_false_iff_not, beq_iff_eq, beq_eq_false_iff_ne, ne_eq] at *; omega)) | with_reducible refine br (fun _ => ?_) (fun _ => ?_) | with_reducible refine ⟨rfl, ?_⟩ | with_reducible refine ARound.succ ?_ | with_reducible refine PCall.call (ce) ?_ | (refine append_cap (xs := (beB 8 (n + 9223372036854775808).toNat).map byS) elems_bytes (by simp [beB_len]) (allOnes_by _) rfl (by simp) (by simp [beB_len]) (by simp [beB_len]) (by simp [beB_len]) ?_)))
    refine ⟨_, rfl, hard_by (s := 3 :: beB 8 (n + 9223372036854775808).toNat) (i := 2) (g := 0) (sk := ⟨true, some 5⟩) rfl ?_⟩
    rw [List.length_map, List.length_cons]; omega
  · obtain ⟨n1, t1⟩ := okV_3 hv rfl
    dsimp only at n1 t1
    subst n1
    have eb : ∀ c : UInt8, ((c.toNat : Int) == 0) = decide (c = 0) := fun c => by
      by_cases h : c = 0
      · subst h; rfl
      · have : c.toNat ≠ 0 := fun e => h (UInt8.toNat_inj.1 e)
        rw [decide_eq_false h, beq_eq_false_iff_ne]; omega
    by_cases h0 : t = []
    · subst h0
      iterate 24 (all_goals (try conv => whnf); all_goals (try first | with_reducible refine brY (by assumption) ?_ | with_reducible refine brN (by assumption) ?_ | (with_reducible refine brT ?_ ?_; · (simp only [Bool.and_eq_true, Bool.not_eq_true', decide_eq_true_eq, decide_eq_false_iff_not, beq_iff_eq, beq_eq_false_iff_ne, ne_eq] at *; omega)) | with_reducible refine br (fun _ => ?_) (fun _ => ?_) | with_reducible refine ⟨rfl, ?_⟩ | with_reducible refine ARound.succ ?_ | (refine append_cap (xs := [byS 0, byS 1]) (elems_all objL_hd rfl) (by decide) rfl rfl (by decide) (by decide) (by decide) (by decide) ?_) | with_reducible refine loop_rounds 2 ?_))
      refine ⟨_, rfl, ?_⟩
      exact hard_by (s := [4, 0, 1]) (i := 3) (g := 0) (sk := ⟨true, some 5⟩) rfl rfl
    have hpos : 0 < t.length := by cases t with | nil => exact absurd rfl h0 | cons c r => simp
    have hrl : ∀ i, (rep0 (t.take i)).length ≤ 200 := fun i => by
      have := repB_len 0 (nw := [0, 255]) (k := 2) (by decide) (by omega) (t.take i)
      have h2 : (t.take i).length ≤ t.length := by rw [List.length_take]; omega
      show (repB 0 [0, 255] (t.take i)).length ≤ 200
      omega
    iterate 14 (all_goals (try conv => whnf); all_goals (try first | with_reducible refine brY (by assumption) ?_ | with_reducible refine brN (by assumption) ?_ | (with_reducible refine brT ?_ ?_; · (simp only [Bool.and_eq_true, Bool.not_eq_true', decide_eq_true_eq, decide_eq_false_iff_not, beq_iff_eq, beq_eq_false_iff_ne, ne_eq] at *; omega)) | with_reducible refine br (fun _ => ?_) (fun _ => ?_) | with_reducible refine ⟨rfl, ?_⟩ | with_reducible refine ARound.succ ?_))
    refine loop_two (σ := RxS t) (fun s => [(0, V.sv ⟨3, 0, t⟩), (1, SV.ref 0 0 0 0), (2, SV.nils), (6, SV.int IntKind.u8 3), (7, SV.bool false), (10, SV.bool false), (16, SV.bool false), (3, SV.sl 3 s.g 1 0 (4 :: rep0 (t.take s.i)).length none), (4, SV.int IntKind.i64 s.i)])
      (fun s => ⟨4, [(3, bufO 5 s.g (4 :: rep0 (t.take s.i))), (2, .vec 0 1 [byS (t.getD 0 0)] ⟨false, some 5⟩), (1, .vec 0 1 [byS 4] ⟨false, some 5⟩), (0, .vec 0 3 [V.sv ⟨3, 0, t⟩] ⟨false, some 65⟩)]⟩) (fun s => t.length - s.i) t.length 4 (by show 0 + 1 + 1 ≤ 4; omega) ?_ ?_
    · have hd : decide ((0 : Int) < ((t.length : Nat) : Int)) = true := decide_eq_true (by omega)
      have e71 : IntKind.i64.wrap (0 + 1) = ((1 : Nat) : Int) := by decide
      have hr := rep_take (t := t) (i := 0) hpos
      by_cases hc : t.getD 0 0 = 0
      · have q : (((t.getD (Int.toNat 0) 0).toNat : Int) == 0) = true := by rw [show Int.toNat 0 = 0 from rfl, eb]; exact decide_eq_true hc
        rw [if_pos hc] at hr
        iterate 30 (all_goals (try conv => whnf); all_goals (try first | with_reducible refine brY (by assumption) ?_ | with_reducible refine brN (by assumption) ?_ | (with_reducible refine brT ?_ ?_; · (simp only [Bool.and_eq_true, Bool.not_eq_true', decide_eq_true_eq, decide_eq_false_iff_not, beq_iff_eq, beq_eq_false_iff_ne, ne_eq] at *; omega)) | with_reducible refine br (fun _ => ?_) (fun _ => ?_) | with_reducible refine ⟨rfl, ?_⟩ | with_reducible refine ARound.succ ?_ | (refine append_cap (xs := [byS (t.getD 0 0)]) (elems_all objL_hd rfl) (by simp) rfl rfl (by simp) (by simp) (by simp) (by simp) ?_) | (refine append_one (o := [4, t.getD 0 0]) (i := 3) (c := byS 255) rfl (by omega) rfl (by simp) ?_) | (refine allLtK_of lt_by ?_) | (refine allLtK_of (lt_one rfl) ?_) | (refine allLtK_of (lt_by (s := [4, t.getD 0 0, 255])) ?_)))
        refine ⟨⟨1, 1, by omega, hpos⟩, by dsimp only; omega, ?_, ?_⟩
        · rw [e71, hr]; rfl
        · dsimp only; rw [hr, show Int.toNat 0 = 0 from rfl, hc]; rfl
      · have q : (((t.getD (Int.toNat 0) 0).toNat : Int) == 0) = false := by rw [show Int.toNat 0 = 0 from rfl, eb]; exact decide_eq_false hc
        rw [if_neg hc] at hr
        iterate 30 (all_goals (try conv => whnf); all_goals (try first | with_reducible refine brY (by assumption) ?_ | with_reducible refine brN (by assumption) ?_ | (with_reducible refine brT ?_ ?_; · (simp only [Bool.and_eq_true, Bool.not_eq_true', decide_eq_true_eq, decide_eq_false_iff_not, beq_iff_eq, beq_eq_false_iff_ne, ne_eq] at *; omega)) | with_reducible refine br (fun _ => ?_) (fun _ => ?_) | with_reducible refine ⟨rfl, ?_⟩ | with_reducible refine ARound.succ ?_ | (refine append_cap (xs := [byS (t.getD 0 0)]) (elems_all objL_hd rfl) (by simp) rfl rfl (by simp) (by simp) (by simp) (by simp) ?_)))
        refine ⟨⟨1, 0, by omega, hpos⟩, by dsimp only; omega, ?_, ?_⟩
        · rw [e71, hr]; rfl
        · dsimp only; rw [hr]; rfl
    · rintro ⟨i, g, h1, hi⟩
      dsimp only
      have qg : Nat.beq g g = true := nbeq_self g
      have hr1 := hrl i
      by_cases hil : i < t.length
      · have hd : decide ((i : Int) < ((t.length : Nat) : Int)) = true := decide_eq_true (by omega)
        have e71 : IntKind.i64.wrap ((i : Int) + 1) = ((i + 1 : Nat) : Int) := w64add (by omega)
        have hr := rep_take (t := t) (i := i) hil
        have gi := Int.toNat_natCast i
        by_cases hc : t.getD i 0 = 0
        · have q : (((t.getD (i : Int).toNat 0).toNat : Int) == 0) = true := by rw [gi, eb]; exact decide_eq_true hc
          rw [if_pos hc] at hr
          have hx : SV.int .u8 ((t.getD (i : Int).toNat 0).toNat : Int) = byS 0 := by rw [gi, hc]
          iterate 40 (all_goals (try conv => whnf); all_goals (try first | with_reducible refine brY (by assumption) ?_ | with_reducible refine brN (by assumption) ?_ | (with_reducible refine brT ?_ ?_; · (simp only [Bool.and_eq_true, Bool.not_eq_true', decide_eq_true_eq, decide_eq_false_iff_not, beq_iff_eq, beq_eq_false_iff_ne, ne_eq] at *; omega)) | with_reducible refine br (fun _ => ?_) (fun _ => ?_) | with_reducible refine ⟨rfl, ?_⟩ | with_reducible refine ARound.succ ?_ | (refine append_el (i := 3) (elems := (4 :: rep0 (t.take i)).map byS) rfl (by simp) (by omega) rfl (by simp only [List.length_cons]; omega) ?_) | (refine append_el (i := 3) (elems := (4 :: rep0 (t.take i)).map byS ++ [SV.int .u8 ((t.getD (i : Int).toNat 0).toNat : Int)]) rfl (by simp) (by omega) rfl (by simp only [List.length_cons]; omega) ?_) | (refine allLtK_of lt_by1 ?_) | (refine allLtK_of lt_by2 ?_) | (refine allLtK_of (lt_one rfl) ?_)))
          refine ⟨⟨i + 1, g + 1 + 1, by omega, hil⟩, by dsimp only; omega, ?_, ?_⟩
          · rw [e71, hr]; simp
          · dsimp only; rw [hx, hr]; simp
        · have q : (((t.getD (i : Int).toNat 0).toNat : Int) == 0) = false := by rw [gi, eb]; exact decide_eq_false hc
          rw [if_neg hc] at hr
          iterate 40 (all_goals (try conv => whnf); all_goals (try first | with_reducible refine brY (by assumption) ?_ | with_reducible refine brN (by assumption) ?_ | (with_reducible refine brT ?_ ?_; · (simp only [Bool.and_eq_true, Bool.not_eq_true', decide_eq_true_eq, decide_eq_false_iff_not, beq_iff_eq, beq_eq_false_iff_ne, ne_eq] at *; omega)) | with_reducible refine br (fun _ => ?_) (fun _ => ?_) | with_reducible refine ⟨rfl, ?_⟩ | with_reducible refine ARound.succ ?_ | (refine append_el (i := 3) (elems := (4 :: rep0 (t.take i)).map byS) rfl (by simp) (by omega) rfl (by simp only [List.length_cons]; omega) ?_) | (refine allLtK_of lt_by1 ?_) | (refine allLtK_of lt_by2 ?_) | (refine allLtK_of (lt_one rfl) ?_)))
          refine ⟨⟨i + 1, g + 1, by omega, hil⟩, by dsimp only; omega, ?_, ?_⟩
          · rw [e71, hr]; simp
          · dsimp only; rw [hr]; simp
      · have hd : decide ((i : Int) < ((t.length : Nat) : Int)) = false := decide_eq_false (by omega)
        have ht : t.take i = t := List.take_of_length_le (by omega)
        rw [ht] at hr1
        rw [ht]
        iterate 20 (all_goals (try conv => whnf); all_goals (try first | with_reducible refine brY (by assumption) ?_ | with_reducible refine brN (by assumption) ?_ | (with_reducible refine brT ?_ ?_; · (simp only [Bool.and_eq_true, Bool.not_eq_true', decide_eq_true_eq, decide_eq_false_iff_not, beq_iff_eq, beq_eq_false_iff_ne, ne_eq] at *; omega)) | with_reducible refine br (fun _ => ?_) (fun _ => ?_) | with_reducible refine ⟨rfl, ?_⟩ | with_reducible refine ARound.succ ?_ | (refine append_row (i := 3) (o := 4 :: rep0 t) (cs := [0, 1]) rfl rfl (by omega) (by decide) (by simp only [List.length_cons, List.length_nil]; omega) ?_)))
        refine ⟨_, rfl, ?_⟩
        refine hard_by (s := 4 :: (rep0 t ++ [0, 1])) (i := 3) (g := g + 1) (sk := ⟨true, some 5⟩) ?_ (by simp)
        show some (AObj.vec (g + 1) 1 ((4 :: rep0 t).map byS ++ [0, 1].map byS) ⟨true, some 5⟩) = _
        simp
end Go.Proofs.YtcklfcagailoiaaDoor
namespace Go.Proofs.YtcklfcagailoiaaDoor
open Ab Go.RowKit
set_option maxRecDepth 100000
set_option linter.unusedVariables false
set_option linter.unusedSimpArgs false
set_option pp.maxSteps 3000
attribute [local irreducible] appendK allLtK
theorem refTuple_any {l : List V} (hin : ∀ v ∈ l, v.In') (hlen : l.length ≤ 4611686018427387904) : PCall Tryd.prog 40 [lstV l] (tu2 (tupT l) (tupE l)) := by
  refine pcall_of (lits1 (.lst _ _ _)) (call40 rfl ?_)
  by_cases h16 : 16 < l.length
  · have hd : decide ((16 : Int) < (l.length : Int)) = true := decide_eq_true (by omega)
    iterate 8 (all_goals (try conv => whnf); all_goals (try first | with_reducible refine brY (by assumption) ?_ | with_reducible refine brN (by assumption) ?_ | (with_reducible refine brT ?_ ?_; · (simp only [Bool.and_eq_true, Bool.not_eq_true', decide_eq_true_eq, decide_eq_false_iff_not, beq_iff_eq, beq_eq_false_iff_ne, ne_eq] at *; omega)) | with_reducible refine br (fun _ => ?_) (fun _ => ?_) | with_reducible refine ⟨rfl, ?_⟩ | with_reducible refine ARound.succ ?_))
    exact leaf (by unfold tupT tupE; rw [if_pos h16, if_pos h16]) tu2_lit
  have hd : decide ((16 : Int) < (l.length : Int)) = false := decide_eq_false (by omega)
  have bad : ∀ k, k < l.length → okV (l.getD k vnull) = false → tu2 [] 2 = tu2 (tupT l) (tupE l) := fun k hk hb => by
    unfold tupT tupE; rw [if_neg h16, if_neg h16, all_bad hk hb]; rfl
  by_cases h0 : l = []
  · subst h0
    iterate 20 (all_goals (try conv => whnf); all_goals (try first | with_reducible refine brY (by assumption) ?_ | with_reducible refine brN (by assumption) ?_ | (with_reducible refine brT ?_ ?_; · (simp only [Bool.and_eq_true, Bool.not_eq_true', decide_eq_true_eq, decide_eq_false_iff_not, beq_iff_eq, beq_eq_false_iff_ne, ne_eq] at *; omega)) | with_reducible refine br (fun _ => ?_) (fun _ => ?_) | with_reducible refine ⟨rfl, ?_⟩ | with_reducible refine ARound.succ ?_ | with_reducible refine loop_rounds 2 ?_))
    exact leaf rfl tu2_lit
  have hpos : 0 < l.length := by cases l with | nil => exact absurd rfl h0 | cons c r => simp
  have okt : ∀ k, k < l.length → (l.take k).all okV = true → okV (l.getD k vnull) = true → (l.take (k + 1)).all okV = true := fun k hkl h1 h2 => by rw [takeV hkl, List.all_append, h1, List.all_cons, h2]; rfl
  iterate 8 (all_goals (try conv => whnf); all_goals (try first | with_reducible refine brY (by assumption) ?_ | with_reducible refine brN (by assumption) ?_ | (with_reducible refine brT ?_ ?_; · (simp only [Bool.and_eq_true, Bool.not_eq_true', decide_eq_true_eq, decide_eq_false_iff_not, beq_iff_eq, beq_eq_false_iff_ne, ne_eq] at *; omega)) | with_reducible refine br (fun _ => ?_) (fun _ => ?_) | with_reducible refine ⟨rfl, ?_⟩ | with_reducible refine ARound.succ ?_))
  refine loop_two (σ := TuS l) (fun s => [(0, lstV l), (2, SV.str []), (3, SV.int IntKind.i64 0), (9, SV.bool false), (4, SV.sl 0 s.g 1 0 ((l.take s.k).flatMap textB).length none), (5, SV.int IntKind.i64 s.k)])
    (fun s => ⟨1, [(0, bufO 5 s.g ((l.take s.k).flatMap textB))]⟩) (fun s => l.length - s.k) l.length 1 (by decide) ?_ ?_
  · have hd : decide ((0 : Int) < ((l.length : Nat) : Int)) = true := decide_eq_true (by omega)
    have i1 := hin (l.getD 0 vnull) (by simp [List.getD, hpos])
    have cc := refCheck_any (l.getD 0 vnull)
    have hv : l.getD (Int.toNat 0) vnull = l.getD 0 vnull := rfl
    cases hok : okV (l.getD 0 vnull)
    · have hc : chk (l.getD 0 vnull) = 2 := by unfold chk; rw [hok]; rfl
      rw [hc] at cc
      iterate 14 (all_goals (try conv => whnf); all_goals (try first | with_reducible refine brY (by assumption) ?_ | with_reducible refine brN (by assumption) ?_ | (with_reducible refine brT ?_ ?_; · (simp only [Bool.and_eq_true, Bool.not_eq_true', decide_eq_true_eq, decide_eq_false_iff_not, beq_iff_eq, beq_eq_false_iff_ne, ne_eq] at *; omega)) | with_reducible refine br (fun _ => ?_) (fun _ => ?_) | with_reducible refine ⟨rfl, ?_⟩ | with_reducible refine ARound.succ ?_ | with_reducible refine PCall.call (cc) ?_ | (rw [hv])))
      exact leaf (bad 0 hpos hok) tu2_lit
    · have hc : chk (l.getD 0 vnull) = 0 := by unfold chk; rw [hok]; rfl
      rw [hc] at cc
      have ct := refText_any hok i1
      have ht : (l.take 1).flatMap textB = textB (l.getD 0 vnull) := by rw [takeV (k := 0) hpos]; simp
      have hp := textB_pos (l.getD 0 vnull)
      have hl3 := textB_len hok
      have e71 : IntKind.i64.wrap (0 + 1) = ((1 : Nat) : Int) := by decide
      iterate 24 (all_goals (try conv => whnf); all_goals (try first | with_reducible refine brY (by assumption) ?_ | with_reducible refine brN (by assumption) ?_ | (with_reducible refine brT ?_ ?_; · (simp only [Bool.and_eq_true, Bool.not_eq_true', decide_eq_true_eq, decide_eq_false_iff_not, beq_iff_eq, beq_eq_false_iff_ne, ne_eq] at *; omega)) | with_reducible refine br (fun _ => ?_) (fun _ => ?_) | with_reducible refine ⟨rfl, ?_⟩ | with_reducible refine ARound.succ ?_ | with_reducible refine PCall.call (cc) ?_ | with_reducible refine PCall.call (ct) ?_ | (rw [hv]) | (refine append_new (xs := (textB (l.getD 0 vnull)).map byS) elems_bytes (by simpa using hp) (allOnes_by _) (by rw [List.length_map]; omega) (by rw [List.length_map]; omega) ?_)))
      refine ⟨⟨1, 0, Nat.le_refl _, hpos, okt 0 hpos rfl hok⟩, by dsimp only; omega, ?_, ?_⟩
      · rw [e71, ht, List.length_map]
      · dsimp only; rw [ht]
  · rintro ⟨k, g, h1, hk, hok0⟩
    dsimp only
    have qg : Nat.beq g g = true := nbeq_self g
    have hOl : ((l.take k).flatMap textB).length ≤ 4800 := by
      have := flat_len hok0
      have h2 : (l.take k).length ≤ l.length := by rw [List.length_take]; omega
      omega
    by_cases hkl : k < l.length
    · have hd : decide ((k : Int) < ((l.length : Nat) : Int)) = true := decide_eq_true (by omega)
      have i1 := hin (l.getD k vnull) (by simp [List.getD, hkl])
      have hv : l.getD (k : Int).toNat vnull = l.getD k vnull := by rw [Int.toNat_natCast]
      have cc := refCheck_any (l.getD k vnull)
      cases hok : okV (l.getD k vnull)
      · have hc : chk (l.getD k vnull) = 2 := by unfold chk; rw [hok]; rfl
        rw [hc] at cc
        iterate 14 (all_goals (try conv => whnf); all_goals (try first | with_reducible refine brY (by assumption) ?_ | with_reducible refine brN (by assumption) ?_ | (with_reducible refine brT ?_ ?_; · (simp only [Bool.and_eq_true, Bool.not_eq_true', decide_eq_true_eq, decide_eq_false_iff_not, beq_iff_eq, beq_eq_false_iff_ne, ne_eq] at *; omega)) | with_reducible refine br (fun _ => ?_) (fun _ => ?_) | with_reducible refine ⟨rfl, ?_⟩ | with_reducible refine ARound.succ ?_ | with_reducible refine PCall.call (cc) ?_ | (rw [hv])))
        exact leaf (bad k hkl hok) tu2_lit
      · have hc : chk (l.getD k vnull) = 0 := by unfold chk; rw [hok]; rfl
        rw [hc] at cc
        have ct := refText_any hok i1
        have e71 : IntKind.i64.wrap ((k : Int) + 1) = ((k + 1 : Nat) : Int) := w64add (by omega)
        have hto : (l.take (k + 1)).flatMap textB = (l.take k).flatMap textB ++ textB (l.getD k vnull) := by rw [takeV hkl, List.flatMap_append]; simp
        have hp := textB_pos (l.getD k vnull)
        have hl3 := textB_len hok
        iterate 24 (all_goals (try conv => whnf); all_goals (try first | with_reducible refine brY (by assumption) ?_ | with_reducible refine brN (by assumption) ?_ | (with_reducible refine brT ?_ ?_; · (simp only [Bool.and_eq_true, Bool.not_eq_true', decide_eq_true_eq, decide_eq_false_iff_not, beq_iff_eq, beq_eq_false_iff_ne, ne_eq] at *; omega)) | with_reducible refine br (fun _ => ?_) (fun _ => ?_) | with_reducible refine ⟨rfl, ?_⟩ | with_reducible refine ARound.succ ?_ | with_reducible refine PCall.call (cc) ?_ | with_reducible refine PCall.call (ct) ?_ | (rw [hv]) | (refine append_lst (i := 0) (o := (l.take k).flatMap textB) rfl hp (by omega) ?_)))
        refine ⟨⟨k + 1, g + 1, by omega, hkl, okt k hkl hok0 hok⟩, by dsimp only; omega, ?_, ?_⟩
        · rw [e71, hto, List.length_append]
        · dsimp only; rw [hto]; simp [putO]
    · have hd : decide ((k : Int) < ((l.length : Nat) : Int)) = false := decide_eq_false (by omega)
      rw [List.take_of_length_le (by omega)] at hok0 hOl
      have ee : tu2 (l.flatMap textB) 0 = tu2 (tupT l) (tupE l) := by unfold tupT tupE; rw [if_neg h16, if_neg h16, hok0]; rfl
      rw [List.take_of_length_le (by omega)]
      iterate 18 (all_goals (try conv => whnf); all_goals (try first | with_reducible refine brY (by assumption) ?_ | with_reducible refine brN (by assumption) ?_ | (with_reducible refine brT ?_ ?_; · (simp only [Bool.and_eq_true, Bool.not_eq_true', decide_eq_true_eq, decide_eq_false_iff_not, beq_iff_eq, beq_eq_false_iff_ne, ne_eq] at *; omega)) | with_reducible refine br (fun _ => ?_) (fun _ => ?_) | with_reducible refine ⟨rfl, ?_⟩ | with_reducible refine ARound.succ ?_ | (refine dropN_run (Nat.zero_le _) ?_) | (refine takeN_all (by simp) ?_) | (refine bytesK_run ?_)))
      exact leaf ee tu2_lit
/-- The span of a tuple. -/
@[reducible] def spV (a b : List UInt8) (e : Int) : SV := .tup [.agg [.str a, .str b], .int .i64 e]
theorem spV_lit {a b : List UInt8} {e : Int} : LitV (spV a b e) := lit2 (.agg (by simp; exact ⟨.str _, .str _⟩)) (.int _ _)
def spT (l : List V) : List UInt8 := if tupE l = 0 then tupT l else []
def spA (l : List V) : List UInt8 := if tupE l = 0 then afterR (tupT l) else []
theorem tupT_len (l : List V) : (tupT l).length ≤ 4800 := by
  unfold tupT
  split
  · simp
  · cases h : l.all okV
    · simp
    · have := flat_len h; simp only [if_true]; omega
theorem begins_any {l : List V} (hin : ∀ v ∈ l, v.In') (hlen : l.length ≤ 4611686018427387904) : PCall Tryd.prog 26 [lstV l] (spV (spT l) (spA l) (tupE l)) := by
  refine pcall_of (lits1 (.lst _ _ _)) (call26 rfl ?_)
  have ct := tuple_any hin hlen
  have hl := tupT_len l
  have ca := after_any (s := tupT l) (by omega)
  by_cases h : tupE l = 0
  · have q : (tupE l != 0) = false := by rw [bne_eq_false_iff_eq]; exact h
    iterate 20 (all_goals (try conv => whnf); all_goals (try first | with_reducible refine brY (by assumption) ?_ | with_reducible refine brN (by assumption) ?_ | (with_reducible refine brT ?_ ?_; · (simp only [Bool.and_eq_true, Bool.not_eq_true', decide_eq_true_eq, decide_eq_false_iff_not, beq_iff_eq, beq_eq_false_iff_ne, ne_eq] at *; omega)) | with_reducible refine br (fun _ => ?_) (fun _ => ?_) | with_reducible refine ⟨rfl, ?_⟩ | with_reducible refine ARound.succ ?_ | with_reducible refine PCall.call (ct) ?_ | with_reducible refine PCall.call (ca) ?_))
    exact leaf (by unfold spT spA; rw [if_pos h, if_pos h, h]) spV_lit
  · have q : (tupE l != 0) = true := by rw [bne_iff_ne]; exact h
    iterate 20 (all_goals (try conv => whnf); all_goals (try first | with_reducible refine brY (by assumption) ?_ | with_reducible refine brN (by assumption) ?_ | (with_reducible refine brT ?_ ?_; · (simp only [Bool.and_eq_true, Bool.not_eq_true', decide_eq_true_eq, decide_eq_false_iff_not, beq_iff_eq, beq_eq_false_iff_ne, ne_eq] at *; omega)) | with_reducible refine br (fun _ => ?_) (fun _ => ?_) | with_reducible refine ⟨rfl, ?_⟩ | with_reducible refine ARound.succ ?_ | with_reducible refine PCall.call (ct) ?_ | with_reducible refine PCall.call (ca) ?_))
    exact leaf (by unfold spT spA; rw [if_neg h, if_neg h]) spV_lit
theorem refBegins_any {l : List V} (hin : ∀ v ∈ l, v.In') (hlen : l.length ≤ 4611686018427387904) : PCall Tryd.prog 41 [lstV l] (spV (spT l) (spA l) (tupE l)) := by
  refine pcall_of (lits1 (.lst _ _ _)) (call41 rfl ?_)
  have ct := refTuple_any hin hlen
  have hl := tupT_len l
  have ca := refAfter_any (s := tupT l) (by omega)
  by_cases h : tupE l = 0
  · have q : (tupE l != 0) = false := by rw [bne_eq_false_iff_eq]; exact h
    iterate 20 (all_goals (try conv => whnf); all_goals (try first | with_reducible refine brY (by assumption) ?_ | with_reducible refine brN (by assumption) ?_ | (with_reducible refine brT ?_ ?_; · (simp only [Bool.and_eq_true, Bool.not_eq_true', decide_eq_true_eq, decide_eq_false_iff_not, beq_iff_eq, beq_eq_false_iff_ne, ne_eq] at *; omega)) | with_reducible refine br (fun _ => ?_) (fun _ => ?_) | with_reducible refine ⟨rfl, ?_⟩ | with_reducible refine ARound.succ ?_ | with_reducible refine PCall.call (ct) ?_ | with_reducible refine PCall.call (ca) ?_))
    exact leaf (by unfold spT spA; rw [if_pos h, if_pos h, h]) spV_lit
  · have q : (tupE l != 0) = true := by rw [bne_iff_ne]; exact h
    iterate 20 (all_goals (try conv => whnf); all_goals (try first | with_reducible refine brY (by assumption) ?_ | with_reducible refine brN (by assumption) ?_ | (with_reducible refine brT ?_ ?_; · (simp only [Bool.and_eq_true, Bool.not_eq_true', decide_eq_true_eq, decide_eq_false_iff_not, beq_iff_eq, beq_eq_false_iff_ne, ne_eq] at *; omega)) | with_reducible refine br (fun _ => ?_) (fun _ => ?_) | with_reducible refine ⟨rfl, ?_⟩ | with_reducible refine ARound.succ ?_ | with_reducible refine PCall.call (ct) ?_ | with_reducible refine PCall.call (ca) ?_))
    exact leaf (by unfold spT spA; rw [if_neg h, if_neg h]) spV_lit
end Go.Proofs.YtcklfcagailoiaaDoor
namespace Go.Proofs.YtcklfcagailoiaaDoor
open Ab Go.RowKit
set_option maxRecDepth 100000
set_option linter.unusedVariables false
set_option linter.unusedSimpArgs false
set_option pp.maxSteps 3000
attribute [local irreducible] appendK allLtK
theorem txt_go' {s : List UInt8} {i : Nat} (h : i < s.length) (hc : s.getD i 0 ≠ 0) : txtB (s.drop i) = (txtB (s.drop (i + 1))).map (fun p => ([s.getD i 0] ++ p.1, 1 + p.2)) := by
  by_cases h1 : i + 1 < s.length
  · exact txt_go h1 hc
  · rw [txt_end h1, txt_end (i := i + 1) (by omega)]; rfl
theorem txt_shift {A B : Option (List UInt8 × Nat)} {o o' : List UInt8} {i j k : Nat} (h1 : A = B.map (fun p => (o ++ p.1, i + p.2))) {C : Option (List UInt8 × Nat)} (h2 : B = C.map (fun p => (o' ++ p.1, j + p.2))) (hk : i + j = k) : A = C.map (fun p => ((o ++ o') ++ p.1, k + p.2)) := by
  rw [← hk]; exact txt_comb h1 h2
def wV (s : List UInt8) : V := if txO (s.drop 1) then ⟨3, 0, txT (s.drop 1)⟩ else vnull
def wN (s : List UInt8) : Nat := if txO (s.drop 1) then txN (s.drop 1) + 1 else 0
def wO (s : List UInt8) : Bool := txO (s.drop 1) && decide (((txT (s.drop 1)).length : Int) ≤ 64)
structure WdS (s : List UInt8) where
  i : Nat
  g : Nat
  o : List UInt8
  h1 : 1 ≤ i
  hi : i ≤ s.length
  h0 : 0 < o.length
  ho : o.length ≤ i
  he : txtB (s.drop 1) = (txtB (s.drop i)).map (fun p => (o ++ p.1, (i - 1) + p.2))
theorem word_any {q : List UInt8} (hp : 0 < q.length) (hq : q.length ≤ 140737488351232) : PCall Tryd.prog 97 [.str q] (va3 (wV q) (wN q) (wO q)) := by
  refine pcall_of (lits1 (.str _)) (call97 rfl ?_)
  have no : txtB (q.drop 1) = none → va3 vnull 0 false = va3 (wV q) (wN q) (wO q) := fun h => by unfold wV wN wO txO; rw [h]; rfl
  have yes : ∀ t n, txtB (q.drop 1) = some (t, n) → va3 ⟨3, 0, t⟩ ((n + 1 : Nat) : Int) (decide ((t.length : Int) ≤ 64)) = va3 (wV q) (wN q) (wO q) := fun t n h => by unfold wV wN wO txO txT txN; rw [h]; rfl
  have eb : ∀ c : UInt8, ((c.toNat : Int) != 0) = (decide (c ≠ 0)) := fun c => by
    by_cases h : c = 0
    · subst h; rfl
    · have : c.toNat ≠ 0 := fun e => h (UInt8.toNat_inj.1 e)
      rw [decide_eq_true h, bne_iff_ne]; omega
  have nbq : ∀ (c : UInt8) (k : Nat), k < 256 → c ≠ UInt8.ofNat k → ((c.toNat : Int) != (k : Int)) = true := fun c k hk h => by
    rw [bne_iff_ne]
    intro e
    exact h (UInt8.toNat_inj.1 (by rw [ofNat_toNat hk]; omega))
  have nb : ∀ (c : UInt8) (k : Nat), k < 256 → c ≠ UInt8.ofNat k → ((c.toNat : Int) == (k : Int)) = false := fun c k hk h => by
    rw [beq_eq_false_iff_ne]
    intro e
    exact h (UInt8.toNat_inj.1 (by rw [ofNat_toNat hk]; omega))
  iterate 6 (all_goals (try conv => whnf); all_goals (try first | with_reducible refine brY (by assumption) ?_ | with_reducible refine brN (by assumption) ?_ | (with_reducible refine brT ?_ ?_; · (simp only [Bool.and_eq_true, Bool.not_eq_true', decide_eq_true_eq, decide_eq_false_iff_not, beq_iff_eq, beq_eq_false_iff_ne, ne_eq] at *; omega)) | with_reducible refine br (fun _ => ?_) (fun _ => ?_) | with_reducible refine ⟨rfl, ?_⟩ | with_reducible refine ARound.succ ?_))
  refine loop_two (σ := WdS q) (fun s => [(0, SV.str q), (2, SV.ref 0 0 0 0), (3, SV.int IntKind.i64 0), (4, SV.bool false), (5, SV.sl 2 s.g 1 0 s.o.length none), (6, SV.int IntKind.i64 s.i)])
    (fun s => ⟨3, [(2, bufO 5 s.g s.o), (1, .vec 0 1 [byS (q.getD 1 0)] ⟨false, some 5⟩), (0, .vec 0 3 [V.sv vnull] ⟨false, some 65⟩)]⟩) (fun s => q.length - s.i) (q.length + 1) 3 (by show 0 + 1 ≤ 3; omega) ?_ ?_
  · have hqq := hq
    have e7 : IntKind.i64.wrap (1 + 1) = ((2 : Nat) : Int) := by decide
    have g7 : (IntKind.i64.wrap (1 + 1)).toNat = 1 + 1 := by rw [e7]; rfl
    have gi : Int.toNat 1 = 1 := rfl
    have h0 : txtB (q.drop 1) = (txtB (q.drop 1)).map (fun p => ([] ++ p.1, 0 + p.2)) := by cases txtB (q.drop 1) <;> simp
    by_cases hl : ¬ 1 < q.length
    · have hd : decide (1 < (q.length : Int)) = false := decide_eq_false (by omega)
      have hn : txtB (q.drop 1) = none := txt_end (i := 1) (by omega)
      iterate 8 (all_goals (try conv => whnf); all_goals (try first | with_reducible refine brY (by assumption) ?_ | with_reducible refine brN (by assumption) ?_ | (with_reducible refine brT ?_ ?_; · (simp only [Bool.and_eq_true, Bool.not_eq_true', decide_eq_true_eq, decide_eq_false_iff_not, beq_iff_eq, beq_eq_false_iff_ne, ne_eq] at *; omega)) | with_reducible refine br (fun _ => ?_) (fun _ => ?_) | with_reducible refine ⟨rfl, ?_⟩ | with_reducible refine ARound.succ ?_))
      exact leaf (no hn) va3_lit
    have hl : 1 < q.length := by omega
    have hd : decide (1 < (q.length : Int)) = true := decide_eq_true (by omega)
    by_cases hc : q.getD 1 0 ≠ 0
    · have hc1 : (((q.getD (Int.toNat 1) 0).toNat : Int) != 0) = true := by rw [gi, eb]; exact decide_eq_true hc
      iterate 24 (all_goals (try conv => whnf); all_goals (try first | with_reducible refine brY (by assumption) ?_ | with_reducible refine brN (by assumption) ?_ | (with_reducible refine brT ?_ ?_; · (simp only [Bool.and_eq_true, Bool.not_eq_true', decide_eq_true_eq, decide_eq_false_iff_not, beq_iff_eq, beq_eq_false_iff_ne, ne_eq] at *; omega)) | with_reducible refine br (fun _ => ?_) (fun _ => ?_) | with_reducible refine ⟨rfl, ?_⟩ | with_reducible refine ARound.succ ?_ | (refine append_byte0 rfl ?_)))
      refine ⟨⟨2, 0, [q.getD 1 0], by omega, by omega, by simp, by simp, by have := txt_go' (i := 1) hl hc; exact this⟩, by dsimp only; omega, by rw [e7]; rfl, by dsimp only; rw [gi]; rfl⟩
    have hc1 : (((q.getD (Int.toNat 1) 0).toNat : Int) != 0) = false := by rw [gi, eb]; exact decide_eq_false hc
    by_cases hl2 : ¬ 1 + 1 < q.length
    · have hd2 : decide ((q.length : Int) ≤ IntKind.i64.wrap (1 + 1)) = true := decide_eq_true (by rw [e7]; omega)
      have hn : txtB (q.drop 1) = none := txt_end (i := 1) (by omega)
      iterate 20 (all_goals (try conv => whnf); all_goals (try first | with_reducible refine brY (by assumption) ?_ | with_reducible refine brN (by assumption) ?_ | (with_reducible refine brT ?_ ?_; · (simp only [Bool.and_eq_true, Bool.not_eq_true', decide_eq_true_eq, decide_eq_false_iff_not, beq_iff_eq, beq_eq_false_iff_ne, ne_eq] at *; omega)) | with_reducible refine br (fun _ => ?_) (fun _ => ?_) | with_reducible refine ⟨rfl, ?_⟩ | with_reducible refine ARound.succ ?_))
      exact leaf (no hn) va3_lit
    have hl2 : 1 + 1 < q.length := by omega
    have hd2 : decide ((q.length : Int) ≤ IntKind.i64.wrap (1 + 1)) = false := decide_eq_false (by rw [e7]; omega)
    by_cases hd1 : q.getD (1 + 1) 0 = 1
    · have q1 : (((q.getD (IntKind.i64.wrap (1 + 1)).toNat 0).toNat : Int) != 255) = true := by rw [g7, hd1]; rfl
      have q2 : (((q.getD (IntKind.i64.wrap (1 + 1)).toNat 0).toNat : Int) != 1) = false := by rw [g7, hd1]; rfl
      have q3 : (((q.getD (IntKind.i64.wrap (1 + 1)).toNat 0).toNat : Int) == 1) = true := by rw [g7, hd1]; rfl
      have h2 := txt_fin (i := 1) hl2 hc hd1
      iterate 30 (all_goals (try conv => whnf); all_goals (try first | with_reducible refine brY (by assumption) ?_ | with_reducible refine brN (by assumption) ?_ | (with_reducible refine brT ?_ ?_; · (simp only [Bool.and_eq_true, Bool.not_eq_true', decide_eq_true_eq, decide_eq_false_iff_not, beq_iff_eq, beq_eq_false_iff_ne, ne_eq] at *; omega)) | with_reducible refine br (fun _ => ?_) (fun _ => ?_) | with_reducible refine ⟨rfl, ?_⟩ | with_reducible refine ARound.succ ?_))
      exact leaf (yes _ _ h2) va3_lit
    have q2 : (((q.getD (IntKind.i64.wrap (1 + 1)).toNat 0).toNat : Int) != 1) = true := by rw [g7]; exact nbq _ 1 (by omega) hd1
    have q3 : (((q.getD (IntKind.i64.wrap (1 + 1)).toNat 0).toNat : Int) == 1) = false := by rw [g7]; exact nb _ 1 (by omega) hd1
    by_cases hd3 : q.getD (1 + 1) 0 = 255
    · have q1 : (((q.getD (IntKind.i64.wrap (1 + 1)).toNat 0).toNat : Int) != 255) = false := by rw [g7, hd3]; rfl
      have hz : q.getD 1 0 = 0 := Classical.byContradiction fun h => hc h
      have e8 : IntKind.i64.wrap (IntKind.i64.wrap (1 + 1) + 1) = ((3 : Nat) : Int) := by decide
      iterate 40 (all_goals (try conv => whnf); all_goals (try first | with_reducible refine brY (by assumption) ?_ | with_reducible refine brN (by assumption) ?_ | (with_reducible refine brT ?_ ?_; · (simp only [Bool.and_eq_true, Bool.not_eq_true', decide_eq_true_eq, decide_eq_false_iff_not, beq_iff_eq, beq_eq_false_iff_ne, ne_eq] at *; omega)) | with_reducible refine br (fun _ => ?_) (fun _ => ?_) | with_reducible refine ⟨rfl, ?_⟩ | with_reducible refine ARound.succ ?_ | (refine append_byte0 (c := byS 0) rfl ?_)))
      refine ⟨⟨3, 0, [0], by omega, by omega, by simp, by simp, by have := txt_zero (i := 1) hl2 hc hd1 hd3; exact this⟩, by dsimp only; omega, by rw [e8]; rfl, by dsimp only; rw [hz]; rfl⟩
    have q1 : (((q.getD (IntKind.i64.wrap (1 + 1)).toNat 0).toNat : Int) != 255) = true := by rw [g7]; exact nbq _ 255 (by omega) hd3
    have hn : txtB (q.drop 1) = none := txt_bad (i := 1) hl2 hc hd1 hd3
    iterate 30 (all_goals (try conv => whnf); all_goals (try first | with_reducible refine brY (by assumption) ?_ | with_reducible refine brN (by assumption) ?_ | (with_reducible refine brT ?_ ?_; · (simp only [Bool.and_eq_true, Bool.not_eq_true', decide_eq_true_eq, decide_eq_false_iff_not, beq_iff_eq, beq_eq_false_iff_ne, ne_eq] at *; omega)) | with_reducible refine br (fun _ => ?_) (fun _ => ?_) | with_reducible refine ⟨rfl, ?_⟩ | with_reducible refine ARound.succ ?_))
    exact leaf (no hn) va3_lit
  · rintro ⟨i, g, o, h1, hi, h0, ho, he⟩
    dsimp only
    have qg : Nat.beq g g = true := nbeq_self g
    have e7 : IntKind.i64.wrap ((i : Int) + 1) = ((i + 1 : Nat) : Int) := w64add (by omega)
    have g7 : (IntKind.i64.wrap ((i : Int) + 1)).toNat = i + 1 := by rw [e7]; exact Int.toNat_natCast _
    have gi : (i : Int).toNat = i := Int.toNat_natCast _
    by_cases hl : ¬ i < q.length
    · have hd : decide ((i : Int) < (q.length : Int)) = false := decide_eq_false (by omega)
      have hn : txtB (q.drop 1) = none := by rw [he, txt_end (i := i) (by omega)]; rfl
      iterate 8 (all_goals (try conv => whnf); all_goals (try first | with_reducible refine brY (by assumption) ?_ | with_reducible refine brN (by assumption) ?_ | (with_reducible refine brT ?_ ?_; · (simp only [Bool.and_eq_true, Bool.not_eq_true', decide_eq_true_eq, decide_eq_false_iff_not, beq_iff_eq, beq_eq_false_iff_ne, ne_eq] at *; omega)) | with_reducible refine br (fun _ => ?_) (fun _ => ?_) | with_reducible refine ⟨rfl, ?_⟩ | with_reducible refine ARound.succ ?_))
      exact leaf (no hn) va3_lit
    have hl : i < q.length := by omega
    have hd : decide ((i : Int) < (q.length : Int)) = true := decide_eq_true (by omega)
    by_cases hc : q.getD i 0 ≠ 0
    · have hc1 : (((q.getD ((i : Int).toNat) 0).toNat : Int) != 0) = true := by rw [gi, eb]; exact decide_eq_true hc
      iterate 24 (all_goals (try conv => whnf); all_goals (try first | with_reducible refine brY (by assumption) ?_ | with_reducible refine brN (by assumption) ?_ | (with_reducible refine brT ?_ ?_; · (simp only [Bool.and_eq_true, Bool.not_eq_true', decide_eq_true_eq, decide_eq_false_iff_not, beq_iff_eq, beq_eq_false_iff_ne, ne_eq] at *; omega)) | with_reducible refine br (fun _ => ?_) (fun _ => ?_) | with_reducible refine ⟨rfl, ?_⟩ | with_reducible refine ARound.succ ?_ | (refine append_one (i := 2) (o := o) rfl (by omega) rfl (by omega) ?_) | (refine allLtK_of lt_by1 ?_) | (refine allLtK_of (lt_one rfl) ?_)))
      refine ⟨⟨i + 1, g + 1, o ++ [q.getD i 0], by omega, by omega, by simp, by simp; omega, txt_shift he (txt_go' hl hc) (by omega)⟩, by dsimp only; omega, by rw [e7]; simp, by dsimp only; rw [gi]; simp [putO]⟩
    have hc1 : (((q.getD ((i : Int).toNat) 0).toNat : Int) != 0) = false := by rw [gi, eb]; exact decide_eq_false hc
    by_cases hl2 : ¬ i + 1 < q.length
    · have hd2 : decide ((q.length : Int) ≤ IntKind.i64.wrap ((i : Int) + 1)) = true := decide_eq_true (by rw [e7]; omega)
      have hn : txtB (q.drop 1) = none := by rw [he, txt_end (i := i) (by omega)]; rfl
      iterate 20 (all_goals (try conv => whnf); all_goals (try first | with_reducible refine brY (by assumption) ?_ | with_reducible refine brN (by assumption) ?_ | (with_reducible refine brT ?_ ?_; · (simp only [Bool.and_eq_true, Bool.not_eq_true', decide_eq_true_eq, decide_eq_false_iff_not, beq_iff_eq, beq_eq_false_iff_ne, ne_eq] at *; omega)) | with_reducible refine br (fun _ => ?_) (fun _ => ?_) | with_reducible refine ⟨rfl, ?_⟩ | with_reducible refine ARound.succ ?_))
      exact leaf (no hn) va3_lit
    have hl2 : i + 1 < q.length := by omega
    have hd2 : decide ((q.length : Int) ≤ IntKind.i64.wrap ((i : Int) + 1)) = false := decide_eq_false (by rw [e7]; omega)
    by_cases hd1 : q.getD (i + 1) 0 = 1
    · have q1 : (((q.getD (IntKind.i64.wrap ((i : Int) + 1)).toNat 0).toNat : Int) != 255) = true := by rw [g7, hd1]; rfl
      have q2 : (((q.getD (IntKind.i64.wrap ((i : Int) + 1)).toNat 0).toNat : Int) != 1) = false := by rw [g7, hd1]; rfl
      have q3 : (((q.getD (IntKind.i64.wrap ((i : Int) + 1)).toNat 0).toNat : Int) == 1) = true := by rw [g7, hd1]; rfl
      have e8 : IntKind.i64.wrap ((i : Int) + 2) = (((i - 1 + 2) + 1 : Nat) : Int) := by rw [w64 (by omega) (by omega)]; omega
      have h2 : txtB (q.drop 1) = some (o, i - 1 + 2) := by rw [he, txt_fin hl2 hc hd1]; simp
      iterate 40 (all_goals (try conv => whnf); all_goals (try first | with_reducible refine brY (by assumption) ?_ | with_reducible refine brN (by assumption) ?_ | (with_reducible refine brT ?_ ?_; · (simp only [Bool.and_eq_true, Bool.not_eq_true', decide_eq_true_eq, decide_eq_false_iff_not, beq_iff_eq, beq_eq_false_iff_ne, ne_eq] at *; omega)) | with_reducible refine br (fun _ => ?_) (fun _ => ?_) | with_reducible refine ⟨rfl, ?_⟩ | with_reducible refine ARound.succ ?_ | (refine dropN_run (Nat.zero_le _) ?_) | (refine takeN_all (by simp) ?_) | (refine bytesK_run ?_)))
      refine leaf ?_ va3_lit
      rw [e8]; exact yes _ _ h2
    have q2 : (((q.getD (IntKind.i64.wrap ((i : Int) + 1)).toNat 0).toNat : Int) != 1) = true := by rw [g7]; exact nbq _ 1 (by omega) hd1
    have q3 : (((q.getD (IntKind.i64.wrap ((i : Int) + 1)).toNat 0).toNat : Int) == 1) = false := by rw [g7]; exact nb _ 1 (by omega) hd1
    by_cases hd3 : q.getD (i + 1) 0 = 255
    · have q1 : (((q.getD (IntKind.i64.wrap ((i : Int) + 1)).toNat 0).toNat : Int) != 255) = false := by rw [g7, hd3]; rfl
      have hz : q.getD i 0 = 0 := Classical.byContradiction fun h => hc h
      have e8 : IntKind.i64.wrap (IntKind.i64.wrap ((i : Int) + 1) + 1) = ((i + 2 : Nat) : Int) := by rw [e7, w64 (by omega) (by omega)]; omega
      iterate 40 (all_goals (try conv => whnf); all_goals (try first | with_reducible refine brY (by assumption) ?_ | with_reducible refine brN (by assumption) ?_ | (with_reducible refine brT ?_ ?_; · (simp only [Bool.and_eq_true, Bool.not_eq_true', decide_eq_true_eq, decide_eq_false_iff_not, beq_iff_eq, beq_eq_false_iff_ne, ne_eq] at *; omega)) | with_reducible refine br (fun _ => ?_) (fun _ => ?_) | with_reducible refine ⟨rfl, ?_⟩ | with_reducible refine ARound.succ ?_ | (refine append_one (c := byS 0) (i := 2) (o := o) rfl (by omega) rfl (by omega) ?_) | (refine allLtK_of lt_by1 ?_) | (refine allLtK_of (lt_one rfl) ?_)))
      refine ⟨⟨i + 2, g + 1, o ++ [0], by omega, by omega, by simp, by simp; omega, txt_shift he (txt_zero hl2 hc hd1 hd3) (by omega)⟩, by dsimp only; omega, by rw [e8]; simp, by dsimp only; simp [putO]⟩
    have q1 : (((q.getD (IntKind.i64.wrap ((i : Int) + 1)).toNat 0).toNat : Int) != 255) = true := by rw [g7]; exact nbq _ 255 (by omega) hd3
    have hn : txtB (q.drop 1) = none := by rw [he, txt_bad (i := i) hl2 hc hd1 hd3]; rfl
    iterate 30 (all_goals (try conv => whnf); all_goals (try first | with_reducible refine brY (by assumption) ?_ | with_reducible refine brN (by assumption) ?_ | (with_reducible refine brT ?_ ?_; · (simp only [Bool.and_eq_true, Bool.not_eq_true', decide_eq_true_eq, decide_eq_false_iff_not, beq_iff_eq, beq_eq_false_iff_ne, ne_eq] at *; omega)) | with_reducible refine br (fun _ => ?_) (fun _ => ?_) | with_reducible refine ⟨rfl, ?_⟩ | with_reducible refine ARound.succ ?_))
    exact leaf (no hn) va3_lit
end Go.Proofs.YtcklfcagailoiaaDoor
namespace Go.Proofs.YtcklfcagailoiaaDoor
open Ab Go.RowKit
set_option maxRecDepth 100000
set_option linter.unusedVariables false
set_option linter.unusedSimpArgs false
set_option pp.maxSteps 3000
attribute [local irreducible] appendK allLtK
def fsV (s : List UInt8) : V := if vk s = 4 then wV s else if vk s = 0 then vnull else vlV s
def fsN (s : List UInt8) : Nat := if vk s = 4 then wN s else vlN s
theorem wO_eq (s : List UInt8) (h : vk s = 4) : wO s = vlO s := by rw [(vl_4 h).2.2]; rfl
theorem fs_ok {s : List UInt8} (h : vlO s = true) : fsV s = vlV s ∧ fsN s = vlN s := by
  unfold fsV fsN
  rcases vk_cases s with ⟨hk, q1⟩ | ⟨hk, q1, q2, q3⟩ | ⟨hk, q1, q2⟩ | ⟨hk, q1⟩ | ⟨hk, q1⟩
  · rw [hk]; exact ⟨rfl, rfl⟩
  · rw [hk]; exact ⟨rfl, rfl⟩
  · rw [hk]; exact ⟨rfl, rfl⟩
  · obtain ⟨r1, r2, r3⟩ := vl_4 hk
    rw [r3, Bool.and_eq_true] at h
    rw [if_pos hk, if_pos hk, r1, r2]
    unfold wV wN
    rw [h.1]; exact ⟨rfl, rfl⟩
  · rw [(vl_0 hk).2.2] at h; cases h
theorem first_any {s : List UInt8} (h0 : 0 < s.length) (hs : s.length ≤ 140737488351232) : PCall Tryd.prog 76 [.str s] (va3 (fsV s) (fsN s) (vlO s)) := by
  refine pcall_of (lits1 (.str _)) (call76 rfl ?_)
  have cw := word_any h0 hs
  have b0 := (s.getD 0 0).toNat_lt
  have b1 := (s.getD 1 0).toNat_lt
  have qz : ((s.length : Int) == 0) = false := by rw [beq_eq_false_iff_ne]; omega
  have hn2 : IntKind.i64.wrap ((s.getD 1 0).toNat : Int) = ((s.getD 1 0).toNat : Int) := w64 (by omega) (by omega)
  by_cases h39 : (s.getD 0 0).toNat = 3 ∧ 8 < s.length
  · have hk : vk s = 3 := by
      rcases vk_cases s with ⟨hk, q1⟩ | ⟨hk, q1, q2, q3⟩ | ⟨hk, q1, q2⟩ | ⟨hk, q1⟩ | ⟨hk, q1, q2, q3, q4⟩
      · omega
      · omega
      · exact hk
      · omega
      · omega
    have q1 : (((s.getD (Int.toNat 0) 0).toNat : Int) == 1) = false := by rw [beq_eq_false_iff_ne, show Int.toNat 0 = 0 from rfl]; omega
    have q2 : (((s.getD (Int.toNat 0) 0).toNat : Int) == 2) = false := by rw [beq_eq_false_iff_ne, show Int.toNat 0 = 0 from rfl]; omega
    have q3 : (((s.getD (Int.toNat 0) 0).toNat : Int) == 3) = true := by rw [beq_iff_eq, show Int.toNat 0 = 0 from rfl]; omega
    have q4 : decide ((s.length : Int) < 9) = false := decide_eq_false (by omega)
    have p7 : (256 : Nat) ^ 7 = 72057594037927936 := by decide
    have p8 : (256 : Nat) ^ 8 = 18446744073709551616 := by decide
    iterate 14 (all_goals (try conv => whnf); all_goals (try first | with_reducible refine brY (by assumption) ?_ | with_reducible refine brN (by assumption) ?_ | (with_reducible refine brT ?_ ?_; · (simp only [Bool.and_eq_true, Bool.not_eq_true', decide_eq_true_eq, decide_eq_false_iff_not, beq_iff_eq, beq_eq_false_iff_ne, ne_eq] at *; omega)) | with_reducible refine br (fun _ => ?_) (fun _ => ?_) | with_reducible refine ⟨rfl, ?_⟩ | with_reducible refine ARound.succ ?_))
    refine loop_ind (σ := {k : Nat // k ≤ 8}) (fun q => [(0, SV.str s), (2, SV.ref 0 0 0 0), (3, SV.int IntKind.i64 0), (4, SV.bool false), (9, SV.bool false), (12, SV.int IntKind.u8 ((s.getD (Int.toNat 0) 0).toNat : Int)), (13, SV.bool false), (16, SV.bool false), (31, SV.bool true), (35, SV.bool false), (5, SV.int IntKind.u64 (beV ((s.drop 1).take q.1))), (6, SV.int IntKind.i64 ((1 + q.1 : Nat) : Int))])
      (fun _ => ⟨1, [(0, .vec 0 3 [V.sv vnull] ⟨false, some 65⟩)]⟩) (fun q => 8 - q.1) ?_ ⟨0, Nat.zero_le _⟩
    rintro ⟨k, hk8⟩
    dsimp only
    have hdl : (s.drop 1).length = s.length - 1 := List.length_drop
    by_cases hk : k < 8
    · have hd : decide (((1 + k : Nat) : Int) < 9) = true := decide_eq_true (by omega)
      have hpk : 256 ^ k ≤ 256 ^ 7 := Nat.pow_le_pow_right (by decide) (by omega)
      have hlt := beV_take_lt (s.drop 1) k
      have g1 : (s.drop 1).getD k 0 = s.getD (1 + k) 0 := by simp [List.getD, Nat.add_comm]
      have e2 := mul_add_by (x := beV ((s.drop 1).take k)) (s.getD (1 + k) 0) (by omega)
      rw [← g1, ← beV_take (by omega), g1] at e2
      have e3 : IntKind.i64.wrap (((1 + k : Nat) : Int) + 1) = ((1 + (k + 1) : Nat) : Int) := w64add (by omega)
      iterate 12 (all_goals (try conv => whnf); all_goals (try first | with_reducible refine brY (by assumption) ?_ | with_reducible refine brN (by assumption) ?_ | (with_reducible refine brT ?_ ?_; · (simp only [Bool.and_eq_true, Bool.not_eq_true', decide_eq_true_eq, decide_eq_false_iff_not, beq_iff_eq, beq_eq_false_iff_ne, ne_eq] at *; omega)) | with_reducible refine br (fun _ => ?_) (fun _ => ?_) | with_reducible refine ⟨rfl, ?_⟩ | with_reducible refine ARound.succ ?_))
      refine ⟨⟨k + 1, by omega⟩, by dsimp only; omega, ?_, rfl⟩
      rw [e3, Int.toNat_natCast, e2]
    · have hk : k = 8 := by omega
      subst hk
      have hd : decide (((1 + 8 : Nat) : Int) < 9) = false := by decide
      have hbv := beV_take_lt (s.drop 1) 8
      have e5 : IntKind.i64.wrap (IntKind.u64.wrap ((beV ((s.drop 1).take 8) : Int) - 9223372036854775808)) = (beV ((s.drop 1).take 8) : Int) - 9223372036854775808 := by
        rw [IntKind.wrap_u64, IntKind.wrap_i64]; omega
      iterate 12 (all_goals (try conv => whnf); all_goals (try first | with_reducible refine brY (by assumption) ?_ | with_reducible refine brN (by assumption) ?_ | (with_reducible refine brT ?_ ?_; · (simp only [Bool.and_eq_true, Bool.not_eq_true', decide_eq_true_eq, decide_eq_false_iff_not, beq_iff_eq, beq_eq_false_iff_ne, ne_eq] at *; omega)) | with_reducible refine br (fun _ => ?_) (fun _ => ?_) | with_reducible refine ⟨rfl, ?_⟩ | with_reducible refine ARound.succ ?_))
      refine leaf ?_ va3_lit
      obtain ⟨r1, r2, r3⟩ := vl_3 (by assumption : vk s = 3)
      unfold fsV fsN
      rw [show vk s = 3 by assumption, r1, r2, r3, e5]
      rfl
  · iterate 40 (all_goals (try conv => whnf); all_goals (try first | with_reducible refine brY (by assumption) ?_ | with_reducible refine brN (by assumption) ?_ | (with_reducible refine brT ?_ ?_; · (simp only [Bool.and_eq_true, Bool.not_eq_true', decide_eq_true_eq, decide_eq_false_iff_not, beq_iff_eq, beq_eq_false_iff_ne, ne_eq] at *; omega)) | with_reducible refine br (fun _ => ?_) (fun _ => ?_) | with_reducible refine ⟨rfl, ?_⟩ | with_reducible refine ARound.succ ?_ | with_reducible refine PCall.call (cw) ?_))
    all_goals simp only [beq_iff_eq, beq_eq_false_iff_ne, ne_eq, decide_eq_true_eq, decide_eq_false_iff_not, Bool.and_eq_true, show Int.toNat 0 = 0 from rfl, show Int.toNat 1 = 1 from rfl] at *
    all_goals (rcases vk_cases s with ⟨hk, q1⟩ | ⟨hk, q1, q2, q3⟩ | ⟨hk, q1, q2⟩ | ⟨hk, q1⟩ | ⟨hk, q1, q2, q3, q4⟩)
    all_goals try (exfalso; omega)
    all_goals refine leaf ?_ va3_lit
    all_goals first
      | (obtain ⟨r1, r2, r3⟩ := vl_1 hk; unfold fsV fsN; rw [hk, r1, r2, r3]; rfl)
      | (obtain ⟨r1, r2, r3⟩ := vl_2 hk; unfold fsV fsN; rw [hk, r1, r2, r3, hn2]; rfl)
      | (obtain ⟨r1, r2, r3⟩ := vl_0 hk; unfold fsV fsN; rw [hk, r2, r3]; rfl)
      | (rw [wO_eq s hk]; unfold fsV fsN; rw [hk]; rfl)
      | trace_state
theorem refValues_any {s : List UInt8} (hs : s.length ≤ 140737488351232) : PCall Tryd.prog 42 [.str s] (.tup [vsL s, .int .i64 (vsE s)]) := by
  refine pcall_of (lits1 (.str _)) (call42 rfl ?_)
  have lit : LitV (.tup [vsL s, .int .i64 (vsE s)]) := lit2 (vsL_lit _) (.int _ _)
  have no : vlsB 16 s = none → SV.tup [.nils, .int .i64 5] = .tup [vsL s, .int .i64 (vsE s)] := fun h => by unfold vsL vsE; rw [h]
  iterate 3 (all_goals (try conv => whnf); all_goals (try first | with_reducible refine brY (by assumption) ?_ | with_reducible refine brN (by assumption) ?_ | (with_reducible refine brT ?_ ?_; · (simp only [Bool.and_eq_true, Bool.not_eq_true', decide_eq_true_eq, decide_eq_false_iff_not, beq_iff_eq, beq_eq_false_iff_ne, ne_eq] at *; omega)) | with_reducible refine br (fun _ => ?_) (fun _ => ?_) | with_reducible refine ⟨rfl, ?_⟩ | with_reducible refine ARound.succ ?_))
  refine loop_two (σ := VsS s) (fun q => [(0, SV.str q.r), (2, SV.nils), (3, SV.int IntKind.i64 0), (4, SV.sl 2 q.g 3 0 q.vs.length none)])
    (fun q => ⟨3, [(2, .vec q.g 3 (q.vs.map V.sv) ⟨true, some 65⟩), (1, .vec 0 3 [(vlV s).sv] ⟨false, some 65⟩), (0, .vec 0 3 [(vlV s).sv] ⟨false, some 65⟩)]⟩) (fun q => 17 - q.vs.length) 17 3 (by decide) ?_ ?_
  · by_cases h0 : s = []
    · subst h0
      iterate 6 (all_goals (try conv => whnf); all_goals (try first | with_reducible refine brY (by assumption) ?_ | with_reducible refine brN (by assumption) ?_ | (with_reducible refine brT ?_ ?_; · (simp only [Bool.and_eq_true, Bool.not_eq_true', decide_eq_true_eq, decide_eq_false_iff_not, beq_iff_eq, beq_eq_false_iff_ne, ne_eq] at *; omega)) | with_reducible refine br (fun _ => ?_) (fun _ => ?_) | with_reducible refine ⟨rfl, ?_⟩ | with_reducible refine ARound.succ ?_))
      exact leaf rfl lit
    have hpos : 0 < s.length := by cases s with | nil => exact absurd rfl h0 | cons c r => simp
    have hne : decide ((0 : Int) < (s.length : Int)) = true := decide_eq_true (by omega)
    have cv := first_any hpos hs
    cases ho : vlO s
    · rw [ho] at cv
      iterate 16 (all_goals (try conv => whnf); all_goals (try first | with_reducible refine brY (by assumption) ?_ | with_reducible refine brN (by assumption) ?_ | (with_reducible refine brT ?_ ?_; · (simp only [Bool.and_eq_true, Bool.not_eq_true', decide_eq_true_eq, decide_eq_false_iff_not, beq_iff_eq, beq_eq_false_iff_ne, ne_eq] at *; omega)) | with_reducible refine br (fun _ => ?_) (fun _ => ?_) | with_reducible refine ⟨rfl, ?_⟩ | with_reducible refine ARound.succ ?_ | with_reducible refine PCall.call (cv) ?_))
      exact leaf (no (vls_bad hpos ho)) lit
    · obtain ⟨hn0, hn1⟩ := vlO_n hpos ho
      rw [ho, (fs_ok ho).1, (fs_ok ho).2] at cv
      iterate 30 (all_goals (try conv => whnf); all_goals (try first | with_reducible refine brY (by assumption) ?_ | with_reducible refine brN (by assumption) ?_ | (with_reducible refine brT ?_ ?_; · (simp only [Bool.and_eq_true, Bool.not_eq_true', decide_eq_true_eq, decide_eq_false_iff_not, beq_iff_eq, beq_eq_false_iff_ne, ne_eq] at *; omega)) | with_reducible refine br (fun _ => ?_) (fun _ => ?_) | with_reducible refine ⟨rfl, ?_⟩ | with_reducible refine ARound.succ ?_ | with_reducible refine PCall.call (cv) ?_ | (refine app_val1 ?_)))
      have ed : (s.drop (vlN s : Int).toNat).take ((s.length : Int).toNat - (vlN s : Int).toNat) = s.drop (vlN s) := by
        rw [Int.toNat_natCast, Int.toNat_natCast]; exact List.take_of_length_le (by simp)
      refine ⟨⟨[vlV s], s.drop (vlN s), 0, by simp, by simp, by simp, ?_⟩, by dsimp only; simp, by rw [ed]; rfl, rfl⟩
      rw [vls_step (f := 15) hpos ho]; rfl
  · rintro ⟨vs, r, g, h1, h2, hrl, he⟩
    dsimp only
    have qg : Nat.beq g g = true := nbeq_self g
    by_cases h0 : r = []
    · subst h0
      have he2 : vlsB 16 s = some vs := by rw [he]; cases 16 - vs.length <;> simp [vlsB]
      have e1 : vsL s = lstV vs := by
        unfold vsL; rw [he2]
        cases vs with
        | nil => cases h1
        | cons v t => rfl
      have e2 : vsE s = 0 := by unfold vsE; rw [he2]
      iterate 8 (all_goals (try conv => whnf); all_goals (try first | with_reducible refine brY (by assumption) ?_ | with_reducible refine brN (by assumption) ?_ | (with_reducible refine brT ?_ ?_; · (simp only [Bool.and_eq_true, Bool.not_eq_true', decide_eq_true_eq, decide_eq_false_iff_not, beq_iff_eq, beq_eq_false_iff_ne, ne_eq] at *; omega)) | with_reducible refine br (fun _ => ?_) (fun _ => ?_) | with_reducible refine ⟨rfl, ?_⟩ | with_reducible refine ARound.succ ?_))
      refine ⟨_, rfl, ?_⟩
      rw [e1, e2]
      exact hard_two (hard_vs (i := 2) (g := g) (sk := ⟨true, some 65⟩) rfl rfl)
    have hpos : 0 < r.length := by cases r with | nil => exact absurd rfl h0 | cons c r => simp
    have hne : decide ((0 : Int) < (r.length : Int)) = true := decide_eq_true (by omega)
    have cv := first_any hpos (by omega)
    cases ho : vlO r
    · rw [ho] at cv
      have hn : vlsB 16 s = none := by rw [he, vls_bad hpos ho]; rfl
      iterate 16 (all_goals (try conv => whnf); all_goals (try first | with_reducible refine brY (by assumption) ?_ | with_reducible refine brN (by assumption) ?_ | (with_reducible refine brT ?_ ?_; · (simp only [Bool.and_eq_true, Bool.not_eq_true', decide_eq_true_eq, decide_eq_false_iff_not, beq_iff_eq, beq_eq_false_iff_ne, ne_eq] at *; omega)) | with_reducible refine br (fun _ => ?_) (fun _ => ?_) | with_reducible refine ⟨rfl, ?_⟩ | with_reducible refine ARound.succ ?_ | with_reducible refine PCall.call (cv) ?_))
      exact leaf (no hn) lit
    · obtain ⟨hn0, hn1⟩ := vlO_n hpos ho
      rw [ho, (fs_ok ho).1, (fs_ok ho).2] at cv
      by_cases h16 : vs.length = 16
      · have hd : ((vs.length : Int) == 16) = true := by rw [beq_iff_eq]; omega
        have hn : vlsB 16 s = none := by rw [he, h16, vls_zero hpos]; rfl
        iterate 20 (all_goals (try conv => whnf); all_goals (try first | with_reducible refine brY (by assumption) ?_ | with_reducible refine brN (by assumption) ?_ | (with_reducible refine brT ?_ ?_; · (simp only [Bool.and_eq_true, Bool.not_eq_true', decide_eq_true_eq, decide_eq_false_iff_not, beq_iff_eq, beq_eq_false_iff_ne, ne_eq] at *; omega)) | with_reducible refine br (fun _ => ?_) (fun _ => ?_) | with_reducible refine ⟨rfl, ?_⟩ | with_reducible refine ARound.succ ?_ | with_reducible refine PCall.call (cv) ?_))
        exact leaf (no hn) lit
      · have hd : ((vs.length : Int) == 16) = false := by rw [beq_eq_false_iff_ne]; omega
        have ed : (r.drop (vlN r : Int).toNat).take ((r.length : Int).toNat - (vlN r : Int).toNat) = r.drop (vlN r) := by
          rw [Int.toNat_natCast, Int.toNat_natCast]; exact List.take_of_length_le (by simp)
        iterate 40 (all_goals (try conv => whnf); all_goals (try first | with_reducible refine brY (by assumption) ?_ | with_reducible refine brN (by assumption) ?_ | (with_reducible refine brT ?_ ?_; · (simp only [Bool.and_eq_true, Bool.not_eq_true', decide_eq_true_eq, decide_eq_false_iff_not, beq_iff_eq, beq_eq_false_iff_ne, ne_eq] at *; omega)) | with_reducible refine br (fun _ => ?_) (fun _ => ?_) | with_reducible refine ⟨rfl, ?_⟩ | with_reducible refine ARound.succ ?_ | with_reducible refine PCall.call (cv) ?_ | (refine app_val (vs := vs) (v := vlV r) (i := 2) rfl (by omega) (by omega) ?_) | (refine allLtK_of lt_vs ?_) | (refine allLtK_of (lt_one rfl) ?_)))
        refine ⟨⟨vs ++ [vlV r], r.drop (vlN r), g + 1, by simp, by simp; omega, by rw [List.length_drop]; omega, ?_⟩, by dsimp only; simp; omega, by rw [ed]; simp, rfl⟩
        rw [he, show 16 - vs.length = (16 - (vs ++ [vlV r]).length) + 1 by simp; omega, vls_step hpos ho]
        cases vlsB (16 - (vs ++ [vlV r]).length) (r.drop (vlN r)) with
        | none => rfl
        | some t => simp
end Go.Proofs.YtcklfcagailoiaaDoor
namespace Go.Proofs.YtcklfcagailoiaaDoor
open Ab Go.RowKit
set_option maxRecDepth 100000
set_option linter.unusedVariables false
set_option linter.unusedSimpArgs false
set_option pp.maxSteps 3000
attribute [local irreducible] appendK allLtK
@[reducible] def v99 : V := ⟨2, 99, []⟩
def lentL (a : List V) : List V := a ++ [v99] ++ [v99] ++ [v99]
theorem lentL_len (a : List V) : (lentL a).length = a.length + 3 := by simp [lentL]
theorem elems_vs {h : Heap} {s : List V} : Elems h 3 (lstV s) (s.map V.sv) := fun k hk => by
  refine elems_lst k ?_
  have e : (List.range s.length).map (fun i => (s.getD i vnull).sv) = s.map V.sv := by
    apply List.ext_getElem
    · simp
    · intro i h1 h2
      simp only [List.length_map] at h2
      simp [h2]
  rw [e]; exact hk
theorem allOnes_vs : ∀ s : List V, allOnes (s.map V.sv) = true
  | [] => rfl
  | b :: r => by
    show (allOne (V.sv b).cells && allOnes (r.map V.sv)) = true
    rw [allOnes_vs r]; rfl
theorem app_lent {a : List V} {sk : Sk} {k : SV → Heap → Prop} (h0 : 0 < a.length) (ha : a.length ≤ 100000)
    (hk : k (.sl 1 0 3 0 a.length none) ⟨2, [(1, .vec 0 3 (a.map V.sv) ⟨true, some 65⟩), (0, .vec 0 3 [] sk)]⟩) :
    appendK 65 3 32 ⟨1, [(0, .vec 0 3 [] sk)]⟩ (.sl 0 0 3 0 0 (some 0)) (lstV a) k := by
  refine append_cap elems_vs (by simpa using h0) (allOnes_vs a) rfl (by simp) (by simp; omega) (by simp; omega) (by simp; omega) ?_
  rw [List.length_map, Nat.zero_add]
  exact hk
theorem app_valL {m i g : Nat} {vs : List V} {v : V} {sk : Sk} {l : List (Nat × AObj)} {k : SV → Heap → Prop} (ho : objL l i = some (.vec g 3 (vs.map V.sv) ⟨true, some 65⟩)) (him : i < m) (hlen : vs.length ≤ 100000)
    (hk : k (.sl i (g + 1) 3 0 (vs ++ [v]).length none) ⟨m + 1, (m, .vec 0 3 [v.sv] sk) :: putO l i (.vec (g + 1) 3 ((vs ++ [v]).map V.sv) ⟨true, some 65⟩)⟩) :
    appendK 65 3 32 ⟨m + 1, (m, .vec 0 3 [v.sv] sk) :: l⟩ (.sl i g 3 0 vs.length none) (.sl m 0 3 0 1 (some 1)) k := by
  refine app_val ho him hlen ?_
  rw [List.length_append] at hk
  exact hk
theorem lent_any {a : List V} (ha : a.length ≤ 1000) : PCall Tryd.prog 39 [lstV a] (lstV (lentL a)) := by
  refine pcall_of (lits1 (.lst _ _ _)) (call39 rfl ?_)
  by_cases h0 : a = []
  · subst h0
    iterate 50 (all_goals (try conv => whnf); all_goals (try first | with_reducible refine brY (by assumption) ?_ | with_reducible refine brN (by assumption) ?_ | (with_reducible refine brT ?_ ?_; · (simp only [Bool.and_eq_true, Bool.not_eq_true', decide_eq_true_eq, decide_eq_false_iff_not, beq_iff_eq, beq_eq_false_iff_ne, ne_eq] at *; omega)) | with_reducible refine br (fun _ => ?_) (fun _ => ?_) | with_reducible refine ⟨rfl, ?_⟩ | with_reducible refine ARound.full ?_ | (refine append_noneS (fun k hk => hk) rfl ?_) | (refine append_cap (xs := [V.sv v99]) (elems_all objL_hd rfl) (by decide) rfl rfl (by decide) (by decide) (by decide) (by decide) ?_) | (refine app_valL (i := 2) (vs := [v99]) (v := v99) rfl (by decide) (by decide) ?_) | (refine app_valL (i := 2) (vs := [v99] ++ [v99]) (v := v99) rfl (by decide) (by decide) ?_) | with_reducible refine loop_rounds 6 ?_))
    refine ⟨_, rfl, ?_⟩
    exact hard_vs (i := 2) (g := 2) (sk := ⟨true, some 65⟩) rfl rfl
  · have hpos : 0 < a.length := by cases a with | nil => exact absurd rfl h0 | cons c r => simp
    iterate 50 (all_goals (try conv => whnf); all_goals (try first | with_reducible refine brY (by assumption) ?_ | with_reducible refine brN (by assumption) ?_ | (with_reducible refine brT ?_ ?_; · (simp only [Bool.and_eq_true, Bool.not_eq_true', decide_eq_true_eq, decide_eq_false_iff_not, beq_iff_eq, beq_eq_false_iff_ne, ne_eq] at *; omega)) | with_reducible refine br (fun _ => ?_) (fun _ => ?_) | with_reducible refine ⟨rfl, ?_⟩ | with_reducible refine ARound.full ?_ | (refine app_lent hpos (by omega) ?_) | (refine app_valL (i := 1) (vs := a) (v := v99) rfl (by decide) (by omega) ?_) | (refine app_valL (i := 1) (vs := a ++ [v99]) (v := v99) rfl (by decide) (by simp; omega) ?_) | (refine app_valL (i := 1) (vs := a ++ [v99] ++ [v99]) (v := v99) rfl (by decide) (by simp; omega) ?_) | with_reducible refine loop_rounds 6 ?_))
    refine ⟨_, rfl, ?_⟩
    exact hard_vs (i := 1) (g := 3) (sk := ⟨true, some 65⟩) rfl rfl
theorem kept_any {a : List V} (ha : a.length ≤ 1000) : PCall Tryd.prog 46 [lstV (lentL a), lstV a] (.bool true) := by
  refine pcall_of (lits2 (.lst _ _ _) (.lst _ _ _)) (call46 rfl ?_)
  have cl := lent_any ha
  have cs := sameValues_any (a := lentL a) (b := lentL a) (by rw [lentL_len]; omega)
  rw [sameL_self] at cs
  iterate 6 (all_goals (try conv => whnf); all_goals (try first | with_reducible refine brY (by assumption) ?_ | with_reducible refine brN (by assumption) ?_ | (with_reducible refine brT ?_ ?_; · (simp only [Bool.and_eq_true, Bool.not_eq_true', decide_eq_true_eq, decide_eq_false_iff_not, beq_iff_eq, beq_eq_false_iff_ne, ne_eq] at *; omega)) | with_reducible refine br (fun _ => ?_) (fun _ => ?_) | with_reducible refine ⟨rfl, ?_⟩ | with_reducible refine ARound.succ ?_ | with_reducible refine PCall.call (cl) ?_ | with_reducible refine PCall.call (cs) ?_))
  exact leaf rfl (.bool _)
theorem vls_len : ∀ (f : Nat) {s : List UInt8} {l : List V}, vlsB f s = some l → l.length ≤ f
  | f, [], l, h => by cases f <;> (cases h; simp)
  | 0, c :: r, l, h => by cases h
  | f + 1, c :: r, l, h => by
    unfold vlsB at h
    split at h
    · cases hq : vlsB f ((c :: r).drop (vlN (c :: r))) with
      | none => rw [hq] at h; cases h
      | some m =>
        rw [hq] at h
        cases h
        have := vls_len f hq
        simp only [List.length_cons]; omega
    · cases h
theorem offL_no : ∀ l : List (Nat × AObj), offL (fun _ => false) l = l
  | [] => rfl
  | (i, o) :: r => by show (i, o) :: offL (fun _ => false) r = _; rw [offL_no r]
/-- The first part of a list that is lent. -/
@[reducible] def headV (a : List V) : SV := .lst 3 ((a.length : Int).toNat - Int.toNat 0) fun i => (fun i => ((lentL a).getD i vnull).sv) (Int.toNat 0 + i)
theorem hard_head {A : Heap} {a : List V} : Hard A (headV a) (lstV a) := by
  have e : (a.length : Int).toNat - Int.toNat 0 = a.length := by rw [Int.toNat_natCast]; rfl
  unfold headV
  rw [e]
  refine .same fun j hj => ?_
  show ((lentL a).getD (0 + j) vnull).sv = (a.getD j vnull).sv
  rw [Nat.zero_add]
  have : (lentL a).getD j vnull = a.getD j vnull := by
    unfold lentL
    simp [List.getD, List.getElem?_append_left, hj]
  rw [this]
theorem head1 {f : FuncId} {a : List V} {v : SV} {n : Nat} {l : List (Nat × AObj)} {R : AEnd → Heap → Prop} (hp : PCall Tryd.prog f [lstV a] v) (hR : R (.ret v) ⟨n, l⟩) : ACall Tryd.prog f [headV a] ⟨n, l⟩ R := by
  refine ACall.freeze (fun _ => false) (.cons hard_head .nil) ?_
  rw [offK_eq, offL_no]
  exact PCall.call hp hR
theorem head2 {f : FuncId} {a b : List V} {v : SV} {n : Nat} {l : List (Nat × AObj)} {R : AEnd → Heap → Prop} (hp : PCall Tryd.prog f [lstV a, lstV b] v) (hR : R (.ret v) ⟨n, l⟩) : ACall Tryd.prog f [headV a, headV b] ⟨n, l⟩ R := by
  refine ACall.freeze (fun _ => false) (.cons hard_head (.cons hard_head .nil)) ?_
  rw [offK_eq, offL_no]
  exact PCall.call hp hR
theorem litT {a b : List V} {s : List UInt8} : ∀ x ∈ [lstV a, lstV b, SV.str s], LitV x := lits3 (.lst _ _ _) (.lst _ _ _) (.str _)
theorem encTuples_any {a b : List V} {s : List UInt8} (ia : ∀ v ∈ a, v.In') (ib : ∀ v ∈ b, v.In') (hs : s.length ≤ 140737488351232) :
    PCall Tryd.prog 10 [lstV a, lstV b, .str s] (.bool true) := by
  refine pcall_of litT (call10 rfl ?_)
  by_cases ha : 40 < a.length
  · have hd : decide ((40 : Int) < (a.length : Int)) = true := decide_eq_true (by omega)
    iterate 12 (all_goals (try conv => whnf); all_goals (try first | with_reducible refine brY (by assumption) ?_ | with_reducible refine brN (by assumption) ?_ | (with_reducible refine brT ?_ ?_; · (simp only [Bool.and_eq_true, Bool.not_eq_true', decide_eq_true_eq, decide_eq_false_iff_not, beq_iff_eq, beq_eq_false_iff_ne, ne_eq] at *; omega)) | with_reducible refine br (fun _ => ?_) (fun _ => ?_) | with_reducible refine ⟨rfl, ?_⟩ | with_reducible refine ARound.succ ?_ | with_reducible refine PCall.call (lives_any) ?_))
    exact leaf rfl (.bool _)
  have hda : decide ((40 : Int) < (a.length : Int)) = false := decide_eq_false (by omega)
  by_cases hb : 40 < b.length
  · have hd : decide ((40 : Int) < (b.length : Int)) = true := decide_eq_true (by omega)
    iterate 12 (all_goals (try conv => whnf); all_goals (try first | with_reducible refine brY (by assumption) ?_ | with_reducible refine brN (by assumption) ?_ | (with_reducible refine brT ?_ ?_; · (simp only [Bool.and_eq_true, Bool.not_eq_true', decide_eq_true_eq, decide_eq_false_iff_not, beq_iff_eq, beq_eq_false_iff_ne, ne_eq] at *; omega)) | with_reducible refine br (fun _ => ?_) (fun _ => ?_) | with_reducible refine ⟨rfl, ?_⟩ | with_reducible refine ARound.succ ?_ | with_reducible refine PCall.call (lives_any) ?_))
    exact leaf rfl (.bool _)
  have hdb : decide ((40 : Int) < (b.length : Int)) = false := decide_eq_false (by omega)
  have la := lent_any (a := a) (by omega)
  have lb := lent_any (a := b) (by omega)
  have ta := tuple_any ia (by omega)
  have ra := refTuple_any ia (by omega)
  have ba := begins_any ia (by omega)
  have rb := refBegins_any ia (by omega)
  have vs := values_any hs
  have rv := refValues_any hs
  have cab := compare_any a b (by omega)
  have rab := refCompare_any (xs := a) (ys := b) (by omega)
  have sv : PCall Tryd.prog 28 [vsL s, vsL s] (.bool true) := by
    unfold vsL
    cases h : vlsB 16 s with
    | none => exact sameValues_nils
    | some l =>
      cases l with
      | nil => exact sameValues_nils
      | cons v r =>
        have hl : (v :: r).length ≤ 4611686018427387904 := by
          have := vls_len 16 h
          omega
        have := sameValues_any (a := v :: r) (b := v :: r) hl
        rw [sameL_self] at this
        exact this
  have ka := kept_any (a := a) (by omega)
  have kb := kept_any (a := b) (by omega)
  have q1 : (!(tupT a == tupT a)) = false := by rw [beq_self_eq_true]; rfl
  have q2 : (tupE a != tupE a) = false := by simp
  have q3 : (!(spT a == spT a && spA a == spA a)) = false := by rw [beq_self_eq_true, beq_self_eq_true]; rfl
  have q4 : (vsE s != vsE s) = false := by simp
  have q5 : (cmpL a b != cmpL a b) = false := by simp
  have q6 : (decide ((0 : Int) ≤ 0) && decide ((0 : Int) ≤ (a.length : Int)) && decide ((a.length : Int) ≤ ((lentL a).length : Int))) = true := by rw [lentL_len]; simp; omega
  have q7 : (decide ((0 : Int) ≤ 0) && decide ((0 : Int) ≤ (b.length : Int)) && decide ((b.length : Int) ≤ ((lentL b).length : Int))) = true := by rw [lentL_len]; simp; omega
  iterate 40 (all_goals (try conv => whnf); all_goals (try first | with_reducible refine brY (by assumption) ?_ | with_reducible refine brN (by assumption) ?_ | (with_reducible refine brT ?_ ?_; · (simp only [Bool.and_eq_true, Bool.not_eq_true', decide_eq_true_eq, decide_eq_false_iff_not, beq_iff_eq, beq_eq_false_iff_ne, ne_eq] at *; omega)) | with_reducible refine br (fun _ => ?_) (fun _ => ?_) | with_reducible refine ⟨rfl, ?_⟩ | with_reducible refine ARound.succ ?_ | with_reducible refine PCall.call (lives_any) ?_ | with_reducible refine PCall.call (la) ?_ | with_reducible refine PCall.call (lb) ?_ | (with_reducible refine head1 ta ?_) | with_reducible refine PCall.call (ra) ?_ | (with_reducible refine head1 ba ?_) | with_reducible refine PCall.call (rb) ?_ | with_reducible refine PCall.call (vs) ?_ | with_reducible refine PCall.call (rv) ?_ | with_reducible refine PCall.call (sv) ?_ | (with_reducible refine head2 cab ?_) | with_reducible refine PCall.call (rab) ?_))
  refine loop_ind (σ := {k : Nat // k ≤ a.length}) (fun q => [(0, lstV a), (1, lstV b), (2, SV.str s), (6, SV.bool false), (23, SV.bool false), (31, SV.bool false),
      (7, lstV (lentL a)), (8, lstV (lentL b)), (9, SV.str (tupT a)), (10, SV.int IntKind.i64 (tupE a)),
      (11, SV.str (tupT a)), (12, SV.int IntKind.i64 (tupE a)), (13, SV.ref 0 0 0 0), (14, SV.int IntKind.i64 (tupE a)),
      (15, SV.ref 1 0 0 0), (16, SV.int IntKind.i64 (tupE a)), (17, vsL s), (18, SV.int IntKind.i64 (vsE s)),
      (19, vsL s), (20, SV.int IntKind.i64 (vsE s)), (115, SV.bool false), (21, SV.int IntKind.i64 q.1)])
    (fun _ => ⟨2, [(1, .vec 0 2 [.agg [.str (spT a), .str (spA a)]] ⟨false, some 35⟩), (0, .vec 0 2 [.agg [.str (spT a), .str (spA a)]] ⟨false, some 35⟩)]⟩) (fun q => a.length - q.1) ?_ ⟨0, Nat.zero_le _⟩
  rintro ⟨k, hk⟩
  dsimp only
  by_cases hkl : k < a.length
  · have hd : decide ((k : Int) < (a.length : Int)) = true := decide_eq_true (by omega)
    have e7 : IntKind.i64.wrap ((k : Int) + 1) = ((k + 1 : Nat) : Int) := w64add (by omega)
    have c1 := check_any (a.getD (k : Int).toNat vnull)
    have c2 := refCheck_any (a.getD (k : Int).toNat vnull)
    have q8 : (chk (a.getD (k : Int).toNat vnull) != chk (a.getD (k : Int).toNat vnull)) = false := by simp
    iterate 24 (all_goals (try conv => whnf); all_goals (try first | with_reducible refine brY (by assumption) ?_ | with_reducible refine brN (by assumption) ?_ | (with_reducible refine brT ?_ ?_; · (simp only [Bool.and_eq_true, Bool.not_eq_true', decide_eq_true_eq, decide_eq_false_iff_not, beq_iff_eq, beq_eq_false_iff_ne, ne_eq] at *; omega)) | with_reducible refine br (fun _ => ?_) (fun _ => ?_) | with_reducible refine ⟨rfl, ?_⟩ | with_reducible refine ARound.succ ?_ | with_reducible refine PCall.call (c1) ?_ | with_reducible refine PCall.call (c2) ?_))
    exact ⟨⟨k + 1, hkl⟩, by dsimp only; omega, by rw [e7], rfl⟩
  · have hd : decide ((k : Int) < (a.length : Int)) = false := decide_eq_false (by omega)
    iterate 14 (all_goals (try conv => whnf); all_goals (try first | with_reducible refine brY (by assumption) ?_ | with_reducible refine brN (by assumption) ?_ | (with_reducible refine brT ?_ ?_; · (simp only [Bool.and_eq_true, Bool.not_eq_true', decide_eq_true_eq, decide_eq_false_iff_not, beq_iff_eq, beq_eq_false_iff_ne, ne_eq] at *; omega)) | with_reducible refine br (fun _ => ?_) (fun _ => ?_) | with_reducible refine ⟨rfl, ?_⟩ | with_reducible refine ARound.succ ?_ | with_reducible refine PCall.call (ka) ?_ | with_reducible refine PCall.call (kb) ?_))
    exact leaf rfl (.bool _)
end Go.Proofs.YtcklfcagailoiaaDoor
namespace Go.Proofs.YtcklfcagailoiaaDoor
open Ab Go.RowKit
set_option linter.unusedVariables false
theorem i64_in {n : Int} (h : IntKind.i64.min ≤ n ∧ n ≤ IntKind.i64.max) : -9223372036854775808 ≤ n ∧ n ≤ 9223372036854775807 := by
  have e1 : IntKind.i64.min = -9223372036854775808 := by decide
  have e2 : IntKind.i64.max = 9223372036854775807 := by decide
  omega
theorem i32_in {n : Int} (h : IntKind.i32.min ≤ n ∧ n ≤ IntKind.i32.max) : -2147483648 ≤ n ∧ n ≤ 2147483647 := by
  have e1 : IntKind.i32.min = -2147483648 := by decide
  have e2 : IntKind.i32.max = 2147483647 := by decide
  omega
theorem u64_in {n : Int} (h : IntKind.u64.min ≤ n ∧ n ≤ IntKind.u64.max) : 0 ≤ n ∧ n ≤ 18446744073709551615 := by
  have e1 : IntKind.u64.min = 0 := by decide
  have e2 : IntKind.u64.max = 18446744073709551615 := by decide
  omega
theorem u8_in {n : Int} (h : IntKind.u8.min ≤ n ∧ n ≤ IntKind.u8.max) : 0 ≤ n ∧ n ≤ 255 := by
  have e1 : IntKind.u8.min = 0 := by decide
  have e2 : IntKind.u8.max = 255 := by decide
  omega
noncomputable def rdI64 : Rd Tryd.prog 2 Int := (Rd.int (k := .i64) Tryd.underlying2 (by kernel_rfl)).map id (fun n => [.int .i64 n]) (fun n => -9223372036854775808 ≤ n ∧ n ≤ 9223372036854775807) (fun _ => rfl) (fun _ h => i64_in h) fun _ => rfl
noncomputable def rdInt : Rd Tryd.prog 3 Int := (Rd.int (k := .i64) Tryd.underlying3 (by kernel_rfl)).map id (fun n => [.int .i64 n]) (fun n => -9223372036854775808 ≤ n ∧ n ≤ 9223372036854775807) (fun _ => rfl) (fun _ h => i64_in h) fun _ => rfl
noncomputable def rdI32 : Rd Tryd.prog 21 Int := (Rd.int (k := .i32) Tryd.underlying21 (by kernel_rfl)).map id (fun n => [.int .i32 n]) (fun n => -2147483648 ≤ n ∧ n ≤ 2147483647) (fun _ => rfl) (fun _ h => i32_in h) fun _ => rfl
noncomputable def rdU64 : Rd Tryd.prog 26 Int := (Rd.int (k := .u64) Tryd.underlying26 (by kernel_rfl)).map id (fun n => [.int .u64 n]) (fun n => 0 ≤ n ∧ n ≤ 18446744073709551615) (fun _ => rfl) (fun _ h => u64_in h) fun _ => rfl
noncomputable def rdU8 : Rd Tryd.prog 5 Int := (Rd.int (k := .u8) Tryd.underlying5 (by kernel_rfl)).map id (fun n => [.int .u8 n]) (fun n => 0 ≤ n ∧ n ≤ 255) (fun _ => rfl) (fun _ h => u8_in h) fun _ => rfl
noncomputable def rdStr : Rd Tryd.prog 9 (List UInt8) := Rd.str Tryd.underlying9 (by kernel_rfl)
noncomputable def rdStamp : Rd Tryd.prog 51 (Int × Int × Int) :=
  (Rd.struct Tryd.underlying51 (.cons rdI64 rfl (.cons rdI32 rfl (.cons rdI32 rfl .nil))) (by kernel_rfl)).map (fun x => (x.1, x.2.1, x.2.2.1)) (fun x => [.int .i64 x.1, .int .i32 x.2.1, .int .i32 x.2.2]) (fun x => (-9223372036854775808 ≤ x.1 ∧ x.1 ≤ 9223372036854775807) ∧ (-2147483648 ≤ x.2.1 ∧ x.2.1 ≤ 2147483647) ∧ (-2147483648 ≤ x.2.2 ∧ x.2.2 ≤ 2147483647)) (fun _ => rfl) (fun _ h => ⟨h.1, h.2.1, h.2.2.1⟩) fun _ => rfl
noncomputable def rdSpan : Rd Tryd.prog 35 (List UInt8 × List UInt8) :=
  (Rd.struct Tryd.underlying35 (.cons rdStr rfl (.cons rdStr rfl .nil)) (by kernel_rfl)).map (fun x => (x.1, x.2.1)) (fun x => [.str x.1, .str x.2]) (fun x => x.1.length ≤ 9223372036854775807 ∧ x.2.length ≤ 9223372036854775807) (fun _ => rfl) (fun _ h => ⟨h.1, h.2.1⟩) fun _ => rfl
end Go.Proofs.YtcklfcagailoiaaDoor
namespace Go.Proofs.YtcklfcagailoiaaDoor
open Ab Go.RowKit
set_option linter.unusedVariables false
noncomputable def rdKind : Rd Tryd.prog 63 Int := Rd.int (k := .u8) Tryd.underlying63 (by kernel_rfl)
noncomputable def rdValue : Rd Tryd.prog 65 V :=
  (Rd.struct Tryd.underlying65 (.cons rdKind rfl (.cons rdI64 rfl (.cons rdStr rfl .nil))) (by kernel_rfl)).map (fun x => ⟨x.1, x.2.1, x.2.2.1⟩) (fun v => [.int .u8 v.k, .int .i64 v.n, .str v.t]) V.In' (fun _ => rfl) (fun _ h => ⟨h.2.1.1, h.2.1.2⟩) fun _ => rfl
@[reducible] noncomputable def rdValues : Rd Tryd.prog 43 (List V) := Rd.slice Tryd.underlying43 (by kernel_rfl) rdValue (by decide) V.sv (fun _ => rfl) vnull
end Go.Proofs.YtcklfcagailoiaaDoor
namespace Go.Proofs.YtcklfcagailoiaaDoor
open Ab Go.RowKit
set_option linter.unusedVariables false
theorem encTuples_card {a b : List V} {s : List UInt8} (ia : ∀ v ∈ a, v.In') (ib : ∀ v ∈ b, v.In') (hs : s.length ≤ 140737488351232) :
    PCall Tryd.prog 10 [lstV a, lstV b, .str s] (.bool true) := encTuples_any ia ib hs
end Go.Proofs.YtcklfcagailoiaaDoor
