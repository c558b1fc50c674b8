/- A laid table of pairs, as its cells in a row. -/
import Derived.Test.YtboinbjiemmggaaDoorAbN
namespace Ab
open Go
def pairs {α : Type} : List α → List (α × α)
  | a :: b :: r => (a, b) :: pairs r
  | _ => []
def evenL {α : Type} : List α → Bool
  | [] => true
  | [_] => false
  | _ :: _ :: r => evenL r
theorem pairs_len {α : Type} : ∀ {l : List α}, evenL l = true → l.length = 2 * (pairs l).length
  | [], _ => rfl
  | [_], h => by cases h
  | _ :: _ :: r, h => by
    have := pairs_len (l := r) h
    simp only [pairs, List.length_cons]
    omega
theorem pairs_get {α : Type} : ∀ {l : List α} {j : Nat} {p : α}, evenL l = true → l[j]? = some p → ∃ q : α × α, (pairs l)[j / 2]? = some q ∧ (j % 2 = 0 ∧ p = q.1 ∨ j % 2 = 1 ∧ p = q.2)
  | [], _, _, _, h => by simp at h
  | [_], _, _, h, _ => by cases h
  | a :: b :: r, 0, p, _, h => ⟨(a, b), rfl, .inl ⟨rfl, by simpa using h.symm⟩⟩
  | a :: b :: r, 1, p, _, h => ⟨(a, b), rfl, .inr ⟨rfl, by simpa using h.symm⟩⟩
  | a :: b :: r, j + 2, p, he, h => by
    obtain ⟨q, h1, h2⟩ := pairs_get (l := r) (j := j) he (by simpa using h)
    refine ⟨q, ?_, ?_⟩
    · rw [show (j + 2) / 2 = j / 2 + 1 by omega]
      simpa [pairs] using h1
    · rw [show (j + 2) % 2 = j % 2 by omega]
      exact h2
theorem table2_laid {P : Program} {w : World} {laid : List (String × DataW Unit)} (h : laidMetH P laid w) {n : String} {l : List (IntKind × Int)} (hev : evenL l = true)
    (hm : (n, DataW.agg ((pairs l).map fun p => DataW.agg [DataW.lit (.int p.1.1 p.1.2), DataW.lit (.int p.2.1 p.2.2)])) ∈ laid)
    {g t el m : Nat} {k0 k1 : IntKind} {f0 f1 : Field} (hg : P.globalNamed n = some g) (ht : (P.globals[g]?).map (·.type) = some t) (hu : P.underlying t = some (.array m el)) (hs : P.underlying el = some (.struct #[f0, f1]))
    (hk0 : P.underlying f0.type = some (.int k0)) (hk1 : P.underlying f1.type = some (.int k1)) (c2 : P.cellsOf el = 2) (o0 : f0.offset = 0) (o1 : f1.offset = 1) (c0 : P.cellsOf f0.type = 1) (c1 : P.cellsOf f1.type = 1) (hml : 2 * m = l.length) (hct : P.cellsOf t = l.length) :
    ∃ C ty fz, w.heap[g]? = some (.cells C ty fz) ∧ l.length = C.size ∧ ∀ (j : Nat) (p : IntKind × Int), l[j]? = some p → C[j]? = some (.int p.1 p.2) := by
  obtain ⟨⟨ps, hl, _⟩, _⟩ := laidMetH_iff.1 h
  obtain ⟨g', t', cs, fuel, p, enc, e1, e2, e3, e4⟩ := LaidVars_mem hl (List.mem_filter.2 ⟨hm, rfl⟩)
  obtain rfl := Option.some.inj (hg.symm.trans e1)
  obtain rfl := Option.some.inj (ht.symm.trans e2)
  obtain ⟨xs, f, _, ex, hcl, hlen, hel⟩ := DataW.trod_array hu e4
  have hx : xs.map (·.1) = (pairs l).map fun p => (DataW.agg [DataW.lit (.int p.1.1 p.1.2), DataW.lit (.int p.2.1 p.2.2)] : DataW Unit) := (DataW.agg.inj (Prod.mk.inj ex).1).symm
  simp only [World.var?, hg, Option.bind_some] at e3
  have cell : ∀ j, j < m → ∃ (p : (IntKind × Int) × (IntKind × Int)), (pairs l)[j]? = some p ∧ cs[2 * j]? = some (.int p.1.1 p.1.2) ∧ cs[2 * j + 1]? = some (.int p.2.1 p.2.2) := fun j hj => by
    have hE := hel j hj
    rw [c2, List.getElem?_eq_getElem (by omega)] at hE
    obtain ⟨y0, y1, n, h1, _, h2, h3⟩ := Go.ChangeShapes.trod_struct2 hs hE
    rw [o0, c0] at h2
    rw [o1, c1] at h3
    obtain ⟨z0, a1, a2, _⟩ := DataW.trod_int hk0 h2
    obtain ⟨z1, b1, b2, _⟩ := DataW.trod_int hk1 h3
    have h4 : (xs.map (·.1))[j]? = some (DataW.agg [DataW.lit (.int k0 z0), DataW.lit (.int k1 z1)]) := by
      rw [List.getElem?_map, List.getElem?_eq_getElem (by omega), Option.map_some, h1, a2, b2]
    rw [hx, List.getElem?_map] at h4
    obtain ⟨p, hp, h5⟩ := Option.map_eq_some_iff.1 h4
    simp only [DataW.agg.injEq, List.cons.injEq, DataW.lit.injEq, Lit.int.injEq, and_true] at h5
    obtain ⟨⟨q1, q2⟩, q3, q4⟩ := h5
    refine ⟨p, hp, ?_, ?_⟩
    · have h0 : ((((cs.toList.drop (j * 2)).take 2).drop 0).take 1)[0]? = some (.int k0 z0) := by rw [a1]; rfl
      rw [q1, q2, Nat.mul_comm]
      simpa using h0
    · have h0 : ((((cs.toList.drop (j * 2)).take 2).drop 1).take 1)[0]? = some (.int k1 z1) := by rw [b1]; rfl
      rw [q3, q4, Nat.mul_comm]
      simpa using h0
  split at e3
  · rename_i C ty fz hw
    cases e3
    refine ⟨_, ty, fz, hw, ?_, fun j p hp => ?_⟩
    · rw [← hct, ← hcl]; simp
    · have hj : j < l.length := (List.getElem?_eq_some_iff.1 hp).1
      obtain ⟨p', h1, h2, h3⟩ := cell (j / 2) (by omega)
      obtain ⟨q, h4, h5⟩ := pairs_get hev hp
      rw [h4] at h1; cases h1
      rcases h5 with ⟨h5, rfl⟩ | ⟨h5, rfl⟩
      · rw [show 2 * (j / 2) = j by omega] at h2; exact h2
      · rw [show 2 * (j / 2) + 1 = j by omega] at h3; exact h3
  · cases e3
end Ab
