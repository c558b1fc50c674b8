/- The tables that a row lays stand in memory as told. -/
import Derived.Test.YtboinbjiemmggaaDoorAbG
import Derived.OpenShut
import Derived.LaidSub
namespace Ab
open Go
theorem LaidVars_mem {P : Program} {w : World} {n : String} {d : DataW Unit} : ∀ {l : List (String × DataW Unit)} {ps : List MemPlace}, DataW.LaidVars P w l ps → (n, d) ∈ l →
    ∃ g t cs fuel p enc, P.globalNamed n = some g ∧ (P.globals[g]?).map (·.type) = some t ∧ w.var? P n = some cs ∧ DataW.trod enc P w 0 (fun _ => true) false fuel t cs.toList = some (d, p)
  | [], _, _, hm => by cases hm
  | (n', d') :: r, ps, h, hm => by
    obtain ⟨g, t, cs, fuel, p, q, e1, e2, e3, e4, hr, rfl⟩ := h
    rcases List.mem_cons.1 hm with he | hm
    · cases he
      exact ⟨g, t, cs, fuel, p, _, e1, e2, e3, e4⟩
    · exact LaidVars_mem hr hm
theorem table_laid {P : Program} {w : World} {laid : List (String × DataW Unit)} (h : laidMetH P laid w) {n : String} {l : List (IntKind × Int)} (hm : (n, DataW.agg (l.map fun p => DataW.lit (.int p.1 p.2))) ∈ laid)
    {g t el m : Nat} {k : IntKind} (hg : P.globalNamed n = some g) (ht : (P.globals[g]?).map (·.type) = some t) (hu : P.underlying t = some (.array m el)) (hk : P.underlying el = some (.int k)) (c1 : P.cellsOf el = 1) (hml : m = l.length) (hct : P.cellsOf t = l.length) :
    ∃ C ty fz, w.heap[g]? = some (.cells C ty fz) ∧ l.length = C.size ∧ ∀ (j : Nat) (p : IntKind × Int), l[j]? = some p → C[j]? = some (.int p.1 p.2) := by
  obtain ⟨⟨ps, hl, _⟩, _⟩ := laidMetH_iff.1 h
  obtain ⟨g', t', cs, fuel, p, enc, e1, e2, e3, e4⟩ := LaidVars_mem hl (List.mem_filter.2 ⟨hm, rfl⟩)
  obtain rfl := Option.some.inj (hg.symm.trans e1)
  obtain rfl := Option.some.inj (ht.symm.trans e2)
  obtain ⟨xs, f, _, ex, hcl, hlen, hel⟩ := DataW.trod_array hu e4
  have hx : xs.map (·.1) = l.map fun p => (DataW.lit (.int p.1 p.2) : DataW Unit) := (DataW.agg.inj (Prod.mk.inj ex).1).symm
  simp only [World.var?, hg, Option.bind_some] at e3
  have cell : ∀ j, j < m → ∃ (p : IntKind × Int), l[j]? = some p ∧ cs[j]? = some (.int p.1 p.2) := fun j hj => by
    have hE := hel j hj
    rw [c1, Nat.mul_one, List.getElem?_eq_getElem (by omega)] at hE
    obtain ⟨z, h1, h2, _⟩ := DataW.trod_int hk hE
    have h3 : (xs.map (·.1))[j]? = some (DataW.lit (.int k z)) := by rw [List.getElem?_map, List.getElem?_eq_getElem (by omega), Option.map_some, h2]
    rw [hx, List.getElem?_map] at h3
    obtain ⟨p, hp, h4⟩ := Option.map_eq_some_iff.1 h3
    simp only [DataW.lit.injEq, Lit.int.injEq] at h4
    refine ⟨p, hp, ?_⟩
    have h0 : ((cs.toList.drop j).take 1)[0]? = some (.int k z) := by rw [h1]; rfl
    rw [h4.1, h4.2]
    simpa using h0
  split at e3
  · rename_i C ty fz hw
    cases e3
    refine ⟨_, ty, fz, hw, ?_, fun j p hp => ?_⟩
    · rw [← hct, ← hcl]; simp
    · have hj : j < m := by have := (List.getElem?_eq_some_iff.1 hp).1; omega
      obtain ⟨p', h1, h2⟩ := cell j hj
      rw [hp] at h1; cases h1
      exact h2
  · cases e3

theorem globOk_of {Im : Nat → Prop} {w : World} (h : ∀ g, globTab g ≠ [] → Im g ∧ ∃ C ty fz, w.heap[g]? = some (.cells C ty fz) ∧ (globTab g).length = C.size ∧ ∀ (j : Nat) (p : IntKind × Int), (globTab g)[j]? = some p → C[j]? = some (.int p.1 p.2)) 
    (h2 : ∀ g, g ∈ globIf → Im g ∧ ∃ v ty fz, w.heap[g]? = some (.cells #[v] ty fz) ∧ (v = .nilIface ∨ ∃ te pe, v = .iface te pe) := by intro g hg; cases hg) : GlobOk Im w := by
  refine ⟨fun g v hg => ?_, h2⟩
  unfold globSV at hg
  split at hg
  · cases hg
  · rename_i hne
    cases hg
    obtain ⟨h1, C, ty, fz, h2, h3, h4⟩ := h g hne
    refine ⟨h1, C, ty, fz, h2, by simpa [SV.cells] using h3, fun j u x hu hx => ?_⟩
    simp only [SV.cells, List.getElem?_map] at hu
    obtain ⟨p, hp, rfl⟩ := Option.map_eq_some_iff.1 hu
    rw [h4 j p hp] at hx
    cases hx
    exact .int _ _
end Ab
