/- A laid error variable stands in memory as an interface value. -/
import Derived.Test.YtboinbjiemmggaaDoorAbN
import Derived.LaidLaws
namespace Ab
open Go
theorem iface_laid {P : Program} {w : World} {laid : List (String × DataW Unit)} (h : laidMetH P laid w) {n nm : String} {D d : DataW Unit} (hm : (n, D) ∈ laid) (hD : D = DataW.iface nm d) (hf : D.handleName?.isNone = true)
    {g t : Nat} {ms : Array (String × TypeId)} (hg : P.globalNamed n = some g) (ht : (P.globals[g]?).map (·.type) = some t) (hi : P.underlying t = some (.interface ms)) :
    ∃ v ty fz, w.heap[g]? = some (.cells #[v] ty fz) ∧ (v = .nilIface ∨ ∃ te pe, v = .iface te pe) := by
  subst hD
  obtain ⟨⟨ps, hl, _⟩, _⟩ := laidMetH_iff.1 h
  obtain ⟨g', t', cs, fuel, p, enc, e1, e2, e3, e4⟩ := LaidVars_mem hl (List.mem_filter.2 ⟨hm, hf⟩)
  obtain rfl := Option.some.inj (hg.symm.trans e1)
  obtain rfl := Option.some.inj (ht.symm.trans e2)
  obtain ⟨f1, u, v, hcs, _, _⟩ := iface_of_trod hi e4
  simp only [World.var?, hg, Option.bind_some] at e3
  split at e3
  · rename_i C ty fz hw
    cases e3
    refine ⟨.iface u v, ty, fz, ?_, .inr ⟨u, v, rfl⟩⟩
    rw [hw]
    have : cs = #[.iface u v] := by
      apply Array.ext'
      simpa using hcs
    rw [this]
  · cases e3
end Ab
