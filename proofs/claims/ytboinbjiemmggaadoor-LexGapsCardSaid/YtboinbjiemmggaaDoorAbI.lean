/- From a run over symbolic values to a call of the model, and to a row's last words. -/
import Derived.Test.YtboinbjiemmggaaDoorAbH
import Derived.ProofKit
import Derived.OpenShut
import Derived.Carry
namespace Ab
set_option linter.unusedVariables false
set_option linter.unusedSimpArgs false
open Go Go.RowKit

theorem globOk_none {Im : Nat → Prop} {w : World} (h : ∀ g, globTab g = []) (h2 : globIf = [] := by rfl) : GlobOk Im w := ⟨fun g v hg => (by unfold globSV at hg; rw [h g] at hg; cases hg), fun g hg => (by rw [h2] at hg; cases hg)⟩
theorem PCall.below {P : Program} {f : FuncId} {args : List SV} {v : SV} (hp : PCall P f args v) {w : World} {xs : Array Value} (Im : Nat → Prop) (him : ∀ b, Im b → b < w.heap.size) (hg : GlobOk Im w) (hs : xs.size = args.length)
    (hv : ∀ (i : Nat) (u : SV) (x : Value), args[i]? = some u → xs[i]? = some x → VP Im w u x) :
    Calls P f xs w fun e w' => (∃ x, e = .returned x ∧ VP (fun _ => True) w' v x) ∧ Below w.heap.size w w' := by
  have hr0 : Rep ⟨fun _ => 0, Im⟩ ⟨0, []⟩ w := ⟨(fun i o ho => by cases ho), (fun i o ho => by cases ho), (fun i j o p ho => by cases ho), (fun i o ho => by cases ho), him, hg⟩
  refine (hp.2.calls ⟨fun _ => 0, Im⟩ w xs hr0 hs fun i u x hu hx => .pure (hv i u x hu hx)).mono fun en w' hpost => ?_
  obtain ⟨c', h', r, ⟨v', rfl, hhard⟩, hr', hx', x, rfl, hvx⟩ := hpost
  refine ⟨⟨x, rfl, hhard.vp hr' (fun _ _ => trivial) (fun _ _ _ => trivial) hvx⟩, hx'.os, hx'.tape, hx'.output, hx'.size, fun b hb => hx'.frame b hb fun i o ho => by cases ho⟩

/-- A law's run: it comes to 'true'. -/
theorem PCall.holds {P : Program} {f : FuncId} {args : List SV} (hp : PCall P f args (.bool true)) {w : World} {xs : Array Value} (Im : Nat → Prop) (him : ∀ b, Im b → b < w.heap.size) (hg : GlobOk Im w) (hs : xs.size = args.length)
    (hv : ∀ (i : Nat) (u : SV) (x : Value), args[i]? = some u → xs[i]? = some x → VP Im w u x) :
    Calls P f xs w fun e w' => e = .returned (.bool true) ∧ Below w.heap.size w w' := by
  refine (hp.below Im him hg hs hv).mono fun e w' ⟨⟨x, he, hx⟩, hb⟩ => ?_
  cases hx
  exact ⟨he, hb⟩

section
variable {H : Type} {enc : TypeId × Value → H} {P : Program}
theorem post_kept {f : Func} {s : ChangeSpec} {apart fresh handsOn : Bool} {W W' : World} {args : Array Value} {v : Value} {ds gs : List (DataW H)} {before pa pv : List MemPlace}
    (hW : DataW.Whole enc P f.params.toList s.vars apart W args.toList ds gs before)
    (hres : ∀ (b : Nat) (sp : Nat → Bool) (hd : Bool), DataW.TrodAll enc P W' b sp hd f.resultTypes.toList (v.resultList f.resultTypes.size) (s.fn H (ds ++ gs)).results [])
    (hargs : DataW.TrodAll enc P W' 0 (fun b => decide (b < W.heap.size)) true f.params.toList args.toList (s.fn H (ds ++ gs)).args pa)
    (hvars : DataW.TrodVars enc P W' (fun b => decide (b < W.heap.size)) s.vars (s.fn H (ds ++ gs)).vars pv)
    (hb : Below W.heap.size W W') : s.post enc P f apart fresh handsOn false W args v W' :=
  ⟨ds, gs, before, [], pa, pv, hW, hres _ _ _, hargs, hvars, hb.frame _, fun h => by cases h⟩
end
end Ab
