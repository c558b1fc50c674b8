/- Rows.ValueKindsSaid: the law stagepostlaw12.ValueKinds answers true at every operation and every list of values. -/
import Derived.Test.YtcklfcagailoiaaRows
import Derived.Test.YtcklfcagailoiaaAbJ
import Derived.Test.YtcklfcagailoiaaVr
import Derived.Test.YtcklfcagailoiaaVa9b
namespace Go.Proofs.Ytcklfcagailoiaa.valueKinds
open Go.ChangeShapes Go.WideShapes Go.ChangeAt Go.RowKit
set_option linter.unusedVariables false

theorem own : ownKnob Try.prog.godebug = none := by kernel_rfl
theorem laidOut : laidOutB Try.prog = true := by kernel_rfl

set_option maxRecDepth 100000 in
theorem lifted (os : Os) (started : os.Started) (H : Type) (enc : TypeId × Value → H) :
    ReturnsInHanded {} Try.checked os 6 .any (Rows.valueKindsSpec.pre6 enc Try.prog Try.f6 Rows.valueKindsRow.domain false) (Rows.valueKindsSpec.post enc Try.prog Try.f6 false true false false) := by
  refine returnsInHanded_of_change (C := Try.checked) own started (by kernel_rfl) Try.func6
    (ChangeSpec.witness6 (enc := enc) (C := Try.checked) false ⟨#[], #[.int .u8 0, .slice none 0 0], []⟩ 8 (by kernel_rfl) (by kernel_rfl) (by kernel_rfl) (by kernel_rfl)) ?_
  intro W base args ds gs before hval0 hW hcnd _
  have hval : ∀ (j : Nat) t v, Try.f6.params[j]? = some t → args[j]? = some v → Value.okWide Try.prog W .any base t v := hval0
  have hW' := hW
  obtain ⟨p, q, hA0, hV, rfl, hfz, hnd⟩ := hW
  have hAk : DataW.TrodAll enc Try.prog W 0 (fun _ => true) true Try.f6.params.toList args.toList ds p := hA0
  have hA := hAk
  rw [Try.params6] at hA hval
  obtain ⟨rfl, rfl⟩ := trodVars_none hV
  have hlt : ∀ x ∈ p, x.block < W.heap.size := fun x hx => hW'.lt x (by simp [hx])
  obtain ⟨v0, vs0, d0, ds0, p0, q0, hargs, rfl, rfl, h0, r0⟩ := trodAll_cons hA
  obtain ⟨v1, vs1, d1, ds1, p1, q1, rfl, rfl, rfl, h1, r1⟩ := trodAll_cons r0
  obtain ⟨rfl, rfl, rfl⟩ := trodAll_nil r1
  obtain rfl : args = #[v0, v1] := by cases args; simp_all
  obtain ⟨x0, k0, e0⟩ := Ab.Rd.one (rdOp) h0 (fun x => .int .u8 x) (fun _ => rfl) (Ab.not_agg Try.underlying30 rfl (hval 0 30 v0 rfl rfl) h0)
  obtain ⟨x1, k1, e1⟩ := Ab.Rd.one (rdValues) h1 (fun x => lstV x) (fun _ => rfl) (Ab.not_agg Try.underlying36 rfl (hval 1 36 v1 rfl rfl) h1)
  simp only [List.append_nil] at hW' hlt hAk
  refine (Ab.PCall.holds (kinds_any x0 x1 k1) (fun b => b < W.heap.size) (fun _ h => h) rfl fun i u x hu hx => ?_).mono fun e W' ⟨he, hg⟩ => ?_
  · rcases i with _ | _ | i
    · cases hu; cases hx; exact e0
    · cases hu; cases hx; exact e1
    · simp at hu
  · subst he
    exact ⟨_, rfl, Ab.post_kept (pa := _) (pv := []) hW' (fun _ _ _ => (trodAll_cons_mk (shut_bool Try.underlying4 _) trodAll_mk0)) (Ab.below_all laidOut hg (by kernel_rfl) hAk (fun x hx => hlt x (by simpa using hx))) rfl hg⟩

theorem over : Rows.valueKindsRow.holds Try.pinned (OpenSpec.ofChange Rows.valueKindsSpec) :=
  OpenClaim.holds_of_wide 6 Try.f6 rfl rfl rfl rfl rfl rfl rfl ⟨rfl, rfl, rfl, rfl, rfl⟩ rfl rfl rfl rfl rfl (by kernel_rfl) Try.func6 (by kernel_rfl)
    (of_decide_eq_true (by kernel_rfl)) (by unfold Func.isWrapper; first | (rw [if_pos (by decide +kernel)]; kernel_rfl) | (rw [if_neg (by decide +kernel)]; exact ⟨rfl, rfl⟩))
    (fun os started H enc _ => lifted os started H enc)

/-- The statement. -/
theorem proved : Rows.ValueKindsSaid := over
#print axioms proved
end Go.Proofs.Ytcklfcagailoiaa.valueKinds
