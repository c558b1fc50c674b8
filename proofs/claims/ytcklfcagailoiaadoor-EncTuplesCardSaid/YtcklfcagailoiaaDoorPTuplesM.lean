/- Rows.EncTuplesCardSaid: the law stagepostlaw01.EncTuples answers true at every two tuples and every text. -/
import Derived.Test.YtcklfcagailoiaaDoorCards
import Derived.Test.YtcklfcagailoiaaDoorTie
import Derived.Test.YtcklfcagailoiaaDoorM3
import Derived.Test.YtcklfcagailoiaaDoorM5
import Derived.ProofKit
import Derived.OpenShut
import Derived.LaidMore
import Derived.Lay
import Derived.SevenTiedAt
import Derived.Stop.Joined
namespace Go.Proofs.YtcklfcagailoiaaDoor.encTuples
open Go.ChangeShapes Go.WideShapes Go.ChangeAt Go.RowKit
set_option linter.unusedVariables false

theorem own : ownKnob Tryd.prog.godebug = none := by kernel_rfl
theorem laidOut : laidOutB Tryd.prog = true := by kernel_rfl

set_option maxRecDepth 100000 in
theorem lifted (os : Os) (started : os.Started) (H : Type) (enc : TypeId × Value → H) :
    ReturnsInHanded {} Tryd.checked os 10 .any (fun w args => (Rows.encTuplesSpec.pre enc Tryd.prog Tryd.f10 Rows.encTuplesRow.domain false w args ∧ laidMetH Tryd.prog Rows.encTuplesRow.laid w) ∧ sizedMet enc Tryd.prog Tryd.f10 (OpenSpec.ofChange Rows.encTuplesSpec) false w args)
      (Rows.encTuplesSpec.post enc Tryd.prog Tryd.f10 false true false false) := by
  refine returnsInHanded_of_change_and (C := Tryd.checked) (X := fun w _ => laidMetH Tryd.prog Rows.encTuplesRow.laid w) (fun _ _ _ hh h => h.of_heap hh) own started (by kernel_rfl) Tryd.func10
    (ChangeSpec.witness_shaped (enc := enc) (C := Tryd.checked) (os := os) (X := fun w _ => laidMetH Tryd.prog Rows.encTuplesRow.laid w) false (World.laidAll Tryd.prog os Rows.encTuplesRow.laid) #[.slice none 0 0, .slice none 0 0, .string ⟨#[]⟩] 8 (World.laidAll_os _ _ _)
      (World.shaped_of_ZipB (by kernel_rfl) (by kernel_rfl)) (by kernel_rfl) (by kernel_rfl) (by kernel_rfl)
      (by rw [MakeChecks.laidMetH_plain _ _ _ (by kernel_rfl)]; exact laidMet_laidAll _ (by kernel_rfl) (by kernel_rfl))) ?_
  intro W base args ds gs before hval0 hW hcnd hwt hL _
  have hval : ∀ (j : Nat) t v, Tryd.f10.params[j]? = some t → args[j]? = some v → Value.okWide Tryd.prog W .any base t v := hval0
  have hW' := hW
  obtain ⟨p, q, hA0, hV, rfl, hfz, hnd⟩ := hW
  have hAk : DataW.TrodAll enc Tryd.prog W 0 (fun _ => true) true Tryd.f10.params.toList args.toList ds p := hA0
  have hA := hAk
  rw [Tryd.params10] at hA hval
  obtain ⟨rfl, rfl⟩ := trodVars_none hV
  have hlt : ∀ x ∈ p, x.block < W.heap.size := fun x hx => hW'.lt x (by simp [hx])
  obtain ⟨v0, vs0, d0, ds0, p0, q0, hargs, rfl, rfl, h0, r0⟩ := trodAll_cons hA
  obtain ⟨v1, vs1, d1, ds1, p1, q1, rfl, rfl, rfl, h1, r1⟩ := trodAll_cons r0
  obtain ⟨v2, vs2, d2, ds2, p2, q2, rfl, rfl, rfl, h2, r2⟩ := trodAll_cons r1
  obtain ⟨rfl, rfl, rfl⟩ := trodAll_nil r2
  obtain rfl : args = #[v0, v1, v2] := by cases args; simp_all
  rw [Tryd.params10] at hwt
  simp only [DataW.weightsEach, List.cons_append, List.nil_append, List.all_append, Bool.and_eq_true] at hwt
  obtain ⟨x0, k0, e0⟩ := Ab.Rd.one' (rdValues) h0 (fun x => lstV x) (fun _ => rfl) (Ab.not_agg Tryd.underlying43 rfl (hval 0 43 v0 rfl rfl) h0) (hwt.1)
  obtain ⟨x1, k1, e1⟩ := Ab.Rd.one' (rdValues) h1 (fun x => lstV x) (fun _ => rfl) (Ab.not_agg Tryd.underlying43 rfl (hval 1 43 v1 rfl rfl) h1) (hwt.2.1)
  obtain ⟨x2, k2, e2⟩ := Ab.Rd.one' (rdStr) h2 (fun x => .str x) (fun _ => rfl) (Ab.not_agg Tryd.underlying9 rfl (hval 2 9 v2 rfl rfl) h2) (hwt.2.2.1)
  simp only [List.append_nil] at hW' hlt hAk
  refine (Ab.PCall.holds (encTuples_card k0.1.1 k1.1.1 k2.2) (fun b => b < W.heap.size) (fun _ h => h) rfl fun i u x hu hx => ?_).mono fun e W' ⟨he, hg⟩ => ?_
  · rcases i with _ | _ | _ | i
    · cases hu; cases hx; exact e0
    · cases hu; cases hx; exact e1
    · cases hu; cases hx; exact e2
    · simp at hu
  · subst he
    exact ⟨_, rfl, Ab.post_kept (pa := _) (pv := []) hW' (fun _ _ _ => (trodAll_cons_mk (shut_bool Tryd.underlying4 _) trodAll_mk0)) (Ab.below_all laidOut hg (by kernel_rfl) hAk (fun x hx => hlt x (by simpa using hx))) rfl hg⟩

theorem over : Rows.encTuplesRow.holds Tryd.pinned (OpenSpec.ofChange Rows.encTuplesSpec) :=
  OpenClaim.holds_of_wide 10 Tryd.f10 rfl rfl rfl rfl rfl rfl rfl ⟨rfl, rfl, rfl, rfl, rfl⟩ rfl rfl rfl rfl rfl (by kernel_rfl) Tryd.func10 (by kernel_rfl)
    (of_decide_eq_true (by kernel_rfl)) (by unfold Func.isWrapper; first | (rw [if_pos (by decide +kernel)]; kernel_rfl) | (rw [if_neg (by decide +kernel)]; exact ⟨rfl, rfl⟩))
    (fun os started H enc _ => lifted os started H enc)

/-- The statement. -/
theorem proved : Rows.EncTuplesCardSaid :=
  Claim7.holds_tied_plain_at .later [] [.data, .pinned] true (true, "a7227898a19b515675fcb8815b4ecb6c1c6913deeded91032c88b5bdc0514cf5") false over (fun _ h => by cases h) (by kernel_rfl) (fun _ h => by cases h) encTuples_row_tie rfl ⟨rfl, rfl⟩ (by kernel_rfl) rfl
    (fun f fn hf hfn => by
      obtain rfl : f = 10 := Option.some.inj ((show Tryd.prog.funcNamed "stagepost/stagepostlaw01.EncTuples" = some 10 by kernel_rfl).symm.trans hf) |>.symm
      obtain rfl : fn = Tryd.f10 := (Option.some.inj (Tryd.func10.symm.trans hfn)).symm
      exact ⟨by kernel_rfl, fun j t ht => by
        rw [Tryd.params10] at ht
        have hm : t ∈ [43, 43, 9] := by simpa using Array.mem_of_getElem? ht
        have hall : ([43, 43, 9].all fun u => !Tryd.prog.wantsStandIn u) = true := by kernel_rfl
        exact (show Tryd.prog.wantsStandIn t = false by simpa using List.all_eq_true.1 hall t hm)⟩)
    (by kernel_rfl)
#print axioms proved
end Go.Proofs.YtcklfcagailoiaaDoor.encTuples
