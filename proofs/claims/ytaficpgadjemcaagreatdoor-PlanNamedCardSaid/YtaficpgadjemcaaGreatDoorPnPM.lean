/- Rows.PlanNamedCardSaid: the law stagepostlaw17.PlanNamed answers true at every expression and two rows, its tables laid by the program's text. -/
import Derived.Test.YtaficpgadjemcaaGreatDoorCards
import Derived.Test.YtaficpgadjemcaaGreatDoorTie
import Derived.Test.YtaficpgadjemcaaGreatDoorM6
import Derived.Test.YtaficpgadjemcaaGreatDoorM12
import Derived.ProofKit
import Derived.OpenShut
import Derived.LaidMore
import Derived.Lay
import Derived.SevenTiedAt
import Derived.Stop.Joined
namespace Go.Proofs.YtaficpgadjemcaaGreatDoor.planNamed
open Go.ChangeShapes Go.WideShapes Go.ChangeAt Go.RowKit
set_option linter.unusedVariables false

theorem own : ownKnob Tryz.prog.godebug = none := by kernel_rfl
theorem laidOut : laidOutB Tryz.prog = true := by kernel_rfl
theorem globs {W : World} (hL : laidMetH Tryz.prog Rows.planNamedRow.laid W) : Ab.GlobOk (fun b => b < W.heap.size) W := by
  refine Ab.globOk_of (fun g hne => ?_) (fun g hg => ?_)
  · unfold Ab.globTab at hne
    split at hne
    · obtain ⟨C, ty, fz, h1, h2, h3⟩ := Ab.table_laid hL (n := "strings.asciiSpace") (l := Ab.globTab 1) (List.mem_of_getElem? (i := 7) (by kernel_rfl)) (g := 1) (t := 255) (el := 5) (m := 256) (k := .u8) (by kernel_rfl) (by kernel_rfl) (by kernel_rfl) (by kernel_rfl) (by kernel_rfl) (by kernel_rfl) (by kernel_rfl)
      exact ⟨(Array.getElem?_eq_some_iff.1 h1).1, C, ty, fz, h1, h2, h3⟩
    · obtain ⟨C, ty, fz, h1, h2, h3⟩ := Ab.table_laid hL (n := "unicode/utf8.first") (l := Ab.globTab 2) (List.mem_of_getElem? (i := 9) (by kernel_rfl)) (g := 2) (t := 255) (el := 5) (m := 256) (k := .u8) (by kernel_rfl) (by kernel_rfl) (by kernel_rfl) (by kernel_rfl) (by kernel_rfl) (by kernel_rfl) (by kernel_rfl)
      exact ⟨(Array.getElem?_eq_some_iff.1 h1).1, C, ty, fz, h1, h2, h3⟩
    · exact absurd rfl hne
  · simp [Ab.globIf] at hg

set_option maxRecDepth 100000 in
theorem lifted (os : Os) (started : os.Started) (H : Type) (enc : TypeId × Value → H) :
    ReturnsInHanded {} Tryz.checked os 3 .any (fun w args => (Rows.planNamedSpec.pre enc Tryz.prog Tryz.f3 Rows.planNamedRow.domain false w args ∧ laidMetH Tryz.prog Rows.planNamedRow.laid w) ∧ sizedMet enc Tryz.prog Tryz.f3 (OpenSpec.ofChange Rows.planNamedSpec) false w args)
      (Rows.planNamedSpec.post enc Tryz.prog Tryz.f3 false true false false) := by
  refine returnsInHanded_of_change_and (C := Tryz.checked) (X := fun w _ => laidMetH Tryz.prog Rows.planNamedRow.laid w) (fun _ _ _ hh h => h.of_heap hh) own started (by kernel_rfl) Tryz.func3
    (ChangeSpec.witness_shaped (enc := enc) (C := Tryz.checked) (os := os) (X := fun w _ => laidMetH Tryz.prog Rows.planNamedRow.laid w) false (World.laidAll Tryz.prog os Rows.planNamedRow.laid) #[.agg #[.int .u8 0, .int .u8 0, .int .i64 0, .string ⟨#[]⟩, .string ⟨#[]⟩, .string ⟨#[]⟩, .int .i64 0, .int .u8 0, .slice none 0 0], .slice none 0 0, .slice none 0 0] 8 (World.laidAll_os _ _ _)
      (World.shaped_of_ZipB (by kernel_rfl) (by kernel_rfl)) (by kernel_rfl) (by kernel_rfl) (by kernel_rfl)
      (by rw [MakeChecks.laidMetH_plain _ _ _ (by kernel_rfl)]; exact laidMet_laidAll _ (by kernel_rfl) (by kernel_rfl))) ?_
  intro W base args ds gs before hval0 hW hcnd hwt hL _
  have hval : ∀ (j : Nat) t v, Tryz.f3.params[j]? = some t → args[j]? = some v → Value.okWide Tryz.prog W .any base t v := hval0
  have hW' := hW
  obtain ⟨p, q, hA0, hV, rfl, hfz, hnd⟩ := hW
  have hAk : DataW.TrodAll enc Tryz.prog W 0 (fun _ => true) true Tryz.f3.params.toList args.toList ds p := hA0
  have hA := hAk
  rw [Tryz.params3] at hA hval
  obtain ⟨rfl, rfl⟩ := trodVars_none hV
  have hlt : ∀ x ∈ p, x.block < W.heap.size := fun x hx => hW'.lt x (by simp [hx])
  obtain ⟨v0, vs0, d0, ds0, p0, q0, hargs, rfl, rfl, h0, r0⟩ := trodAll_cons hA
  obtain ⟨v1, vs1, d1, ds1, p1, q1, rfl, rfl, rfl, h1, r1⟩ := trodAll_cons r0
  obtain ⟨v2, vs2, d2, ds2, p2, q2, rfl, rfl, rfl, h2, r2⟩ := trodAll_cons r1
  obtain ⟨rfl, rfl, rfl⟩ := trodAll_nil r2
  obtain rfl : args = #[v0, v1, v2] := by cases args; simp_all
  rw [Tryz.params3] at hwt
  simp only [DataW.weightsEach, List.cons_append, List.nil_append, List.all_append, Bool.and_eq_true] at hwt
  obtain ⟨x0, k0, e0⟩ := Ab.Rd.agg' (rdExpr) Tryz.underlying28 (hval 0 28 v0 rfl rfl) h0 (hwt.1)
  obtain ⟨x1, k1, e1⟩ := Ab.Rd.one' (rdValues) h1 (fun x => lstV x) (fun _ => rfl) (Ab.not_agg Tryz.underlying29 rfl (hval 1 29 v1 rfl rfl) h1) (hwt.2.1)
  obtain ⟨x2, k2, e2⟩ := Ab.Rd.one' (rdValues) h2 (fun x => lstV x) (fun _ => rfl) (Ab.not_agg Tryz.underlying29 rfl (hval 2 29 v2 rfl rfl) h2) (hwt.2.2.1)
  simp only [List.append_nil] at hW' hlt hAk
  refine (Ab.PCall.holds (planNamed_card (x := x0) k0.1 k1.1.1 k2.1.1) (fun b => b < W.heap.size) (fun _ h => h) (globs hL) rfl fun i u x hu hx => ?_).mono fun e W' ⟨he, hg⟩ => ?_
  · rcases i with _ | _ | _ | i
    · cases hu; cases hx; exact e0
    · cases hu; cases hx; exact e1
    · cases hu; cases hx; exact e2
    · simp at hu
  · subst he
    exact ⟨_, rfl, Ab.post_kept (pa := _) (pv := []) hW' (fun _ _ _ => (trodAll_cons_mk (shut_bool Tryz.underlying4 _) trodAll_mk0)) (Ab.below_all laidOut hg (by kernel_rfl) hAk (fun x hx => hlt x (by simpa using hx))) rfl hg⟩

theorem over : Rows.planNamedRow.holds Tryz.pinned (OpenSpec.ofChange Rows.planNamedSpec) :=
  OpenClaim.holds_of_wide 3 Tryz.f3 rfl rfl rfl rfl rfl rfl rfl ⟨rfl, rfl, rfl, rfl, rfl⟩ rfl rfl rfl rfl rfl (by kernel_rfl) Tryz.func3 facts
    (of_decide_eq_true (by kernel_rfl)) (by unfold Func.isWrapper; first | (rw [if_pos (by decide +kernel)]; kernel_rfl) | (rw [if_neg (by decide +kernel)]; exact ⟨rfl, rfl⟩))
    (fun os started H enc _ => lifted os started H enc)

theorem pw : Rows.planNamedRow.wfByText (OpenSpec.ofChange Rows.planNamedSpec) = true := by kernel_rfl
theorem pm : Tryz.pinned.checked.prog.mainIs = some (true, "46fd15adba2f7439c0a57f4fd7e118f091fc64e70f62656eb5e04e59f34ccc0a".toList) := by kernel_rfl
theorem pf : Tryz.prog.funcNamed "stagepost/stagepostlaw17.PlanNamed" = some 3 := by kernel_rfl
theorem pl : true = Tryz.pinned.checked.prog.looks [] := by kernel_rfl
theorem pg : false = Rows.planNamedRow.goesBy Tryz.pinned.checked.prog := by kernel_rfl
theorem ph : ([28, 29, 29].all fun u => !Tryz.prog.wantsStandIn u) = true := by kernel_rfl

/-- The statement. -/
theorem proved : Rows.PlanNamedCardSaid :=
  Claim7.holds_tied_plain_at .later [] [.data, .data, .data, .data, .sentinel, .sentinel, .listed, .data, .pinned, .pinned] true (true, "46fd15adba2f7439c0a57f4fd7e118f091fc64e70f62656eb5e04e59f34ccc0a") true over (fun _ h => by cases h) pw (fun _ h => by cases h) planNamed_row_tie rfl ⟨rfl, rfl⟩ pm rfl
    (fun f fn hf hfn => by
      obtain rfl : f = 3 := Option.some.inj (pf.symm.trans hf) |>.symm
      obtain rfl : fn = Tryz.f3 := (Option.some.inj (Tryz.func3.symm.trans hfn)).symm
      exact ⟨pl, fun j t ht => by
        rw [Tryz.params3] at ht
        have hm : t ∈ [28, 29, 29] := by simpa using Array.mem_of_getElem? ht
        have hall : ([28, 29, 29].all fun u => !Tryz.prog.wantsStandIn u) = true := ph
        exact (show Tryz.prog.wantsStandIn t = false by simpa using List.all_eq_true.1 hall t hm)⟩)
    pg
#print axioms proved
end Go.Proofs.YtaficpgadjemcaaGreatDoor.planNamed
