/- Rows.EncNumbersUptoCardSaid: the law stagepostlaw01.EncNumbers answers true at every bytes, number and most, of bulk at most 1048576 together. -/
import Derived.Test.YtcklfcagailoiaaDoorCards
import Derived.Test.YtcklfcagailoiaaDoorTie
import Derived.Test.YtcklfcagailoiaaDoorM3
import Derived.Test.YtcklfcagailoiaaDoorM4
import Derived.ProofKit
import Derived.OpenShut
import Derived.LaidMore
import Derived.Lay
import Derived.SevenTiedAt
import Derived.Stop.Joined
import Derived.Deep.DeepHandedRow
import Derived.Lib.LaidTab
namespace Go.Proofs.YtcklfcagailoiaaDoor.encNumbers
open Go.ChangeShapes Go.WideShapes Go.ChangeAt Go.RowKit
set_option linter.unusedVariables false

theorem own : ownKnob Tryd.prog.godebug = none := by kernel_rfl
theorem laidOut : laidOutB Tryd.prog = true := by kernel_rfl

set_option maxRecDepth 100000 in
theorem lifted (os : Os) (started : os.Started) (H : Type) (enc : TypeId × Value → H) (F : Stop.Interp) :
    ReturnsInHanded {} Tryd.checked os 5 .any ((Rows.OpenSpec.upto Rows.encNumbersSpec).preRow enc Tryd.prog Tryd.f5 Rows.encNumbersUptoRow.domain false Rows.encNumbersUptoRow.laid) (((Rows.OpenSpec.upto Rows.encNumbersSpec).at F).post enc Tryd.prog Tryd.f5 false true false false) := by
  refine returnsInHanded_of_row (C := Tryd.checked) (s := Rows.OpenSpec.upto Rows.encNumbersSpec) own started (by kernel_rfl) Tryd.func5
    (witness_row_at (enc := enc) (C := Tryd.checked) false (World.laidAll Tryd.prog os Rows.encNumbersUptoRow.laid) #[.slice none 0 0, .int .u64 0, .int .i64 0] (World.laidAll_os _ _ _) (by kernel_rfl) (by kernel_rfl) (by kernel_rfl)
      (OpenSpec.preRow_of_cond 8 (x := ([.nil, .lit (.int .u64 0), .lit (.int .i64 0)], [], [])) (by kernel_rfl) (by kernel_rfl) (fun k hk => by cases hk; kernel_rfl) (by kernel_rfl) (by rw [MakeChecks.laidMetH_plain _ _ _ (by kernel_rfl)]; exact laidMet_laidAll _ (by kernel_rfl) (by kernel_rfl)))) ?_
  intro W base args ds gs before hval0 hW hcnd hcond hwt hL _ _
  show Calls Tryd.prog 5 args W fun e W' => ∃ v, e = .returned v ∧ Rows.encNumbersSpec.post enc Tryd.prog Tryd.f5 false true false false W args v W'
  have hval : ∀ (j : Nat) t v, Tryd.f5.params[j]? = some t → args[j]? = some v → Value.okWide Tryd.prog W .any base t v := hval0
  replace hW : DataW.Whole enc Tryd.prog Tryd.f5.params.toList Rows.encNumbersSpec.vars false W args.toList ds gs before := hW
  have hb0 : Rows.uptoSmall H (ds ++ gs) = true := hcond _ rfl
  have hW' := hW
  obtain ⟨p, q, hA0, hV, rfl, hfz, hnd⟩ := hW
  have hAk : DataW.TrodAll enc Tryd.prog W 0 (fun _ => true) true Tryd.f5.params.toList args.toList ds p := hA0
  have hA := hAk
  rw [Tryd.params5] at hA hval
  obtain ⟨rfl, rfl⟩ := trodVars_none hV
  have hlt : ∀ x ∈ p, x.block < W.heap.size := fun x hx => hW'.lt x (by simp [hx])
  obtain ⟨v0, vs0, d0, ds0, p0, q0, hargs, rfl, rfl, h0, r0⟩ := trodAll_cons hA
  obtain ⟨v1, vs1, d1, ds1, p1, q1, rfl, rfl, rfl, h1, r1⟩ := trodAll_cons r0
  obtain ⟨v2, vs2, d2, ds2, p2, q2, rfl, rfl, rfl, h2, r2⟩ := trodAll_cons r1
  obtain ⟨rfl, rfl, rfl⟩ := trodAll_nil r2
  obtain rfl : args = #[v0, v1, v2] := by cases args; simp_all
  rw [Tryd.params5] at hwt
  simp only [DataW.weightsEach, List.cons_append, List.nil_append, List.all_append, Bool.and_eq_true] at hwt
  have hb : Rows.uptoBulkAll ([d0, d1, d2] ++ [] : List (DataW H)) ≤ 1048576 := of_decide_eq_true hb0
  simp only [Rows.uptoBulkAll, List.append_nil] at hb
  obtain ⟨x0, k0, e0⟩ := Ab.Rd.one' (rdBytes) h0 (fun x => lstI8 x) (fun _ => rfl) (Ab.not_agg Tryd.underlying23 rfl (hval 0 23 v0 rfl rfl) h0) (hwt.1)
  have b0 := Ab.slice_bulk Tryd.underlying23 h0 e0
  obtain ⟨x1, k1, e1⟩ := Ab.Rd.one' (rdU64) h1 (fun x => .int .u64 x) (fun _ => rfl) (Ab.not_agg Tryd.underlying26 rfl (hval 1 26 v1 rfl rfl) h1) (hwt.2.1)
  obtain ⟨x2, k2, e2⟩ := Ab.Rd.one' (rdInt) h2 (fun x => .int .i64 x) (fun _ => rfl) (Ab.not_agg Tryd.underlying3 rfl (hval 2 3 v2 rfl rfl) h2) (hwt.2.2.1)
  simp only [List.append_nil] at hW' hlt hAk
  refine (Ab.PCall.holds (encNumbers_card (most := x2) k0.1.1 k1.1 (by omega)) (fun b => b < W.heap.size) (fun _ h => h) (Ab.globOk_none fun _ => rfl) rfl fun i u x hu hx => ?_).mono fun e W' ⟨he, hg⟩ => ?_
  · rcases i with _ | _ | _ | i
    · cases hu; cases hx; exact e0
    · cases hu; cases hx; exact e1
    · cases hu; cases hx; exact e2
    · simp at hu
  · subst he
    exact ⟨_, rfl, Ab.post_kept (pa := _) (pv := []) hW' (fun _ _ _ => (trodAll_cons_mk (shut_bool Tryd.underlying4 _) trodAll_mk0)) (Ab.below_all laidOut hg (by kernel_rfl) hAk (fun x hx => hlt x (by simpa using hx))) rfl hg⟩

theorem over : Rows.EncNumbersUptoSaid :=
  OpenClaim.holds_of_cond 5 Tryd.f5 rfl rfl rfl rfl rfl rfl rfl ⟨rfl, rfl, rfl, rfl, rfl⟩ rfl rfl rfl rfl rfl (by kernel_rfl) Tryd.func5 (by kernel_rfl)
    (of_decide_eq_true (by kernel_rfl)) (by unfold Func.isWrapper; first | (rw [if_pos (by decide +kernel)]; kernel_rfl) | (rw [if_neg (by decide +kernel)]; exact ⟨rfl, rfl⟩))
    (fun os started H enc _ F => by rw [OpenClaim.pre_eq_preRow]; exact lifted os started H enc F)

/-- The statement. -/
theorem proved : Rows.EncNumbersUptoCardSaid :=
  Claim7.holds_tied_plain_at .later [] _ _ _ _ over (fun _ h => by cases h) (by kernel_rfl) (fun _ h => by cases h) encNumbersUpto_row_tie rfl ⟨rfl, rfl⟩ (by kernel_rfl) rfl
    (fun f fn hf hfn => by
      obtain rfl : f = 5 := Option.some.inj ((show Tryd.prog.funcNamed "stagepost/stagepostlaw01.EncNumbers" = some 5 by kernel_rfl).symm.trans hf) |>.symm
      obtain rfl : fn = Tryd.f5 := (Option.some.inj (Tryd.func5.symm.trans hfn)).symm
      exact ⟨by kernel_rfl, fun j t ht => by
        rw [Tryd.params5] at ht
        have hm : t ∈ [23, 26, 3] := by simpa using Array.mem_of_getElem? ht
        have hall : ([23, 26, 3].all fun u => !Tryd.prog.wantsStandIn u) = true := by kernel_rfl
        exact (show Tryd.prog.wantsStandIn t = false by simpa using List.all_eq_true.1 hall t hm)⟩)
    (by kernel_rfl)
#print axioms proved
end Go.Proofs.YtcklfcagailoiaaDoor.encNumbers
