/- Rows.CheckNamesCardSaid: the law stagepost/stagepostlaw16.CheckNames answers true, its tables laid by the program's text. -/
import Derived.Test.YtoiplpkifhhiiaaGreatDoorCards
import Derived.Test.YtoiplpkifhhiiaaGreatDoorTie
import Derived.Test.YtoiplpkifhhiiaaGreatDoorAbJ
import Derived.Test.YtoiplpkifhhiiaaGreatDoorAbN
import Derived.Test.YtoiplpkifhhiiaaGreatDoorHnL
import Derived.Test.YtoiplpkifhhiiaaGreatDoorHnF
import Derived.ProofKit
import Derived.OpenShut
import Derived.LaidMore
import Derived.Lay
import Derived.SevenTiedAt
import Derived.Stop.Joined
namespace Go.Proofs.YtoiplpkifhhiiaaGreatDoor.checkNames
open Go.ChangeShapes Go.WideShapes Go.ChangeAt Go.RowKit
set_option linter.unusedVariables false

theorem own : ownKnob Tryz.prog.godebug = none := by kernel_rfl
theorem laidOut : laidOutB Tryz.prog = true := by kernel_rfl
theorem globs {W : World} (hL : laidMetH Tryz.prog Rows.checkNamesRow.laid W) : Ab.GlobOk (fun b => b < W.heap.size) W := by
  refine Ab.globOk_of fun g hne => ?_
  unfold Ab.globTab at hne
  split at hne
  · obtain ⟨C, ty, fz, h1, h2, h3⟩ := Ab.table_laid hL (n := "strings.asciiSpace") (l := Ab.globTab 1) (List.mem_of_getElem? (i := 7) (by kernel_rfl)) (g := 1) (t := 261) (el := 5) (m := 256) (k := .u8) (by kernel_rfl) (by kernel_rfl) (by kernel_rfl) (by kernel_rfl) (by kernel_rfl) (by kernel_rfl)
    exact ⟨(Array.getElem?_eq_some_iff.1 h1).1, C, ty, fz, h1, h2, h3⟩
  · obtain ⟨C, ty, fz, h1, h2, h3⟩ := Ab.table_laid hL (n := "unicode/utf8.first") (l := Ab.globTab 2) (List.mem_of_getElem? (i := 9) (by kernel_rfl)) (g := 2) (t := 261) (el := 5) (m := 256) (k := .u8) (by kernel_rfl) (by kernel_rfl) (by kernel_rfl) (by kernel_rfl) (by kernel_rfl) (by kernel_rfl)
    exact ⟨(Array.getElem?_eq_some_iff.1 h1).1, C, ty, fz, h1, h2, h3⟩
  · exact absurd rfl hne

set_option maxRecDepth 100000 in
theorem lifted (os : Os) (started : os.Started) (H : Type) (enc : TypeId × Value → H) :
    ReturnsInHanded {} Tryz.checked os 4 .any (fun w args => (Rows.checkNamesSpec.pre enc Tryz.prog Tryz.f4 Rows.checkNamesRow.domain false w args ∧ laidMetH Tryz.prog Rows.checkNamesRow.laid w) ∧ sizedMet enc Tryz.prog Tryz.f4 (OpenSpec.ofChange Rows.checkNamesSpec) false w args)
      (Rows.checkNamesSpec.post enc Tryz.prog Tryz.f4 false true false false) := by
  refine returnsInHanded_of_change_and (C := Tryz.checked) (X := fun w _ => laidMetH Tryz.prog Rows.checkNamesRow.laid w) (fun _ _ _ hh h => h.of_heap hh) own started (by kernel_rfl) Tryz.func4
    (ChangeSpec.witness_shaped (enc := enc) (C := Tryz.checked) (os := os) (X := fun w _ => laidMetH Tryz.prog Rows.checkNamesRow.laid w) false (World.laidAll Tryz.prog os Rows.checkNamesRow.laid) #[] 8 (World.laidAll_os _ _ _)
      (World.shaped_of_ZipB (by kernel_rfl) (by kernel_rfl)) (by kernel_rfl) (by kernel_rfl) (by kernel_rfl)
      (by rw [MakeChecks.laidMetH_plain _ _ _ (by kernel_rfl)]; exact laidMet_laidAll _ (by kernel_rfl) (by kernel_rfl))) ?_
  intro W base args ds gs before hval0 hW hc _ hL _
  have hW' := hW
  obtain ⟨p, q, hA0, hV, rfl, _, _⟩ := hW
  have hA : DataW.TrodAll enc Tryz.prog W 0 (fun _ => true) true Tryz.f4.params.toList args.toList ds p := hA0
  rw [Tryz.params4] at hA
  obtain ⟨hargs, rfl, rfl⟩ := trodAll_nil hA
  obtain rfl : args = #[] := by cases args; simp_all
  obtain ⟨rfl, rfl⟩ := trodVars_none hV
  simp only [List.append_nil] at hW'
  refine (Ab.PCall.holds any (fun b => b < W.heap.size) (fun _ h => h) (globs hL) rfl fun i u x hu hx => ?_).mono fun e W' ⟨he, hg⟩ => ?_
  · simp at hu
  · subst he
    exact ⟨_, rfl, Ab.post_kept (pa := []) (pv := []) hW' (fun _ _ _ => (trodAll_cons_mk (shut_bool Tryz.underlying4 _) trodAll_mk0)) trodAll_mk0 rfl hg⟩

theorem over : Rows.checkNamesRow.holds Tryz.pinned (OpenSpec.ofChange Rows.checkNamesSpec) :=
  OpenClaim.holds_of_wide 4 Tryz.f4 rfl rfl rfl rfl rfl rfl rfl ⟨rfl, rfl, rfl, rfl, rfl⟩ rfl rfl rfl rfl rfl (by kernel_rfl) Tryz.func4 facts
    (of_decide_eq_true (by kernel_rfl)) (by unfold Func.isWrapper; first | (rw [if_pos (by decide +kernel)]; kernel_rfl) | (rw [if_neg (by decide +kernel)]; exact ⟨rfl, rfl⟩))
    (fun os started H enc _ => lifted os started H enc)

/-- The statement. -/
theorem proved : Rows.CheckNamesCardSaid :=
  Claim7.holds_tied_plain_at .later [] [.data, .data, .data, .data, .sentinel, .sentinel, .listed, .data, .pinned, .pinned] true (true, "1b157bcba450508f7ba25d1dac5a35545dcbaa9485b8304894ceb10cdc6be22e") true over (fun _ h => by cases h) (by kernel_rfl) (fun _ h => by cases h) checkNames_row_tie rfl ⟨rfl, rfl⟩ (by kernel_rfl) rfl
    (fun f fn hf hfn => by
      obtain rfl : f = 4 := Option.some.inj ((show Tryz.prog.funcNamed "stagepost/stagepostlaw16.CheckNames" = some 4 by kernel_rfl).symm.trans hf) |>.symm
      obtain rfl : fn = Tryz.f4 := (Option.some.inj (Tryz.func4.symm.trans hfn)).symm
      exact ⟨by kernel_rfl, fun j t ht => by
        rw [Tryz.params4] at ht
        simp at ht⟩)
    (by kernel_rfl)
#print axioms proved
end Go.Proofs.YtoiplpkifhhiiaaGreatDoor.checkNames
