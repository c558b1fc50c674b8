/-
  DERIVED. GIVEN WITH THE SEED: THE CARDS: each row of YtaficpgadjemcaaGreatDoorRows.lean that lists a variable, with what it lists TIED to the program's text (the seventh form; the later family's looks); each row that meets fmt, with fmt's text TOLD by the authors' own Lean function (tested against real Go, not proved from fmt's source: count such statements apart). THE CARD IS WHAT COUNTS. Prove the row's statement (the work); the ties are given (YtaficpgadjemcaaGreatDoorTie.lean); close each card by the builder's one call (the guide's Derived/Test/ToyasCard.lean, 'card_holds'). Laid BY PROGRAM, IN A SANDBOX (cutbox-door.mjs). By AI agents, Wed Nov 11 2026. No macro, syntax, notation, axiom, sorry.
-/
import Derived.Test.YtaficpgadjemcaaGreatDoorRows
import GoSem.ClaimSeven
namespace Go.Proofs.YtaficpgadjemcaaGreatDoor
namespace Rows

/-- THE TIED CARD OF 'stagepostlaw17.PlanNamed'. -/
def planNamedCard : Claim7 := { stood := { row := planNamedRow, standIns := [], harness := (true, "46fd15adba2f7439c0a57f4fd7e118f091fc64e70f62656eb5e04e59f34ccc0a"), looks := true }, kinds := [], alts := [], laidByText := true, laidKinds := [.data, .data, .data, .data, .sentinel, .sentinel, .listed, .data, .pinned, .pinned], laidTests := true, laidLooks := .later }
def PlanNamedCardSaid : Prop := Claim7.holds Tryz.pinned (.plain (OpenSpec.ofChange planNamedSpec)) planNamedCard

/-- THE SECOND FORM's CARD OF 'stagepostlaw17.PlanNamed'. -/
def planNamedUptoCard : Claim7 := { stood := { row := planNamedUptoRow, standIns := [], harness := (true, "46fd15adba2f7439c0a57f4fd7e118f091fc64e70f62656eb5e04e59f34ccc0a"), looks := true }, kinds := [], alts := [], laidByText := true, laidKinds := [.data, .data, .data, .data, .sentinel, .sentinel, .listed, .data, .pinned, .pinned], laidTests := true, laidLooks := .later }
def PlanNamedUptoCardSaid : Prop := Claim7.holds Tryz.pinned (.plain (OpenSpec.upto planNamedSpec)) planNamedUptoCard
end Rows
end Go.Proofs.YtaficpgadjemcaaGreatDoor
