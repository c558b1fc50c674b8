/-
  DERIVED. GIVEN WITH THE SEED: THE CARDS: each row of YtlhpbcbkkbjhoaaGreatDoorRows.lean that lists a variable, with what it lists TIED to the program's text (the seventh form; the later family's looks); each row that meets fmt, with fmt's text TOLD by the authors' own Lean function (tested against real Go, not proved from fmt's source: count such statements apart). THE CARD IS WHAT COUNTS. Prove the row's statement (the work); the ties are given (YtlhpbcbkkbjhoaaGreatDoorTie.lean); close each card by the builder's one call (the guide's Derived/Test/ToyasCard.lean, 'card_holds'). Laid BY PROGRAM, IN A SANDBOX (cutbox-door.mjs). By AI agents, Wed Nov 11 2026. No macro, syntax, notation, axiom, sorry.
-/
import Derived.Test.YtlhpbcbkkbjhoaaGreatDoorRows
import GoSem.ClaimSeven
namespace Go.Proofs.YtlhpbcbkkbjhoaaGreatDoor
namespace Rows

/-- THE TIED CARD OF 'stagepostlaw13.LexCalls'. -/
def lexCallsCard : Claim7 := { stood := { row := lexCallsRow, standIns := [], harness := (true, "4dced6030c788447f661e64a381c020f070b9629124211a9a7feb151aa4aea36"), looks := true }, kinds := [], alts := [], laidByText := true, laidKinds := [.data, .data, .data, .data, .sentinel, .sentinel, .listed, .data, .pinned, .pinned], laidTests := true, laidLooks := .later }
def LexCallsCardSaid : Prop := Claim7.holds Tryz.pinned (.plain (OpenSpec.ofChange lexCallsSpec)) lexCallsCard

/-- THE SECOND FORM's CARD OF 'stagepostlaw13.LexCalls'. -/
def lexCallsUptoCard : Claim7 := { stood := { row := lexCallsUptoRow, standIns := [], harness := (true, "4dced6030c788447f661e64a381c020f070b9629124211a9a7feb151aa4aea36"), looks := true }, kinds := [], alts := [], laidByText := true, laidKinds := [.data, .data, .data, .data, .sentinel, .sentinel, .listed, .data, .pinned, .pinned], laidTests := true, laidLooks := .later }
def LexCallsUptoCardSaid : Prop := Claim7.holds Tryz.pinned (.plain (OpenSpec.upto lexCallsSpec)) lexCallsUptoCard
end Rows
end Go.Proofs.YtlhpbcbkkbjhoaaGreatDoor
