/-
  DERIVED. GIVEN WITH THE SEED: THE CARDS: each row of YtojponagjbobaaaGreatDoorRows.lean that lists a variable, with what it lists TIED to the program's text (the seventh form; the later family's looks); each row that meets fmt, with fmt's text TOLD by the authors' own Lean function (tested against real Go, not proved from fmt's source: count such statements apart). THE CARD IS WHAT COUNTS. Prove the row's statement (the work); the ties are given (YtojponagjbobaaaGreatDoorTie.lean); close each card by the builder's one call (the guide's Derived/Test/ToyasCard.lean, 'card_holds'). Laid BY PROGRAM, IN A SANDBOX (cutbox-door.mjs). By AI agents, Wed Nov 11 2026. No macro, syntax, notation, axiom, sorry.
-/
import Derived.Test.YtojponagjbobaaaGreatDoorRows
import GoSem.ClaimSeven
namespace Go.Proofs.YtojponagjbobaaaGreatDoor
namespace Rows

/-- THE TIED CARD OF 'stagepostlaw12.ValueCalls'. -/
def valueCallsCard : Claim7 := { stood := { row := valueCallsRow, standIns := [], harness := (true, "9182637e166156cee6047f590a91155904767a263832070d7f865bba0b680243"), looks := false }, kinds := [], alts := [], laidByText := true, laidKinds := [.data, .data, .data, .data, .pinned, .pinned], laidTests := true, laidLooks := .later }
def ValueCallsCardSaid : Prop := Claim7.holds Tryz.pinned (.plain (OpenSpec.ofChange valueCallsSpec)) valueCallsCard

/-- THE SECOND FORM's CARD OF 'stagepostlaw12.ValueCalls'. -/
def valueCallsUptoCard : Claim7 := { stood := { row := valueCallsUptoRow, standIns := [], harness := (true, "9182637e166156cee6047f590a91155904767a263832070d7f865bba0b680243"), looks := false }, kinds := [], alts := [], laidByText := true, laidKinds := [.data, .data, .data, .data, .pinned, .pinned], laidTests := true, laidLooks := .later }
def ValueCallsUptoCardSaid : Prop := Claim7.holds Tryz.pinned (.plain (OpenSpec.upto valueCallsSpec)) valueCallsUptoCard
end Rows
end Go.Proofs.YtojponagjbobaaaGreatDoor
