/-
  DERIVED. GIVEN WITH THE SEED: THE CARDS: each row of YtncdiipfnmdgpaaGreatDoorRows.lean that lists a variable, with what it lists TIED to the program's text (the seventh form; the later family's looks); each row that meets fmt, with fmt's text TOLD by the authors' own Lean function (tested against real Go, not proved from fmt's source: count such statements apart). THE CARD IS WHAT COUNTS. Prove the row's statement (the work); the ties are given (YtncdiipfnmdgpaaGreatDoorTie.lean); close each card by the builder's one call (the guide's Derived/Test/ToyasCard.lean, 'card_holds'). Laid BY PROGRAM, IN A SANDBOX (cutbox-door.mjs). By AI agents, Wed Nov 11 2026. No macro, syntax, notation, axiom, sorry.
-/
import Derived.Test.YtncdiipfnmdgpaaGreatDoorRows
import GoSem.ClaimSeven
namespace Go.Proofs.YtncdiipfnmdgpaaGreatDoor
namespace Rows

/-- THE TIED CARD OF 'stagepostlaw17.PlanNames'. -/
def planNamesCard : Claim7 := { stood := { row := planNamesRow, standIns := [], harness := (true, "c8956919990786a2d365aa6b1818f9db79d5bf861ba1057c0b7d724b3472a802"), looks := true }, kinds := [], alts := [], laidByText := true, laidKinds := [.data, .data, .data, .data, .sentinel, .sentinel, .listed, .data, .pinned, .pinned], laidTests := true, laidLooks := .later }
def PlanNamesCardSaid : Prop := Claim7.holds Tryz.pinned (.plain (OpenSpec.ofChange planNamesSpec)) planNamesCard

/-- THE TIED CARD OF 'stagepostlaw18.ExecNames'. -/
def execNamesCard : Claim7 := { stood := { row := execNamesRow, standIns := [], harness := (true, "c8956919990786a2d365aa6b1818f9db79d5bf861ba1057c0b7d724b3472a802"), looks := true }, kinds := [], alts := [], laidByText := true, laidKinds := [.data, .data, .data, .data, .sentinel, .sentinel, .listed, .data, .pinned, .pinned], laidTests := true, laidLooks := .later }
def ExecNamesCardSaid : Prop := Claim7.holds Tryz.pinned (.plain (OpenSpec.ofChange execNamesSpec)) execNamesCard

/-- THE SECOND FORM's CARD OF 'stagepostlaw17.PlanNames'. -/
def planNamesUptoCard : Claim7 := { stood := { row := planNamesUptoRow, standIns := [], harness := (true, "c8956919990786a2d365aa6b1818f9db79d5bf861ba1057c0b7d724b3472a802"), looks := true }, kinds := [], alts := [], laidByText := true, laidKinds := [.data, .data, .data, .data, .sentinel, .sentinel, .listed, .data, .pinned, .pinned], laidTests := true, laidLooks := .later }
def PlanNamesUptoCardSaid : Prop := Claim7.holds Tryz.pinned (.plain (OpenSpec.upto planNamesSpec)) planNamesUptoCard

/-- THE SECOND FORM's CARD OF 'stagepostlaw18.ExecNames'. -/
def execNamesUptoCard : Claim7 := { stood := { row := execNamesUptoRow, standIns := [], harness := (true, "c8956919990786a2d365aa6b1818f9db79d5bf861ba1057c0b7d724b3472a802"), looks := true }, kinds := [], alts := [], laidByText := true, laidKinds := [.data, .data, .data, .data, .sentinel, .sentinel, .listed, .data, .pinned, .pinned], laidTests := true, laidLooks := .later }
def ExecNamesUptoCardSaid : Prop := Claim7.holds Tryz.pinned (.plain (OpenSpec.upto execNamesSpec)) execNamesUptoCard
end Rows
end Go.Proofs.YtncdiipfnmdgpaaGreatDoor
