/-
  DERIVED. GIVEN WITH THE SEED: THE CARDS: each row of YtbjifmbemdhndaaGreatDoorRows.lean that lists a variable, with what it lists TIED to the program's text (the seventh form; the later family's looks); each row that meets fmt, with fmt's text TOLD by the authors' own Lean function (tested against real Go, not proved from fmt's source: count such statements apart). THE CARD IS WHAT COUNTS. Prove the row's statement (the work); the ties are given (YtbjifmbemdhndaaGreatDoorTie.lean); close each card by the builder's one call (the guide's Derived/Test/ToyasCard.lean, 'card_holds'). Laid BY PROGRAM, IN A SANDBOX (cutbox-door.mjs). By AI agents, Wed Nov 11 2026. No macro, syntax, notation, axiom, sorry.
-/
import Derived.Test.YtbjifmbemdhndaaGreatDoorRows
import GoSem.ClaimSeven
namespace Go.Proofs.YtbjifmbemdhndaaGreatDoor
namespace Rows

/-- THE TIED CARD OF 'stagepostlaw14.ParserDepth'. -/
def parserDepthCard : Claim7 := { stood := { row := parserDepthRow, standIns := [], harness := (true, "3d7ca8ee2c14d6adf361f37b80e70ea39b5d3e06206ee24a9b45d6228693122a"), looks := true }, kinds := [], alts := [], laidByText := true, laidKinds := [.data, .data, .data, .data, .sentinel, .sentinel, .listed, .data, .pinned, .pinned], laidTests := true, laidLooks := .later }
def ParserDepthCardSaid : Prop := Claim7.holds Tryz.pinned (.plain (OpenSpec.ofChange parserDepthSpec)) parserDepthCard

/-- THE TIED CARD OF 'stagepostlaw14.ParserBlanks'. -/
def parserBlanksCard : Claim7 := { stood := { row := parserBlanksRow, standIns := [], harness := (true, "3d7ca8ee2c14d6adf361f37b80e70ea39b5d3e06206ee24a9b45d6228693122a"), looks := true }, kinds := [], alts := [], laidByText := true, laidKinds := [.data, .data, .data, .data, .sentinel, .sentinel, .listed, .data, .pinned, .pinned], laidTests := true, laidLooks := .later }
def ParserBlanksCardSaid : Prop := Claim7.holds Tryz.pinned (.plain (OpenSpec.ofChange parserBlanksSpec)) parserBlanksCard

/-- THE TIED CARD OF 'stagepostlaw14.ParserPrints'. -/
def parserPrintsCard : Claim7 := { stood := { row := parserPrintsRow, standIns := [], harness := (true, "3d7ca8ee2c14d6adf361f37b80e70ea39b5d3e06206ee24a9b45d6228693122a"), looks := true }, kinds := [], alts := [], laidByText := true, laidKinds := [.data, .data, .data, .data, .sentinel, .sentinel, .listed, .data, .pinned, .pinned], laidTests := true, laidLooks := .later }
def ParserPrintsCardSaid : Prop := Claim7.holds Tryz.pinned (.plain (OpenSpec.ofChange parserPrintsSpec)) parserPrintsCard

/-- THE SECOND FORM's CARD OF 'stagepostlaw14.ParserDepth'. -/
def parserDepthUptoCard : Claim7 := { stood := { row := parserDepthUptoRow, standIns := [], harness := (true, "3d7ca8ee2c14d6adf361f37b80e70ea39b5d3e06206ee24a9b45d6228693122a"), looks := true }, kinds := [], alts := [], laidByText := true, laidKinds := [.data, .data, .data, .data, .sentinel, .sentinel, .listed, .data, .pinned, .pinned], laidTests := true, laidLooks := .later }
def ParserDepthUptoCardSaid : Prop := Claim7.holds Tryz.pinned (.plain (OpenSpec.upto parserDepthSpec)) parserDepthUptoCard

/-- THE SECOND FORM's CARD OF 'stagepostlaw14.ParserBlanks'. -/
def parserBlanksUptoCard : Claim7 := { stood := { row := parserBlanksUptoRow, standIns := [], harness := (true, "3d7ca8ee2c14d6adf361f37b80e70ea39b5d3e06206ee24a9b45d6228693122a"), looks := true }, kinds := [], alts := [], laidByText := true, laidKinds := [.data, .data, .data, .data, .sentinel, .sentinel, .listed, .data, .pinned, .pinned], laidTests := true, laidLooks := .later }
def ParserBlanksUptoCardSaid : Prop := Claim7.holds Tryz.pinned (.plain (OpenSpec.upto parserBlanksSpec)) parserBlanksUptoCard

/-- THE SECOND FORM's CARD OF 'stagepostlaw14.ParserPrints'. -/
def parserPrintsUptoCard : Claim7 := { stood := { row := parserPrintsUptoRow, standIns := [], harness := (true, "3d7ca8ee2c14d6adf361f37b80e70ea39b5d3e06206ee24a9b45d6228693122a"), looks := true }, kinds := [], alts := [], laidByText := true, laidKinds := [.data, .data, .data, .data, .sentinel, .sentinel, .listed, .data, .pinned, .pinned], laidTests := true, laidLooks := .later }
def ParserPrintsUptoCardSaid : Prop := Claim7.holds Tryz.pinned (.plain (OpenSpec.upto parserPrintsSpec)) parserPrintsUptoCard
end Rows
end Go.Proofs.YtbjifmbemdhndaaGreatDoor
