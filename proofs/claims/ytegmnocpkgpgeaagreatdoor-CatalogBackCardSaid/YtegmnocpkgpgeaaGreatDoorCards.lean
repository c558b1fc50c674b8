/-
  DERIVED. GIVEN WITH THE SEED: THE CARDS: each row of YtegmnocpkgpgeaaGreatDoorRows.lean that lists a variable, with what it lists TIED to the program's text (the seventh form; the later family's looks); each row that meets fmt, with fmt's text TOLD by the authors' own Lean function (tested against real Go, not proved from fmt's source: count such statements apart). THE CARD IS WHAT COUNTS. Prove the row's statement (the work); the ties are given (YtegmnocpkgpgeaaGreatDoorTie.lean); close each card by the builder's one call (the guide's Derived/Test/ToyasCard.lean, 'card_holds'). Laid BY PROGRAM, IN A SANDBOX (cutbox-door.mjs). By AI agents, Wed Nov 11 2026. No macro, syntax, notation, axiom, sorry.
-/
import Derived.Test.YtegmnocpkgpgeaaGreatDoorRows
import GoSem.ClaimSeven
namespace Go.Proofs.YtegmnocpkgpgeaaGreatDoor
namespace Rows

/-- THE TIED CARD OF 'stagepostlaw15.CatalogBack'. -/
def catalogBackCard : Claim7 := { stood := { row := catalogBackRow, standIns := [], harness := (true, "c9a1ca100d8b30c1a50bb1784e97a3958464b416488639f2a933aa8775d2bc34"), looks := true }, kinds := [], alts := [], laidByText := true, laidKinds := [.data, .data, .data, .data, .sentinel, .sentinel, .listed, .data, .pinned, .pinned], laidTests := true, laidLooks := .later }
def CatalogBackCardSaid : Prop := Claim7.holds Tryz.pinned (.plain (OpenSpec.ofChange catalogBackSpec)) catalogBackCard

/-- THE TIED CARD OF 'stagepostlaw15.CatalogApart'. -/
def catalogApartCard : Claim7 := { stood := { row := catalogApartRow, standIns := [], harness := (true, "c9a1ca100d8b30c1a50bb1784e97a3958464b416488639f2a933aa8775d2bc34"), looks := true }, kinds := [], alts := [], laidByText := true, laidKinds := [.data, .data, .data, .data, .sentinel, .sentinel, .listed, .data, .pinned, .pinned], laidTests := true, laidLooks := .later }
def CatalogApartCardSaid : Prop := Claim7.holds Tryz.pinned (.plain (OpenSpec.ofChange catalogApartSpec)) catalogApartCard

/-- THE TIED CARD OF 'stagepostlaw15.CatalogKeys'. -/
def catalogKeysCard : Claim7 := { stood := { row := catalogKeysRow, standIns := [], harness := (true, "c9a1ca100d8b30c1a50bb1784e97a3958464b416488639f2a933aa8775d2bc34"), looks := true }, kinds := [], alts := [], laidByText := true, laidKinds := [.data, .data, .data, .data, .sentinel, .sentinel, .listed, .data, .pinned, .pinned], laidTests := true, laidLooks := .later }
def CatalogKeysCardSaid : Prop := Claim7.holds Tryz.pinned (.plain (OpenSpec.ofChange catalogKeysSpec)) catalogKeysCard

/-- THE SECOND FORM's CARD OF 'stagepostlaw15.CatalogBack'. -/
def catalogBackUptoCard : Claim7 := { stood := { row := catalogBackUptoRow, standIns := [], harness := (true, "c9a1ca100d8b30c1a50bb1784e97a3958464b416488639f2a933aa8775d2bc34"), looks := true }, kinds := [], alts := [], laidByText := true, laidKinds := [.data, .data, .data, .data, .sentinel, .sentinel, .listed, .data, .pinned, .pinned], laidTests := true, laidLooks := .later }
def CatalogBackUptoCardSaid : Prop := Claim7.holds Tryz.pinned (.plain (OpenSpec.upto catalogBackSpec)) catalogBackUptoCard

/-- THE SECOND FORM's CARD OF 'stagepostlaw15.CatalogApart'. -/
def catalogApartUptoCard : Claim7 := { stood := { row := catalogApartUptoRow, standIns := [], harness := (true, "c9a1ca100d8b30c1a50bb1784e97a3958464b416488639f2a933aa8775d2bc34"), looks := true }, kinds := [], alts := [], laidByText := true, laidKinds := [.data, .data, .data, .data, .sentinel, .sentinel, .listed, .data, .pinned, .pinned], laidTests := true, laidLooks := .later }
def CatalogApartUptoCardSaid : Prop := Claim7.holds Tryz.pinned (.plain (OpenSpec.upto catalogApartSpec)) catalogApartUptoCard

/-- THE SECOND FORM's CARD OF 'stagepostlaw15.CatalogKeys'. -/
def catalogKeysUptoCard : Claim7 := { stood := { row := catalogKeysUptoRow, standIns := [], harness := (true, "c9a1ca100d8b30c1a50bb1784e97a3958464b416488639f2a933aa8775d2bc34"), looks := true }, kinds := [], alts := [], laidByText := true, laidKinds := [.data, .data, .data, .data, .sentinel, .sentinel, .listed, .data, .pinned, .pinned], laidTests := true, laidLooks := .later }
def CatalogKeysUptoCardSaid : Prop := Claim7.holds Tryz.pinned (.plain (OpenSpec.upto catalogKeysSpec)) catalogKeysUptoCard
end Rows
end Go.Proofs.YtegmnocpkgpgeaaGreatDoor
