/-
  DERIVED. GIVEN WITH THE SEED: THE CARDS: each row of YtcklfcagailoiaaDoorRows.lean that lists a variable, with what it lists TIED to the program's text (the seventh form; the later family's looks); each row that meets fmt, with fmt's text TOLD by the authors' own Lean function (tested against real Go, not proved from fmt's source: count such statements apart). THE CARD IS WHAT COUNTS. Prove the row's statement (the work); the ties are given (YtcklfcagailoiaaDoorTie.lean); close each card by the builder's one call (the guide's Derived/Test/ToyasCard.lean, 'card_holds'). Laid BY PROGRAM, IN A SANDBOX (cutbox-door.mjs). By AI agents, Wed Nov 11 2026. No macro, syntax, notation, axiom, sorry.
-/
import Derived.Test.YtcklfcagailoiaaDoorRows
import GoSem.ClaimSeven
namespace Go.Proofs.YtcklfcagailoiaaDoor
namespace Rows

/-- THE TIED CARD OF 'stagepostlaw01.EncRow'. -/
def encRowCard : Claim7 := { stood := { row := encRowRow, standIns := [], harness := (true, "a7227898a19b515675fcb8815b4ecb6c1c6913deeded91032c88b5bdc0514cf5"), looks := false }, kinds := [], alts := [], laidByText := true, laidKinds := [.data, .pinned], laidTests := true, laidLooks := .later }
def EncRowCardSaid : Prop := Claim7.holds Tryd.pinned (.plain (OpenSpec.ofChange encRowSpec)) encRowCard

/-- THE TIED CARD OF 'stagepostlaw01.EncAfter'. -/
def encAfterCard : Claim7 := { stood := { row := encAfterRow, standIns := [], harness := (true, "a7227898a19b515675fcb8815b4ecb6c1c6913deeded91032c88b5bdc0514cf5"), looks := false }, kinds := [], alts := [], laidByText := true, laidKinds := [.data, .pinned], laidTests := true, laidLooks := .later }
def EncAfterCardSaid : Prop := Claim7.holds Tryd.pinned (.plain (OpenSpec.ofChange encAfterSpec)) encAfterCard

/-- THE TIED CARD OF 'stagepostlaw01.EncNumbers'. -/
def encNumbersCard : Claim7 := { stood := { row := encNumbersRow, standIns := [], harness := (true, "a7227898a19b515675fcb8815b4ecb6c1c6913deeded91032c88b5bdc0514cf5"), looks := false }, kinds := [], alts := [], laidByText := true, laidKinds := [.data, .pinned], laidTests := true, laidLooks := .later }
def EncNumbersCardSaid : Prop := Claim7.holds Tryd.pinned (.plain (OpenSpec.ofChange encNumbersSpec)) encNumbersCard

/-- THE TIED CARD OF 'stagepostlaw01.EncBegins'. -/
def encBeginsCard : Claim7 := { stood := { row := encBeginsRow, standIns := [], harness := (true, "a7227898a19b515675fcb8815b4ecb6c1c6913deeded91032c88b5bdc0514cf5"), looks := false }, kinds := [], alts := [], laidByText := true, laidKinds := [.data, .pinned], laidTests := true, laidLooks := .later }
def EncBeginsCardSaid : Prop := Claim7.holds Tryd.pinned (.plain (OpenSpec.ofChange encBeginsSpec)) encBeginsCard

/-- THE TIED CARD OF 'stagepostlaw01.EncStamps'. -/
def encStampsCard : Claim7 := { stood := { row := encStampsRow, standIns := [], harness := (true, "a7227898a19b515675fcb8815b4ecb6c1c6913deeded91032c88b5bdc0514cf5"), looks := false }, kinds := [], alts := [], laidByText := true, laidKinds := [.data, .pinned], laidTests := true, laidLooks := .later }
def EncStampsCardSaid : Prop := Claim7.holds Tryd.pinned (.plain (OpenSpec.ofChange encStampsSpec)) encStampsCard

/-- THE TIED CARD OF 'stagepostlaw01.EncSpans'. -/
def encSpansCard : Claim7 := { stood := { row := encSpansRow, standIns := [], harness := (true, "a7227898a19b515675fcb8815b4ecb6c1c6913deeded91032c88b5bdc0514cf5"), looks := false }, kinds := [], alts := [], laidByText := true, laidKinds := [.data, .pinned], laidTests := true, laidLooks := .later }
def EncSpansCardSaid : Prop := Claim7.holds Tryd.pinned (.plain (OpenSpec.ofChange encSpansSpec)) encSpansCard

/-- THE TIED CARD OF 'stagepostlaw01.EncOrder'. -/
def encOrderCard : Claim7 := { stood := { row := encOrderRow, standIns := [], harness := (true, "a7227898a19b515675fcb8815b4ecb6c1c6913deeded91032c88b5bdc0514cf5"), looks := false }, kinds := [], alts := [], laidByText := true, laidKinds := [.data, .pinned], laidTests := true, laidLooks := .later }
def EncOrderCardSaid : Prop := Claim7.holds Tryd.pinned (.plain (OpenSpec.ofChange encOrderSpec)) encOrderCard

/-- THE TIED CARD OF 'stagepostlaw01.EncTuples'. -/
def encTuplesCard : Claim7 := { stood := { row := encTuplesRow, standIns := [], harness := (true, "a7227898a19b515675fcb8815b4ecb6c1c6913deeded91032c88b5bdc0514cf5"), looks := false }, kinds := [], alts := [], laidByText := true, laidKinds := [.data, .pinned], laidTests := true, laidLooks := .later }
def EncTuplesCardSaid : Prop := Claim7.holds Tryd.pinned (.plain (OpenSpec.ofChange encTuplesSpec)) encTuplesCard

/-- THE TIED CARD OF 'stagepostlaw01.EncNames'. -/
def encNamesCard : Claim7 := { stood := { row := encNamesRow, standIns := [], harness := (true, "a7227898a19b515675fcb8815b4ecb6c1c6913deeded91032c88b5bdc0514cf5"), looks := false }, kinds := [], alts := [], laidByText := true, laidKinds := [.data, .pinned], laidTests := true, laidLooks := .later }
def EncNamesCardSaid : Prop := Claim7.holds Tryd.pinned (.plain (OpenSpec.ofChange encNamesSpec)) encNamesCard

/-- THE TIED CARD OF 'stagepostlaw12.ValueNames'. -/
def valueNamesCard : Claim7 := { stood := { row := valueNamesRow, standIns := [], harness := (true, "a7227898a19b515675fcb8815b4ecb6c1c6913deeded91032c88b5bdc0514cf5"), looks := false }, kinds := [], alts := [], laidByText := true, laidKinds := [.data, .data, .data, .data, .pinned, .pinned], laidTests := true, laidLooks := .later }
def ValueNamesCardSaid : Prop := Claim7.holds Tryd.pinned (.plain (OpenSpec.ofChange valueNamesSpec)) valueNamesCard

/-- THE SECOND FORM's CARD OF 'stagepostlaw01.EncRow'. -/
def encRowUptoCard : Claim7 := { stood := { row := encRowUptoRow, standIns := [], harness := (true, "a7227898a19b515675fcb8815b4ecb6c1c6913deeded91032c88b5bdc0514cf5"), looks := false }, kinds := [], alts := [], laidByText := true, laidKinds := [.data, .pinned], laidTests := true, laidLooks := .later }
def EncRowUptoCardSaid : Prop := Claim7.holds Tryd.pinned (.plain (OpenSpec.upto encRowSpec)) encRowUptoCard

/-- THE SECOND FORM's CARD OF 'stagepostlaw01.EncAfter'. -/
def encAfterUptoCard : Claim7 := { stood := { row := encAfterUptoRow, standIns := [], harness := (true, "a7227898a19b515675fcb8815b4ecb6c1c6913deeded91032c88b5bdc0514cf5"), looks := false }, kinds := [], alts := [], laidByText := true, laidKinds := [.data, .pinned], laidTests := true, laidLooks := .later }
def EncAfterUptoCardSaid : Prop := Claim7.holds Tryd.pinned (.plain (OpenSpec.upto encAfterSpec)) encAfterUptoCard

/-- THE SECOND FORM's CARD OF 'stagepostlaw01.EncNumbers'. -/
def encNumbersUptoCard : Claim7 := { stood := { row := encNumbersUptoRow, standIns := [], harness := (true, "a7227898a19b515675fcb8815b4ecb6c1c6913deeded91032c88b5bdc0514cf5"), looks := false }, kinds := [], alts := [], laidByText := true, laidKinds := [.data, .pinned], laidTests := true, laidLooks := .later }
def EncNumbersUptoCardSaid : Prop := Claim7.holds Tryd.pinned (.plain (OpenSpec.upto encNumbersSpec)) encNumbersUptoCard

/-- THE SECOND FORM's CARD OF 'stagepostlaw01.EncBegins'. -/
def encBeginsUptoCard : Claim7 := { stood := { row := encBeginsUptoRow, standIns := [], harness := (true, "a7227898a19b515675fcb8815b4ecb6c1c6913deeded91032c88b5bdc0514cf5"), looks := false }, kinds := [], alts := [], laidByText := true, laidKinds := [.data, .pinned], laidTests := true, laidLooks := .later }
def EncBeginsUptoCardSaid : Prop := Claim7.holds Tryd.pinned (.plain (OpenSpec.upto encBeginsSpec)) encBeginsUptoCard

/-- THE SECOND FORM's CARD OF 'stagepostlaw01.EncStamps'. -/
def encStampsUptoCard : Claim7 := { stood := { row := encStampsUptoRow, standIns := [], harness := (true, "a7227898a19b515675fcb8815b4ecb6c1c6913deeded91032c88b5bdc0514cf5"), looks := false }, kinds := [], alts := [], laidByText := true, laidKinds := [.data, .pinned], laidTests := true, laidLooks := .later }
def EncStampsUptoCardSaid : Prop := Claim7.holds Tryd.pinned (.plain (OpenSpec.upto encStampsSpec)) encStampsUptoCard

/-- THE SECOND FORM's CARD OF 'stagepostlaw01.EncSpans'. -/
def encSpansUptoCard : Claim7 := { stood := { row := encSpansUptoRow, standIns := [], harness := (true, "a7227898a19b515675fcb8815b4ecb6c1c6913deeded91032c88b5bdc0514cf5"), looks := false }, kinds := [], alts := [], laidByText := true, laidKinds := [.data, .pinned], laidTests := true, laidLooks := .later }
def EncSpansUptoCardSaid : Prop := Claim7.holds Tryd.pinned (.plain (OpenSpec.upto encSpansSpec)) encSpansUptoCard

/-- THE SECOND FORM's CARD OF 'stagepostlaw01.EncOrder'. -/
def encOrderUptoCard : Claim7 := { stood := { row := encOrderUptoRow, standIns := [], harness := (true, "a7227898a19b515675fcb8815b4ecb6c1c6913deeded91032c88b5bdc0514cf5"), looks := false }, kinds := [], alts := [], laidByText := true, laidKinds := [.data, .pinned], laidTests := true, laidLooks := .later }
def EncOrderUptoCardSaid : Prop := Claim7.holds Tryd.pinned (.plain (OpenSpec.upto encOrderSpec)) encOrderUptoCard

/-- THE SECOND FORM's CARD OF 'stagepostlaw01.EncTuples'. -/
def encTuplesUptoCard : Claim7 := { stood := { row := encTuplesUptoRow, standIns := [], harness := (true, "a7227898a19b515675fcb8815b4ecb6c1c6913deeded91032c88b5bdc0514cf5"), looks := false }, kinds := [], alts := [], laidByText := true, laidKinds := [.data, .pinned], laidTests := true, laidLooks := .later }
def EncTuplesUptoCardSaid : Prop := Claim7.holds Tryd.pinned (.plain (OpenSpec.upto encTuplesSpec)) encTuplesUptoCard

/-- THE SECOND FORM's CARD OF 'stagepostlaw01.EncNames'. -/
def encNamesUptoCard : Claim7 := { stood := { row := encNamesUptoRow, standIns := [], harness := (true, "a7227898a19b515675fcb8815b4ecb6c1c6913deeded91032c88b5bdc0514cf5"), looks := false }, kinds := [], alts := [], laidByText := true, laidKinds := [.data, .pinned], laidTests := true, laidLooks := .later }
def EncNamesUptoCardSaid : Prop := Claim7.holds Tryd.pinned (.plain (OpenSpec.upto encNamesSpec)) encNamesUptoCard

/-- THE SECOND FORM's CARD OF 'stagepostlaw12.ValueNames'. -/
def valueNamesUptoCard : Claim7 := { stood := { row := valueNamesUptoRow, standIns := [], harness := (true, "a7227898a19b515675fcb8815b4ecb6c1c6913deeded91032c88b5bdc0514cf5"), looks := false }, kinds := [], alts := [], laidByText := true, laidKinds := [.data, .data, .data, .data, .pinned, .pinned], laidTests := true, laidLooks := .later }
def ValueNamesUptoCardSaid : Prop := Claim7.holds Tryd.pinned (.plain (OpenSpec.upto valueNamesSpec)) valueNamesUptoCard
end Rows
end Go.Proofs.YtcklfcagailoiaaDoor
