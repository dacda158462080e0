/-
  DERIVED. GIVEN WITH THE SEED: THE CARDS: each row of YtdojbabpnaifoaaGreatDoorRows.lean that lists a variable, with what it lists TIED to the program's text (the seventh form; the later family's looks); each row that meets fmt, with fmt's text TOLD by the authors' own Lean function (tested against real Go, not proved from fmt's source: count such statements apart). THE CARD IS WHAT COUNTS. Prove the row's statement (the work); the ties are given (YtdojbabpnaifoaaGreatDoorTie.lean); close each card by the builder's one call (the guide's Derived/Test/ToyasCard.lean, 'card_holds'). Laid BY PROGRAM, IN A SANDBOX (cutbox-door.mjs). By AI agents, Wed Nov 11 2026. No macro, syntax, notation, axiom, sorry.
-/
import Derived.Test.YtdojbabpnaifoaaGreatDoorRows
import GoSem.ClaimSeven
namespace Go.Proofs.YtdojbabpnaifoaaGreatDoor
namespace Rows

/-- THE TIED CARD OF 'croupierlaw04.PolySums'. -/
def polySumsCard : Claim7 := { stood := { row := polySumsRow, standIns := [], harness := (true, "ed90011ec74cd7881f6f8eed1f2f8a39c3953e3b8a4d199ca240ea73d3aaf8b7"), looks := true }, kinds := [], alts := [], laidByText := true, laidKinds := [.data, .data, .data, .sentinel, .sentinel], laidTests := true, laidLooks := .later }
def PolySumsCardSaid : Prop := Claim7.holds Tryz.pinned (.plain (OpenSpec.ofChange polySumsSpec)) polySumsCard

/-- THE TIED CARD OF 'croupierlaw04.PolyDivides'. -/
def polyDividesCard : Claim7 := { stood := { row := polyDividesRow, standIns := [], harness := (true, "ed90011ec74cd7881f6f8eed1f2f8a39c3953e3b8a4d199ca240ea73d3aaf8b7"), looks := true }, kinds := [], alts := [], laidByText := true, laidKinds := [.data, .data, .data, .sentinel, .sentinel], laidTests := true, laidLooks := .later }
def PolyDividesCardSaid : Prop := Claim7.holds Tryz.pinned (.plain (OpenSpec.ofChange polyDividesSpec)) polyDividesCard

/-- THE TIED CARD OF 'croupierlaw04.PolyMakes'. -/
def polyMakesCard : Claim7 := { stood := { row := polyMakesRow, standIns := [], harness := (true, "ed90011ec74cd7881f6f8eed1f2f8a39c3953e3b8a4d199ca240ea73d3aaf8b7"), looks := true }, kinds := [], alts := [], laidByText := true, laidKinds := [.data, .data, .data, .sentinel, .sentinel], laidTests := true, laidLooks := .later }
def PolyMakesCardSaid : Prop := Claim7.holds Tryz.pinned (.plain (OpenSpec.ofChange polyMakesSpec)) polyMakesCard

/-- THE TIED CARD OF 'croupierlaw04.PolyRests'. -/
def polyRestsCard : Claim7 := { stood := { row := polyRestsRow, standIns := [], harness := (true, "ed90011ec74cd7881f6f8eed1f2f8a39c3953e3b8a4d199ca240ea73d3aaf8b7"), looks := true }, kinds := [], alts := [], laidByText := true, laidKinds := [.data, .data, .data, .sentinel, .sentinel], laidTests := true, laidLooks := .later }
def PolyRestsCardSaid : Prop := Claim7.holds Tryz.pinned (.plain (OpenSpec.ofChange polyRestsSpec)) polyRestsCard

/-- THE TIED CARD OF 'croupierlaw04.PolyCommon'. -/
def polyCommonCard : Claim7 := { stood := { row := polyCommonRow, standIns := [], harness := (true, "ed90011ec74cd7881f6f8eed1f2f8a39c3953e3b8a4d199ca240ea73d3aaf8b7"), looks := true }, kinds := [], alts := [], laidByText := true, laidKinds := [.data, .data, .data, .sentinel, .sentinel], laidTests := true, laidLooks := .later }
def PolyCommonCardSaid : Prop := Claim7.holds Tryz.pinned (.plain (OpenSpec.ofChange polyCommonSpec)) polyCommonCard

/-- THE TIED CARD OF 'croupierlaw04.PolyKnown'. -/
def polyKnownCard : Claim7 := { stood := { row := polyKnownRow, standIns := [], harness := (true, "ed90011ec74cd7881f6f8eed1f2f8a39c3953e3b8a4d199ca240ea73d3aaf8b7"), looks := true }, kinds := [], alts := [], laidByText := true, laidKinds := [.data, .data, .data, .sentinel, .sentinel], laidTests := true, laidLooks := .later }
def PolyKnownCardSaid : Prop := Claim7.holds Tryz.pinned (.plain (OpenSpec.ofChange polyKnownSpec)) polyKnownCard

/-- THE TIED CARD OF 'croupierlaw04.PolySimple'. -/
def polySimpleCard : Claim7 := { stood := { row := polySimpleRow, standIns := [], harness := (true, "ed90011ec74cd7881f6f8eed1f2f8a39c3953e3b8a4d199ca240ea73d3aaf8b7"), looks := true }, kinds := [], alts := [], laidByText := true, laidKinds := [.data, .data, .data, .sentinel, .sentinel], laidTests := true, laidLooks := .later }
def PolySimpleCardSaid : Prop := Claim7.holds Tryz.pinned (.plain (OpenSpec.ofChange polySimpleSpec)) polySimpleCard

/-- THE TIED CARD OF 'croupierlaw04.PolyValues'. -/
def polyValuesCard : Claim7 := { stood := { row := polyValuesRow, standIns := [], harness := (true, "ed90011ec74cd7881f6f8eed1f2f8a39c3953e3b8a4d199ca240ea73d3aaf8b7"), looks := true }, kinds := [], alts := [], laidByText := true, laidKinds := [.data, .data, .data, .sentinel, .sentinel], laidTests := true, laidLooks := .later }
def PolyValuesCardSaid : Prop := Claim7.holds Tryz.pinned (.plain (OpenSpec.ofChange polyValuesSpec)) polyValuesCard

/-- THE SECOND FORM's CARD OF 'croupierlaw04.PolySums'. -/
def polySumsUptoCard : Claim7 := { stood := { row := polySumsUptoRow, standIns := [], harness := (true, "ed90011ec74cd7881f6f8eed1f2f8a39c3953e3b8a4d199ca240ea73d3aaf8b7"), looks := true }, kinds := [], alts := [], laidByText := true, laidKinds := [.data, .data, .data, .sentinel, .sentinel], laidTests := true, laidLooks := .later }
def PolySumsUptoCardSaid : Prop := Claim7.holds Tryz.pinned (.plain (OpenSpec.upto polySumsSpec)) polySumsUptoCard

/-- THE SECOND FORM's CARD OF 'croupierlaw04.PolyDivides'. -/
def polyDividesUptoCard : Claim7 := { stood := { row := polyDividesUptoRow, standIns := [], harness := (true, "ed90011ec74cd7881f6f8eed1f2f8a39c3953e3b8a4d199ca240ea73d3aaf8b7"), looks := true }, kinds := [], alts := [], laidByText := true, laidKinds := [.data, .data, .data, .sentinel, .sentinel], laidTests := true, laidLooks := .later }
def PolyDividesUptoCardSaid : Prop := Claim7.holds Tryz.pinned (.plain (OpenSpec.upto polyDividesSpec)) polyDividesUptoCard

/-- THE SECOND FORM's CARD OF 'croupierlaw04.PolyMakes'. -/
def polyMakesUptoCard : Claim7 := { stood := { row := polyMakesUptoRow, standIns := [], harness := (true, "ed90011ec74cd7881f6f8eed1f2f8a39c3953e3b8a4d199ca240ea73d3aaf8b7"), looks := true }, kinds := [], alts := [], laidByText := true, laidKinds := [.data, .data, .data, .sentinel, .sentinel], laidTests := true, laidLooks := .later }
def PolyMakesUptoCardSaid : Prop := Claim7.holds Tryz.pinned (.plain (OpenSpec.upto polyMakesSpec)) polyMakesUptoCard

/-- THE SECOND FORM's CARD OF 'croupierlaw04.PolyRests'. -/
def polyRestsUptoCard : Claim7 := { stood := { row := polyRestsUptoRow, standIns := [], harness := (true, "ed90011ec74cd7881f6f8eed1f2f8a39c3953e3b8a4d199ca240ea73d3aaf8b7"), looks := true }, kinds := [], alts := [], laidByText := true, laidKinds := [.data, .data, .data, .sentinel, .sentinel], laidTests := true, laidLooks := .later }
def PolyRestsUptoCardSaid : Prop := Claim7.holds Tryz.pinned (.plain (OpenSpec.upto polyRestsSpec)) polyRestsUptoCard

/-- THE SECOND FORM's CARD OF 'croupierlaw04.PolyCommon'. -/
def polyCommonUptoCard : Claim7 := { stood := { row := polyCommonUptoRow, standIns := [], harness := (true, "ed90011ec74cd7881f6f8eed1f2f8a39c3953e3b8a4d199ca240ea73d3aaf8b7"), looks := true }, kinds := [], alts := [], laidByText := true, laidKinds := [.data, .data, .data, .sentinel, .sentinel], laidTests := true, laidLooks := .later }
def PolyCommonUptoCardSaid : Prop := Claim7.holds Tryz.pinned (.plain (OpenSpec.upto polyCommonSpec)) polyCommonUptoCard

/-- THE SECOND FORM's CARD OF 'croupierlaw04.PolyKnown'. -/
def polyKnownUptoCard : Claim7 := { stood := { row := polyKnownUptoRow, standIns := [], harness := (true, "ed90011ec74cd7881f6f8eed1f2f8a39c3953e3b8a4d199ca240ea73d3aaf8b7"), looks := true }, kinds := [], alts := [], laidByText := true, laidKinds := [.data, .data, .data, .sentinel, .sentinel], laidTests := true, laidLooks := .later }
def PolyKnownUptoCardSaid : Prop := Claim7.holds Tryz.pinned (.plain (OpenSpec.upto polyKnownSpec)) polyKnownUptoCard

/-- THE SECOND FORM's CARD OF 'croupierlaw04.PolySimple'. -/
def polySimpleUptoCard : Claim7 := { stood := { row := polySimpleUptoRow, standIns := [], harness := (true, "ed90011ec74cd7881f6f8eed1f2f8a39c3953e3b8a4d199ca240ea73d3aaf8b7"), looks := true }, kinds := [], alts := [], laidByText := true, laidKinds := [.data, .data, .data, .sentinel, .sentinel], laidTests := true, laidLooks := .later }
def PolySimpleUptoCardSaid : Prop := Claim7.holds Tryz.pinned (.plain (OpenSpec.upto polySimpleSpec)) polySimpleUptoCard

/-- THE SECOND FORM's CARD OF 'croupierlaw04.PolyValues'. -/
def polyValuesUptoCard : Claim7 := { stood := { row := polyValuesUptoRow, standIns := [], harness := (true, "ed90011ec74cd7881f6f8eed1f2f8a39c3953e3b8a4d199ca240ea73d3aaf8b7"), looks := true }, kinds := [], alts := [], laidByText := true, laidKinds := [.data, .data, .data, .sentinel, .sentinel], laidTests := true, laidLooks := .later }
def PolyValuesUptoCardSaid : Prop := Claim7.holds Tryz.pinned (.plain (OpenSpec.upto polyValuesSpec)) polyValuesUptoCard
end Rows
end Go.Proofs.YtdojbabpnaifoaaGreatDoor
