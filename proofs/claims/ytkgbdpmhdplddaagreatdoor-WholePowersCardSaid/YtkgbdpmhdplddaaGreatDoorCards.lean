/-
  DERIVED. GIVEN WITH THE SEED: THE CARDS: each row of YtkgbdpmhdplddaaGreatDoorRows.lean that lists a variable, with what it lists TIED to the program's text (the seventh form; the later family's looks); each row that meets fmt, with fmt's text TOLD by the authors' own Lean function (tested against real Go, not proved from fmt's source: count such statements apart). THE CARD IS WHAT COUNTS. Prove the row's statement (the work); the ties are given (YtkgbdpmhdplddaaGreatDoorTie.lean); close each card by the builder's one call (the guide's Derived/Test/ToyasCard.lean, 'card_holds'). Laid BY PROGRAM, IN A SANDBOX (cutbox-door.mjs). By AI agents, Wed Nov 11 2026. No macro, syntax, notation, axiom, sorry.
-/
import Derived.Test.YtkgbdpmhdplddaaGreatDoorRows
import GoSem.ClaimSeven
namespace Go.Proofs.YtkgbdpmhdplddaaGreatDoor
namespace Rows

/-- THE TIED CARD OF 'croupierlaw01.WholeSums'. -/
def wholeSumsCard : Claim7 := { stood := { row := wholeSumsRow, standIns := [], harness := (true, "319f110bcc8cd4d88370f23e8a82f0a38ec1198dbcdf6aca1b664dc654ca32ff"), looks := true }, kinds := [], alts := [], laidByText := true, laidKinds := [.data, .data, .data, .sentinel, .sentinel], laidTests := true, laidLooks := .later }
def WholeSumsCardSaid : Prop := Claim7.holds Tryz.pinned (.plain (OpenSpec.ofChange wholeSumsSpec)) wholeSumsCard

/-- THE TIED CARD OF 'croupierlaw01.WholeProducts'. -/
def wholeProductsCard : Claim7 := { stood := { row := wholeProductsRow, standIns := [], harness := (true, "319f110bcc8cd4d88370f23e8a82f0a38ec1198dbcdf6aca1b664dc654ca32ff"), looks := true }, kinds := [], alts := [], laidByText := true, laidKinds := [.data, .data, .data, .sentinel, .sentinel], laidTests := true, laidLooks := .later }
def WholeProductsCardSaid : Prop := Claim7.holds Tryz.pinned (.plain (OpenSpec.ofChange wholeProductsSpec)) wholeProductsCard

/-- THE TIED CARD OF 'croupierlaw01.WholePowers'. -/
def wholePowersCard : Claim7 := { stood := { row := wholePowersRow, standIns := [], harness := (true, "319f110bcc8cd4d88370f23e8a82f0a38ec1198dbcdf6aca1b664dc654ca32ff"), looks := true }, kinds := [], alts := [], laidByText := true, laidKinds := [.data, .data, .data, .sentinel, .sentinel], laidTests := true, laidLooks := .later }
def WholePowersCardSaid : Prop := Claim7.holds Tryz.pinned (.plain (OpenSpec.ofChange wholePowersSpec)) wholePowersCard

/-- THE SECOND FORM's CARD OF 'croupierlaw01.WholeSums'. -/
def wholeSumsUptoCard : Claim7 := { stood := { row := wholeSumsUptoRow, standIns := [], harness := (true, "319f110bcc8cd4d88370f23e8a82f0a38ec1198dbcdf6aca1b664dc654ca32ff"), looks := true }, kinds := [], alts := [], laidByText := true, laidKinds := [.data, .data, .data, .sentinel, .sentinel], laidTests := true, laidLooks := .later }
def WholeSumsUptoCardSaid : Prop := Claim7.holds Tryz.pinned (.plain (OpenSpec.upto wholeSumsSpec)) wholeSumsUptoCard

/-- THE SECOND FORM's CARD OF 'croupierlaw01.WholeProducts'. -/
def wholeProductsUptoCard : Claim7 := { stood := { row := wholeProductsUptoRow, standIns := [], harness := (true, "319f110bcc8cd4d88370f23e8a82f0a38ec1198dbcdf6aca1b664dc654ca32ff"), looks := true }, kinds := [], alts := [], laidByText := true, laidKinds := [.data, .data, .data, .sentinel, .sentinel], laidTests := true, laidLooks := .later }
def WholeProductsUptoCardSaid : Prop := Claim7.holds Tryz.pinned (.plain (OpenSpec.upto wholeProductsSpec)) wholeProductsUptoCard

/-- THE SECOND FORM's CARD OF 'croupierlaw01.WholePowers'. -/
def wholePowersUptoCard : Claim7 := { stood := { row := wholePowersUptoRow, standIns := [], harness := (true, "319f110bcc8cd4d88370f23e8a82f0a38ec1198dbcdf6aca1b664dc654ca32ff"), looks := true }, kinds := [], alts := [], laidByText := true, laidKinds := [.data, .data, .data, .sentinel, .sentinel], laidTests := true, laidLooks := .later }
def WholePowersUptoCardSaid : Prop := Claim7.holds Tryz.pinned (.plain (OpenSpec.upto wholePowersSpec)) wholePowersUptoCard
end Rows
end Go.Proofs.YtkgbdpmhdplddaaGreatDoor
