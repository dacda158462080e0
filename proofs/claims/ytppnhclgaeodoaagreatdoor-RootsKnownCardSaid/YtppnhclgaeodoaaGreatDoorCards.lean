/-
  DERIVED. GIVEN WITH THE SEED: THE CARDS: each row of YtppnhclgaeodoaaGreatDoorRows.lean that lists a variable, with what it lists TIED to the program's text (the seventh form; the later family's looks); each row that meets fmt, with fmt's text TOLD by the authors' own Lean function (tested against real Go, not proved from fmt's source: count such statements apart). THE CARD IS WHAT COUNTS. Prove the row's statement (the work); the ties are given (YtppnhclgaeodoaaGreatDoorTie.lean); close each card by the builder's one call (the guide's Derived/Test/ToyasCard.lean, 'card_holds'). Laid BY PROGRAM, IN A SANDBOX (cutbox-door.mjs). By AI agents, Wed Nov 11 2026. No macro, syntax, notation, axiom, sorry.
-/
import Derived.Test.YtppnhclgaeodoaaGreatDoorRows
import GoSem.ClaimSeven
namespace Go.Proofs.YtppnhclgaeodoaaGreatDoor
namespace Rows

/-- THE TIED CARD OF 'croupierlaw05.RootsKnown'. -/
def rootsKnownCard : Claim7 := { stood := { row := rootsKnownRow, standIns := [], harness := (true, "08d4d8b6e83d4eaef65961f90f01ecab8f5fd9d15eafa24e154191e41f351e64"), looks := true }, kinds := [], alts := [], laidByText := true, laidKinds := [.data, .data, .data, .sentinel, .sentinel, .data, .data], laidTests := true, laidLooks := .later }
def RootsKnownCardSaid : Prop := Claim7.holds Tryz.pinned (.plain (OpenSpec.ofChange rootsKnownSpec)) rootsKnownCard

/-- THE TIED CARD OF 'croupierlaw05.RootsCounts'. -/
def rootsCountsCard : Claim7 := { stood := { row := rootsCountsRow, standIns := [], harness := (true, "08d4d8b6e83d4eaef65961f90f01ecab8f5fd9d15eafa24e154191e41f351e64"), looks := true }, kinds := [], alts := [], laidByText := true, laidKinds := [.data, .data, .data, .sentinel, .sentinel, .data, .data], laidTests := true, laidLooks := .later }
def RootsCountsCardSaid : Prop := Claim7.holds Tryz.pinned (.plain (OpenSpec.ofChange rootsCountsSpec)) rootsCountsCard

/-- THE TIED CARD OF 'croupierlaw05.RootsCells'. -/
def rootsCellsCard : Claim7 := { stood := { row := rootsCellsRow, standIns := [], harness := (true, "08d4d8b6e83d4eaef65961f90f01ecab8f5fd9d15eafa24e154191e41f351e64"), looks := true }, kinds := [], alts := [], laidByText := true, laidKinds := [.data, .data, .data, .sentinel, .sentinel, .data, .data], laidTests := true, laidLooks := .later }
def RootsCellsCardSaid : Prop := Claim7.holds Tryz.pinned (.plain (OpenSpec.ofChange rootsCellsSpec)) rootsCellsCard

/-- THE TIED CARD OF 'croupierlaw05.RootsSigns'. -/
def rootsSignsCard : Claim7 := { stood := { row := rootsSignsRow, standIns := [], harness := (true, "08d4d8b6e83d4eaef65961f90f01ecab8f5fd9d15eafa24e154191e41f351e64"), looks := true }, kinds := [], alts := [], laidByText := true, laidKinds := [.data, .data, .data, .sentinel, .sentinel, .data, .data], laidTests := true, laidLooks := .later }
def RootsSignsCardSaid : Prop := Claim7.holds Tryz.pinned (.plain (OpenSpec.ofChange rootsSignsSpec)) rootsSignsCard

/-- THE TIED CARD OF 'croupierlaw05.RootsAdd'. -/
def rootsAddCard : Claim7 := { stood := { row := rootsAddRow, standIns := [], harness := (true, "08d4d8b6e83d4eaef65961f90f01ecab8f5fd9d15eafa24e154191e41f351e64"), looks := true }, kinds := [], alts := [], laidByText := true, laidKinds := [.data, .data, .data, .sentinel, .sentinel, .data, .data], laidTests := true, laidLooks := .later }
def RootsAddCardSaid : Prop := Claim7.holds Tryz.pinned (.plain (OpenSpec.ofChange rootsAddSpec)) rootsAddCard

/-- THE TIED CARD OF 'croupierlaw05.RootsSplit'. -/
def rootsSplitCard : Claim7 := { stood := { row := rootsSplitRow, standIns := [], harness := (true, "08d4d8b6e83d4eaef65961f90f01ecab8f5fd9d15eafa24e154191e41f351e64"), looks := true }, kinds := [], alts := [], laidByText := true, laidKinds := [.data, .data, .data, .sentinel, .sentinel, .data, .data], laidTests := true, laidLooks := .later }
def RootsSplitCardSaid : Prop := Claim7.holds Tryz.pinned (.plain (OpenSpec.ofChange rootsSplitSpec)) rootsSplitCard

/-- THE TIED CARD OF 'croupierlaw05.RootsMeans'. -/
def rootsMeansCard : Claim7 := { stood := { row := rootsMeansRow, standIns := [], harness := (true, "08d4d8b6e83d4eaef65961f90f01ecab8f5fd9d15eafa24e154191e41f351e64"), looks := true }, kinds := [], alts := [], laidByText := true, laidKinds := [.data, .data, .data, .sentinel, .sentinel, .data, .data], laidTests := true, laidLooks := .later }
def RootsMeansCardSaid : Prop := Claim7.holds Tryz.pinned (.plain (OpenSpec.ofChange rootsMeansSpec)) rootsMeansCard

/-- THE SECOND FORM's CARD OF 'croupierlaw05.RootsKnown'. -/
def rootsKnownUptoCard : Claim7 := { stood := { row := rootsKnownUptoRow, standIns := [], harness := (true, "08d4d8b6e83d4eaef65961f90f01ecab8f5fd9d15eafa24e154191e41f351e64"), looks := true }, kinds := [], alts := [], laidByText := true, laidKinds := [.data, .data, .data, .sentinel, .sentinel, .data, .data], laidTests := true, laidLooks := .later }
def RootsKnownUptoCardSaid : Prop := Claim7.holds Tryz.pinned (.plain (OpenSpec.upto rootsKnownSpec)) rootsKnownUptoCard

/-- THE SECOND FORM's CARD OF 'croupierlaw05.RootsCounts'. -/
def rootsCountsUptoCard : Claim7 := { stood := { row := rootsCountsUptoRow, standIns := [], harness := (true, "08d4d8b6e83d4eaef65961f90f01ecab8f5fd9d15eafa24e154191e41f351e64"), looks := true }, kinds := [], alts := [], laidByText := true, laidKinds := [.data, .data, .data, .sentinel, .sentinel, .data, .data], laidTests := true, laidLooks := .later }
def RootsCountsUptoCardSaid : Prop := Claim7.holds Tryz.pinned (.plain (OpenSpec.upto rootsCountsSpec)) rootsCountsUptoCard

/-- THE SECOND FORM's CARD OF 'croupierlaw05.RootsCells'. -/
def rootsCellsUptoCard : Claim7 := { stood := { row := rootsCellsUptoRow, standIns := [], harness := (true, "08d4d8b6e83d4eaef65961f90f01ecab8f5fd9d15eafa24e154191e41f351e64"), looks := true }, kinds := [], alts := [], laidByText := true, laidKinds := [.data, .data, .data, .sentinel, .sentinel, .data, .data], laidTests := true, laidLooks := .later }
def RootsCellsUptoCardSaid : Prop := Claim7.holds Tryz.pinned (.plain (OpenSpec.upto rootsCellsSpec)) rootsCellsUptoCard

/-- THE SECOND FORM's CARD OF 'croupierlaw05.RootsSigns'. -/
def rootsSignsUptoCard : Claim7 := { stood := { row := rootsSignsUptoRow, standIns := [], harness := (true, "08d4d8b6e83d4eaef65961f90f01ecab8f5fd9d15eafa24e154191e41f351e64"), looks := true }, kinds := [], alts := [], laidByText := true, laidKinds := [.data, .data, .data, .sentinel, .sentinel, .data, .data], laidTests := true, laidLooks := .later }
def RootsSignsUptoCardSaid : Prop := Claim7.holds Tryz.pinned (.plain (OpenSpec.upto rootsSignsSpec)) rootsSignsUptoCard

/-- THE SECOND FORM's CARD OF 'croupierlaw05.RootsAdd'. -/
def rootsAddUptoCard : Claim7 := { stood := { row := rootsAddUptoRow, standIns := [], harness := (true, "08d4d8b6e83d4eaef65961f90f01ecab8f5fd9d15eafa24e154191e41f351e64"), looks := true }, kinds := [], alts := [], laidByText := true, laidKinds := [.data, .data, .data, .sentinel, .sentinel, .data, .data], laidTests := true, laidLooks := .later }
def RootsAddUptoCardSaid : Prop := Claim7.holds Tryz.pinned (.plain (OpenSpec.upto rootsAddSpec)) rootsAddUptoCard

/-- THE SECOND FORM's CARD OF 'croupierlaw05.RootsSplit'. -/
def rootsSplitUptoCard : Claim7 := { stood := { row := rootsSplitUptoRow, standIns := [], harness := (true, "08d4d8b6e83d4eaef65961f90f01ecab8f5fd9d15eafa24e154191e41f351e64"), looks := true }, kinds := [], alts := [], laidByText := true, laidKinds := [.data, .data, .data, .sentinel, .sentinel, .data, .data], laidTests := true, laidLooks := .later }
def RootsSplitUptoCardSaid : Prop := Claim7.holds Tryz.pinned (.plain (OpenSpec.upto rootsSplitSpec)) rootsSplitUptoCard

/-- THE SECOND FORM's CARD OF 'croupierlaw05.RootsMeans'. -/
def rootsMeansUptoCard : Claim7 := { stood := { row := rootsMeansUptoRow, standIns := [], harness := (true, "08d4d8b6e83d4eaef65961f90f01ecab8f5fd9d15eafa24e154191e41f351e64"), looks := true }, kinds := [], alts := [], laidByText := true, laidKinds := [.data, .data, .data, .sentinel, .sentinel, .data, .data], laidTests := true, laidLooks := .later }
def RootsMeansUptoCardSaid : Prop := Claim7.holds Tryz.pinned (.plain (OpenSpec.upto rootsMeansSpec)) rootsMeansUptoCard
end Rows
end Go.Proofs.YtppnhclgaeodoaaGreatDoor
