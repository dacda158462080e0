/-
  DERIVED. GIVEN WITH THE SEED: THE CARDS: each row of YtcopdikdkkdlfaaDoorRows.lean that lists a variable, with what it lists TIED to the program's text (the seventh form; the later family's looks); each row that meets fmt, with fmt's text TOLD by the authors' own Lean function (tested against real Go, not proved from fmt's source: count such statements apart). THE CARD IS WHAT COUNTS. Prove the row's statement (the work); the ties are given (YtcopdikdkkdlfaaDoorTie.lean); close each card by the builder's one call (the guide's Derived/Test/ToyasCard.lean, 'card_holds'). Laid BY PROGRAM, IN A SANDBOX (cutbox-door.mjs). By AI agents, Wed Nov 11 2026. No macro, syntax, notation, axiom, sorry.
-/
import Derived.Test.YtcopdikdkkdlfaaDoorRows
import GoSem.ClaimSeven
namespace Go.Proofs.YtcopdikdkkdlfaaDoor
namespace Rows

/-- THE TIED CARD OF 'croupierlaw08.GraphTurns'. -/
def graphTurnsCard : Claim7 := { stood := { row := graphTurnsRow, standIns := [], harness := (true, "9ec709b15cfb63c7ac58e32f0acd2e49fd4db5aec6ab678f34e6a6e7aee8d245"), looks := false }, kinds := [], alts := [], laidByText := true, laidKinds := [.data], laidTests := true, laidLooks := .later }
def GraphTurnsCardSaid : Prop := Claim7.holds Tryd.pinned (.plain (OpenSpec.ofChange graphTurnsSpec)) graphTurnsCard

/-- THE TIED CARD OF 'croupierlaw08.GraphKnown'. -/
def graphKnownCard : Claim7 := { stood := { row := graphKnownRow, standIns := [], harness := (true, "9ec709b15cfb63c7ac58e32f0acd2e49fd4db5aec6ab678f34e6a6e7aee8d245"), looks := false }, kinds := [], alts := [], laidByText := true, laidKinds := [.data], laidTests := true, laidLooks := .later }
def GraphKnownCardSaid : Prop := Claim7.holds Tryd.pinned (.plain (OpenSpec.ofChange graphKnownSpec)) graphKnownCard

/-- THE TIED CARD OF 'croupierlaw08.GraphCloses'. -/
def graphClosesCard : Claim7 := { stood := { row := graphClosesRow, standIns := [], harness := (true, "9ec709b15cfb63c7ac58e32f0acd2e49fd4db5aec6ab678f34e6a6e7aee8d245"), looks := false }, kinds := [], alts := [], laidByText := true, laidKinds := [.data], laidTests := true, laidLooks := .later }
def GraphClosesCardSaid : Prop := Claim7.holds Tryd.pinned (.plain (OpenSpec.ofChange graphClosesSpec)) graphClosesCard

/-- THE TIED CARD OF 'croupierlaw08.GraphParts'. -/
def graphPartsCard : Claim7 := { stood := { row := graphPartsRow, standIns := [], harness := (true, "9ec709b15cfb63c7ac58e32f0acd2e49fd4db5aec6ab678f34e6a6e7aee8d245"), looks := false }, kinds := [], alts := [], laidByText := true, laidKinds := [.data], laidTests := true, laidLooks := .later }
def GraphPartsCardSaid : Prop := Claim7.holds Tryd.pinned (.plain (OpenSpec.ofChange graphPartsSpec)) graphPartsCard

/-- THE TIED CARD OF 'croupierlaw08.GraphOrders'. -/
def graphOrdersCard : Claim7 := { stood := { row := graphOrdersRow, standIns := [], harness := (true, "9ec709b15cfb63c7ac58e32f0acd2e49fd4db5aec6ab678f34e6a6e7aee8d245"), looks := false }, kinds := [], alts := [], laidByText := true, laidKinds := [.data], laidTests := true, laidLooks := .later }
def GraphOrdersCardSaid : Prop := Claim7.holds Tryd.pinned (.plain (OpenSpec.ofChange graphOrdersSpec)) graphOrdersCard

/-- THE TIED CARD OF 'croupierlaw08.GraphReaches'. -/
def graphReachesCard : Claim7 := { stood := { row := graphReachesRow, standIns := [], harness := (true, "9ec709b15cfb63c7ac58e32f0acd2e49fd4db5aec6ab678f34e6a6e7aee8d245"), looks := false }, kinds := [], alts := [], laidByText := true, laidKinds := [.data], laidTests := true, laidLooks := .later }
def GraphReachesCardSaid : Prop := Claim7.holds Tryd.pinned (.plain (OpenSpec.ofChange graphReachesSpec)) graphReachesCard

/-- THE TIED CARD OF 'croupierlaw08.GraphDivides'. -/
def graphDividesCard : Claim7 := { stood := { row := graphDividesRow, standIns := [], harness := (true, "9ec709b15cfb63c7ac58e32f0acd2e49fd4db5aec6ab678f34e6a6e7aee8d245"), looks := false }, kinds := [], alts := [], laidByText := true, laidKinds := [.data], laidTests := true, laidLooks := .later }
def GraphDividesCardSaid : Prop := Claim7.holds Tryd.pinned (.plain (OpenSpec.ofChange graphDividesSpec)) graphDividesCard

/-- THE SECOND FORM's CARD OF 'croupierlaw08.GraphTurns'. -/
def graphTurnsUptoCard : Claim7 := { stood := { row := graphTurnsUptoRow, standIns := [], harness := (true, "9ec709b15cfb63c7ac58e32f0acd2e49fd4db5aec6ab678f34e6a6e7aee8d245"), looks := false }, kinds := [], alts := [], laidByText := true, laidKinds := [.data], laidTests := true, laidLooks := .later }
def GraphTurnsUptoCardSaid : Prop := Claim7.holds Tryd.pinned (.plain (OpenSpec.upto graphTurnsSpec)) graphTurnsUptoCard

/-- THE SECOND FORM's CARD OF 'croupierlaw08.GraphKnown'. -/
def graphKnownUptoCard : Claim7 := { stood := { row := graphKnownUptoRow, standIns := [], harness := (true, "9ec709b15cfb63c7ac58e32f0acd2e49fd4db5aec6ab678f34e6a6e7aee8d245"), looks := false }, kinds := [], alts := [], laidByText := true, laidKinds := [.data], laidTests := true, laidLooks := .later }
def GraphKnownUptoCardSaid : Prop := Claim7.holds Tryd.pinned (.plain (OpenSpec.upto graphKnownSpec)) graphKnownUptoCard

/-- THE SECOND FORM's CARD OF 'croupierlaw08.GraphCloses'. -/
def graphClosesUptoCard : Claim7 := { stood := { row := graphClosesUptoRow, standIns := [], harness := (true, "9ec709b15cfb63c7ac58e32f0acd2e49fd4db5aec6ab678f34e6a6e7aee8d245"), looks := false }, kinds := [], alts := [], laidByText := true, laidKinds := [.data], laidTests := true, laidLooks := .later }
def GraphClosesUptoCardSaid : Prop := Claim7.holds Tryd.pinned (.plain (OpenSpec.upto graphClosesSpec)) graphClosesUptoCard

/-- THE SECOND FORM's CARD OF 'croupierlaw08.GraphParts'. -/
def graphPartsUptoCard : Claim7 := { stood := { row := graphPartsUptoRow, standIns := [], harness := (true, "9ec709b15cfb63c7ac58e32f0acd2e49fd4db5aec6ab678f34e6a6e7aee8d245"), looks := false }, kinds := [], alts := [], laidByText := true, laidKinds := [.data], laidTests := true, laidLooks := .later }
def GraphPartsUptoCardSaid : Prop := Claim7.holds Tryd.pinned (.plain (OpenSpec.upto graphPartsSpec)) graphPartsUptoCard

/-- THE SECOND FORM's CARD OF 'croupierlaw08.GraphOrders'. -/
def graphOrdersUptoCard : Claim7 := { stood := { row := graphOrdersUptoRow, standIns := [], harness := (true, "9ec709b15cfb63c7ac58e32f0acd2e49fd4db5aec6ab678f34e6a6e7aee8d245"), looks := false }, kinds := [], alts := [], laidByText := true, laidKinds := [.data], laidTests := true, laidLooks := .later }
def GraphOrdersUptoCardSaid : Prop := Claim7.holds Tryd.pinned (.plain (OpenSpec.upto graphOrdersSpec)) graphOrdersUptoCard

/-- THE SECOND FORM's CARD OF 'croupierlaw08.GraphReaches'. -/
def graphReachesUptoCard : Claim7 := { stood := { row := graphReachesUptoRow, standIns := [], harness := (true, "9ec709b15cfb63c7ac58e32f0acd2e49fd4db5aec6ab678f34e6a6e7aee8d245"), looks := false }, kinds := [], alts := [], laidByText := true, laidKinds := [.data], laidTests := true, laidLooks := .later }
def GraphReachesUptoCardSaid : Prop := Claim7.holds Tryd.pinned (.plain (OpenSpec.upto graphReachesSpec)) graphReachesUptoCard

/-- THE SECOND FORM's CARD OF 'croupierlaw08.GraphDivides'. -/
def graphDividesUptoCard : Claim7 := { stood := { row := graphDividesUptoRow, standIns := [], harness := (true, "9ec709b15cfb63c7ac58e32f0acd2e49fd4db5aec6ab678f34e6a6e7aee8d245"), looks := false }, kinds := [], alts := [], laidByText := true, laidKinds := [.data], laidTests := true, laidLooks := .later }
def GraphDividesUptoCardSaid : Prop := Claim7.holds Tryd.pinned (.plain (OpenSpec.upto graphDividesSpec)) graphDividesUptoCard
end Rows
end Go.Proofs.YtcopdikdkkdlfaaDoor
