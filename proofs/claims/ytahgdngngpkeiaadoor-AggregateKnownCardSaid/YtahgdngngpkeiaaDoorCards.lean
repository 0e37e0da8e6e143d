/-
  DERIVED. GIVEN WITH THE SEED: THE CARDS: each row of YtahgdngngpkeiaaDoorRows.lean that lists a variable, with what it lists TIED to the program's text (the seventh form; the later family's looks); each row that meets fmt, with fmt's text TOLD by the authors' own Lean function (tested against real Go, not proved from fmt's source: count such statements apart). THE CARD IS WHAT COUNTS. Prove the row's statement (the work); the ties are given (YtahgdngngpkeiaaDoorTie.lean); close each card by the builder's one call (the guide's Derived/Test/ToyasCard.lean, 'card_holds'). Laid BY PROGRAM, IN A SANDBOX (cutbox-door.mjs). By AI agents, Wed Nov 11 2026. No macro, syntax, notation, axiom, sorry.
-/
import Derived.Test.YtahgdngngpkeiaaDoorRows
import GoSem.ClaimSeven
namespace Go.Proofs.YtahgdngngpkeiaaDoor
namespace Rows

/-- THE TIED CARD OF 'partywalllaw16.AggregateBounds'. -/
def aggregateBoundsCard : Claim7 := { stood := { row := aggregateBoundsRow, standIns := [], harness := (true, "581343b3ca3850b331aa0e6001b63b1e5708f96388e36b92025fdcb12411b29b"), looks := false }, kinds := [], alts := [], laidByText := true, laidKinds := [.widerDeep], laidTests := true, laidLooks := .later }
def AggregateBoundsCardSaid : Prop := Claim7.holds Tryd.pinned (.plain (OpenSpec.ofChange aggregateBoundsSpec)) aggregateBoundsCard

/-- THE TIED CARD OF 'partywalllaw16.AggregateSums'. -/
def aggregateSumsCard : Claim7 := { stood := { row := aggregateSumsRow, standIns := [], harness := (true, "581343b3ca3850b331aa0e6001b63b1e5708f96388e36b92025fdcb12411b29b"), looks := false }, kinds := [], alts := [], laidByText := true, laidKinds := [.widerDeep], laidTests := true, laidLooks := .later }
def AggregateSumsCardSaid : Prop := Claim7.holds Tryd.pinned (.plain (OpenSpec.ofChange aggregateSumsSpec)) aggregateSumsCard

/-- THE TIED CARD OF 'partywalllaw16.AggregateOf'. -/
def aggregateOfCard : Claim7 := { stood := { row := aggregateOfRow, standIns := [], harness := (true, "581343b3ca3850b331aa0e6001b63b1e5708f96388e36b92025fdcb12411b29b"), looks := false }, kinds := [], alts := [], laidByText := true, laidKinds := [.widerDeep], laidTests := true, laidLooks := .later }
def AggregateOfCardSaid : Prop := Claim7.holds Tryd.pinned (.plain (OpenSpec.ofChange aggregateOfSpec)) aggregateOfCard

/-- THE TIED CARD OF 'partywalllaw16.AggregateNames'. -/
def aggregateNamesCard : Claim7 := { stood := { row := aggregateNamesRow, standIns := [], harness := (true, "581343b3ca3850b331aa0e6001b63b1e5708f96388e36b92025fdcb12411b29b"), looks := false }, kinds := [], alts := [], laidByText := true, laidKinds := [.widerDeep], laidTests := true, laidLooks := .later }
def AggregateNamesCardSaid : Prop := Claim7.holds Tryd.pinned (.plain (OpenSpec.ofChange aggregateNamesSpec)) aggregateNamesCard

/-- THE TIED CARD OF 'partywalllaw16.AggregateKnown'. -/
def aggregateKnownCard : Claim7 := { stood := { row := aggregateKnownRow, standIns := [], harness := (true, "581343b3ca3850b331aa0e6001b63b1e5708f96388e36b92025fdcb12411b29b"), looks := false }, kinds := [], alts := [], laidByText := true, laidKinds := [.widerDeep], laidTests := true, laidLooks := .later }
def AggregateKnownCardSaid : Prop := Claim7.holds Tryd.pinned (.plain (OpenSpec.ofChange aggregateKnownSpec)) aggregateKnownCard

/-- THE TIED CARD OF 'partywalllaw16.AggregateGives'. -/
def aggregateGivesCard : Claim7 := { stood := { row := aggregateGivesRow, standIns := [], harness := (true, "581343b3ca3850b331aa0e6001b63b1e5708f96388e36b92025fdcb12411b29b"), looks := false }, kinds := [], alts := [], laidByText := true, laidKinds := [.widerDeep], laidTests := true, laidLooks := .later }
def AggregateGivesCardSaid : Prop := Claim7.holds Tryd.pinned (.plain (OpenSpec.ofChange aggregateGivesSpec)) aggregateGivesCard

/-- THE TIED CARD OF 'partywalllaw16.AggregateSelects'. -/
def aggregateSelectsCard : Claim7 := { stood := { row := aggregateSelectsRow, standIns := [], harness := (true, "581343b3ca3850b331aa0e6001b63b1e5708f96388e36b92025fdcb12411b29b"), looks := false }, kinds := [], alts := [], laidByText := true, laidKinds := [.widerDeep], laidTests := true, laidLooks := .later }
def AggregateSelectsCardSaid : Prop := Claim7.holds Tryd.pinned (.plain (OpenSpec.ofChange aggregateSelectsSpec)) aggregateSelectsCard

/-- THE SECOND FORM's CARD OF 'partywalllaw16.AggregateBounds'. -/
def aggregateBoundsUptoCard : Claim7 := { stood := { row := aggregateBoundsUptoRow, standIns := [], harness := (true, "581343b3ca3850b331aa0e6001b63b1e5708f96388e36b92025fdcb12411b29b"), looks := false }, kinds := [], alts := [], laidByText := true, laidKinds := [.widerDeep], laidTests := true, laidLooks := .later }
def AggregateBoundsUptoCardSaid : Prop := Claim7.holds Tryd.pinned (.plain (OpenSpec.upto aggregateBoundsSpec)) aggregateBoundsUptoCard

/-- THE SECOND FORM's CARD OF 'partywalllaw16.AggregateSums'. -/
def aggregateSumsUptoCard : Claim7 := { stood := { row := aggregateSumsUptoRow, standIns := [], harness := (true, "581343b3ca3850b331aa0e6001b63b1e5708f96388e36b92025fdcb12411b29b"), looks := false }, kinds := [], alts := [], laidByText := true, laidKinds := [.widerDeep], laidTests := true, laidLooks := .later }
def AggregateSumsUptoCardSaid : Prop := Claim7.holds Tryd.pinned (.plain (OpenSpec.upto aggregateSumsSpec)) aggregateSumsUptoCard

/-- THE SECOND FORM's CARD OF 'partywalllaw16.AggregateOf'. -/
def aggregateOfUptoCard : Claim7 := { stood := { row := aggregateOfUptoRow, standIns := [], harness := (true, "581343b3ca3850b331aa0e6001b63b1e5708f96388e36b92025fdcb12411b29b"), looks := false }, kinds := [], alts := [], laidByText := true, laidKinds := [.widerDeep], laidTests := true, laidLooks := .later }
def AggregateOfUptoCardSaid : Prop := Claim7.holds Tryd.pinned (.plain (OpenSpec.upto aggregateOfSpec)) aggregateOfUptoCard

/-- THE SECOND FORM's CARD OF 'partywalllaw16.AggregateNames'. -/
def aggregateNamesUptoCard : Claim7 := { stood := { row := aggregateNamesUptoRow, standIns := [], harness := (true, "581343b3ca3850b331aa0e6001b63b1e5708f96388e36b92025fdcb12411b29b"), looks := false }, kinds := [], alts := [], laidByText := true, laidKinds := [.widerDeep], laidTests := true, laidLooks := .later }
def AggregateNamesUptoCardSaid : Prop := Claim7.holds Tryd.pinned (.plain (OpenSpec.upto aggregateNamesSpec)) aggregateNamesUptoCard

/-- THE SECOND FORM's CARD OF 'partywalllaw16.AggregateKnown'. -/
def aggregateKnownUptoCard : Claim7 := { stood := { row := aggregateKnownUptoRow, standIns := [], harness := (true, "581343b3ca3850b331aa0e6001b63b1e5708f96388e36b92025fdcb12411b29b"), looks := false }, kinds := [], alts := [], laidByText := true, laidKinds := [.widerDeep], laidTests := true, laidLooks := .later }
def AggregateKnownUptoCardSaid : Prop := Claim7.holds Tryd.pinned (.plain (OpenSpec.upto aggregateKnownSpec)) aggregateKnownUptoCard

/-- THE SECOND FORM's CARD OF 'partywalllaw16.AggregateGives'. -/
def aggregateGivesUptoCard : Claim7 := { stood := { row := aggregateGivesUptoRow, standIns := [], harness := (true, "581343b3ca3850b331aa0e6001b63b1e5708f96388e36b92025fdcb12411b29b"), looks := false }, kinds := [], alts := [], laidByText := true, laidKinds := [.widerDeep], laidTests := true, laidLooks := .later }
def AggregateGivesUptoCardSaid : Prop := Claim7.holds Tryd.pinned (.plain (OpenSpec.upto aggregateGivesSpec)) aggregateGivesUptoCard

/-- THE SECOND FORM's CARD OF 'partywalllaw16.AggregateSelects'. -/
def aggregateSelectsUptoCard : Claim7 := { stood := { row := aggregateSelectsUptoRow, standIns := [], harness := (true, "581343b3ca3850b331aa0e6001b63b1e5708f96388e36b92025fdcb12411b29b"), looks := false }, kinds := [], alts := [], laidByText := true, laidKinds := [.widerDeep], laidTests := true, laidLooks := .later }
def AggregateSelectsUptoCardSaid : Prop := Claim7.holds Tryd.pinned (.plain (OpenSpec.upto aggregateSelectsSpec)) aggregateSelectsUptoCard
end Rows
end Go.Proofs.YtahgdngngpkeiaaDoor
