/-
  DERIVED. GIVEN WITH THE SEED: THE CARDS: each row of YtamcloifhjafcaaDoorRows.lean that lists a variable, with what it lists TIED to the program's text (the seventh form; the later family's looks); each row that meets fmt, with fmt's text TOLD by the authors' own Lean function (tested against real Go, not proved from fmt's source: count such statements apart). THE CARD IS WHAT COUNTS. Prove the row's statement (the work); the ties are given (YtamcloifhjafcaaDoorTie.lean); close each card by the builder's one call (the guide's Derived/Test/ToyasCard.lean, 'card_holds'). Laid BY PROGRAM, IN A SANDBOX (cutbox-door.mjs). By AI agents, Wed Nov 11 2026. No macro, syntax, notation, axiom, sorry.
-/
import Derived.Test.YtamcloifhjafcaaDoorRows
import GoSem.ClaimSeven
namespace Go.Proofs.YtamcloifhjafcaaDoor
namespace Rows

/-- THE TIED CARD OF 'partywalllaw16.AggregateNames'. -/
def aggregateNamesCard : Claim7 := { stood := { row := aggregateNamesRow, standIns := [], harness := (true, "d86fb702ba86c0438c0d058328c963e07d0a2193a154c825ddf8495371748618"), looks := false }, kinds := [], alts := [], laidByText := true, laidKinds := [.widerDeep], laidTests := true, laidLooks := .later }
def AggregateNamesCardSaid : Prop := Claim7.holds Tryd.pinned (.plain (OpenSpec.ofChange aggregateNamesSpec)) aggregateNamesCard

/-- THE TIED CARD OF 'partywalllaw11.FlowLeast'. -/
def flowLeastCard : Claim7 := { stood := { row := flowLeastRow, standIns := [], harness := (true, "d86fb702ba86c0438c0d058328c963e07d0a2193a154c825ddf8495371748618"), looks := false }, kinds := [], alts := [], laidByText := true, laidKinds := [.widerDeep], laidTests := true, laidLooks := .later }
def FlowLeastCardSaid : Prop := Claim7.holds Tryd.pinned (.plain (OpenSpec.ofChange flowLeastSpec)) flowLeastCard

/-- THE TIED CARD OF 'partywalllaw11.FlowClasses'. -/
def flowClassesCard : Claim7 := { stood := { row := flowClassesRow, standIns := [], harness := (true, "d86fb702ba86c0438c0d058328c963e07d0a2193a154c825ddf8495371748618"), looks := false }, kinds := [], alts := [], laidByText := true, laidKinds := [.widerDeep], laidTests := true, laidLooks := .later }
def FlowClassesCardSaid : Prop := Claim7.holds Tryd.pinned (.plain (OpenSpec.ofChange flowClassesSpec)) flowClassesCard

/-- THE TIED CARD OF 'partywalllaw16.AggregateGives'. -/
def aggregateGivesCard : Claim7 := { stood := { row := aggregateGivesRow, standIns := [], harness := (true, "d86fb702ba86c0438c0d058328c963e07d0a2193a154c825ddf8495371748618"), looks := false }, kinds := [], alts := [], laidByText := true, laidKinds := [.widerDeep], laidTests := true, laidLooks := .later }
def AggregateGivesCardSaid : Prop := Claim7.holds Tryd.pinned (.plain (OpenSpec.ofChange aggregateGivesSpec)) aggregateGivesCard

/-- THE TIED CARD OF 'partywalllaw16.AggregateSelects'. -/
def aggregateSelectsCard : Claim7 := { stood := { row := aggregateSelectsRow, standIns := [], harness := (true, "d86fb702ba86c0438c0d058328c963e07d0a2193a154c825ddf8495371748618"), looks := false }, kinds := [], alts := [], laidByText := true, laidKinds := [.widerDeep], laidTests := true, laidLooks := .later }
def AggregateSelectsCardSaid : Prop := Claim7.holds Tryd.pinned (.plain (OpenSpec.ofChange aggregateSelectsSpec)) aggregateSelectsCard

/-- THE TIED CARD OF 'partywalllaw11.FlowSees'. -/
def flowSeesCard : Claim7 := { stood := { row := flowSeesRow, standIns := [], harness := (true, "d86fb702ba86c0438c0d058328c963e07d0a2193a154c825ddf8495371748618"), looks := false }, kinds := [], alts := [], laidByText := true, laidKinds := [.widerDeep], laidTests := true, laidLooks := .later }
def FlowSeesCardSaid : Prop := Claim7.holds Tryd.pinned (.plain (OpenSpec.ofChange flowSeesSpec)) flowSeesCard

/-- THE TIED CARD OF 'partywalllaw11.FlowRestricts'. -/
def flowRestrictsCard : Claim7 := { stood := { row := flowRestrictsRow, standIns := [], harness := (true, "d86fb702ba86c0438c0d058328c963e07d0a2193a154c825ddf8495371748618"), looks := false }, kinds := [], alts := [], laidByText := true, laidKinds := [.widerDeep], laidTests := true, laidLooks := .later }
def FlowRestrictsCardSaid : Prop := Claim7.holds Tryd.pinned (.plain (OpenSpec.ofChange flowRestrictsSpec)) flowRestrictsCard

/-- THE SECOND FORM's CARD OF 'partywalllaw16.AggregateNames'. -/
def aggregateNamesUptoCard : Claim7 := { stood := { row := aggregateNamesUptoRow, standIns := [], harness := (true, "d86fb702ba86c0438c0d058328c963e07d0a2193a154c825ddf8495371748618"), looks := false }, kinds := [], alts := [], laidByText := true, laidKinds := [.widerDeep], laidTests := true, laidLooks := .later }
def AggregateNamesUptoCardSaid : Prop := Claim7.holds Tryd.pinned (.plain (OpenSpec.upto aggregateNamesSpec)) aggregateNamesUptoCard

/-- THE SECOND FORM's CARD OF 'partywalllaw11.FlowLeast'. -/
def flowLeastUptoCard : Claim7 := { stood := { row := flowLeastUptoRow, standIns := [], harness := (true, "d86fb702ba86c0438c0d058328c963e07d0a2193a154c825ddf8495371748618"), looks := false }, kinds := [], alts := [], laidByText := true, laidKinds := [.widerDeep], laidTests := true, laidLooks := .later }
def FlowLeastUptoCardSaid : Prop := Claim7.holds Tryd.pinned (.plain (OpenSpec.upto flowLeastSpec)) flowLeastUptoCard

/-- THE SECOND FORM's CARD OF 'partywalllaw11.FlowClasses'. -/
def flowClassesUptoCard : Claim7 := { stood := { row := flowClassesUptoRow, standIns := [], harness := (true, "d86fb702ba86c0438c0d058328c963e07d0a2193a154c825ddf8495371748618"), looks := false }, kinds := [], alts := [], laidByText := true, laidKinds := [.widerDeep], laidTests := true, laidLooks := .later }
def FlowClassesUptoCardSaid : Prop := Claim7.holds Tryd.pinned (.plain (OpenSpec.upto flowClassesSpec)) flowClassesUptoCard

/-- THE SECOND FORM's CARD OF 'partywalllaw16.AggregateGives'. -/
def aggregateGivesUptoCard : Claim7 := { stood := { row := aggregateGivesUptoRow, standIns := [], harness := (true, "d86fb702ba86c0438c0d058328c963e07d0a2193a154c825ddf8495371748618"), looks := false }, kinds := [], alts := [], laidByText := true, laidKinds := [.widerDeep], laidTests := true, laidLooks := .later }
def AggregateGivesUptoCardSaid : Prop := Claim7.holds Tryd.pinned (.plain (OpenSpec.upto aggregateGivesSpec)) aggregateGivesUptoCard

/-- THE SECOND FORM's CARD OF 'partywalllaw16.AggregateSelects'. -/
def aggregateSelectsUptoCard : Claim7 := { stood := { row := aggregateSelectsUptoRow, standIns := [], harness := (true, "d86fb702ba86c0438c0d058328c963e07d0a2193a154c825ddf8495371748618"), looks := false }, kinds := [], alts := [], laidByText := true, laidKinds := [.widerDeep], laidTests := true, laidLooks := .later }
def AggregateSelectsUptoCardSaid : Prop := Claim7.holds Tryd.pinned (.plain (OpenSpec.upto aggregateSelectsSpec)) aggregateSelectsUptoCard

/-- THE SECOND FORM's CARD OF 'partywalllaw11.FlowSees'. -/
def flowSeesUptoCard : Claim7 := { stood := { row := flowSeesUptoRow, standIns := [], harness := (true, "d86fb702ba86c0438c0d058328c963e07d0a2193a154c825ddf8495371748618"), looks := false }, kinds := [], alts := [], laidByText := true, laidKinds := [.widerDeep], laidTests := true, laidLooks := .later }
def FlowSeesUptoCardSaid : Prop := Claim7.holds Tryd.pinned (.plain (OpenSpec.upto flowSeesSpec)) flowSeesUptoCard

/-- THE SECOND FORM's CARD OF 'partywalllaw11.FlowRestricts'. -/
def flowRestrictsUptoCard : Claim7 := { stood := { row := flowRestrictsUptoRow, standIns := [], harness := (true, "d86fb702ba86c0438c0d058328c963e07d0a2193a154c825ddf8495371748618"), looks := false }, kinds := [], alts := [], laidByText := true, laidKinds := [.widerDeep], laidTests := true, laidLooks := .later }
def FlowRestrictsUptoCardSaid : Prop := Claim7.holds Tryd.pinned (.plain (OpenSpec.upto flowRestrictsSpec)) flowRestrictsUptoCard
end Rows
end Go.Proofs.YtamcloifhjafcaaDoor
