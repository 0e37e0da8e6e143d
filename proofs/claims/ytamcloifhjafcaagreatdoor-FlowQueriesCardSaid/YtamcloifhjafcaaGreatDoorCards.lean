/-
  DERIVED. GIVEN WITH THE SEED: THE CARDS: each row of YtamcloifhjafcaaGreatDoorRows.lean that lists a variable, with what it lists TIED to the program's text (the seventh form; the later family's looks); each row that meets fmt, with fmt's text TOLD by the authors' own Lean function (tested against real Go, not proved from fmt's source: count such statements apart). THE CARD IS WHAT COUNTS. Prove the row's statement (the work); the ties are given (YtamcloifhjafcaaGreatDoorTie.lean); close each card by the builder's one call (the guide's Derived/Test/ToyasCard.lean, 'card_holds'). Laid BY PROGRAM, IN A SANDBOX (cutbox-door.mjs). By AI agents, Wed Nov 11 2026. No macro, syntax, notation, axiom, sorry.
-/
import Derived.Test.YtamcloifhjafcaaGreatDoorRows
import GoSem.ClaimSeven
namespace Go.Proofs.YtamcloifhjafcaaGreatDoor
namespace Rows

/-- THE TIED CARD OF 'partywalllaw11.FlowQueries'. -/
def flowQueriesCard : Claim7 := { stood := { row := flowQueriesRow, standIns := [], harness := (true, "7ddd7c07e159ed2c874d6ca69b5eec67df86a6c6fcfb004ade55f983b5e248a4"), looks := false }, kinds := [], alts := [], laidByText := true, laidKinds := [.widerDeep], laidTests := true, laidLooks := .later }
def FlowQueriesCardSaid : Prop := Claim7.holds Tryz.pinned (.plain (OpenSpec.ofChange flowQueriesSpec)) flowQueriesCard

/-- THE SECOND FORM's CARD OF 'partywalllaw11.FlowQueries'. -/
def flowQueriesUptoCard : Claim7 := { stood := { row := flowQueriesUptoRow, standIns := [], harness := (true, "7ddd7c07e159ed2c874d6ca69b5eec67df86a6c6fcfb004ade55f983b5e248a4"), looks := false }, kinds := [], alts := [], laidByText := true, laidKinds := [.widerDeep], laidTests := true, laidLooks := .later }
def FlowQueriesUptoCardSaid : Prop := Claim7.holds Tryz.pinned (.plain (OpenSpec.upto flowQueriesSpec)) flowQueriesUptoCard
end Rows
end Go.Proofs.YtamcloifhjafcaaGreatDoor
