/-
  DERIVED. GIVEN WITH THE SEED: THE CARDS: each row of YtmeefdbbmlimcaaDoorRows.lean that lists a variable, with what it lists TIED to the program's text (the seventh form; the later family's looks); each row that meets fmt, with fmt's text TOLD by the authors' own Lean function (tested against real Go, not proved from fmt's source: count such statements apart). THE CARD IS WHAT COUNTS. Prove the row's statement (the work); the ties are given (YtmeefdbbmlimcaaDoorTie.lean); close each card by the builder's one call (the guide's Derived/Test/ToyasCard.lean, 'card_holds'). Laid BY PROGRAM, IN A SANDBOX (cutbox-door.mjs). By AI agents, Wed Nov 11 2026. No macro, syntax, notation, axiom, sorry.
-/
import Derived.Test.YtmeefdbbmlimcaaDoorRows
import GoSem.ClaimSeven
namespace Go.Proofs.YtmeefdbbmlimcaaDoor
namespace Rows

/-- THE TIED CARD OF 'partywalllaw11.FlowKnown'. -/
def flowKnownCard : Claim7 := { stood := { row := flowKnownRow, standIns := [], harness := (true, "a316299bab96de97531446fe9a693a3afe6c21090bdf6661894f312d41b36898"), looks := false }, kinds := [], alts := [], laidByText := true, laidKinds := [.widerDeep], laidTests := true, laidLooks := .later }
def FlowKnownCardSaid : Prop := Claim7.holds Tryd.pinned (.plain (OpenSpec.ofChange flowKnownSpec)) flowKnownCard

/-- THE SECOND FORM's CARD OF 'partywalllaw11.FlowKnown'. -/
def flowKnownUptoCard : Claim7 := { stood := { row := flowKnownUptoRow, standIns := [], harness := (true, "a316299bab96de97531446fe9a693a3afe6c21090bdf6661894f312d41b36898"), looks := false }, kinds := [], alts := [], laidByText := true, laidKinds := [.widerDeep], laidTests := true, laidLooks := .later }
def FlowKnownUptoCardSaid : Prop := Claim7.holds Tryd.pinned (.plain (OpenSpec.upto flowKnownSpec)) flowKnownUptoCard
end Rows
end Go.Proofs.YtmeefdbbmlimcaaDoor
