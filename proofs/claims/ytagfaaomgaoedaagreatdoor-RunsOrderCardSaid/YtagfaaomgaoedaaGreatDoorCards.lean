/-
  DERIVED. GIVEN WITH THE SEED: THE CARDS: each row of YtagfaaomgaoedaaGreatDoorRows.lean that lists a variable, with what it lists TIED to the program's text (the seventh form; the later family's looks); each row that meets fmt, with fmt's text TOLD by the authors' own Lean function (tested against real Go, not proved from fmt's source: count such statements apart). THE CARD IS WHAT COUNTS. Prove the row's statement (the work); the ties are given (YtagfaaomgaoedaaGreatDoorTie.lean); close each card by the builder's one call (the guide's Derived/Test/ToyasCard.lean, 'card_holds'). Laid BY PROGRAM, IN A SANDBOX (cutbox-door.mjs). By AI agents, Wed Nov 11 2026. No macro, syntax, notation, axiom, sorry.
-/
import Derived.Test.YtagfaaomgaoedaaGreatDoorRows
import GoSem.ClaimSeven
namespace Go.Proofs.YtagfaaomgaoedaaGreatDoor
namespace Rows

/-- THE TIED CARD OF 'partywalllaw19.RunsOrder'. -/
def runsOrderCard : Claim7 := { stood := { row := runsOrderRow, standIns := [], harness := (true, "686f3a00cbdc3759f00015ea9a84644af20a4b44ff2920e1aa7e6809f9239e75"), looks := false }, kinds := [], alts := [], laidByText := true, laidKinds := [.widerDeep], laidTests := true, laidLooks := .later }
def RunsOrderCardSaid : Prop := Claim7.holds Tryz.pinned (.plain (OpenSpec.ofChange runsOrderSpec)) runsOrderCard

/-- THE SECOND FORM's CARD OF 'partywalllaw19.RunsOrder'. -/
def runsOrderUptoCard : Claim7 := { stood := { row := runsOrderUptoRow, standIns := [], harness := (true, "686f3a00cbdc3759f00015ea9a84644af20a4b44ff2920e1aa7e6809f9239e75"), looks := false }, kinds := [], alts := [], laidByText := true, laidKinds := [.widerDeep], laidTests := true, laidLooks := .later }
def RunsOrderUptoCardSaid : Prop := Claim7.holds Tryz.pinned (.plain (OpenSpec.upto runsOrderSpec)) runsOrderUptoCard
end Rows
end Go.Proofs.YtagfaaomgaoedaaGreatDoor
