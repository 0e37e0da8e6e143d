/-
  DERIVED. GIVEN WITH THE SEED: THE CARDS: each row of YtmeefdbbmlimcaaGreatDoorRows.lean that lists a variable, with what it lists TIED to the program's text (the seventh form; the later family's looks); each row that meets fmt, with fmt's text TOLD by the authors' own Lean function (tested against real Go, not proved from fmt's source: count such statements apart). THE CARD IS WHAT COUNTS. Prove the row's statement (the work); the ties are given (YtmeefdbbmlimcaaGreatDoorTie.lean); close each card by the builder's one call (the guide's Derived/Test/ToyasCard.lean, 'card_holds'). Laid BY PROGRAM, IN A SANDBOX (cutbox-door.mjs). By AI agents, Wed Nov 11 2026. No macro, syntax, notation, axiom, sorry.
-/
import Derived.Test.YtmeefdbbmlimcaaGreatDoorRows
import GoSem.ClaimSeven
namespace Go.Proofs.YtmeefdbbmlimcaaGreatDoor
namespace Rows

/-- THE TIED CARD OF 'partywalllaw15.DenoteKnown'. -/
def denoteKnownCard : Claim7 := { stood := { row := denoteKnownRow, standIns := [], harness := (true, "b2e4c35927f05b9ad0e9b3e8ff1e9a1c0b86696617727d0157253b1ccecd40be"), looks := false }, kinds := [], alts := [], laidByText := true, laidKinds := [.widerDeep], laidTests := true, laidLooks := .later }
def DenoteKnownCardSaid : Prop := Claim7.holds Tryz.pinned (.plain (OpenSpec.ofChange denoteKnownSpec)) denoteKnownCard

/-- THE TIED CARD OF 'partywalllaw19.RunsKnown'. -/
def runsKnownCard : Claim7 := { stood := { row := runsKnownRow, standIns := [], harness := (true, "b2e4c35927f05b9ad0e9b3e8ff1e9a1c0b86696617727d0157253b1ccecd40be"), looks := false }, kinds := [], alts := [], laidByText := true, laidKinds := [.widerDeep], laidTests := true, laidLooks := .later }
def RunsKnownCardSaid : Prop := Claim7.holds Tryz.pinned (.plain (OpenSpec.ofChange runsKnownSpec)) runsKnownCard

/-- THE TIED CARD OF 'partywalllaw20.MatcherKnown'. -/
def matcherKnownCard : Claim7 := { stood := { row := matcherKnownRow, standIns := [], harness := (true, "b2e4c35927f05b9ad0e9b3e8ff1e9a1c0b86696617727d0157253b1ccecd40be"), looks := false }, kinds := [], alts := [], laidByText := true, laidKinds := [.widerDeep], laidTests := true, laidLooks := .later }
def MatcherKnownCardSaid : Prop := Claim7.holds Tryz.pinned (.plain (OpenSpec.ofChange matcherKnownSpec)) matcherKnownCard

/-- THE SECOND FORM's CARD OF 'partywalllaw15.DenoteKnown'. -/
def denoteKnownUptoCard : Claim7 := { stood := { row := denoteKnownUptoRow, standIns := [], harness := (true, "b2e4c35927f05b9ad0e9b3e8ff1e9a1c0b86696617727d0157253b1ccecd40be"), looks := false }, kinds := [], alts := [], laidByText := true, laidKinds := [.widerDeep], laidTests := true, laidLooks := .later }
def DenoteKnownUptoCardSaid : Prop := Claim7.holds Tryz.pinned (.plain (OpenSpec.upto denoteKnownSpec)) denoteKnownUptoCard

/-- THE SECOND FORM's CARD OF 'partywalllaw19.RunsKnown'. -/
def runsKnownUptoCard : Claim7 := { stood := { row := runsKnownUptoRow, standIns := [], harness := (true, "b2e4c35927f05b9ad0e9b3e8ff1e9a1c0b86696617727d0157253b1ccecd40be"), looks := false }, kinds := [], alts := [], laidByText := true, laidKinds := [.widerDeep], laidTests := true, laidLooks := .later }
def RunsKnownUptoCardSaid : Prop := Claim7.holds Tryz.pinned (.plain (OpenSpec.upto runsKnownSpec)) runsKnownUptoCard

/-- THE SECOND FORM's CARD OF 'partywalllaw20.MatcherKnown'. -/
def matcherKnownUptoCard : Claim7 := { stood := { row := matcherKnownUptoRow, standIns := [], harness := (true, "b2e4c35927f05b9ad0e9b3e8ff1e9a1c0b86696617727d0157253b1ccecd40be"), looks := false }, kinds := [], alts := [], laidByText := true, laidKinds := [.widerDeep], laidTests := true, laidLooks := .later }
def MatcherKnownUptoCardSaid : Prop := Claim7.holds Tryz.pinned (.plain (OpenSpec.upto matcherKnownSpec)) matcherKnownUptoCard
end Rows
end Go.Proofs.YtmeefdbbmlimcaaGreatDoor
