/-
  DERIVED. GIVEN WITH THE SEED: THE CARDS: each row of YtlnpgnipocbfhaaGreatDoorRows.lean that lists a variable, with what it lists TIED to the program's text (the seventh form; the later family's looks); each row that meets fmt, with fmt's text TOLD by the authors' own Lean function (tested against real Go, not proved from fmt's source: count such statements apart). THE CARD IS WHAT COUNTS. Prove the row's statement (the work); the ties are given (YtlnpgnipocbfhaaGreatDoorTie.lean); close each card by the builder's one call (the guide's Derived/Test/ToyasCard.lean, 'card_holds'). Laid BY PROGRAM, IN A SANDBOX (cutbox-door.mjs). By AI agents, Wed Nov 11 2026. No macro, syntax, notation, axiom, sorry.
-/
import Derived.Test.YtlnpgnipocbfhaaGreatDoorRows
import GoSem.ClaimSeven
namespace Go.Proofs.YtlnpgnipocbfhaaGreatDoor
namespace Rows

/-- THE TIED CARD OF 'partywalllaw18.NfaMakes'. -/
def nfaMakesCard : Claim7 := { stood := { row := nfaMakesRow, standIns := [], harness := (true, "403b7f055af20c765d489a30c63e1f045a3d11188a3acb9e7bc7a6e5bc9b722c"), looks := false }, kinds := [], alts := [], laidByText := true, laidKinds := [.widerDeep], laidTests := true, laidLooks := .later }
def NfaMakesCardSaid : Prop := Claim7.holds Tryz.pinned (.plain (OpenSpec.ofChange nfaMakesSpec)) nfaMakesCard

/-- THE TIED CARD OF 'partywalllaw18.NfaQueries'. -/
def nfaQueriesCard : Claim7 := { stood := { row := nfaQueriesRow, standIns := [], harness := (true, "403b7f055af20c765d489a30c63e1f045a3d11188a3acb9e7bc7a6e5bc9b722c"), looks := false }, kinds := [], alts := [], laidByText := true, laidKinds := [.widerDeep], laidTests := true, laidLooks := .later }
def NfaQueriesCardSaid : Prop := Claim7.holds Tryz.pinned (.plain (OpenSpec.ofChange nfaQueriesSpec)) nfaQueriesCard

/-- THE TIED CARD OF 'partywalllaw19.RunsSteps'. -/
def runsStepsCard : Claim7 := { stood := { row := runsStepsRow, standIns := [], harness := (true, "403b7f055af20c765d489a30c63e1f045a3d11188a3acb9e7bc7a6e5bc9b722c"), looks := false }, kinds := [], alts := [], laidByText := true, laidKinds := [.widerDeep], laidTests := true, laidLooks := .later }
def RunsStepsCardSaid : Prop := Claim7.holds Tryz.pinned (.plain (OpenSpec.ofChange runsStepsSpec)) runsStepsCard

/-- THE TIED CARD OF 'partywalllaw19.RunsBlocks'. -/
def runsBlocksCard : Claim7 := { stood := { row := runsBlocksRow, standIns := [], harness := (true, "403b7f055af20c765d489a30c63e1f045a3d11188a3acb9e7bc7a6e5bc9b722c"), looks := false }, kinds := [], alts := [], laidByText := true, laidKinds := [.widerDeep], laidTests := true, laidLooks := .later }
def RunsBlocksCardSaid : Prop := Claim7.holds Tryz.pinned (.plain (OpenSpec.ofChange runsBlocksSpec)) runsBlocksCard

/-- THE SECOND FORM's CARD OF 'partywalllaw18.NfaMakes'. -/
def nfaMakesUptoCard : Claim7 := { stood := { row := nfaMakesUptoRow, standIns := [], harness := (true, "403b7f055af20c765d489a30c63e1f045a3d11188a3acb9e7bc7a6e5bc9b722c"), looks := false }, kinds := [], alts := [], laidByText := true, laidKinds := [.widerDeep], laidTests := true, laidLooks := .later }
def NfaMakesUptoCardSaid : Prop := Claim7.holds Tryz.pinned (.plain (OpenSpec.upto nfaMakesSpec)) nfaMakesUptoCard

/-- THE SECOND FORM's CARD OF 'partywalllaw18.NfaQueries'. -/
def nfaQueriesUptoCard : Claim7 := { stood := { row := nfaQueriesUptoRow, standIns := [], harness := (true, "403b7f055af20c765d489a30c63e1f045a3d11188a3acb9e7bc7a6e5bc9b722c"), looks := false }, kinds := [], alts := [], laidByText := true, laidKinds := [.widerDeep], laidTests := true, laidLooks := .later }
def NfaQueriesUptoCardSaid : Prop := Claim7.holds Tryz.pinned (.plain (OpenSpec.upto nfaQueriesSpec)) nfaQueriesUptoCard

/-- THE SECOND FORM's CARD OF 'partywalllaw19.RunsSteps'. -/
def runsStepsUptoCard : Claim7 := { stood := { row := runsStepsUptoRow, standIns := [], harness := (true, "403b7f055af20c765d489a30c63e1f045a3d11188a3acb9e7bc7a6e5bc9b722c"), looks := false }, kinds := [], alts := [], laidByText := true, laidKinds := [.widerDeep], laidTests := true, laidLooks := .later }
def RunsStepsUptoCardSaid : Prop := Claim7.holds Tryz.pinned (.plain (OpenSpec.upto runsStepsSpec)) runsStepsUptoCard

/-- THE SECOND FORM's CARD OF 'partywalllaw19.RunsBlocks'. -/
def runsBlocksUptoCard : Claim7 := { stood := { row := runsBlocksUptoRow, standIns := [], harness := (true, "403b7f055af20c765d489a30c63e1f045a3d11188a3acb9e7bc7a6e5bc9b722c"), looks := false }, kinds := [], alts := [], laidByText := true, laidKinds := [.widerDeep], laidTests := true, laidLooks := .later }
def RunsBlocksUptoCardSaid : Prop := Claim7.holds Tryz.pinned (.plain (OpenSpec.upto runsBlocksSpec)) runsBlocksUptoCard
end Rows
end Go.Proofs.YtlnpgnipocbfhaaGreatDoor
