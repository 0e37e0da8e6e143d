/-
  DERIVED. GIVEN WITH THE SEED: THE CARDS: each row of YtjkkkldkimdajaaDoorRows.lean that lists a variable, with what it lists TIED to the program's text (the seventh form; the later family's looks); each row that meets fmt, with fmt's text TOLD by the authors' own Lean function (tested against real Go, not proved from fmt's source: count such statements apart). THE CARD IS WHAT COUNTS. Prove the row's statement (the work); the ties are given (YtjkkkldkimdajaaDoorTie.lean); close each card by the builder's one call (the guide's Derived/Test/ToyasCard.lean, 'card_holds'). Laid BY PROGRAM, IN A SANDBOX (cutbox-door.mjs). By AI agents, Wed Nov 11 2026. No macro, syntax, notation, axiom, sorry.
-/
import Derived.Test.YtjkkkldkimdajaaDoorRows
import GoSem.ClaimSeven
namespace Go.Proofs.YtjkkkldkimdajaaDoor
namespace Rows

/-- THE TIED CARD OF 'partywalllaw13.PredConds'. -/
def predCondsCard : Claim7 := { stood := { row := predCondsRow, standIns := [], harness := (true, "85bfcb0acc148af565d2b6c1d79863b79a4045ff91104a0bb33a4e9fe6975215"), looks := false }, kinds := [], alts := [], laidByText := true, laidKinds := [.widerDeep], laidTests := true, laidLooks := .later }
def PredCondsCardSaid : Prop := Claim7.holds Tryd.pinned (.plain (OpenSpec.ofChange predCondsSpec)) predCondsCard

/-- THE TIED CARD OF 'partywalllaw13.PredAtoms'. -/
def predAtomsCard : Claim7 := { stood := { row := predAtomsRow, standIns := [], harness := (true, "85bfcb0acc148af565d2b6c1d79863b79a4045ff91104a0bb33a4e9fe6975215"), looks := false }, kinds := [], alts := [], laidByText := true, laidKinds := [.widerDeep], laidTests := true, laidLooks := .later }
def PredAtomsCardSaid : Prop := Claim7.holds Tryd.pinned (.plain (OpenSpec.ofChange predAtomsSpec)) predAtomsCard

/-- THE TIED CARD OF 'partywalllaw13.PredLists'. -/
def predListsCard : Claim7 := { stood := { row := predListsRow, standIns := [], harness := (true, "85bfcb0acc148af565d2b6c1d79863b79a4045ff91104a0bb33a4e9fe6975215"), looks := false }, kinds := [], alts := [], laidByText := true, laidKinds := [.widerDeep], laidTests := true, laidLooks := .later }
def PredListsCardSaid : Prop := Claim7.holds Tryd.pinned (.plain (OpenSpec.ofChange predListsSpec)) predListsCard

/-- THE TIED CARD OF 'partywalllaw13.PredKnown'. -/
def predKnownCard : Claim7 := { stood := { row := predKnownRow, standIns := [], harness := (true, "85bfcb0acc148af565d2b6c1d79863b79a4045ff91104a0bb33a4e9fe6975215"), looks := false }, kinds := [], alts := [], laidByText := true, laidKinds := [.widerDeep], laidTests := true, laidLooks := .later }
def PredKnownCardSaid : Prop := Claim7.holds Tryd.pinned (.plain (OpenSpec.ofChange predKnownSpec)) predKnownCard

/-- THE TIED CARD OF 'partywalllaw13.PredOrder'. -/
def predOrderCard : Claim7 := { stood := { row := predOrderRow, standIns := [], harness := (true, "85bfcb0acc148af565d2b6c1d79863b79a4045ff91104a0bb33a4e9fe6975215"), looks := false }, kinds := [], alts := [], laidByText := true, laidKinds := [.widerDeep], laidTests := true, laidLooks := .later }
def PredOrderCardSaid : Prop := Claim7.holds Tryd.pinned (.plain (OpenSpec.ofChange predOrderSpec)) predOrderCard

/-- THE TIED CARD OF 'partywalllaw13.PredLeast'. -/
def predLeastCard : Claim7 := { stood := { row := predLeastRow, standIns := [], harness := (true, "85bfcb0acc148af565d2b6c1d79863b79a4045ff91104a0bb33a4e9fe6975215"), looks := false }, kinds := [], alts := [], laidByText := true, laidKinds := [.widerDeep], laidTests := true, laidLooks := .later }
def PredLeastCardSaid : Prop := Claim7.holds Tryd.pinned (.plain (OpenSpec.ofChange predLeastSpec)) predLeastCard

/-- THE TIED CARD OF 'partywalllaw13.PredNarrows'. -/
def predNarrowsCard : Claim7 := { stood := { row := predNarrowsRow, standIns := [], harness := (true, "85bfcb0acc148af565d2b6c1d79863b79a4045ff91104a0bb33a4e9fe6975215"), looks := false }, kinds := [], alts := [], laidByText := true, laidKinds := [.widerDeep], laidTests := true, laidLooks := .later }
def PredNarrowsCardSaid : Prop := Claim7.holds Tryd.pinned (.plain (OpenSpec.ofChange predNarrowsSpec)) predNarrowsCard

/-- THE SECOND FORM's CARD OF 'partywalllaw13.PredConds'. -/
def predCondsUptoCard : Claim7 := { stood := { row := predCondsUptoRow, standIns := [], harness := (true, "85bfcb0acc148af565d2b6c1d79863b79a4045ff91104a0bb33a4e9fe6975215"), looks := false }, kinds := [], alts := [], laidByText := true, laidKinds := [.widerDeep], laidTests := true, laidLooks := .later }
def PredCondsUptoCardSaid : Prop := Claim7.holds Tryd.pinned (.plain (OpenSpec.upto predCondsSpec)) predCondsUptoCard

/-- THE SECOND FORM's CARD OF 'partywalllaw13.PredAtoms'. -/
def predAtomsUptoCard : Claim7 := { stood := { row := predAtomsUptoRow, standIns := [], harness := (true, "85bfcb0acc148af565d2b6c1d79863b79a4045ff91104a0bb33a4e9fe6975215"), looks := false }, kinds := [], alts := [], laidByText := true, laidKinds := [.widerDeep], laidTests := true, laidLooks := .later }
def PredAtomsUptoCardSaid : Prop := Claim7.holds Tryd.pinned (.plain (OpenSpec.upto predAtomsSpec)) predAtomsUptoCard

/-- THE SECOND FORM's CARD OF 'partywalllaw13.PredLists'. -/
def predListsUptoCard : Claim7 := { stood := { row := predListsUptoRow, standIns := [], harness := (true, "85bfcb0acc148af565d2b6c1d79863b79a4045ff91104a0bb33a4e9fe6975215"), looks := false }, kinds := [], alts := [], laidByText := true, laidKinds := [.widerDeep], laidTests := true, laidLooks := .later }
def PredListsUptoCardSaid : Prop := Claim7.holds Tryd.pinned (.plain (OpenSpec.upto predListsSpec)) predListsUptoCard

/-- THE SECOND FORM's CARD OF 'partywalllaw13.PredKnown'. -/
def predKnownUptoCard : Claim7 := { stood := { row := predKnownUptoRow, standIns := [], harness := (true, "85bfcb0acc148af565d2b6c1d79863b79a4045ff91104a0bb33a4e9fe6975215"), looks := false }, kinds := [], alts := [], laidByText := true, laidKinds := [.widerDeep], laidTests := true, laidLooks := .later }
def PredKnownUptoCardSaid : Prop := Claim7.holds Tryd.pinned (.plain (OpenSpec.upto predKnownSpec)) predKnownUptoCard

/-- THE SECOND FORM's CARD OF 'partywalllaw13.PredOrder'. -/
def predOrderUptoCard : Claim7 := { stood := { row := predOrderUptoRow, standIns := [], harness := (true, "85bfcb0acc148af565d2b6c1d79863b79a4045ff91104a0bb33a4e9fe6975215"), looks := false }, kinds := [], alts := [], laidByText := true, laidKinds := [.widerDeep], laidTests := true, laidLooks := .later }
def PredOrderUptoCardSaid : Prop := Claim7.holds Tryd.pinned (.plain (OpenSpec.upto predOrderSpec)) predOrderUptoCard

/-- THE SECOND FORM's CARD OF 'partywalllaw13.PredLeast'. -/
def predLeastUptoCard : Claim7 := { stood := { row := predLeastUptoRow, standIns := [], harness := (true, "85bfcb0acc148af565d2b6c1d79863b79a4045ff91104a0bb33a4e9fe6975215"), looks := false }, kinds := [], alts := [], laidByText := true, laidKinds := [.widerDeep], laidTests := true, laidLooks := .later }
def PredLeastUptoCardSaid : Prop := Claim7.holds Tryd.pinned (.plain (OpenSpec.upto predLeastSpec)) predLeastUptoCard

/-- THE SECOND FORM's CARD OF 'partywalllaw13.PredNarrows'. -/
def predNarrowsUptoCard : Claim7 := { stood := { row := predNarrowsUptoRow, standIns := [], harness := (true, "85bfcb0acc148af565d2b6c1d79863b79a4045ff91104a0bb33a4e9fe6975215"), looks := false }, kinds := [], alts := [], laidByText := true, laidKinds := [.widerDeep], laidTests := true, laidLooks := .later }
def PredNarrowsUptoCardSaid : Prop := Claim7.holds Tryd.pinned (.plain (OpenSpec.upto predNarrowsSpec)) predNarrowsUptoCard
end Rows
end Go.Proofs.YtjkkkldkimdajaaDoor
