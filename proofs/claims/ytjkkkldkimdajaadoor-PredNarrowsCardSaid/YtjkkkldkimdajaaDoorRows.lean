/-
  NARROWER THAN 'FOR EVERY INPUT', by the rows' own cells (each row's printed sentence says how): PredConds: laid · PredAtoms: laid · PredLists: laid · PredKnown: laid · PredOrder: laid · PredLeast: laid · PredNarrows: laid.
  DERIVED. THE GIVEN ROWS OF THIS SEAT. 7 by the template 'for every input the law returns true; each argument reads behind the call as it read before'; 0 by the template 'total and deterministic' (their statements: YtjkkkldkimdajaaDoorTotals.lean).
  GIVEN WITH THE SEED: the statements are not yours to turn. If you find one false, say at which input.
  Laid BY PROGRAM, IN A SANDBOX (cutbox-rows.mjs): the forced cells as the released guide's own fill.sh prints them over the translation 9bec7bf9113a73ae… (all of the seat's roots in one cut). By AI agents, Wed Nov 11 2026. No macro, syntax, notation, axiom, sorry.
-/
import Derived.Test.YtjkkkldkimdajaaDoorChecked
import GoSem.Claim
import GoSem.ClaimJoined
import GoSem.ClaimMapViews
import Derived.JoinedTies
import Derived.KernelRfl
namespace Go.Proofs.YtjkkkldkimdajaaDoor
/- THE CELL 'sum', in the pinned program and in every row, IS THE sha256 OF THE DUMP (.gsa) THAT YtjkkkldkimdajaaDoorProg.lean LOADS. Nothing in Lean hashes anything: it is a label: what it is worth is what the hold of that sum in a sandbox is worth. -/
noncomputable def Tryd.pinned : Pinned := { name := "ytjkkkldkimdajaadoor", sum := "9bec7bf9113a73ae26201a124f3d2bb1735da29ea325c63f7ace2390172434f6", checked := Tryd.checked }
namespace Rows
def none {H : Type} : Left H := { results := [], args := [] }

/- WHAT THE LISTED PACKAGE-LEVEL VARIABLES READ AS WHEN THE CALL BEGINS. Each datum BY PROGRAM (the guide's laid-datum.mjs) off the statement by which the dump's own 'gosem.cut.vars' lays the variable. In a bare row this is a premise. The card (YtjkkkldkimdajaaDoorCards.lean) ties it to the program's text. -/
def laid_partywall_ast_names {H : Type} : DataW H := .agg [.lit (.string [99, 111, 117, 110, 116]), .lit (.string [115, 117, 109]), .lit (.string [109, 105, 110]), .lit (.string [109, 97, 120]), .lit (.string [102, 105, 114, 115, 116]), .lit (.string [108, 97, 115, 116])]

/-- 'partywalllaw13.PredConds': WHATEVER THE INPUT: true; the input reads as it did. -/
def predCondsSpec : ChangeSpec := { name := "predConds", fn := fun _ => fun
  | [d1, d2] => { results := [.lit (.bool true)], args := [d1, d2] }
  | _ => none }
def predCondsRow : OpenClaim := { program := "ytjkkkldkimdajaadoor", sum := "9bec7bf9113a73ae26201a124f3d2bb1735da29ea325c63f7ace2390172434f6", func := "partywall/partywalllaw13.PredConds", spec := "predConds", unfollowed := true, recurses := true, named := ["partywall/ast.names"], apart := false, laid := [("partywall/ast.names", laid_partywall_ast_names)] }
def PredCondsSaid : Prop := predCondsRow.holds Tryd.pinned (OpenSpec.ofChange predCondsSpec)

/-- ITS FALSE NEIGHBOUR: 'it returns false'. Refute it at one input. -/
def predCondsWrong : ChangeSpec := { name := "predConds", fn := fun _ => fun
  | [d1, d2] => { results := [.lit (.bool false)], args := [d1, d2] }
  | _ => none }
def PredCondsWrongFalsely : Prop := predCondsRow.holds Tryd.pinned (OpenSpec.ofChange predCondsWrong)

/-- 'partywalllaw13.PredAtoms': WHATEVER THE INPUT: true; the input reads as it did. -/
def predAtomsSpec : ChangeSpec := { name := "predAtoms", fn := fun _ => fun
  | [d1, d2] => { results := [.lit (.bool true)], args := [d1, d2] }
  | _ => none }
def predAtomsRow : OpenClaim := { program := "ytjkkkldkimdajaadoor", sum := "9bec7bf9113a73ae26201a124f3d2bb1735da29ea325c63f7ace2390172434f6", func := "partywall/partywalllaw13.PredAtoms", spec := "predAtoms", unfollowed := true, recurses := true, named := ["partywall/ast.names"], apart := false, laid := [("partywall/ast.names", laid_partywall_ast_names)] }
def PredAtomsSaid : Prop := predAtomsRow.holds Tryd.pinned (OpenSpec.ofChange predAtomsSpec)

/-- ITS FALSE NEIGHBOUR: 'it returns false'. Refute it at one input. -/
def predAtomsWrong : ChangeSpec := { name := "predAtoms", fn := fun _ => fun
  | [d1, d2] => { results := [.lit (.bool false)], args := [d1, d2] }
  | _ => none }
def PredAtomsWrongFalsely : Prop := predAtomsRow.holds Tryd.pinned (OpenSpec.ofChange predAtomsWrong)

/-- 'partywalllaw13.PredLists': WHATEVER THE INPUT: true; the input reads as it did. -/
def predListsSpec : ChangeSpec := { name := "predLists", fn := fun _ => fun
  | [d1, d2, d3] => { results := [.lit (.bool true)], args := [d1, d2, d3] }
  | _ => none }
def predListsRow : OpenClaim := { program := "ytjkkkldkimdajaadoor", sum := "9bec7bf9113a73ae26201a124f3d2bb1735da29ea325c63f7ace2390172434f6", func := "partywall/partywalllaw13.PredLists", spec := "predLists", unfollowed := true, recurses := true, named := ["partywall/ast.names"], apart := false, laid := [("partywall/ast.names", laid_partywall_ast_names)] }
def PredListsSaid : Prop := predListsRow.holds Tryd.pinned (OpenSpec.ofChange predListsSpec)

/-- ITS FALSE NEIGHBOUR: 'it returns false'. Refute it at one input. -/
def predListsWrong : ChangeSpec := { name := "predLists", fn := fun _ => fun
  | [d1, d2, d3] => { results := [.lit (.bool false)], args := [d1, d2, d3] }
  | _ => none }
def PredListsWrongFalsely : Prop := predListsRow.holds Tryd.pinned (OpenSpec.ofChange predListsWrong)

/-- 'partywalllaw13.PredKnown': WHATEVER THE INPUT: true; the input reads as it did. -/
def predKnownSpec : ChangeSpec := { name := "predKnown", fn := fun _ => fun
  | [] => { results := [.lit (.bool true)], args := [] }
  | _ => none }
def predKnownRow : OpenClaim := { program := "ytjkkkldkimdajaadoor", sum := "9bec7bf9113a73ae26201a124f3d2bb1735da29ea325c63f7ace2390172434f6", func := "partywall/partywalllaw13.PredKnown", spec := "predKnown", unfollowed := true, recurses := true, named := ["partywall/ast.names"], apart := false, laid := [("partywall/ast.names", laid_partywall_ast_names)] }
def PredKnownSaid : Prop := predKnownRow.holds Tryd.pinned (OpenSpec.ofChange predKnownSpec)

/-- ITS FALSE NEIGHBOUR: 'it returns false'. Refute it at one input. -/
def predKnownWrong : ChangeSpec := { name := "predKnown", fn := fun _ => fun
  | [] => { results := [.lit (.bool false)], args := [] }
  | _ => none }
def PredKnownWrongFalsely : Prop := predKnownRow.holds Tryd.pinned (OpenSpec.ofChange predKnownWrong)

/-- 'partywalllaw13.PredOrder': WHATEVER THE INPUT: true; the input reads as it did. -/
def predOrderSpec : ChangeSpec := { name := "predOrder", fn := fun _ => fun
  | [d1, d2] => { results := [.lit (.bool true)], args := [d1, d2] }
  | _ => none }
def predOrderRow : OpenClaim := { program := "ytjkkkldkimdajaadoor", sum := "9bec7bf9113a73ae26201a124f3d2bb1735da29ea325c63f7ace2390172434f6", func := "partywall/partywalllaw13.PredOrder", spec := "predOrder", unfollowed := true, recurses := true, named := ["partywall/ast.names"], apart := false, laid := [("partywall/ast.names", laid_partywall_ast_names)] }
def PredOrderSaid : Prop := predOrderRow.holds Tryd.pinned (OpenSpec.ofChange predOrderSpec)

/-- ITS FALSE NEIGHBOUR: 'it returns false'. Refute it at one input. -/
def predOrderWrong : ChangeSpec := { name := "predOrder", fn := fun _ => fun
  | [d1, d2] => { results := [.lit (.bool false)], args := [d1, d2] }
  | _ => none }
def PredOrderWrongFalsely : Prop := predOrderRow.holds Tryd.pinned (OpenSpec.ofChange predOrderWrong)

/-- 'partywalllaw13.PredLeast': WHATEVER THE INPUT: true; the input reads as it did. -/
def predLeastSpec : ChangeSpec := { name := "predLeast", fn := fun _ => fun
  | [d1, d2, d3] => { results := [.lit (.bool true)], args := [d1, d2, d3] }
  | _ => none }
def predLeastRow : OpenClaim := { program := "ytjkkkldkimdajaadoor", sum := "9bec7bf9113a73ae26201a124f3d2bb1735da29ea325c63f7ace2390172434f6", func := "partywall/partywalllaw13.PredLeast", spec := "predLeast", unfollowed := true, recurses := true, named := ["partywall/ast.names"], apart := false, laid := [("partywall/ast.names", laid_partywall_ast_names)] }
def PredLeastSaid : Prop := predLeastRow.holds Tryd.pinned (OpenSpec.ofChange predLeastSpec)

/-- ITS FALSE NEIGHBOUR: 'it returns false'. Refute it at one input. -/
def predLeastWrong : ChangeSpec := { name := "predLeast", fn := fun _ => fun
  | [d1, d2, d3] => { results := [.lit (.bool false)], args := [d1, d2, d3] }
  | _ => none }
def PredLeastWrongFalsely : Prop := predLeastRow.holds Tryd.pinned (OpenSpec.ofChange predLeastWrong)

/-- 'partywalllaw13.PredNarrows': WHATEVER THE INPUT: true; the input reads as it did. -/
def predNarrowsSpec : ChangeSpec := { name := "predNarrows", fn := fun _ => fun
  | [d1, d2, d3, d4] => { results := [.lit (.bool true)], args := [d1, d2, d3, d4] }
  | _ => none }
def predNarrowsRow : OpenClaim := { program := "ytjkkkldkimdajaadoor", sum := "9bec7bf9113a73ae26201a124f3d2bb1735da29ea325c63f7ace2390172434f6", func := "partywall/partywalllaw13.PredNarrows", spec := "predNarrows", unfollowed := true, recurses := true, named := ["partywall/ast.names"], apart := false, laid := [("partywall/ast.names", laid_partywall_ast_names)] }
def PredNarrowsSaid : Prop := predNarrowsRow.holds Tryd.pinned (OpenSpec.ofChange predNarrowsSpec)

/-- ITS FALSE NEIGHBOUR: 'it returns false'. Refute it at one input. -/
def predNarrowsWrong : ChangeSpec := { name := "predNarrows", fn := fun _ => fun
  | [d1, d2, d3, d4] => { results := [.lit (.bool false)], args := [d1, d2, d3, d4] }
  | _ => none }
def PredNarrowsWrongFalsely : Prop := predNarrowsRow.holds Tryd.pinned (OpenSpec.ofChange predNarrowsWrong)

/- THE SECOND FORM. 'bulk': how many values and letters a reading holds, each counted each time it is reached (what is shared counts as often as it is met; a slice's spare places count too). A statement '..UptoSaid' is the law's where the arguments, and the package variables that the reading takes, are together of bulk at most 1048576: NARROWER than '..Said'. Prove '..Said' where nothing that the law and all that it calls make is longer than what came in: it says more and counts as full. Else prove '..UptoSaid'. A law counts once. -/
mutual
def uptoBulk {H : Type} : DataW H → Nat
  | .lit (.string bytes) => bytes.length + 1
  | .lit _ => 1
  | .nil => 1
  | .ptr d => uptoBulk d + 1
  | .slice elems spare => uptoBulkAll elems + uptoBulkAll spare + 1
  | .agg parts => uptoBulkAll parts + 1
  | .iface _ d => uptoBulk d + 1
  | .map entries => uptoBulkEntries entries + 1
  | .held _ => 1
def uptoBulkAll {H : Type} : List (DataW H) → Nat
  | [] => 0
  | d :: r => uptoBulk d + uptoBulkAll r
def uptoBulkEntries {H : Type} : List (Lit × DataW H) → Nat
  | [] => 0
  | x :: r => uptoBulkEntry x + uptoBulkEntries r
def uptoBulkEntry {H : Type} : Lit × DataW H → Nat
  | (.string bytes, d) => bytes.length + uptoBulk d + 1
  | (_, d) => uptoBulk d + 1
 end
def uptoSmall : (H : Type) → List (DataW H) → Bool := fun _ ds => decide (uptoBulkAll ds ≤ 1048576)
def OpenSpec.upto (s : _root_.Go.ChangeSpec) : _root_.Go.OpenSpec := { _root_.Go.OpenSpec.ofChange s with cond := some uptoSmall }

/-- 'partywalllaw13.PredConds', WHERE WHAT IT READS IS OF BULK AT MOST 1048576: true; the input reads as it did. -/
def predCondsUptoRow : OpenClaim := { program := "ytjkkkldkimdajaadoor", sum := "9bec7bf9113a73ae26201a124f3d2bb1735da29ea325c63f7ace2390172434f6", func := "partywall/partywalllaw13.PredConds", spec := "predConds", unfollowed := true, recurses := true, named := ["partywall/ast.names"], apart := false, laid := [("partywall/ast.names", laid_partywall_ast_names)], narrowed := true }
def PredCondsUptoSaid : Prop := predCondsUptoRow.holds Tryd.pinned (OpenSpec.upto predCondsSpec)

/-- 'partywalllaw13.PredAtoms', WHERE WHAT IT READS IS OF BULK AT MOST 1048576: true; the input reads as it did. -/
def predAtomsUptoRow : OpenClaim := { program := "ytjkkkldkimdajaadoor", sum := "9bec7bf9113a73ae26201a124f3d2bb1735da29ea325c63f7ace2390172434f6", func := "partywall/partywalllaw13.PredAtoms", spec := "predAtoms", unfollowed := true, recurses := true, named := ["partywall/ast.names"], apart := false, laid := [("partywall/ast.names", laid_partywall_ast_names)], narrowed := true }
def PredAtomsUptoSaid : Prop := predAtomsUptoRow.holds Tryd.pinned (OpenSpec.upto predAtomsSpec)

/-- 'partywalllaw13.PredLists', WHERE WHAT IT READS IS OF BULK AT MOST 1048576: true; the input reads as it did. -/
def predListsUptoRow : OpenClaim := { program := "ytjkkkldkimdajaadoor", sum := "9bec7bf9113a73ae26201a124f3d2bb1735da29ea325c63f7ace2390172434f6", func := "partywall/partywalllaw13.PredLists", spec := "predLists", unfollowed := true, recurses := true, named := ["partywall/ast.names"], apart := false, laid := [("partywall/ast.names", laid_partywall_ast_names)], narrowed := true }
def PredListsUptoSaid : Prop := predListsUptoRow.holds Tryd.pinned (OpenSpec.upto predListsSpec)

/-- 'partywalllaw13.PredKnown', WHERE WHAT IT READS IS OF BULK AT MOST 1048576: true; the input reads as it did. -/
def predKnownUptoRow : OpenClaim := { program := "ytjkkkldkimdajaadoor", sum := "9bec7bf9113a73ae26201a124f3d2bb1735da29ea325c63f7ace2390172434f6", func := "partywall/partywalllaw13.PredKnown", spec := "predKnown", unfollowed := true, recurses := true, named := ["partywall/ast.names"], apart := false, laid := [("partywall/ast.names", laid_partywall_ast_names)], narrowed := true }
def PredKnownUptoSaid : Prop := predKnownUptoRow.holds Tryd.pinned (OpenSpec.upto predKnownSpec)

/-- 'partywalllaw13.PredOrder', WHERE WHAT IT READS IS OF BULK AT MOST 1048576: true; the input reads as it did. -/
def predOrderUptoRow : OpenClaim := { program := "ytjkkkldkimdajaadoor", sum := "9bec7bf9113a73ae26201a124f3d2bb1735da29ea325c63f7ace2390172434f6", func := "partywall/partywalllaw13.PredOrder", spec := "predOrder", unfollowed := true, recurses := true, named := ["partywall/ast.names"], apart := false, laid := [("partywall/ast.names", laid_partywall_ast_names)], narrowed := true }
def PredOrderUptoSaid : Prop := predOrderUptoRow.holds Tryd.pinned (OpenSpec.upto predOrderSpec)

/-- 'partywalllaw13.PredLeast', WHERE WHAT IT READS IS OF BULK AT MOST 1048576: true; the input reads as it did. -/
def predLeastUptoRow : OpenClaim := { program := "ytjkkkldkimdajaadoor", sum := "9bec7bf9113a73ae26201a124f3d2bb1735da29ea325c63f7ace2390172434f6", func := "partywall/partywalllaw13.PredLeast", spec := "predLeast", unfollowed := true, recurses := true, named := ["partywall/ast.names"], apart := false, laid := [("partywall/ast.names", laid_partywall_ast_names)], narrowed := true }
def PredLeastUptoSaid : Prop := predLeastUptoRow.holds Tryd.pinned (OpenSpec.upto predLeastSpec)

/-- 'partywalllaw13.PredNarrows', WHERE WHAT IT READS IS OF BULK AT MOST 1048576: true; the input reads as it did. -/
def predNarrowsUptoRow : OpenClaim := { program := "ytjkkkldkimdajaadoor", sum := "9bec7bf9113a73ae26201a124f3d2bb1735da29ea325c63f7ace2390172434f6", func := "partywall/partywalllaw13.PredNarrows", spec := "predNarrows", unfollowed := true, recurses := true, named := ["partywall/ast.names"], apart := false, laid := [("partywall/ast.names", laid_partywall_ast_names)], narrowed := true }
def PredNarrowsUptoSaid : Prop := predNarrowsUptoRow.holds Tryd.pinned (OpenSpec.upto predNarrowsSpec)

end Rows
end Go.Proofs.YtjkkkldkimdajaaDoor
