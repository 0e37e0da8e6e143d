/-
  NARROWER THAN 'FOR EVERY INPUT', by the rows' own cells (each row's printed sentence says how): AggregateBounds: laid · AggregateSums: laid · AggregateOf: laid · AggregateNames: loops, laid · AggregateKnown: laid · AggregateGives: loops, laid · AggregateSelects: laid.
  DERIVED. THE GIVEN ROWS OF THIS SEAT. 7 by the template 'for every input the law returns true; each argument reads behind the call as it read before'; 0 by the template 'total and deterministic' (their statements: YtahgdngngpkeiaaDoorTotals.lean).
  GIVEN WITH THE SEED: the statements are not yours to turn. If you find one false, say at which input.
  Laid BY PROGRAM, IN A SANDBOX (cutbox-rows.mjs): the forced cells as the released guide's own fill.sh prints them over the translation f2829d01e380f98e… (all of the seat's roots in one cut). By AI agents, Wed Nov 11 2026. No macro, syntax, notation, axiom, sorry.
-/
import Derived.Test.YtahgdngngpkeiaaDoorChecked
import GoSem.Claim
import GoSem.ClaimJoined
import GoSem.ClaimMapViews
import Derived.JoinedTies
import Derived.KernelRfl
namespace Go.Proofs.YtahgdngngpkeiaaDoor
/- THE CELL 'sum', in the pinned program and in every row, IS THE sha256 OF THE DUMP (.gsa) THAT YtahgdngngpkeiaaDoorProg.lean LOADS. Nothing in Lean hashes anything: it is a label: what it is worth is what the hold of that sum in a sandbox is worth. -/
noncomputable def Tryd.pinned : Pinned := { name := "ytahgdngngpkeiaadoor", sum := "f2829d01e380f98eb3a0112553f6a4810946dfa2ca5f9d7ead0a7dff050ff8ce", checked := Tryd.checked }
namespace Rows
def none {H : Type} : Left H := { results := [], args := [] }

/- WHAT THE LISTED PACKAGE-LEVEL VARIABLES READ AS WHEN THE CALL BEGINS. Each datum BY PROGRAM (the guide's laid-datum.mjs) off the statement by which the dump's own 'gosem.cut.vars' lays the variable. In a bare row this is a premise. The card (YtahgdngngpkeiaaDoorCards.lean) ties it to the program's text. -/
def laid_partywall_ast_names {H : Type} : DataW H := .agg [.lit (.string [99, 111, 117, 110, 116]), .lit (.string [115, 117, 109]), .lit (.string [109, 105, 110]), .lit (.string [109, 97, 120]), .lit (.string [102, 105, 114, 115, 116]), .lit (.string [108, 97, 115, 116])]

/-- 'partywalllaw16.AggregateBounds': WHATEVER THE INPUT: true; the input reads as it did. -/
def aggregateBoundsSpec : ChangeSpec := { name := "aggregateBounds", fn := fun _ => fun
  | [d1, d2] => { results := [.lit (.bool true)], args := [d1, d2] }
  | _ => none }
def aggregateBoundsRow : OpenClaim := { program := "ytahgdngngpkeiaadoor", sum := "f2829d01e380f98eb3a0112553f6a4810946dfa2ca5f9d7ead0a7dff050ff8ce", func := "partywall/partywalllaw16.AggregateBounds", spec := "aggregateBounds", unfollowed := true, recurses := true, named := ["partywall/ast.names"], apart := false, laid := [("partywall/ast.names", laid_partywall_ast_names)] }
def AggregateBoundsSaid : Prop := aggregateBoundsRow.holds Tryd.pinned (OpenSpec.ofChange aggregateBoundsSpec)

/-- ITS FALSE NEIGHBOUR: 'it returns false'. Refute it at one input. -/
def aggregateBoundsWrong : ChangeSpec := { name := "aggregateBounds", fn := fun _ => fun
  | [d1, d2] => { results := [.lit (.bool false)], args := [d1, d2] }
  | _ => none }
def AggregateBoundsWrongFalsely : Prop := aggregateBoundsRow.holds Tryd.pinned (OpenSpec.ofChange aggregateBoundsWrong)

/-- 'partywalllaw16.AggregateSums': WHATEVER THE INPUT: true; the input reads as it did. -/
def aggregateSumsSpec : ChangeSpec := { name := "aggregateSums", fn := fun _ => fun
  | [d1, d2] => { results := [.lit (.bool true)], args := [d1, d2] }
  | _ => none }
def aggregateSumsRow : OpenClaim := { program := "ytahgdngngpkeiaadoor", sum := "f2829d01e380f98eb3a0112553f6a4810946dfa2ca5f9d7ead0a7dff050ff8ce", func := "partywall/partywalllaw16.AggregateSums", spec := "aggregateSums", unfollowed := true, recurses := true, named := ["partywall/ast.names"], apart := false, laid := [("partywall/ast.names", laid_partywall_ast_names)] }
def AggregateSumsSaid : Prop := aggregateSumsRow.holds Tryd.pinned (OpenSpec.ofChange aggregateSumsSpec)

/-- ITS FALSE NEIGHBOUR: 'it returns false'. Refute it at one input. -/
def aggregateSumsWrong : ChangeSpec := { name := "aggregateSums", fn := fun _ => fun
  | [d1, d2] => { results := [.lit (.bool false)], args := [d1, d2] }
  | _ => none }
def AggregateSumsWrongFalsely : Prop := aggregateSumsRow.holds Tryd.pinned (OpenSpec.ofChange aggregateSumsWrong)

/-- 'partywalllaw16.AggregateOf': WHATEVER THE INPUT: true; the input reads as it did. -/
def aggregateOfSpec : ChangeSpec := { name := "aggregateOf", fn := fun _ => fun
  | [d1, d2, d3, d4] => { results := [.lit (.bool true)], args := [d1, d2, d3, d4] }
  | _ => none }
def aggregateOfRow : OpenClaim := { program := "ytahgdngngpkeiaadoor", sum := "f2829d01e380f98eb3a0112553f6a4810946dfa2ca5f9d7ead0a7dff050ff8ce", func := "partywall/partywalllaw16.AggregateOf", spec := "aggregateOf", unfollowed := true, recurses := true, named := ["partywall/ast.names"], apart := false, laid := [("partywall/ast.names", laid_partywall_ast_names)] }
def AggregateOfSaid : Prop := aggregateOfRow.holds Tryd.pinned (OpenSpec.ofChange aggregateOfSpec)

/-- ITS FALSE NEIGHBOUR: 'it returns false'. Refute it at one input. -/
def aggregateOfWrong : ChangeSpec := { name := "aggregateOf", fn := fun _ => fun
  | [d1, d2, d3, d4] => { results := [.lit (.bool false)], args := [d1, d2, d3, d4] }
  | _ => none }
def AggregateOfWrongFalsely : Prop := aggregateOfRow.holds Tryd.pinned (OpenSpec.ofChange aggregateOfWrong)

/-- 'partywalllaw16.AggregateNames': WHATEVER THE INPUT: true; the input reads as it did. -/
def aggregateNamesSpec : ChangeSpec := { name := "aggregateNames", fn := fun _ => fun
  | [d1, d2, d3, d4] => { results := [.lit (.bool true)], args := [d1, d2, d3, d4] }
  | _ => none }
def aggregateNamesRow : OpenClaim := { program := "ytahgdngngpkeiaadoor", sum := "f2829d01e380f98eb3a0112553f6a4810946dfa2ca5f9d7ead0a7dff050ff8ce", func := "partywall/partywalllaw16.AggregateNames", spec := "aggregateNames", unfollowed := true, recurses := true, named := ["partywall/ast.names"], loops := true, apart := false, laid := [("partywall/ast.names", laid_partywall_ast_names)] }
def AggregateNamesSaid : Prop := aggregateNamesRow.holds Tryd.pinned (OpenSpec.ofChange aggregateNamesSpec)

/-- ITS FALSE NEIGHBOUR: 'it returns false'. Refute it at one input. -/
def aggregateNamesWrong : ChangeSpec := { name := "aggregateNames", fn := fun _ => fun
  | [d1, d2, d3, d4] => { results := [.lit (.bool false)], args := [d1, d2, d3, d4] }
  | _ => none }
def AggregateNamesWrongFalsely : Prop := aggregateNamesRow.holds Tryd.pinned (OpenSpec.ofChange aggregateNamesWrong)

/-- 'partywalllaw16.AggregateKnown': WHATEVER THE INPUT: true; the input reads as it did. -/
def aggregateKnownSpec : ChangeSpec := { name := "aggregateKnown", fn := fun _ => fun
  | [] => { results := [.lit (.bool true)], args := [] }
  | _ => none }
def aggregateKnownRow : OpenClaim := { program := "ytahgdngngpkeiaadoor", sum := "f2829d01e380f98eb3a0112553f6a4810946dfa2ca5f9d7ead0a7dff050ff8ce", func := "partywall/partywalllaw16.AggregateKnown", spec := "aggregateKnown", unfollowed := true, recurses := true, named := ["partywall/ast.names"], apart := false, laid := [("partywall/ast.names", laid_partywall_ast_names)] }
def AggregateKnownSaid : Prop := aggregateKnownRow.holds Tryd.pinned (OpenSpec.ofChange aggregateKnownSpec)

/-- ITS FALSE NEIGHBOUR: 'it returns false'. Refute it at one input. -/
def aggregateKnownWrong : ChangeSpec := { name := "aggregateKnown", fn := fun _ => fun
  | [] => { results := [.lit (.bool false)], args := [] }
  | _ => none }
def AggregateKnownWrongFalsely : Prop := aggregateKnownRow.holds Tryd.pinned (OpenSpec.ofChange aggregateKnownWrong)

/-- 'partywalllaw16.AggregateGives': WHATEVER THE INPUT: true; the input reads as it did. -/
def aggregateGivesSpec : ChangeSpec := { name := "aggregateGives", fn := fun _ => fun
  | [d1, d2, d3] => { results := [.lit (.bool true)], args := [d1, d2, d3] }
  | _ => none }
def aggregateGivesRow : OpenClaim := { program := "ytahgdngngpkeiaadoor", sum := "f2829d01e380f98eb3a0112553f6a4810946dfa2ca5f9d7ead0a7dff050ff8ce", func := "partywall/partywalllaw16.AggregateGives", spec := "aggregateGives", unfollowed := true, recurses := true, named := ["partywall/ast.names"], loops := true, apart := false, laid := [("partywall/ast.names", laid_partywall_ast_names)] }
def AggregateGivesSaid : Prop := aggregateGivesRow.holds Tryd.pinned (OpenSpec.ofChange aggregateGivesSpec)

/-- ITS FALSE NEIGHBOUR: 'it returns false'. Refute it at one input. -/
def aggregateGivesWrong : ChangeSpec := { name := "aggregateGives", fn := fun _ => fun
  | [d1, d2, d3] => { results := [.lit (.bool false)], args := [d1, d2, d3] }
  | _ => none }
def AggregateGivesWrongFalsely : Prop := aggregateGivesRow.holds Tryd.pinned (OpenSpec.ofChange aggregateGivesWrong)

/-- 'partywalllaw16.AggregateSelects': WHATEVER THE INPUT: true; the input reads as it did. -/
def aggregateSelectsSpec : ChangeSpec := { name := "aggregateSelects", fn := fun _ => fun
  | [d1, d2, d3, d4] => { results := [.lit (.bool true)], args := [d1, d2, d3, d4] }
  | _ => none }
def aggregateSelectsRow : OpenClaim := { program := "ytahgdngngpkeiaadoor", sum := "f2829d01e380f98eb3a0112553f6a4810946dfa2ca5f9d7ead0a7dff050ff8ce", func := "partywall/partywalllaw16.AggregateSelects", spec := "aggregateSelects", unfollowed := true, recurses := true, named := ["partywall/ast.names"], apart := false, laid := [("partywall/ast.names", laid_partywall_ast_names)] }
def AggregateSelectsSaid : Prop := aggregateSelectsRow.holds Tryd.pinned (OpenSpec.ofChange aggregateSelectsSpec)

/-- ITS FALSE NEIGHBOUR: 'it returns false'. Refute it at one input. -/
def aggregateSelectsWrong : ChangeSpec := { name := "aggregateSelects", fn := fun _ => fun
  | [d1, d2, d3, d4] => { results := [.lit (.bool false)], args := [d1, d2, d3, d4] }
  | _ => none }
def AggregateSelectsWrongFalsely : Prop := aggregateSelectsRow.holds Tryd.pinned (OpenSpec.ofChange aggregateSelectsWrong)

/- THE SECOND FORM. 'bulk': how many values and letters a reading holds, each counted each time it is reached (what is shared counts as often as it is met; a slice's spare places count too). A statement '..UptoSaid' is the law's where the arguments, and the package variables that the reading takes, are together of bulk at most 1048576: NARROWER than '..Said'. Prove '..Said' where nothing that the law and all that it calls make is longer than what came in: it says more and counts as full. Else prove '..UptoSaid'. A law counts once. -/
mutual
def uptoBulk {H : Type} : DataW H → Nat
  | .lit (.string bytes) => bytes.length + 1
  | .lit _ => 1
  | .nil => 1
  | .ptr d => uptoBulk d + 1
  | .slice elems spare => uptoBulkAll elems + uptoBulkAll spare + 1
  | .agg parts => uptoBulkAll parts + 1
  | .iface _ d => uptoBulk d + 1
  | .map entries => uptoBulkEntries entries + 1
  | .held _ => 1
def uptoBulkAll {H : Type} : List (DataW H) → Nat
  | [] => 0
  | d :: r => uptoBulk d + uptoBulkAll r
def uptoBulkEntries {H : Type} : List (Lit × DataW H) → Nat
  | [] => 0
  | x :: r => uptoBulkEntry x + uptoBulkEntries r
def uptoBulkEntry {H : Type} : Lit × DataW H → Nat
  | (.string bytes, d) => bytes.length + uptoBulk d + 1
  | (_, d) => uptoBulk d + 1
 end
def uptoSmall : (H : Type) → List (DataW H) → Bool := fun _ ds => decide (uptoBulkAll ds ≤ 1048576)
def OpenSpec.upto (s : _root_.Go.ChangeSpec) : _root_.Go.OpenSpec := { _root_.Go.OpenSpec.ofChange s with cond := some uptoSmall }

/-- 'partywalllaw16.AggregateBounds', WHERE WHAT IT READS IS OF BULK AT MOST 1048576: true; the input reads as it did. -/
def aggregateBoundsUptoRow : OpenClaim := { program := "ytahgdngngpkeiaadoor", sum := "f2829d01e380f98eb3a0112553f6a4810946dfa2ca5f9d7ead0a7dff050ff8ce", func := "partywall/partywalllaw16.AggregateBounds", spec := "aggregateBounds", unfollowed := true, recurses := true, named := ["partywall/ast.names"], apart := false, laid := [("partywall/ast.names", laid_partywall_ast_names)], narrowed := true }
def AggregateBoundsUptoSaid : Prop := aggregateBoundsUptoRow.holds Tryd.pinned (OpenSpec.upto aggregateBoundsSpec)

/-- 'partywalllaw16.AggregateSums', WHERE WHAT IT READS IS OF BULK AT MOST 1048576: true; the input reads as it did. -/
def aggregateSumsUptoRow : OpenClaim := { program := "ytahgdngngpkeiaadoor", sum := "f2829d01e380f98eb3a0112553f6a4810946dfa2ca5f9d7ead0a7dff050ff8ce", func := "partywall/partywalllaw16.AggregateSums", spec := "aggregateSums", unfollowed := true, recurses := true, named := ["partywall/ast.names"], apart := false, laid := [("partywall/ast.names", laid_partywall_ast_names)], narrowed := true }
def AggregateSumsUptoSaid : Prop := aggregateSumsUptoRow.holds Tryd.pinned (OpenSpec.upto aggregateSumsSpec)

/-- 'partywalllaw16.AggregateOf', WHERE WHAT IT READS IS OF BULK AT MOST 1048576: true; the input reads as it did. -/
def aggregateOfUptoRow : OpenClaim := { program := "ytahgdngngpkeiaadoor", sum := "f2829d01e380f98eb3a0112553f6a4810946dfa2ca5f9d7ead0a7dff050ff8ce", func := "partywall/partywalllaw16.AggregateOf", spec := "aggregateOf", unfollowed := true, recurses := true, named := ["partywall/ast.names"], apart := false, laid := [("partywall/ast.names", laid_partywall_ast_names)], narrowed := true }
def AggregateOfUptoSaid : Prop := aggregateOfUptoRow.holds Tryd.pinned (OpenSpec.upto aggregateOfSpec)

/-- 'partywalllaw16.AggregateNames', WHERE WHAT IT READS IS OF BULK AT MOST 1048576: true; the input reads as it did. -/
def aggregateNamesUptoRow : OpenClaim := { program := "ytahgdngngpkeiaadoor", sum := "f2829d01e380f98eb3a0112553f6a4810946dfa2ca5f9d7ead0a7dff050ff8ce", func := "partywall/partywalllaw16.AggregateNames", spec := "aggregateNames", unfollowed := true, recurses := true, named := ["partywall/ast.names"], loops := true, apart := false, laid := [("partywall/ast.names", laid_partywall_ast_names)], narrowed := true }
def AggregateNamesUptoSaid : Prop := aggregateNamesUptoRow.holds Tryd.pinned (OpenSpec.upto aggregateNamesSpec)

/-- 'partywalllaw16.AggregateKnown', WHERE WHAT IT READS IS OF BULK AT MOST 1048576: true; the input reads as it did. -/
def aggregateKnownUptoRow : OpenClaim := { program := "ytahgdngngpkeiaadoor", sum := "f2829d01e380f98eb3a0112553f6a4810946dfa2ca5f9d7ead0a7dff050ff8ce", func := "partywall/partywalllaw16.AggregateKnown", spec := "aggregateKnown", unfollowed := true, recurses := true, named := ["partywall/ast.names"], apart := false, laid := [("partywall/ast.names", laid_partywall_ast_names)], narrowed := true }
def AggregateKnownUptoSaid : Prop := aggregateKnownUptoRow.holds Tryd.pinned (OpenSpec.upto aggregateKnownSpec)

/-- 'partywalllaw16.AggregateGives', WHERE WHAT IT READS IS OF BULK AT MOST 1048576: true; the input reads as it did. -/
def aggregateGivesUptoRow : OpenClaim := { program := "ytahgdngngpkeiaadoor", sum := "f2829d01e380f98eb3a0112553f6a4810946dfa2ca5f9d7ead0a7dff050ff8ce", func := "partywall/partywalllaw16.AggregateGives", spec := "aggregateGives", unfollowed := true, recurses := true, named := ["partywall/ast.names"], loops := true, apart := false, laid := [("partywall/ast.names", laid_partywall_ast_names)], narrowed := true }
def AggregateGivesUptoSaid : Prop := aggregateGivesUptoRow.holds Tryd.pinned (OpenSpec.upto aggregateGivesSpec)

/-- 'partywalllaw16.AggregateSelects', WHERE WHAT IT READS IS OF BULK AT MOST 1048576: true; the input reads as it did. -/
def aggregateSelectsUptoRow : OpenClaim := { program := "ytahgdngngpkeiaadoor", sum := "f2829d01e380f98eb3a0112553f6a4810946dfa2ca5f9d7ead0a7dff050ff8ce", func := "partywall/partywalllaw16.AggregateSelects", spec := "aggregateSelects", unfollowed := true, recurses := true, named := ["partywall/ast.names"], apart := false, laid := [("partywall/ast.names", laid_partywall_ast_names)], narrowed := true }
def AggregateSelectsUptoSaid : Prop := aggregateSelectsUptoRow.holds Tryd.pinned (OpenSpec.upto aggregateSelectsSpec)

end Rows
end Go.Proofs.YtahgdngngpkeiaaDoor
