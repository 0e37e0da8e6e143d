/-
  NARROWER THAN 'FOR EVERY INPUT', by the rows' own cells (each row's printed sentence says how): AggregateNames: loops, laid · FlowLeast: laid · FlowClasses: laid · AggregateGives: loops, laid · AggregateSelects: laid · FlowSees: laid · FlowRestricts: laid.
  DERIVED. THE GIVEN ROWS OF THIS SEAT. 7 by the template 'for every input the law returns true; each argument reads behind the call as it read before'; 0 by the template 'total and deterministic' (their statements: YtamcloifhjafcaaDoorTotals.lean).
  GIVEN WITH THE SEED: the statements are not yours to turn. If you find one false, say at which input.
  Laid BY PROGRAM, IN A SANDBOX (cutbox-rows.mjs): the forced cells as the released guide's own fill.sh prints them over the translation fbfe95cfd064548e… (all of the seat's roots in one cut). By AI agents, Wed Nov 11 2026. No macro, syntax, notation, axiom, sorry.
-/
import Derived.Test.YtamcloifhjafcaaDoorChecked
import GoSem.Claim
import GoSem.ClaimJoined
import GoSem.ClaimMapViews
import Derived.JoinedTies
import Derived.KernelRfl
namespace Go.Proofs.YtamcloifhjafcaaDoor
/- THE CELL 'sum', in the pinned program and in every row, IS THE sha256 OF THE DUMP (.gsa) THAT YtamcloifhjafcaaDoorProg.lean LOADS. Nothing in Lean hashes anything: it is a label: what it is worth is what the hold of that sum in a sandbox is worth. -/
noncomputable def Tryd.pinned : Pinned := { name := "ytamcloifhjafcaadoor", sum := "fbfe95cfd064548e31533892c617c0ee6f937c698e935d97622b77e42890d691", checked := Tryd.checked }
namespace Rows
def none {H : Type} : Left H := { results := [], args := [] }

/- WHAT THE LISTED PACKAGE-LEVEL VARIABLES READ AS WHEN THE CALL BEGINS. Each datum BY PROGRAM (the guide's laid-datum.mjs) off the statement by which the dump's own 'gosem.cut.vars' lays the variable. In a bare row this is a premise. The card (YtamcloifhjafcaaDoorCards.lean) ties it to the program's text. -/
def laid_partywall_ast_names {H : Type} : DataW H := .agg [.lit (.string [99, 111, 117, 110, 116]), .lit (.string [115, 117, 109]), .lit (.string [109, 105, 110]), .lit (.string [109, 97, 120]), .lit (.string [102, 105, 114, 115, 116]), .lit (.string [108, 97, 115, 116])]

/-- 'partywalllaw16.AggregateNames': WHATEVER THE INPUT: true; the input reads as it did. -/
def aggregateNamesSpec : ChangeSpec := { name := "aggregateNames", fn := fun _ => fun
  | [d1, d2, d3, d4] => { results := [.lit (.bool true)], args := [d1, d2, d3, d4] }
  | _ => none }
def aggregateNamesRow : OpenClaim := { program := "ytamcloifhjafcaadoor", sum := "fbfe95cfd064548e31533892c617c0ee6f937c698e935d97622b77e42890d691", func := "partywall/partywalllaw16.AggregateNames", spec := "aggregateNames", unfollowed := true, recurses := true, named := ["partywall/ast.names"], loops := true, apart := false, laid := [("partywall/ast.names", laid_partywall_ast_names)] }
def AggregateNamesSaid : Prop := aggregateNamesRow.holds Tryd.pinned (OpenSpec.ofChange aggregateNamesSpec)

/-- ITS FALSE NEIGHBOUR: 'it returns false'. Refute it at one input. -/
def aggregateNamesWrong : ChangeSpec := { name := "aggregateNames", fn := fun _ => fun
  | [d1, d2, d3, d4] => { results := [.lit (.bool false)], args := [d1, d2, d3, d4] }
  | _ => none }
def AggregateNamesWrongFalsely : Prop := aggregateNamesRow.holds Tryd.pinned (OpenSpec.ofChange aggregateNamesWrong)

/-- 'partywalllaw11.FlowLeast': WHATEVER THE INPUT: true; the input reads as it did. -/
def flowLeastSpec : ChangeSpec := { name := "flowLeast", fn := fun _ => fun
  | [d1, d2, d3] => { results := [.lit (.bool true)], args := [d1, d2, d3] }
  | _ => none }
def flowLeastRow : OpenClaim := { program := "ytamcloifhjafcaadoor", sum := "fbfe95cfd064548e31533892c617c0ee6f937c698e935d97622b77e42890d691", func := "partywall/partywalllaw11.FlowLeast", spec := "flowLeast", unfollowed := true, recurses := true, named := ["partywall/ast.names"], apart := false, laid := [("partywall/ast.names", laid_partywall_ast_names)] }
def FlowLeastSaid : Prop := flowLeastRow.holds Tryd.pinned (OpenSpec.ofChange flowLeastSpec)

/-- ITS FALSE NEIGHBOUR: 'it returns false'. Refute it at one input. -/
def flowLeastWrong : ChangeSpec := { name := "flowLeast", fn := fun _ => fun
  | [d1, d2, d3] => { results := [.lit (.bool false)], args := [d1, d2, d3] }
  | _ => none }
def FlowLeastWrongFalsely : Prop := flowLeastRow.holds Tryd.pinned (OpenSpec.ofChange flowLeastWrong)

/-- 'partywalllaw11.FlowClasses': WHATEVER THE INPUT: true; the input reads as it did. -/
def flowClassesSpec : ChangeSpec := { name := "flowClasses", fn := fun _ => fun
  | [d1, d2, d3] => { results := [.lit (.bool true)], args := [d1, d2, d3] }
  | _ => none }
def flowClassesRow : OpenClaim := { program := "ytamcloifhjafcaadoor", sum := "fbfe95cfd064548e31533892c617c0ee6f937c698e935d97622b77e42890d691", func := "partywall/partywalllaw11.FlowClasses", spec := "flowClasses", unfollowed := true, recurses := true, named := ["partywall/ast.names"], apart := false, laid := [("partywall/ast.names", laid_partywall_ast_names)] }
def FlowClassesSaid : Prop := flowClassesRow.holds Tryd.pinned (OpenSpec.ofChange flowClassesSpec)

/-- ITS FALSE NEIGHBOUR: 'it returns false'. Refute it at one input. -/
def flowClassesWrong : ChangeSpec := { name := "flowClasses", fn := fun _ => fun
  | [d1, d2, d3] => { results := [.lit (.bool false)], args := [d1, d2, d3] }
  | _ => none }
def FlowClassesWrongFalsely : Prop := flowClassesRow.holds Tryd.pinned (OpenSpec.ofChange flowClassesWrong)

/-- 'partywalllaw16.AggregateGives': WHATEVER THE INPUT: true; the input reads as it did. -/
def aggregateGivesSpec : ChangeSpec := { name := "aggregateGives", fn := fun _ => fun
  | [d1, d2, d3] => { results := [.lit (.bool true)], args := [d1, d2, d3] }
  | _ => none }
def aggregateGivesRow : OpenClaim := { program := "ytamcloifhjafcaadoor", sum := "fbfe95cfd064548e31533892c617c0ee6f937c698e935d97622b77e42890d691", func := "partywall/partywalllaw16.AggregateGives", spec := "aggregateGives", unfollowed := true, recurses := true, named := ["partywall/ast.names"], loops := true, apart := false, laid := [("partywall/ast.names", laid_partywall_ast_names)] }
def AggregateGivesSaid : Prop := aggregateGivesRow.holds Tryd.pinned (OpenSpec.ofChange aggregateGivesSpec)

/-- ITS FALSE NEIGHBOUR: 'it returns false'. Refute it at one input. -/
def aggregateGivesWrong : ChangeSpec := { name := "aggregateGives", fn := fun _ => fun
  | [d1, d2, d3] => { results := [.lit (.bool false)], args := [d1, d2, d3] }
  | _ => none }
def AggregateGivesWrongFalsely : Prop := aggregateGivesRow.holds Tryd.pinned (OpenSpec.ofChange aggregateGivesWrong)

/-- 'partywalllaw16.AggregateSelects': WHATEVER THE INPUT: true; the input reads as it did. -/
def aggregateSelectsSpec : ChangeSpec := { name := "aggregateSelects", fn := fun _ => fun
  | [d1, d2, d3, d4] => { results := [.lit (.bool true)], args := [d1, d2, d3, d4] }
  | _ => none }
def aggregateSelectsRow : OpenClaim := { program := "ytamcloifhjafcaadoor", sum := "fbfe95cfd064548e31533892c617c0ee6f937c698e935d97622b77e42890d691", func := "partywall/partywalllaw16.AggregateSelects", spec := "aggregateSelects", unfollowed := true, recurses := true, named := ["partywall/ast.names"], apart := false, laid := [("partywall/ast.names", laid_partywall_ast_names)] }
def AggregateSelectsSaid : Prop := aggregateSelectsRow.holds Tryd.pinned (OpenSpec.ofChange aggregateSelectsSpec)

/-- ITS FALSE NEIGHBOUR: 'it returns false'. Refute it at one input. -/
def aggregateSelectsWrong : ChangeSpec := { name := "aggregateSelects", fn := fun _ => fun
  | [d1, d2, d3, d4] => { results := [.lit (.bool false)], args := [d1, d2, d3, d4] }
  | _ => none }
def AggregateSelectsWrongFalsely : Prop := aggregateSelectsRow.holds Tryd.pinned (OpenSpec.ofChange aggregateSelectsWrong)

/-- 'partywalllaw11.FlowSees': WHATEVER THE INPUT: true; the input reads as it did. -/
def flowSeesSpec : ChangeSpec := { name := "flowSees", fn := fun _ => fun
  | [d1, d2, d3, d4, d5, d6] => { results := [.lit (.bool true)], args := [d1, d2, d3, d4, d5, d6] }
  | _ => none }
def flowSeesRow : OpenClaim := { program := "ytamcloifhjafcaadoor", sum := "fbfe95cfd064548e31533892c617c0ee6f937c698e935d97622b77e42890d691", func := "partywall/partywalllaw11.FlowSees", spec := "flowSees", unfollowed := true, recurses := true, named := ["partywall/ast.names"], apart := false, laid := [("partywall/ast.names", laid_partywall_ast_names)] }
def FlowSeesSaid : Prop := flowSeesRow.holds Tryd.pinned (OpenSpec.ofChange flowSeesSpec)

/-- ITS FALSE NEIGHBOUR: 'it returns false'. Refute it at one input. -/
def flowSeesWrong : ChangeSpec := { name := "flowSees", fn := fun _ => fun
  | [d1, d2, d3, d4, d5, d6] => { results := [.lit (.bool false)], args := [d1, d2, d3, d4, d5, d6] }
  | _ => none }
def FlowSeesWrongFalsely : Prop := flowSeesRow.holds Tryd.pinned (OpenSpec.ofChange flowSeesWrong)

/-- 'partywalllaw11.FlowRestricts': WHATEVER THE INPUT: true; the input reads as it did. -/
def flowRestrictsSpec : ChangeSpec := { name := "flowRestricts", fn := fun _ => fun
  | [d1, d2, d3] => { results := [.lit (.bool true)], args := [d1, d2, d3] }
  | _ => none }
def flowRestrictsRow : OpenClaim := { program := "ytamcloifhjafcaadoor", sum := "fbfe95cfd064548e31533892c617c0ee6f937c698e935d97622b77e42890d691", func := "partywall/partywalllaw11.FlowRestricts", spec := "flowRestricts", unfollowed := true, recurses := true, named := ["partywall/ast.names"], apart := false, laid := [("partywall/ast.names", laid_partywall_ast_names)] }
def FlowRestrictsSaid : Prop := flowRestrictsRow.holds Tryd.pinned (OpenSpec.ofChange flowRestrictsSpec)

/-- ITS FALSE NEIGHBOUR: 'it returns false'. Refute it at one input. -/
def flowRestrictsWrong : ChangeSpec := { name := "flowRestricts", fn := fun _ => fun
  | [d1, d2, d3] => { results := [.lit (.bool false)], args := [d1, d2, d3] }
  | _ => none }
def FlowRestrictsWrongFalsely : Prop := flowRestrictsRow.holds Tryd.pinned (OpenSpec.ofChange flowRestrictsWrong)

/- THE SECOND FORM. 'bulk': how many values and letters a reading holds, each counted each time it is reached (what is shared counts as often as it is met; a slice's spare places count too). A statement '..UptoSaid' is the law's where the arguments, and the package variables that the reading takes, are together of bulk at most 1048576: NARROWER than '..Said'. Prove '..Said' where nothing that the law and all that it calls make is longer than what came in: it says more and counts as full. Else prove '..UptoSaid'. A law counts once. -/
mutual
def uptoBulk {H : Type} : DataW H → Nat
  | .lit (.string bytes) => bytes.length + 1
  | .lit _ => 1
  | .nil => 1
  | .ptr d => uptoBulk d + 1
  | .slice elems spare => uptoBulkAll elems + uptoBulkAll spare + 1
  | .agg parts => uptoBulkAll parts + 1
  | .iface _ d => uptoBulk d + 1
  | .map entries => uptoBulkEntries entries + 1
  | .held _ => 1
def uptoBulkAll {H : Type} : List (DataW H) → Nat
  | [] => 0
  | d :: r => uptoBulk d + uptoBulkAll r
def uptoBulkEntries {H : Type} : List (Lit × DataW H) → Nat
  | [] => 0
  | x :: r => uptoBulkEntry x + uptoBulkEntries r
def uptoBulkEntry {H : Type} : Lit × DataW H → Nat
  | (.string bytes, d) => bytes.length + uptoBulk d + 1
  | (_, d) => uptoBulk d + 1
 end
def uptoSmall : (H : Type) → List (DataW H) → Bool := fun _ ds => decide (uptoBulkAll ds ≤ 1048576)
def OpenSpec.upto (s : _root_.Go.ChangeSpec) : _root_.Go.OpenSpec := { _root_.Go.OpenSpec.ofChange s with cond := some uptoSmall }

/-- 'partywalllaw16.AggregateNames', WHERE WHAT IT READS IS OF BULK AT MOST 1048576: true; the input reads as it did. -/
def aggregateNamesUptoRow : OpenClaim := { program := "ytamcloifhjafcaadoor", sum := "fbfe95cfd064548e31533892c617c0ee6f937c698e935d97622b77e42890d691", func := "partywall/partywalllaw16.AggregateNames", spec := "aggregateNames", unfollowed := true, recurses := true, named := ["partywall/ast.names"], loops := true, apart := false, laid := [("partywall/ast.names", laid_partywall_ast_names)], narrowed := true }
def AggregateNamesUptoSaid : Prop := aggregateNamesUptoRow.holds Tryd.pinned (OpenSpec.upto aggregateNamesSpec)

/-- 'partywalllaw11.FlowLeast', WHERE WHAT IT READS IS OF BULK AT MOST 1048576: true; the input reads as it did. -/
def flowLeastUptoRow : OpenClaim := { program := "ytamcloifhjafcaadoor", sum := "fbfe95cfd064548e31533892c617c0ee6f937c698e935d97622b77e42890d691", func := "partywall/partywalllaw11.FlowLeast", spec := "flowLeast", unfollowed := true, recurses := true, named := ["partywall/ast.names"], apart := false, laid := [("partywall/ast.names", laid_partywall_ast_names)], narrowed := true }
def FlowLeastUptoSaid : Prop := flowLeastUptoRow.holds Tryd.pinned (OpenSpec.upto flowLeastSpec)

/-- 'partywalllaw11.FlowClasses', WHERE WHAT IT READS IS OF BULK AT MOST 1048576: true; the input reads as it did. -/
def flowClassesUptoRow : OpenClaim := { program := "ytamcloifhjafcaadoor", sum := "fbfe95cfd064548e31533892c617c0ee6f937c698e935d97622b77e42890d691", func := "partywall/partywalllaw11.FlowClasses", spec := "flowClasses", unfollowed := true, recurses := true, named := ["partywall/ast.names"], apart := false, laid := [("partywall/ast.names", laid_partywall_ast_names)], narrowed := true }
def FlowClassesUptoSaid : Prop := flowClassesUptoRow.holds Tryd.pinned (OpenSpec.upto flowClassesSpec)

/-- 'partywalllaw16.AggregateGives', WHERE WHAT IT READS IS OF BULK AT MOST 1048576: true; the input reads as it did. -/
def aggregateGivesUptoRow : OpenClaim := { program := "ytamcloifhjafcaadoor", sum := "fbfe95cfd064548e31533892c617c0ee6f937c698e935d97622b77e42890d691", func := "partywall/partywalllaw16.AggregateGives", spec := "aggregateGives", unfollowed := true, recurses := true, named := ["partywall/ast.names"], loops := true, apart := false, laid := [("partywall/ast.names", laid_partywall_ast_names)], narrowed := true }
def AggregateGivesUptoSaid : Prop := aggregateGivesUptoRow.holds Tryd.pinned (OpenSpec.upto aggregateGivesSpec)

/-- 'partywalllaw16.AggregateSelects', WHERE WHAT IT READS IS OF BULK AT MOST 1048576: true; the input reads as it did. -/
def aggregateSelectsUptoRow : OpenClaim := { program := "ytamcloifhjafcaadoor", sum := "fbfe95cfd064548e31533892c617c0ee6f937c698e935d97622b77e42890d691", func := "partywall/partywalllaw16.AggregateSelects", spec := "aggregateSelects", unfollowed := true, recurses := true, named := ["partywall/ast.names"], apart := false, laid := [("partywall/ast.names", laid_partywall_ast_names)], narrowed := true }
def AggregateSelectsUptoSaid : Prop := aggregateSelectsUptoRow.holds Tryd.pinned (OpenSpec.upto aggregateSelectsSpec)

/-- 'partywalllaw11.FlowSees', WHERE WHAT IT READS IS OF BULK AT MOST 1048576: true; the input reads as it did. -/
def flowSeesUptoRow : OpenClaim := { program := "ytamcloifhjafcaadoor", sum := "fbfe95cfd064548e31533892c617c0ee6f937c698e935d97622b77e42890d691", func := "partywall/partywalllaw11.FlowSees", spec := "flowSees", unfollowed := true, recurses := true, named := ["partywall/ast.names"], apart := false, laid := [("partywall/ast.names", laid_partywall_ast_names)], narrowed := true }
def FlowSeesUptoSaid : Prop := flowSeesUptoRow.holds Tryd.pinned (OpenSpec.upto flowSeesSpec)

/-- 'partywalllaw11.FlowRestricts', WHERE WHAT IT READS IS OF BULK AT MOST 1048576: true; the input reads as it did. -/
def flowRestrictsUptoRow : OpenClaim := { program := "ytamcloifhjafcaadoor", sum := "fbfe95cfd064548e31533892c617c0ee6f937c698e935d97622b77e42890d691", func := "partywall/partywalllaw11.FlowRestricts", spec := "flowRestricts", unfollowed := true, recurses := true, named := ["partywall/ast.names"], apart := false, laid := [("partywall/ast.names", laid_partywall_ast_names)], narrowed := true }
def FlowRestrictsUptoSaid : Prop := flowRestrictsUptoRow.holds Tryd.pinned (OpenSpec.upto flowRestrictsSpec)

end Rows
end Go.Proofs.YtamcloifhjafcaaDoor
