/-
  NARROWER THAN 'FOR EVERY INPUT', by the rows' own cells (each row's printed sentence says how): NfaMakes: loops, laid · NfaQueries: laid · RunsSteps: laid · RunsBlocks: laid.
  DERIVED. THE GIVEN ROWS OF THIS SEAT. 4 by the template 'for every input the law returns true; each argument reads behind the call as it read before'; 0 by the template 'total and deterministic' (their statements: YtlnpgnipocbfhaaGreatDoorTotals.lean).
  GIVEN WITH THE SEED: the statements are not yours to turn. If you find one false, say at which input.
  Laid BY PROGRAM, IN A SANDBOX (cutbox-rows.mjs): the forced cells as the released guide's own fill.sh prints them over the translation 09ac3347554714e0… (all of the seat's roots in one cut). By AI agents, Wed Nov 11 2026. No macro, syntax, notation, axiom, sorry.
-/
import Derived.Test.YtlnpgnipocbfhaaGreatDoorChecked
import GoSem.Claim
import GoSem.ClaimJoined
import GoSem.ClaimMapViews
import Derived.JoinedTies
import Derived.KernelRfl
namespace Go.Proofs.YtlnpgnipocbfhaaGreatDoor
/- THE CELL 'sum', in the pinned program and in every row, IS THE sha256 OF THE DUMP (.gsa) THAT YtlnpgnipocbfhaaGreatDoorProg.lean LOADS. Nothing in Lean hashes anything: it is a label: what it is worth is what the hold of that sum in a sandbox is worth. -/
noncomputable def Tryz.pinned : Pinned := { name := "ytlnpgnipocbfhaagreatdoor", sum := "09ac3347554714e0a97fa1f0892079d5ce615e9621a10ba233b112cbb0a308a9", checked := Tryz.checked }
namespace Rows
def none {H : Type} : Left H := { results := [], args := [] }

/- WHAT THE LISTED PACKAGE-LEVEL VARIABLES READ AS WHEN THE CALL BEGINS. Each datum BY PROGRAM (the guide's laid-datum.mjs) off the statement by which the dump's own 'gosem.cut.vars' lays the variable. In a bare row this is a premise. The card (YtlnpgnipocbfhaaGreatDoorCards.lean) ties it to the program's text. -/
def laid_partywall_ast_names {H : Type} : DataW H := .agg [.lit (.string [99, 111, 117, 110, 116]), .lit (.string [115, 117, 109]), .lit (.string [109, 105, 110]), .lit (.string [109, 97, 120]), .lit (.string [102, 105, 114, 115, 116]), .lit (.string [108, 97, 115, 116])]

/-- 'partywalllaw18.NfaMakes': WHATEVER THE INPUT: true; the input reads as it did. -/
def nfaMakesSpec : ChangeSpec := { name := "nfaMakes", fn := fun _ => fun
  | [d1, d2] => { results := [.lit (.bool true)], args := [d1, d2] }
  | _ => none }
def nfaMakesRow : OpenClaim := { program := "ytlnpgnipocbfhaagreatdoor", sum := "09ac3347554714e0a97fa1f0892079d5ce615e9621a10ba233b112cbb0a308a9", func := "partywall/partywalllaw18.NfaMakes", spec := "nfaMakes", unfollowed := true, recurses := true, named := ["partywall/ast.names"], loops := true, plainKeys := false, apart := false, laid := [("partywall/ast.names", laid_partywall_ast_names)] }
def NfaMakesSaid : Prop := nfaMakesRow.holds Tryz.pinned (OpenSpec.ofChange nfaMakesSpec)

/-- ITS FALSE NEIGHBOUR: 'it returns false'. Refute it at one input. -/
def nfaMakesWrong : ChangeSpec := { name := "nfaMakes", fn := fun _ => fun
  | [d1, d2] => { results := [.lit (.bool false)], args := [d1, d2] }
  | _ => none }
def NfaMakesWrongFalsely : Prop := nfaMakesRow.holds Tryz.pinned (OpenSpec.ofChange nfaMakesWrong)

/-- 'partywalllaw18.NfaQueries': WHATEVER THE INPUT: true; the input reads as it did. -/
def nfaQueriesSpec : ChangeSpec := { name := "nfaQueries", fn := fun _ => fun
  | [d] => { results := [.lit (.bool true)], args := [d] }
  | _ => none }
def nfaQueriesRow : OpenClaim := { program := "ytlnpgnipocbfhaagreatdoor", sum := "09ac3347554714e0a97fa1f0892079d5ce615e9621a10ba233b112cbb0a308a9", func := "partywall/partywalllaw18.NfaQueries", spec := "nfaQueries", unfollowed := true, recurses := true, named := ["partywall/ast.names"], plainKeys := false, apart := false, laid := [("partywall/ast.names", laid_partywall_ast_names)] }
def NfaQueriesSaid : Prop := nfaQueriesRow.holds Tryz.pinned (OpenSpec.ofChange nfaQueriesSpec)

/-- ITS FALSE NEIGHBOUR: 'it returns false'. Refute it at one input. -/
def nfaQueriesWrong : ChangeSpec := { name := "nfaQueries", fn := fun _ => fun
  | [d] => { results := [.lit (.bool false)], args := [d] }
  | _ => none }
def NfaQueriesWrongFalsely : Prop := nfaQueriesRow.holds Tryz.pinned (OpenSpec.ofChange nfaQueriesWrong)

/-- 'partywalllaw19.RunsSteps': WHATEVER THE INPUT: true; the input reads as it did. -/
def runsStepsSpec : ChangeSpec := { name := "runsSteps", fn := fun _ => fun
  | [d1, d2, d3, d4, d5, d6] => { results := [.lit (.bool true)], args := [d1, d2, d3, d4, d5, d6] }
  | _ => none }
def runsStepsRow : OpenClaim := { program := "ytlnpgnipocbfhaagreatdoor", sum := "09ac3347554714e0a97fa1f0892079d5ce615e9621a10ba233b112cbb0a308a9", func := "partywall/partywalllaw19.RunsSteps", spec := "runsSteps", unfollowed := true, recurses := true, named := ["partywall/ast.names"], plainKeys := false, apart := false, laid := [("partywall/ast.names", laid_partywall_ast_names)] }
def RunsStepsSaid : Prop := runsStepsRow.holds Tryz.pinned (OpenSpec.ofChange runsStepsSpec)

/-- ITS FALSE NEIGHBOUR: 'it returns false'. Refute it at one input. -/
def runsStepsWrong : ChangeSpec := { name := "runsSteps", fn := fun _ => fun
  | [d1, d2, d3, d4, d5, d6] => { results := [.lit (.bool false)], args := [d1, d2, d3, d4, d5, d6] }
  | _ => none }
def RunsStepsWrongFalsely : Prop := runsStepsRow.holds Tryz.pinned (OpenSpec.ofChange runsStepsWrong)

/-- 'partywalllaw19.RunsBlocks': WHATEVER THE INPUT: true; the input reads as it did. -/
def runsBlocksSpec : ChangeSpec := { name := "runsBlocks", fn := fun _ => fun
  | [d1, d2, d3, d4, d5] => { results := [.lit (.bool true)], args := [d1, d2, d3, d4, d5] }
  | _ => none }
def runsBlocksRow : OpenClaim := { program := "ytlnpgnipocbfhaagreatdoor", sum := "09ac3347554714e0a97fa1f0892079d5ce615e9621a10ba233b112cbb0a308a9", func := "partywall/partywalllaw19.RunsBlocks", spec := "runsBlocks", unfollowed := true, recurses := true, named := ["partywall/ast.names"], plainKeys := false, apart := false, laid := [("partywall/ast.names", laid_partywall_ast_names)] }
def RunsBlocksSaid : Prop := runsBlocksRow.holds Tryz.pinned (OpenSpec.ofChange runsBlocksSpec)

/-- ITS FALSE NEIGHBOUR: 'it returns false'. Refute it at one input. -/
def runsBlocksWrong : ChangeSpec := { name := "runsBlocks", fn := fun _ => fun
  | [d1, d2, d3, d4, d5] => { results := [.lit (.bool false)], args := [d1, d2, d3, d4, d5] }
  | _ => none }
def RunsBlocksWrongFalsely : Prop := runsBlocksRow.holds Tryz.pinned (OpenSpec.ofChange runsBlocksWrong)

/- THE SECOND FORM. 'bulk': how many values and letters a reading holds, each counted each time it is reached (what is shared counts as often as it is met; a slice's spare places count too). A statement '..UptoSaid' is the law's where the arguments, and the package variables that the reading takes, are together of bulk at most 1048576: NARROWER than '..Said'. Prove '..Said' where nothing that the law and all that it calls make is longer than what came in: it says more and counts as full. Else prove '..UptoSaid'. A law counts once. -/
mutual
def uptoBulk {H : Type} : DataW H → Nat
  | .lit (.string bytes) => bytes.length + 1
  | .lit _ => 1
  | .nil => 1
  | .ptr d => uptoBulk d + 1
  | .slice elems spare => uptoBulkAll elems + uptoBulkAll spare + 1
  | .agg parts => uptoBulkAll parts + 1
  | .iface _ d => uptoBulk d + 1
  | .map entries => uptoBulkEntries entries + 1
  | .held _ => 1
def uptoBulkAll {H : Type} : List (DataW H) → Nat
  | [] => 0
  | d :: r => uptoBulk d + uptoBulkAll r
def uptoBulkEntries {H : Type} : List (Lit × DataW H) → Nat
  | [] => 0
  | x :: r => uptoBulkEntry x + uptoBulkEntries r
def uptoBulkEntry {H : Type} : Lit × DataW H → Nat
  | (.string bytes, d) => bytes.length + uptoBulk d + 1
  | (_, d) => uptoBulk d + 1
 end
def uptoSmall : (H : Type) → List (DataW H) → Bool := fun _ ds => decide (uptoBulkAll ds ≤ 1048576)
def OpenSpec.upto (s : _root_.Go.ChangeSpec) : _root_.Go.OpenSpec := { _root_.Go.OpenSpec.ofChange s with cond := some uptoSmall }

/-- 'partywalllaw18.NfaMakes', WHERE WHAT IT READS IS OF BULK AT MOST 1048576: true; the input reads as it did. -/
def nfaMakesUptoRow : OpenClaim := { program := "ytlnpgnipocbfhaagreatdoor", sum := "09ac3347554714e0a97fa1f0892079d5ce615e9621a10ba233b112cbb0a308a9", func := "partywall/partywalllaw18.NfaMakes", spec := "nfaMakes", unfollowed := true, recurses := true, named := ["partywall/ast.names"], loops := true, plainKeys := false, apart := false, laid := [("partywall/ast.names", laid_partywall_ast_names)], narrowed := true }
def NfaMakesUptoSaid : Prop := nfaMakesUptoRow.holds Tryz.pinned (OpenSpec.upto nfaMakesSpec)

/-- 'partywalllaw18.NfaQueries', WHERE WHAT IT READS IS OF BULK AT MOST 1048576: true; the input reads as it did. -/
def nfaQueriesUptoRow : OpenClaim := { program := "ytlnpgnipocbfhaagreatdoor", sum := "09ac3347554714e0a97fa1f0892079d5ce615e9621a10ba233b112cbb0a308a9", func := "partywall/partywalllaw18.NfaQueries", spec := "nfaQueries", unfollowed := true, recurses := true, named := ["partywall/ast.names"], plainKeys := false, apart := false, laid := [("partywall/ast.names", laid_partywall_ast_names)], narrowed := true }
def NfaQueriesUptoSaid : Prop := nfaQueriesUptoRow.holds Tryz.pinned (OpenSpec.upto nfaQueriesSpec)

/-- 'partywalllaw19.RunsSteps', WHERE WHAT IT READS IS OF BULK AT MOST 1048576: true; the input reads as it did. -/
def runsStepsUptoRow : OpenClaim := { program := "ytlnpgnipocbfhaagreatdoor", sum := "09ac3347554714e0a97fa1f0892079d5ce615e9621a10ba233b112cbb0a308a9", func := "partywall/partywalllaw19.RunsSteps", spec := "runsSteps", unfollowed := true, recurses := true, named := ["partywall/ast.names"], plainKeys := false, apart := false, laid := [("partywall/ast.names", laid_partywall_ast_names)], narrowed := true }
def RunsStepsUptoSaid : Prop := runsStepsUptoRow.holds Tryz.pinned (OpenSpec.upto runsStepsSpec)

/-- 'partywalllaw19.RunsBlocks', WHERE WHAT IT READS IS OF BULK AT MOST 1048576: true; the input reads as it did. -/
def runsBlocksUptoRow : OpenClaim := { program := "ytlnpgnipocbfhaagreatdoor", sum := "09ac3347554714e0a97fa1f0892079d5ce615e9621a10ba233b112cbb0a308a9", func := "partywall/partywalllaw19.RunsBlocks", spec := "runsBlocks", unfollowed := true, recurses := true, named := ["partywall/ast.names"], plainKeys := false, apart := false, laid := [("partywall/ast.names", laid_partywall_ast_names)], narrowed := true }
def RunsBlocksUptoSaid : Prop := runsBlocksUptoRow.holds Tryz.pinned (OpenSpec.upto runsBlocksSpec)

end Rows
end Go.Proofs.YtlnpgnipocbfhaaGreatDoor
