/-
  No cell of these rows narrows 'for every input' (looked for: loops, veiled, ifaces, maps, wideKeys, modest, calm, conditions, laid).
  DERIVED. THE GIVEN ROWS OF THIS SEAT. 6 by the template 'for every input the law returns true; each argument reads behind the call as it read before'; 0 by the template 'total and deterministic' (their statements: YtniihecdmcphgaaTotals.lean).
  GIVEN WITH THE SEED: the statements are not yours to turn. If you find one false, say at which input.
  Laid BY PROGRAM, IN A SANDBOX (cutbox-rows.mjs): the forced cells as the released guide's own fill.sh prints them over the translation e5a524fb7a2b0e7c… (all of the seat's roots in one cut). By AI agents, Wed Nov 11 2026. No macro, syntax, notation, axiom, sorry.
-/
import Derived.Test.YtniihecdmcphgaaChecked
import GoSem.Claim
import GoSem.ClaimJoined
import GoSem.ClaimMapViews
import Derived.JoinedTies
import Derived.KernelRfl
namespace Go.Proofs.Ytniihecdmcphgaa
/- THE CELL 'sum', in the pinned program and in every row, IS THE sha256 OF THE DUMP (.gsa) THAT YtniihecdmcphgaaProg.lean LOADS. Nothing in Lean hashes anything: it is a label: what it is worth is what the hold of that sum in a sandbox is worth. -/
noncomputable def Try.pinned : Pinned := { name := "ytniihecdmcphgaa", sum := "e5a524fb7a2b0e7ca8a0f13a25b3a243a12226e5054a8b95e1c55a2fe9b205bc", checked := Try.checked }
namespace Rows
def none {H : Type} : Left H := { results := [], args := [] }

/-- 'partywalllaw32.OpBack': WHATEVER THE INPUT: true; the input reads as it did. -/
def opBackSpec : ChangeSpec := { name := "opBack", fn := fun _ => fun
  | [d1, d2] => { results := [.lit (.bool true)], args := [d1, d2] }
  | _ => none }
def opBackRow : OpenClaim := { program := "ytniihecdmcphgaa", sum := "e5a524fb7a2b0e7ca8a0f13a25b3a243a12226e5054a8b95e1c55a2fe9b205bc", func := "partywall/partywalllaw32.OpBack", spec := "opBack", unfollowed := true, recurses := true, apart := false }
def OpBackSaid : Prop := opBackRow.holds Try.pinned (OpenSpec.ofChange opBackSpec)

/-- ITS FALSE NEIGHBOUR: 'it returns false'. Refute it at one input. -/
def opBackWrong : ChangeSpec := { name := "opBack", fn := fun _ => fun
  | [d1, d2] => { results := [.lit (.bool false)], args := [d1, d2] }
  | _ => none }
def OpBackWrongFalsely : Prop := opBackRow.holds Try.pinned (OpenSpec.ofChange opBackWrong)

/-- 'partywalllaw32.OpLists': WHATEVER THE INPUT: true; the input reads as it did. -/
def opListsSpec : ChangeSpec := { name := "opLists", fn := fun _ => fun
  | [d] => { results := [.lit (.bool true)], args := [d] }
  | _ => none }
def opListsRow : OpenClaim := { program := "ytniihecdmcphgaa", sum := "e5a524fb7a2b0e7ca8a0f13a25b3a243a12226e5054a8b95e1c55a2fe9b205bc", func := "partywall/partywalllaw32.OpLists", spec := "opLists", unfollowed := true, recurses := true, apart := false }
def OpListsSaid : Prop := opListsRow.holds Try.pinned (OpenSpec.ofChange opListsSpec)

/-- ITS FALSE NEIGHBOUR: 'it returns false'. Refute it at one input. -/
def opListsWrong : ChangeSpec := { name := "opLists", fn := fun _ => fun
  | [d] => { results := [.lit (.bool false)], args := [d] }
  | _ => none }
def OpListsWrongFalsely : Prop := opListsRow.holds Try.pinned (OpenSpec.ofChange opListsWrong)

/-- 'partywalllaw32.OpParses': WHATEVER THE INPUT: true; the input reads as it did. -/
def opParsesSpec : ChangeSpec := { name := "opParses", fn := fun _ => fun
  | [d] => { results := [.lit (.bool true)], args := [d] }
  | _ => none }
def opParsesRow : OpenClaim := { program := "ytniihecdmcphgaa", sum := "e5a524fb7a2b0e7ca8a0f13a25b3a243a12226e5054a8b95e1c55a2fe9b205bc", func := "partywall/partywalllaw32.OpParses", spec := "opParses", unfollowed := true, recurses := true, apart := false }
def OpParsesSaid : Prop := opParsesRow.holds Try.pinned (OpenSpec.ofChange opParsesSpec)

/-- ITS FALSE NEIGHBOUR: 'it returns false'. Refute it at one input. -/
def opParsesWrong : ChangeSpec := { name := "opParses", fn := fun _ => fun
  | [d] => { results := [.lit (.bool false)], args := [d] }
  | _ => none }
def OpParsesWrongFalsely : Prop := opParsesRow.holds Try.pinned (OpenSpec.ofChange opParsesWrong)

/-- 'partywalllaw32.OpCuts': WHATEVER THE INPUT: true; the input reads as it did. -/
def opCutsSpec : ChangeSpec := { name := "opCuts", fn := fun _ => fun
  | [d1, d2] => { results := [.lit (.bool true)], args := [d1, d2] }
  | _ => none }
def opCutsRow : OpenClaim := { program := "ytniihecdmcphgaa", sum := "e5a524fb7a2b0e7ca8a0f13a25b3a243a12226e5054a8b95e1c55a2fe9b205bc", func := "partywall/partywalllaw32.OpCuts", spec := "opCuts", unfollowed := true, recurses := true, apart := false }
def OpCutsSaid : Prop := opCutsRow.holds Try.pinned (OpenSpec.ofChange opCutsSpec)

/-- ITS FALSE NEIGHBOUR: 'it returns false'. Refute it at one input. -/
def opCutsWrong : ChangeSpec := { name := "opCuts", fn := fun _ => fun
  | [d1, d2] => { results := [.lit (.bool false)], args := [d1, d2] }
  | _ => none }
def OpCutsWrongFalsely : Prop := opCutsRow.holds Try.pinned (OpenSpec.ofChange opCutsWrong)

/-- 'partywalllaw32.OpKnown': WHATEVER THE INPUT: true; the input reads as it did. -/
def opKnownSpec : ChangeSpec := { name := "opKnown", fn := fun _ => fun
  | [] => { results := [.lit (.bool true)], args := [] }
  | _ => none }
def opKnownRow : OpenClaim := { program := "ytniihecdmcphgaa", sum := "e5a524fb7a2b0e7ca8a0f13a25b3a243a12226e5054a8b95e1c55a2fe9b205bc", func := "partywall/partywalllaw32.OpKnown", spec := "opKnown", unfollowed := true, recurses := true, apart := false }
def OpKnownSaid : Prop := opKnownRow.holds Try.pinned (OpenSpec.ofChange opKnownSpec)

/-- ITS FALSE NEIGHBOUR: 'it returns false'. Refute it at one input. -/
def opKnownWrong : ChangeSpec := { name := "opKnown", fn := fun _ => fun
  | [] => { results := [.lit (.bool false)], args := [] }
  | _ => none }
def OpKnownWrongFalsely : Prop := opKnownRow.holds Try.pinned (OpenSpec.ofChange opKnownWrong)

/-- 'partywalllaw32.OpParts': WHATEVER THE INPUT: true; the input reads as it did. -/
def opPartsSpec : ChangeSpec := { name := "opParts", fn := fun _ => fun
  | [d1, d2] => { results := [.lit (.bool true)], args := [d1, d2] }
  | _ => none }
def opPartsRow : OpenClaim := { program := "ytniihecdmcphgaa", sum := "e5a524fb7a2b0e7ca8a0f13a25b3a243a12226e5054a8b95e1c55a2fe9b205bc", func := "partywall/partywalllaw32.OpParts", spec := "opParts", unfollowed := true, recurses := true, apart := false }
def OpPartsSaid : Prop := opPartsRow.holds Try.pinned (OpenSpec.ofChange opPartsSpec)

/-- ITS FALSE NEIGHBOUR: 'it returns false'. Refute it at one input. -/
def opPartsWrong : ChangeSpec := { name := "opParts", fn := fun _ => fun
  | [d1, d2] => { results := [.lit (.bool false)], args := [d1, d2] }
  | _ => none }
def OpPartsWrongFalsely : Prop := opPartsRow.holds Try.pinned (OpenSpec.ofChange opPartsWrong)

/- THE SECOND FORM. 'bulk': how many values and letters a reading holds, each counted each time it is reached (what is shared counts as often as it is met; a slice's spare places count too). A statement '..UptoSaid' is the law's where the arguments, and the package variables that the reading takes, are together of bulk at most 1048576: NARROWER than '..Said'. Prove '..Said' where nothing that the law and all that it calls make is longer than what came in: it says more and counts as full. Else prove '..UptoSaid'. A law counts once. -/
mutual
def uptoBulk {H : Type} : DataW H → Nat
  | .lit (.string bytes) => bytes.length + 1
  | .lit _ => 1
  | .nil => 1
  | .ptr d => uptoBulk d + 1
  | .slice elems spare => uptoBulkAll elems + uptoBulkAll spare + 1
  | .agg parts => uptoBulkAll parts + 1
  | .iface _ d => uptoBulk d + 1
  | .map entries => uptoBulkEntries entries + 1
  | .held _ => 1
def uptoBulkAll {H : Type} : List (DataW H) → Nat
  | [] => 0
  | d :: r => uptoBulk d + uptoBulkAll r
def uptoBulkEntries {H : Type} : List (Lit × DataW H) → Nat
  | [] => 0
  | x :: r => uptoBulkEntry x + uptoBulkEntries r
def uptoBulkEntry {H : Type} : Lit × DataW H → Nat
  | (.string bytes, d) => bytes.length + uptoBulk d + 1
  | (_, d) => uptoBulk d + 1
 end
def uptoSmall : (H : Type) → List (DataW H) → Bool := fun _ ds => decide (uptoBulkAll ds ≤ 1048576)
def OpenSpec.upto (s : _root_.Go.ChangeSpec) : _root_.Go.OpenSpec := { _root_.Go.OpenSpec.ofChange s with cond := some uptoSmall }

/-- 'partywalllaw32.OpBack', WHERE WHAT IT READS IS OF BULK AT MOST 1048576: true; the input reads as it did. -/
def opBackUptoRow : OpenClaim := { program := "ytniihecdmcphgaa", sum := "e5a524fb7a2b0e7ca8a0f13a25b3a243a12226e5054a8b95e1c55a2fe9b205bc", func := "partywall/partywalllaw32.OpBack", spec := "opBack", unfollowed := true, recurses := true, apart := false, narrowed := true }
def OpBackUptoSaid : Prop := opBackUptoRow.holds Try.pinned (OpenSpec.upto opBackSpec)

/-- 'partywalllaw32.OpLists', WHERE WHAT IT READS IS OF BULK AT MOST 1048576: true; the input reads as it did. -/
def opListsUptoRow : OpenClaim := { program := "ytniihecdmcphgaa", sum := "e5a524fb7a2b0e7ca8a0f13a25b3a243a12226e5054a8b95e1c55a2fe9b205bc", func := "partywall/partywalllaw32.OpLists", spec := "opLists", unfollowed := true, recurses := true, apart := false, narrowed := true }
def OpListsUptoSaid : Prop := opListsUptoRow.holds Try.pinned (OpenSpec.upto opListsSpec)

/-- 'partywalllaw32.OpParses', WHERE WHAT IT READS IS OF BULK AT MOST 1048576: true; the input reads as it did. -/
def opParsesUptoRow : OpenClaim := { program := "ytniihecdmcphgaa", sum := "e5a524fb7a2b0e7ca8a0f13a25b3a243a12226e5054a8b95e1c55a2fe9b205bc", func := "partywall/partywalllaw32.OpParses", spec := "opParses", unfollowed := true, recurses := true, apart := false, narrowed := true }
def OpParsesUptoSaid : Prop := opParsesUptoRow.holds Try.pinned (OpenSpec.upto opParsesSpec)

/-- 'partywalllaw32.OpCuts', WHERE WHAT IT READS IS OF BULK AT MOST 1048576: true; the input reads as it did. -/
def opCutsUptoRow : OpenClaim := { program := "ytniihecdmcphgaa", sum := "e5a524fb7a2b0e7ca8a0f13a25b3a243a12226e5054a8b95e1c55a2fe9b205bc", func := "partywall/partywalllaw32.OpCuts", spec := "opCuts", unfollowed := true, recurses := true, apart := false, narrowed := true }
def OpCutsUptoSaid : Prop := opCutsUptoRow.holds Try.pinned (OpenSpec.upto opCutsSpec)

/-- 'partywalllaw32.OpKnown', WHERE WHAT IT READS IS OF BULK AT MOST 1048576: true; the input reads as it did. -/
def opKnownUptoRow : OpenClaim := { program := "ytniihecdmcphgaa", sum := "e5a524fb7a2b0e7ca8a0f13a25b3a243a12226e5054a8b95e1c55a2fe9b205bc", func := "partywall/partywalllaw32.OpKnown", spec := "opKnown", unfollowed := true, recurses := true, apart := false, narrowed := true }
def OpKnownUptoSaid : Prop := opKnownUptoRow.holds Try.pinned (OpenSpec.upto opKnownSpec)

/-- 'partywalllaw32.OpParts', WHERE WHAT IT READS IS OF BULK AT MOST 1048576: true; the input reads as it did. -/
def opPartsUptoRow : OpenClaim := { program := "ytniihecdmcphgaa", sum := "e5a524fb7a2b0e7ca8a0f13a25b3a243a12226e5054a8b95e1c55a2fe9b205bc", func := "partywall/partywalllaw32.OpParts", spec := "opParts", unfollowed := true, recurses := true, apart := false, narrowed := true }
def OpPartsUptoSaid : Prop := opPartsUptoRow.holds Try.pinned (OpenSpec.upto opPartsSpec)

end Rows
end Go.Proofs.Ytniihecdmcphgaa
