/-
  No cell of these rows narrows 'for every input' (looked for: loops, veiled, ifaces, maps, wideKeys, modest, calm, conditions, laid).
  DERIVED. THE GIVEN ROWS OF THIS SEAT. 3 by the template 'for every input the law returns true; each argument reads behind the call as it read before'; 0 by the template 'total and deterministic' (their statements: YtlnpgnipocbfhaaTotals.lean).
  GIVEN WITH THE SEED: the statements are not yours to turn. If you find one false, say at which input.
  Laid BY PROGRAM, IN A SANDBOX (cutbox-rows.mjs): the forced cells as the released guide's own fill.sh prints them over the translation b2a033e3c5f5668c… (all of the seat's roots in one cut). By AI agents, Wed Nov 11 2026. No macro, syntax, notation, axiom, sorry.
-/
import Derived.Test.YtlnpgnipocbfhaaChecked
import GoSem.Claim
import GoSem.ClaimJoined
import GoSem.ClaimMapViews
import Derived.JoinedTies
import Derived.KernelRfl
namespace Go.Proofs.Ytlnpgnipocbfhaa
/- THE CELL 'sum', in the pinned program and in every row, IS THE sha256 OF THE DUMP (.gsa) THAT YtlnpgnipocbfhaaProg.lean LOADS. Nothing in Lean hashes anything: it is a label: what it is worth is what the hold of that sum in a sandbox is worth. -/
noncomputable def Try.pinned : Pinned := { name := "ytlnpgnipocbfhaa", sum := "b2a033e3c5f5668c87b85eeefaefd5bfc9c90ff6ba39685f8c63f33fa6834589", checked := Try.checked }
namespace Rows
def none {H : Type} : Left H := { results := [], args := [] }

/-- 'partywalllaw18.NfaLooks': WHATEVER THE INPUT: true; the input reads as it did. -/
def nfaLooksSpec : ChangeSpec := { name := "nfaLooks", fn := fun _ => fun
  | [d1, d2, d3] => { results := [.lit (.bool true)], args := [d1, d2, d3] }
  | _ => none }
def nfaLooksRow : OpenClaim := { program := "ytlnpgnipocbfhaa", sum := "b2a033e3c5f5668c87b85eeefaefd5bfc9c90ff6ba39685f8c63f33fa6834589", func := "partywall/partywalllaw18.NfaLooks", spec := "nfaLooks", unfollowed := true, recurses := true, plainKeys := false, apart := false }
def NfaLooksSaid : Prop := nfaLooksRow.holds Try.pinned (OpenSpec.ofChange nfaLooksSpec)

/-- ITS FALSE NEIGHBOUR: 'it returns false'. Refute it at one input. -/
def nfaLooksWrong : ChangeSpec := { name := "nfaLooks", fn := fun _ => fun
  | [d1, d2, d3] => { results := [.lit (.bool false)], args := [d1, d2, d3] }
  | _ => none }
def NfaLooksWrongFalsely : Prop := nfaLooksRow.holds Try.pinned (OpenSpec.ofChange nfaLooksWrong)

/-- 'partywalllaw18.NfaBack': WHATEVER THE INPUT: true; the input reads as it did. -/
def nfaBackSpec : ChangeSpec := { name := "nfaBack", fn := fun _ => fun
  | [d] => { results := [.lit (.bool true)], args := [d] }
  | _ => none }
def nfaBackRow : OpenClaim := { program := "ytlnpgnipocbfhaa", sum := "b2a033e3c5f5668c87b85eeefaefd5bfc9c90ff6ba39685f8c63f33fa6834589", func := "partywall/partywalllaw18.NfaBack", spec := "nfaBack", unfollowed := true, recurses := true, plainKeys := false, apart := false }
def NfaBackSaid : Prop := nfaBackRow.holds Try.pinned (OpenSpec.ofChange nfaBackSpec)

/-- ITS FALSE NEIGHBOUR: 'it returns false'. Refute it at one input. -/
def nfaBackWrong : ChangeSpec := { name := "nfaBack", fn := fun _ => fun
  | [d] => { results := [.lit (.bool false)], args := [d] }
  | _ => none }
def NfaBackWrongFalsely : Prop := nfaBackRow.holds Try.pinned (OpenSpec.ofChange nfaBackWrong)

/-- 'partywalllaw18.NfaTurned': WHATEVER THE INPUT: true; the input reads as it did. -/
def nfaTurnedSpec : ChangeSpec := { name := "nfaTurned", fn := fun _ => fun
  | [d1, d2] => { results := [.lit (.bool true)], args := [d1, d2] }
  | _ => none }
def nfaTurnedRow : OpenClaim := { program := "ytlnpgnipocbfhaa", sum := "b2a033e3c5f5668c87b85eeefaefd5bfc9c90ff6ba39685f8c63f33fa6834589", func := "partywall/partywalllaw18.NfaTurned", spec := "nfaTurned", unfollowed := true, recurses := true, plainKeys := false, apart := false }
def NfaTurnedSaid : Prop := nfaTurnedRow.holds Try.pinned (OpenSpec.ofChange nfaTurnedSpec)

/-- ITS FALSE NEIGHBOUR: 'it returns false'. Refute it at one input. -/
def nfaTurnedWrong : ChangeSpec := { name := "nfaTurned", fn := fun _ => fun
  | [d1, d2] => { results := [.lit (.bool false)], args := [d1, d2] }
  | _ => none }
def NfaTurnedWrongFalsely : Prop := nfaTurnedRow.holds Try.pinned (OpenSpec.ofChange nfaTurnedWrong)

/- THE SECOND FORM. 'bulk': how many values and letters a reading holds, each counted each time it is reached (what is shared counts as often as it is met; a slice's spare places count too). A statement '..UptoSaid' is the law's where the arguments, and the package variables that the reading takes, are together of bulk at most 1048576: NARROWER than '..Said'. Prove '..Said' where nothing that the law and all that it calls make is longer than what came in: it says more and counts as full. Else prove '..UptoSaid'. A law counts once. -/
mutual
def uptoBulk {H : Type} : DataW H → Nat
  | .lit (.string bytes) => bytes.length + 1
  | .lit _ => 1
  | .nil => 1
  | .ptr d => uptoBulk d + 1
  | .slice elems spare => uptoBulkAll elems + uptoBulkAll spare + 1
  | .agg parts => uptoBulkAll parts + 1
  | .iface _ d => uptoBulk d + 1
  | .map entries => uptoBulkEntries entries + 1
  | .held _ => 1
def uptoBulkAll {H : Type} : List (DataW H) → Nat
  | [] => 0
  | d :: r => uptoBulk d + uptoBulkAll r
def uptoBulkEntries {H : Type} : List (Lit × DataW H) → Nat
  | [] => 0
  | x :: r => uptoBulkEntry x + uptoBulkEntries r
def uptoBulkEntry {H : Type} : Lit × DataW H → Nat
  | (.string bytes, d) => bytes.length + uptoBulk d + 1
  | (_, d) => uptoBulk d + 1
 end
def uptoSmall : (H : Type) → List (DataW H) → Bool := fun _ ds => decide (uptoBulkAll ds ≤ 1048576)
def OpenSpec.upto (s : _root_.Go.ChangeSpec) : _root_.Go.OpenSpec := { _root_.Go.OpenSpec.ofChange s with cond := some uptoSmall }

/-- 'partywalllaw18.NfaLooks', WHERE WHAT IT READS IS OF BULK AT MOST 1048576: true; the input reads as it did. -/
def nfaLooksUptoRow : OpenClaim := { program := "ytlnpgnipocbfhaa", sum := "b2a033e3c5f5668c87b85eeefaefd5bfc9c90ff6ba39685f8c63f33fa6834589", func := "partywall/partywalllaw18.NfaLooks", spec := "nfaLooks", unfollowed := true, recurses := true, plainKeys := false, apart := false, narrowed := true }
def NfaLooksUptoSaid : Prop := nfaLooksUptoRow.holds Try.pinned (OpenSpec.upto nfaLooksSpec)

/-- 'partywalllaw18.NfaBack', WHERE WHAT IT READS IS OF BULK AT MOST 1048576: true; the input reads as it did. -/
def nfaBackUptoRow : OpenClaim := { program := "ytlnpgnipocbfhaa", sum := "b2a033e3c5f5668c87b85eeefaefd5bfc9c90ff6ba39685f8c63f33fa6834589", func := "partywall/partywalllaw18.NfaBack", spec := "nfaBack", unfollowed := true, recurses := true, plainKeys := false, apart := false, narrowed := true }
def NfaBackUptoSaid : Prop := nfaBackUptoRow.holds Try.pinned (OpenSpec.upto nfaBackSpec)

/-- 'partywalllaw18.NfaTurned', WHERE WHAT IT READS IS OF BULK AT MOST 1048576: true; the input reads as it did. -/
def nfaTurnedUptoRow : OpenClaim := { program := "ytlnpgnipocbfhaa", sum := "b2a033e3c5f5668c87b85eeefaefd5bfc9c90ff6ba39685f8c63f33fa6834589", func := "partywall/partywalllaw18.NfaTurned", spec := "nfaTurned", unfollowed := true, recurses := true, plainKeys := false, apart := false, narrowed := true }
def NfaTurnedUptoSaid : Prop := nfaTurnedUptoRow.holds Try.pinned (OpenSpec.upto nfaTurnedSpec)

end Rows
end Go.Proofs.Ytlnpgnipocbfhaa
