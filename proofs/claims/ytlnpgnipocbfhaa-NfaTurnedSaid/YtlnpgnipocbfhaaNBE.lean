/- TREES, law NfaBack: conditions. -/
import Derived.Test.YtlnpgnipocbfhaaNBD
import Derived.Test.YtlnpgnipocbfhaaNB1
namespace Go.Proofs.Ytlnpgnipocbfhaa
open Pw Go
set_option maxRecDepth 100000
set_option linter.unusedSimpArgs false
def cTrueK : Ctr
 | [] => some (true, .bool true)
 | _ => none
noncomputable def EBk0 (nums : List Int) : Env := mkE Try.prog (tblOf [(26, cTrueK), (27, cAs [intsA nums] (linesA []))]) (fun _ _ => none)
end Go.Proofs.Ytlnpgnipocbfhaa
