/- TREES, known 3: the run of 'awake'. -/
import Derived.Test.YtlnpgnipocbfhaaND2
namespace Go.Proofs.Ytlnpgnipocbfhaa
open Pw Go
set_option maxRecDepth 100000
theorem kAwake_runs : PureC Try.prog gU 7 [] (.bool true) := pure_runT (t := tblOf kTblN) (k := 60) (d := 9) mix kTblN_ok (by kernel_rfl)
def kCAwake : Ctr := litCtr [([], .bool true)]
theorem kAwake_ok : PureG Try.prog gU 7 kCAwake := litCtr_cons kAwake_runs (litCtr_nil _ _ _)
def kTblK : List (Nat × Ctr) := [(7, kCAwake), (9, kCCheck), (33, kCShown), (25, kCSame)]
theorem kTblK_ok : TblOK Try.prog gU (tblOf kTblK) := tblG_cons kAwake_ok kTblN_ok
end Go.Proofs.Ytlnpgnipocbfhaa
