/- TREES, known 3: the run of 'awake'. -/
import Derived.Test.YtlnpgnipocbfhaaND2
namespace Go.Proofs.Ytlnpgnipocbfhaa
open Pw Go
set_option maxRecDepth 100000
theorem kAwake_runs:PureC Try.prog gU 7 [] (.bool true):=pure_runT (t:=tblOf kTblN) (k:=60) (d:=9) mix kTblN_ok (by kernel_rfl)
end Go.Proofs.Ytlnpgnipocbfhaa
