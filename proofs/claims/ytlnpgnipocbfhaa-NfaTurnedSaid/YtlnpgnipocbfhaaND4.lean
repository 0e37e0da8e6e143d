/- TREES, known 4: the run of the chapter's examples. -/
import Derived.Test.YtlnpgnipocbfhaaND3
namespace Go.Proofs.Ytlnpgnipocbfhaa
open Pw Go
set_option maxRecDepth 100000
theorem kKnown_runs : PureC Try.prog gU 26 [] (.bool true) := pure_runT (t := tblOf kTblK) (k := 60) (d := 9) mix kTblK_ok (by kernel_rfl)
end Go.Proofs.Ytlnpgnipocbfhaa
