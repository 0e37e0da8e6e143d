/- TREES, known 4: the run of the chapter's examples. -/
import Derived.Test.YtlnpgnipocbfhaaND3
namespace Go.Proofs.Ytlnpgnipocbfhaa
open Pw Go
set_option maxRecDepth 100000
end Go.Proofs.Ytlnpgnipocbfhaa
