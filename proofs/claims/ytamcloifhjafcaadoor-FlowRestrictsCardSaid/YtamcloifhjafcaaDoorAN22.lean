/- NODES 22: the atoms of a node, and which are negated: the document's conditions. -/
import Derived.Test.YtamcloifhjafcaaDoorAN21
namespace Go.Proofs.YtamcloifhjafcaaDoor
open Pw Go
set_option maxRecDepth 100000
set_option linter.unusedSimpArgs false
end Go.Proofs.YtamcloifhjafcaaDoor
