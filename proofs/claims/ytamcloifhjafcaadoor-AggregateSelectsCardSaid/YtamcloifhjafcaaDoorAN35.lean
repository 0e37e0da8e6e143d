/- NODES 35: emitted values: conditions of both codes. -/
import Derived.Test.YtamcloifhjafcaaDoorAN32
namespace Go.Proofs.YtamcloifhjafcaaDoor
open Pw Go
set_option maxRecDepth 100000
set_option linter.unusedSimpArgs false
section
variable (x : NodeG) (w : Int) (hs : List HaveG) (es : List AggG) (ev : List EvG) (ps : List PlG)
end
end Go.Proofs.YtamcloifhjafcaaDoor
namespace Go.Proofs.YtamcloifhjafcaaDoor
open Pw Go
set_option maxRecDepth 100000
set_option linter.unusedSimpArgs false
theorem evsR (ev : List EvG) : (evsA ev).sub (evsA ev) = True := eq_true evsA_refl
theorem mR (ps : List PlG) : (mA ps).sub (mA ps) = True := eq_true ⟨⟨rfl, fun _ _ => ⟨plA_refl _, rfl⟩, fun h => h⟩, trivial⟩
section
variable {x : NodeG} {w : Int} {hs : List HaveG} {es : List AggG} {ev : List EvG} {ps : List PlG}
end
end Go.Proofs.YtamcloifhjafcaaDoor
