/- AGGREGATES 0: the package variable; the run of 'awake', which has no argument. -/
import Derived.Test.YtahgdngngpkeiaaDoorA4
namespace Go.Proofs.YtahgdngngpkeiaaDoor
open Pw Go
set_option maxRecDepth 100000

def gN : Nat → AV := strsG 0 [[99, 111, 117, 110, 116], [115, 117, 109], [109, 105, 110], [109, 97, 120], [102, 105, 114, 115, 116], [108, 97, 115, 116]]
def cAwake : Ctr
  | [] => some (true, .bool true)
  | _ => none
theorem awake_runs : (vcFun (clG Tryd.prog gN) 60 10 [] .nil 0 (isBool true)).chk = true := by kernel_rfl
theorem awake_ok : PureG Tryd.prog gN 10 cAwake := by
  intro args nd v h hnd
  unfold cAwake at h
  split at h <;> cases h
  exact pure_closedG mix awake_runs
end Go.Proofs.YtahgdngngpkeiaaDoor
