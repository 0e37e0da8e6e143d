/- FLOW 2: the run of the chapter's examples. -/
import Derived.Test.YtmeefdbbmlimcaaDoorFL1
namespace Go.Proofs.YtmeefdbbmlimcaaDoor
open Pw Go
set_option maxRecDepth 100000

theorem awake_runs : PureC Tryd.prog gN 14 [] (.bool true) := pure_runT (t := tblOf tblF) (k := 60) (d := 9) mix tblF_ok (by kernel_rfl)
def cAwake : Ctr := litCtr [([], .bool true)]
theorem awake_ok : PureG Tryd.prog gN 14 cAwake := litCtr_cons awake_runs (litCtr_nil _ _ _)
def tblK : List (Nat × Ctr) := [(17, cWF), (14, cAwake)]
theorem tblK_ok : TblOK Tryd.prog gN (tblOf tblK) := tblG_cons wf_ok (tblG_cons awake_ok (tblG_nil _ _))
theorem known_runs : (vcFun (clT Tryd.prog gN (tblOf tblK)) 60 3 [] .nil 0 (isBool true)).chk = true := by kernel_rfl
theorem known_calls {W : World} (hG : GlobOK (memOf W) gN) : Calls Tryd.prog 3 #[] W fun e W' => e = .returned (.bool true) ∧ Keep (fun _ => True) W W' := closed_trueT mix tblK_ok known_runs hG
end Go.Proofs.YtmeefdbbmlimcaaDoor
