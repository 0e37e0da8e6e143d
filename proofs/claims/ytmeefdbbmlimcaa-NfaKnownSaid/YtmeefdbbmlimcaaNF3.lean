/- NFA 3: the run of 'awake'. -/
import Derived.Test.YtmeefdbbmlimcaaNF2
namespace Go.Proofs.Ytmeefdbbmlimcaa
open Pw Go
set_option maxRecDepth 100000

theorem awake_runs : PureC Try.prog gU 13 [] (.bool true) := pure_runT (t := tblOf tblN) (k := 60) (d := 9) mix tblN_ok (by kernel_rfl)
def cAwake : Ctr := litCtr [([], .bool true)]
theorem awake_ok : PureG Try.prog gU 13 cAwake := litCtr_cons awake_runs (litCtr_nil _ _ _)
def tblK : List (Nat × Ctr) := [(13, cAwake), (14, cCheck), (20, cShown), (22, cSame)]
theorem tblK_ok : TblOK Try.prog gU (tblOf tblK) := tblG_cons awake_ok tblN_ok
end Go.Proofs.Ytmeefdbbmlimcaa
