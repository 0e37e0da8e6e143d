/- NFA 2: more closed runs. -/
import Derived.Test.YtmeefdbbmlimcaaNF1
namespace Go.Proofs.Ytmeefdbbmlimcaa
open Pw Go
set_option maxRecDepth 100000

theorem check2 : PureC Try.prog gU 14 [treeP 0] (.int .i64 3) := pure_runT (t := tblOf []) (k := 60) (d := 9) mix (tblG_nil _ _) (by kernel_rfl)
def cCheck : Ctr := litCtr [([treeP 1], .int .i64 0), ([treeP 0], .int .i64 3)]
theorem check_ok : PureG Try.prog gU 14 cCheck := litCtr_cons check1 (litCtr_cons check2 (litCtr_nil _ _ _))
def treeO : AV := .agg [.rol [twg 0 .nils 0 (.rol [.int .i64 1] false) false (-1), twg 0 .nils 0 (.rol [.int .i64 2, .int .i64 4] false) false (-1), twg 1 .nils 1 (.rol [.int .i64 3] false) true 0, twg 2 .nils 2 .nils true 1, twg 1 (.rol [.int .i64 3] false) 1 .nils true 2] false]
theorem same1 : PureC Try.prog gU 22 [treeO, treeP 1] (.bool true) := pure_runT (t := tblOf []) (k := 60) (d := 9) mix (tblG_nil _ _) (by kernel_rfl)
def cSame : Ctr := litCtr [([treeO, treeP 1], .bool true)]
theorem same_ok : PureG Try.prog gU 22 cSame := litCtr_cons same1 (litCtr_nil _ _ _)
def tblN : List (Nat × Ctr) := [(14, cCheck), (20, cShown), (22, cSame)]
theorem tblN_ok : TblOK Try.prog gU (tblOf tblN) := tblG_cons check_ok (tblG_cons shown_ok (tblG_cons same_ok (tblG_nil _ _)))
end Go.Proofs.Ytmeefdbbmlimcaa
