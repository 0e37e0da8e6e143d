/- FLOW 1: the queries of the chapter's examples are well-formed, or not: closed runs. -/
import Derived.Test.YtmeefdbbmlimcaaDoorRows
import Derived.Test.YtmeefdbbmlimcaaDoorPwG5
import Derived.KernelRfl
namespace Go.Proofs.YtmeefdbbmlimcaaDoor
open Pw Go
set_option maxRecDepth 100000

theorem mix : Tryd.prog.follows .mixedOrders = true := by kernel_rfl
def gN : Nat → AV := strsG 0 [[99, 111, 117, 110, 116], [115, 117, 109], [109, 105, 110], [109, 97, 120], [102, 105, 114, 115, 116], [108, 97, 115, 116]]
def node (k m a : Int) (b : Bool) (x : Int) : AV := .agg [.int .i64 k, .int .i64 m, .int .i64 m, .int .i64 a, .bool b, .int .u64 x, .nils, .str [], .nils]
def qry (l : List AV) (w : Int) : AV := .agg [.int .i64 3, .int .i64 0, .int .i64 0, .int .i64 0, .bool false, .int .u64 0, .nils, .str [], .rol l true, .int .u64 w, .nils, .nils]
def q1 : AV := qry [node 1 1 0 true 1, node 2 0 1 true 2, node 1 1 2 false 0] 5
def q2 : AV := qry [node 1 1 0 true 1, node 1 1 1 true 2] 5
def q3 : AV := qry [node 1 1 0 true 1, node 2 0 1 true 2, node 1 1 2 false 0] 10001
theorem wf1 : PureC Tryd.prog gN 17 [q1] (.int .i64 0) := pure_runT (t := tblOf []) (k := 60) (d := 9) mix (tblG_nil _ _) (by kernel_rfl)
theorem wf2 : PureC Tryd.prog gN 17 [q2] (.int .i64 0) := pure_runT (t := tblOf []) (k := 60) (d := 9) mix (tblG_nil _ _) (by kernel_rfl)
theorem wf3 : PureC Tryd.prog gN 17 [q3] (.int .i64 2) := pure_runT (t := tblOf []) (k := 60) (d := 9) mix (tblG_nil _ _) (by kernel_rfl)
def cWF : Ctr := litCtr [([q1], .int .i64 0), ([q2], .int .i64 0), ([q3], .int .i64 2)]
theorem wf_ok : PureG Tryd.prog gN 17 cWF := litCtr_cons wf1 (litCtr_cons wf2 (litCtr_cons wf3 (litCtr_nil _ _ _)))
def tblF : List (Nat × Ctr) := [(17, cWF)]
theorem tblF_ok : TblOK Tryd.prog gN (tblOf tblF) := tblG_cons wf_ok (tblG_nil _ _)
end Go.Proofs.YtmeefdbbmlimcaaDoor
