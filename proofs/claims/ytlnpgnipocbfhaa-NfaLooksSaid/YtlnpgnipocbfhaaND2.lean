/- TREES, known 2: more closed runs. -/
import Derived.Test.YtlnpgnipocbfhaaND1
namespace Go.Proofs.Ytlnpgnipocbfhaa
open Pw Go
set_option maxRecDepth 100000
theorem kCheck2:PureC Try.prog gU 9 [kTreeP 0] (.int .i64 3):=pure_runT (t:=tblOf []) (k:=60) (d:=9) mix (tblG_nil _ _) (by kernel_rfl)
def kCCheck:Ctr:=litCtr [([kTreeP 1],.int .i64 0),([kTreeP 0],.int .i64 3)]
theorem kCheck_ok:PureG Try.prog gU 9 kCCheck:=litCtr_cons kCheck1 (litCtr_cons kCheck2 (litCtr_nil _ _ _))
def kTreeO:AV:=.agg [.rol [kTwg 0 .nils 0 (.rol [.int .i64 1] false) false (-1),kTwg 0 .nils 0 (.rol [.int .i64 2,.int .i64 4] false) false (-1),kTwg 1 .nils 1 (.rol [.int .i64 3] false) true 0,kTwg 2 .nils 2 .nils true 1,kTwg 1 (.rol [.int .i64 3] false) 1 .nils true 2] false]
theorem kSame1:PureC Try.prog gU 25 [kTreeO,kTreeP 1] (.bool true):=pure_runT (t:=tblOf []) (k:=60) (d:=9) mix (tblG_nil _ _) (by kernel_rfl)
def kCSame:Ctr:=litCtr [([kTreeO,kTreeP 1],.bool true)]
theorem kSame_ok:PureG Try.prog gU 25 kCSame:=litCtr_cons kSame1 (litCtr_nil _ _ _)
def kTblN:List (Nat×Ctr):=[(9,kCCheck),(33,kCShown),(25,kCSame)]
theorem kTblN_ok:TblOK Try.prog gU (tblOf kTblN):=tblG_cons kCheck_ok (tblG_cons kShown_ok (tblG_cons kSame_ok (tblG_nil _ _)))
end Go.Proofs.Ytlnpgnipocbfhaa
