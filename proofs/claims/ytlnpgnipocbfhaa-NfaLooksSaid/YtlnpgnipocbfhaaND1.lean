/- TREES, known 1: lines and trees of the chapter's examples: closed runs. -/
import Derived.Test.YtlnpgnipocbfhaaNL1
import Derived.KernelRfl
namespace Go.Proofs.Ytlnpgnipocbfhaa
open Pw Go
set_option maxRecDepth 100000
def kSlt (a:Int) (g:AV):AV:=.agg [.int .i64 a,g]
def kLin (l:List AV):AV:=.agg [.rol l false]
def kShownV:AV:=.rol [kLin [kSlt 0 .nils,kSlt 1 .nils],kLin [kSlt 0 .nils,kSlt 1 .nils,kSlt 2 .nils],kLin [kSlt 0 .nils,kSlt 1 (.rol [.int .i64 3] true)]] true
def kTwg (a:Int) (g:AV) (p:Int) (k:AV) (e:Bool) (n:Int):AV:=.agg [.int .i64 a,g,.int .i64 p,k,.bool e,.int .i64 n]
def kTreeP (p:Int):AV:=.agg [.rol [kTwg 0 .nils 0 (.rol [.int .i64 1] true) false (-1),kTwg 0 .nils 0 (.rol [.int .i64 2,.int .i64 4] true) false (-1),kTwg 1 .nils 1 (.rol [.int .i64 3] true) true 0,kTwg 2 .nils 2 .nils true 1,kTwg 1 (.rol [.int .i64 3] true) p .nils true 2] true]
theorem kShown_runs:PureC Try.prog gU 33 [] kShownV:=pure_runT (t:=tblOf []) (k:=60) (d:=9) mix (tblG_nil _ _) (by kernel_rfl)
theorem kCheck1:PureC Try.prog gU 9 [kTreeP 1] (.int .i64 0):=pure_runT (t:=tblOf []) (k:=60) (d:=9) mix (tblG_nil _ _) (by kernel_rfl)
def kCShown:Ctr:=litCtr [([],kShownV)]
theorem kShown_ok:PureG Try.prog gU 33 kCShown:=litCtr_cons kShown_runs (litCtr_nil _ _ _)
end Go.Proofs.Ytlnpgnipocbfhaa
