/- NFA 1: lines and trees of the chapter's examples: closed runs. -/
import Derived.Test.YtmeefdbbmlimcaaRows
import Derived.Test.YtmeefdbbmlimcaaPwG5
import Derived.KernelRfl
namespace Go.Proofs.Ytmeefdbbmlimcaa
open Pw Go
set_option maxRecDepth 100000

theorem mix : Try.prog.follows .mixedOrders = true := by kernel_rfl
def gU : Nat → AV := fun _ => .undef
def slt (a : Int) (g : AV) : AV := .agg [.int .i64 a, g]
def lin (l : List AV) : AV := .agg [.rol l false]
def shownV : AV := .rol [lin [slt 0 .nils, slt 1 .nils], lin [slt 0 .nils, slt 1 .nils, slt 2 .nils], lin [slt 0 .nils, slt 1 (.rol [.int .i64 3] true)]] true
def twg (a : Int) (g : AV) (p : Int) (k : AV) (e : Bool) (n : Int) : AV := .agg [.int .i64 a, g, .int .i64 p, k, .bool e, .int .i64 n]
def treeP (p : Int) : AV := .agg [.rol [twg 0 .nils 0 (.rol [.int .i64 1] true) false (-1), twg 0 .nils 0 (.rol [.int .i64 2, .int .i64 4] true) false (-1), twg 1 .nils 1 (.rol [.int .i64 3] true) true 0, twg 2 .nils 2 .nils true 1, twg 1 (.rol [.int .i64 3] true) p .nils true 2] true]
theorem shown_runs : PureC Try.prog gU 20 [] shownV := pure_runT (t := tblOf []) (k := 60) (d := 9) mix (tblG_nil _ _) (by kernel_rfl)
theorem check1 : PureC Try.prog gU 14 [treeP 1] (.int .i64 0) := pure_runT (t := tblOf []) (k := 60) (d := 9) mix (tblG_nil _ _) (by kernel_rfl)
def cShown : Ctr := litCtr [([], shownV)]
theorem shown_ok : PureG Try.prog gU 20 cShown := litCtr_cons shown_runs (litCtr_nil _ _ _)
end Go.Proofs.Ytmeefdbbmlimcaa
