/- NFA 4: the run of the chapter's examples. -/
import Derived.Test.YtmeefdbbmlimcaaNF3
namespace Go.Proofs.Ytmeefdbbmlimcaa
open Pw Go
set_option maxRecDepth 100000

theorem known_runs : (vcFun (clT Try.prog gU (tblOf tblK)) 60 3 [] .nil 0 (isBool true)).chk = true := by kernel_rfl
theorem known_calls {W : World} : Calls Try.prog 3 #[] W fun e W' => e = .returned (.bool true) ∧ Keep (fun _ => True) W W' := closed_trueT mix tblK_ok known_runs (glob_undef _)
end Go.Proofs.Ytmeefdbbmlimcaa
