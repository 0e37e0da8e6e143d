/- RUNS 9: the call. -/
import Derived.Test.YtmeefdbbmlimcaaGreatDoorRK8
namespace Go.Proofs.YtmeefdbbmlimcaaGreatDoor
open Pw Go
set_option maxRecDepth 1000000
theorem known_calls {W : World} (hG : GlobOK (memOf W) gN) : Calls Tryz.prog 4 #[] W fun e W' => e = .returned (.bool true) ∧ Keep (fun _ => True) W W' := by
  have h := (p54 (memOf W) W #[] hG (fun B i v h => memOf_some h) ⟨rfl, fun i hi => by simp [a54] at hi⟩).2
  refine h.mono fun e W' ⟨u, M', h1, h2, _, _, _, h3⟩ => ⟨?_, h3⟩
  cases h2
  exact h1
end Go.Proofs.YtmeefdbbmlimcaaGreatDoor
