/- AGGREGATES R: the run of the chapter's examples. -/
import Derived.Test.YtahgdngngpkeiaaDoorA0
namespace Go.Proofs.YtahgdngngpkeiaaDoor
open Pw Go
set_option maxRecDepth 100000

/-- A closed run, beside contracts. -/
theorem closed_trueE {E : Env} (hm : E.P.follows .mixedOrders = true) (hctr : CtrOK E) {f : FuncId} {k : Nat} (h : (vcFun E k f [] .nil 0 (isBool true)).chk = true) {W : World} (hG : GlobOK (memOf W) E.gl) :
    Calls E.P f #[] W fun e W' => e = .returned (.bool true) ∧ Keep (fun _ => True) W W' := by
  have := start_pure (E := E) (M := memOf W) (W := W) (vals := #[]) hm hctr hG (fun B i v h => memOf_some h) ⟨rfl, fun i hi => by simp at hi⟩ (VT.sat_of_chk _ h)
  refine this.mono fun e W' ⟨v, x, ρ', M', hpt, nx', h1, h2, h3, h4⟩ => ?_
  rw [isBool_sat h4] at h2
  rw [h2.boolInv] at h1
  exact ⟨h1, h3⟩
noncomputable def tblK : List (Nat × Ctr) := [(10, cAwake)]
theorem tblK_ok : TblOK Tryd.prog gN (tblOf tblK) := tblG_cons awake_ok (tblG_nil _ _)
noncomputable def EK : Env := { P := Tryd.prog, gl := gN, ctr := ctrOf (tblOf tblK), inv := fun _ _ => none, fuelL := 1000, cl := true }
theorem known_runs : (vcFun EK 60 7 [] .nil 0 (isBool true)).chk = true := by kernel_rfl
theorem known_calls {W : World} (hG : GlobOK (memOf W) gN) : Calls Tryd.prog 7 #[] W fun e W' => e = .returned (.bool true) ∧ Keep (fun _ => True) W W' :=
  closed_trueE (E := EK) mix (ctrOf_ok (E := EK) tblK_ok rfl) known_runs hG
end Go.Proofs.YtahgdngngpkeiaaDoor
