import Derived.Test.YtfgedkmopgkonaaRows
import Derived.Test.YtfgedkmopgkonaaPwG1
import Derived.JoinedCond
import Derived.KernelRfl
namespace Go.Proofs.Ytfgedkmopgkonaa
open Go.ChangeShapes Go.WideShapes Go.ChangeAt Go.RowKit

theorem own : ownKnob Try.prog.godebug = none := by kernel_rfl
theorem laid : laidOutB Try.prog = true := by kernel_rfl
theorem known_runs : (Pw.vcFun (Pw.noEnv Try.prog) 20 5 [] .nil 0 (Pw.isBool true)).chk = true := by kernel_rfl

set_option maxRecDepth 100000 in
theorem wireKnown_lifted (os : Os) (started : os.Started) (H : Type) (enc : TypeId × Value → H) :
    ReturnsInHanded {} Try.checked os 5 .any (Rows.wireKnownSpec.pre6 enc Try.prog Try.f5 Rows.wireKnownRow.domain false) (Rows.wireKnownSpec.post enc Try.prog Try.f5 false true false false) := by
  refine returnsInHanded_of_change (C := Try.checked) own started (by kernel_rfl) Try.func5
    (ChangeSpec.witness6 (enc := enc) (C := Try.checked) false ⟨#[], #[], []⟩ 8 (by kernel_rfl) (by kernel_rfl) (by kernel_rfl) (by kernel_rfl)) ?_
  intro W base args ds gs before hval0 hW hcnd _
  have hW' := hW
  obtain ⟨p, q, hA0, hV, rfl, hfz, hnd⟩ := hW
  have hA : DataW.TrodAll enc Try.prog W 0 (fun _ => true) true Try.f5.params.toList args.toList ds p := hA0
  rw [Try.params5] at hA
  obtain ⟨rfl, rfl, rfl⟩ := trodAll_none hA
  obtain ⟨rfl, rfl⟩ := trodVars_none hV
  refine (Pw.closed_true (by kernel_rfl) known_runs W).mono fun e W' ⟨he, hk⟩ => ?_
  subst he
  exact ⟨_, rfl, Pw.post_true laid (by kernel_rfl) rfl rfl rfl rfl (by kernel_rfl) Try.underlying4 hW' hk⟩

theorem wireKnown_holds : Rows.WireKnownSaid :=
  OpenClaim.holds_of_wide 5 Try.f5 rfl rfl rfl rfl rfl rfl rfl ⟨rfl, rfl, rfl, rfl, rfl⟩ rfl rfl rfl rfl rfl (by kernel_rfl) Try.func5 (by kernel_rfl)
    (of_decide_eq_true (by kernel_rfl)) (by unfold Func.isWrapper; first | (rw [if_pos (by decide +kernel)]; kernel_rfl) | (rw [if_neg (by decide +kernel)]; exact ⟨rfl, rfl⟩))
    (fun os started H enc _ => wireKnown_lifted os started H enc)
end Go.Proofs.Ytfgedkmopgkonaa
