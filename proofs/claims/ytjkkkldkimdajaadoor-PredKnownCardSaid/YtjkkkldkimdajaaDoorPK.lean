/- PredKnown: the chapter's examples have the results given there: the call, which has no argument, answers true (the package variable ast.names tied to the program's text; the run passes it by). -/
import Derived.Test.YtjkkkldkimdajaaDoorRows
import Derived.Test.YtjkkkldkimdajaaDoorCards
import Derived.Test.YtjkkkldkimdajaaDoorTie
import Derived.Test.YtjkkkldkimdajaaDoorPwG1
import Derived.JoinedCond
import Derived.KernelRfl
import Derived.LaidMore
import Derived.Lay
import Derived.SevenTiedAt
import Derived.Stop.Joined
namespace Go.Proofs.YtjkkkldkimdajaaDoor
open Go.ChangeShapes Go.WideShapes Go.ChangeAt Go.RowKit
set_option maxRecDepth 100000

theorem own : ownKnob Tryd.prog.godebug = none := by kernel_rfl
theorem laidOut : laidOutB Tryd.prog = true := by kernel_rfl
theorem known_runs : (Pw.vcFun (Pw.noEnv Tryd.prog) 40 6 [] .nil 0 (Pw.isBool true)).chk = true := by kernel_rfl

theorem known_lifted (os : Os) (started : os.Started) (H : Type) (enc : TypeId × Value → H) :
    ReturnsInHanded {} Tryd.checked os 6 .any (fun w args => (Rows.predKnownSpec.pre enc Tryd.prog Tryd.f6 Rows.predKnownRow.domain false w args ∧ laidMetH Tryd.prog Rows.predKnownRow.laid w) ∧ sizedMet enc Tryd.prog Tryd.f6 (OpenSpec.ofChange Rows.predKnownSpec) false w args)
      (Rows.predKnownSpec.post enc Tryd.prog Tryd.f6 false true false false) := by
  refine returnsInHanded_of_change_and (C := Tryd.checked) (X := fun w _ => laidMetH Tryd.prog Rows.predKnownRow.laid w) (fun _ _ _ hh h => h.of_heap hh) own started (by kernel_rfl) Tryd.func6
    (ChangeSpec.witness_shaped (enc := enc) (C := Tryd.checked) (os := os) (X := fun w _ => laidMetH Tryd.prog Rows.predKnownRow.laid w) false (World.laidAll Tryd.prog os Rows.predKnownRow.laid) #[] 8 (World.laidAll_os _ _ _)
      (World.shaped_of_ZipB (by kernel_rfl) (by kernel_rfl)) (by kernel_rfl) (by kernel_rfl) (by kernel_rfl)
      (by rw [MakeChecks.laidMetH_plain _ _ _ (by kernel_rfl)]; exact laidMet_laidAll _ (by kernel_rfl) (by kernel_rfl))) ?_
  intro W base args ds gs before hval0 hW hcnd _ _ _
  have hW' := hW
  obtain ⟨p, q, hA0, hV, rfl, hfz, hnd⟩ := hW
  have hA : DataW.TrodAll enc Tryd.prog W 0 (fun _ => true) true Tryd.f6.params.toList args.toList ds p := hA0
  rw [Tryd.params6] at hA
  obtain ⟨rfl, rfl, rfl⟩ := trodAll_none hA
  obtain ⟨rfl, rfl⟩ := trodVars_none hV
  refine (Pw.closed_true (by kernel_rfl) known_runs W).mono fun e W' ⟨he, hk⟩ => ?_
  subst he
  exact ⟨_, rfl, Pw.post_true laidOut (by kernel_rfl) rfl rfl rfl rfl (by kernel_rfl) Tryd.underlying4 hW' hk⟩

theorem known_row_holds : Rows.PredKnownSaid :=
  OpenClaim.holds_of_wide 6 Tryd.f6 rfl rfl rfl rfl rfl rfl rfl ⟨rfl, rfl, rfl, rfl, rfl⟩ rfl rfl rfl rfl rfl (by kernel_rfl) Tryd.func6 (by kernel_rfl)
    (of_decide_eq_true (by kernel_rfl)) (by unfold Func.isWrapper; first | (rw [if_pos (by decide +kernel)]; kernel_rfl) | (rw [if_neg (by decide +kernel)]; exact ⟨rfl, rfl⟩))
    (fun os started H enc _ => known_lifted os started H enc)

theorem predKnown_holds : Rows.PredKnownCardSaid :=
  Claim7.holds_tied_plain_at .later [] [.widerDeep] true (true, "85bfcb0acc148af565d2b6c1d79863b79a4045ff91104a0bb33a4e9fe6975215") false
    known_row_holds (fun _ h => by cases h) (by kernel_rfl) (fun _ h => by cases h) predKnown_row_tie rfl ⟨rfl, rfl⟩ (by kernel_rfl) rfl
    (fun f fn hf hfn => by
      obtain rfl : f = 6 := Option.some.inj ((show Tryd.prog.funcNamed "partywall/partywalllaw13.PredKnown" = some 6 by kernel_rfl).symm.trans hf) |>.symm
      obtain rfl : fn = Tryd.f6 := (Option.some.inj (Tryd.func6.symm.trans hfn)).symm
      exact ⟨by kernel_rfl, fun j t ht => by
        rw [Tryd.params6] at ht
        simp at ht⟩)
    (by kernel_rfl)
end Go.Proofs.YtjkkkldkimdajaaDoor
