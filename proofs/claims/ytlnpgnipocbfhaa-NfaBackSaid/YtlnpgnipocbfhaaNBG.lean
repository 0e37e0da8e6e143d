/- NfaBack: whatever the numbers, the law answers true. -/
import Derived.Test.YtlnpgnipocbfhaaNBF
import Derived.Test.YtlnpgnipocbfhaaPwG5
import Derived.Test.YtlnpgnipocbfhaaNBL
namespace Go.Proofs.Ytlnpgnipocbfhaa
open Go.ChangeShapes Go.WideShapes Go.ChangeAt Go.RowKit
set_option maxRecDepth 100000
set_option linter.unusedSimpArgs false
theorem own : ownKnob Try.prog.godebug = none := by kernel_rfl
theorem laid : laidOutB Try.prog = true := by kernel_rfl
def witRow : Input := ⟨#[], #[.slice none 0 0], []⟩
theorem row_says {H : Type} {enc : TypeId × Value → H} (W : World) (base : Nat) (args : Array Value) {ds gs : List (DataW H)} (ps : List MemPlace) (hval : ∀ (j : Nat) t v, Try.f4.params[j]? = some t → args[j]? = some v → Value.okWide Try.prog W .any base t v)
  (hW : DataW.Whole enc Try.prog Try.f4.params.toList [] false W args.toList ds gs ps) : Calls Try.prog 4 args W fun e W' => e = .returned (.bool true) ∧ Pw.Keep (fun _ => True) W W' := by
 obtain ⟨g, hw, hA⟩ := link_rowP (d := 12) (L := [.slice (.int .i64)]) (by kernel_rfl) hval hW
 exact row_of (back_pure g.1 (fun j hj => Pw.wf_i64 (hw.1.2 j hj))) hA
set_option maxRecDepth 100000 in
theorem lifted (os : Os) (started : os.Started) (H : Type) (enc : TypeId × Value → H) :
  ReturnsInHanded {} Try.checked os 4 .any (Rows.nfaBackSpec.pre6 enc Try.prog Try.f4 Rows.nfaBackRow.domain false) (Rows.nfaBackSpec.post enc Try.prog Try.f4 false true false false) := by
 refine returnsInHanded_of_change (C := Try.checked) own started (by kernel_rfl) Try.func4
  (ChangeSpec.witness6 (enc := enc) (C := Try.checked) false witRow 8 (by kernel_rfl) (by kernel_rfl) (by kernel_rfl) (by kernel_rfl)) ?_
 intro W base args ds gs before hval0 hW hcnd _
 have hW' := hW
 obtain ⟨p, q, hA0, hV, rfl, hfz, hnd⟩ := hW
 have hA : DataW.TrodAll enc Try.prog W 0 (fun _ => true) true Try.f4.params.toList args.toList ds p := hA0
 rw [Try.params4] at hA
 obtain ⟨rfl, rfl⟩ := trodVars_none hV
 obtain ⟨v1, vs1, d1, ds1, p1, q1, e1, rfl, -, -, hA⟩ := trodAll_cons hA
 obtain rfl : ds1 = [] := by cases vs1 <;> cases ds1 <;> simp [DataW.TrodAll] at hA ⊢
 refine (row_says W base args _ hval0 hW').mono fun e W' ⟨he, hk⟩ => ?_
 subst he
 exact ⟨_, rfl, Pw.post_true laid (by kernel_rfl) rfl rfl rfl rfl (by kernel_rfl) Try.underlying4 hW' hk⟩
theorem nfaBack_holds : Rows.NfaBackSaid :=
 OpenClaim.holds_of_wide 4 Try.f4 rfl rfl rfl rfl rfl rfl rfl ⟨rfl, rfl, rfl, rfl, rfl⟩ rfl rfl rfl rfl rfl (by kernel_rfl) Try.func4 (by kernel_rfl)
  (of_decide_eq_true (by kernel_rfl)) (by unfold Func.isWrapper; first | (rw [if_pos (by decide +kernel)]; kernel_rfl) | (rw [if_neg (by decide +kernel)]; exact ⟨rfl, rfl⟩))
  (fun os started H enc _ => lifted os started H enc)
end Go.Proofs.Ytlnpgnipocbfhaa
