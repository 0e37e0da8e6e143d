/- WireBack: whatever the numbers, the sizes and the strings, the law answers true, and its arguments read as they did. -/
import Derived.Test.YtfgedkmopgkonaaW29m
import Derived.Test.YtfgedkmopgkonaaPwG7
namespace Go.Proofs.Ytfgedkmopgkonaa
open Go.ChangeShapes Go.WideShapes Go.ChangeAt Go.RowKit
set_option maxRecDepth 100000
set_option linter.unusedSimpArgs false

theorem own : ownKnob Try.prog.godebug = none := by kernel_rfl
theorem laid : laidOutB Try.prog = true := by kernel_rfl
def witRow : Input := ⟨#[], #[.slice none 0 0, .slice none 0 0, .slice none 0 0], []⟩

theorem row_says {H : Type} {enc : TypeId × Value → H} (W : World) (base : Nat) (args : Array Value) {ds gs : List (DataW H)} (ps : List MemPlace) (hval : ∀ (j : Nat) t v, Try.f7.params[j]? = some t → args[j]? = some v → Value.okWide Try.prog W .any base t v)
    (hW : DataW.Whole enc Try.prog Try.f7.params.toList [] false W args.toList ds gs ps) : Calls Try.prog 7 args W fun e W' => e = .returned (.bool true) ∧ Pw.Keep (fun _ => True) W W' := by
  obtain ⟨g, hw, hA⟩ := Pw.link_row (d := 12) (L := [.slice (.int .u64), .slice (.int .i64), .slice .str]) (by kernel_rfl) hval hW
  refine (Pw.start_pure (E := Pw.mkE Try.prog (Pw.tblOf tbl7) _) (by kernel_rfl) (Pw.mkE_ctr tbl7_ok) (Pw.glob_undef _) (fun B i v h => Pw.memOf_some h) hA
    (back_sat (List.length (α := Int) g.1) (fun i => List.getD (α := Int) g.1 i 0) (List.length (α := Int) g.2.1) (fun i => List.getD (α := Int) g.2.1 i 0) (List.length (α := List UInt8) g.2.2.1) (fun i => List.getD (α := List UInt8) g.2.2.1 i [])
      (fun i hi => Pw.wf_u64 (hw.1.2 i hi)) (Nat.le_trans hw.2.1.1 (by decide)) (by omega))).mono fun e W' ⟨v, x, ρ', M', hpt, nx', h1, h2, h3, h4⟩ => ?_
  rw [Pw.isBool_sat h4] at h2
  rw [h2.boolInv] at h1
  exact ⟨h1, h3⟩

set_option maxRecDepth 100000 in
theorem lifted (os : Os) (started : os.Started) (H : Type) (enc : TypeId × Value → H) :
    ReturnsInHanded {} Try.checked os 7 .any (Rows.wireBackSpec.pre6 enc Try.prog Try.f7 Rows.wireBackRow.domain false) (Rows.wireBackSpec.post enc Try.prog Try.f7 false true false false) := by
  refine returnsInHanded_of_change (C := Try.checked) own started (by kernel_rfl) Try.func7
    (ChangeSpec.witness6 (enc := enc) (C := Try.checked) false witRow 8 (by kernel_rfl) (by kernel_rfl) (by kernel_rfl) (by kernel_rfl)) ?_
  intro W base args ds gs before hval0 hW hcnd _
  have hW' := hW
  obtain ⟨p, q, hA0, hV, rfl, hfz, hnd⟩ := hW
  have hA : DataW.TrodAll enc Try.prog W 0 (fun _ => true) true Try.f7.params.toList args.toList ds p := hA0
  rw [Try.params7] at hA
  obtain ⟨rfl, rfl⟩ := trodVars_none hV
  obtain ⟨v1, vs1, d1, ds1, p1, q1, e1, rfl, -, -, hA⟩ := trodAll_cons hA
  obtain ⟨v2, vs2, d2, ds2, p2, q2, e2, rfl, -, -, hA⟩ := trodAll_cons hA
  obtain ⟨v3, vs3, d3, ds3, p3, q3, e3, rfl, -, -, hA⟩ := trodAll_cons hA
  obtain rfl : ds3 = [] := by cases vs3 <;> cases ds3 <;> simp [DataW.TrodAll] at hA ⊢
  refine (row_says W base args _ hval0 hW').mono fun e W' ⟨he, hk⟩ => ?_
  subst he
  exact ⟨_, rfl, Pw.post_true laid (by kernel_rfl) rfl rfl rfl rfl (by kernel_rfl) Try.underlying4 hW' hk⟩

theorem wireBack_holds : Rows.WireBackSaid :=
  OpenClaim.holds_of_wide 7 Try.f7 rfl rfl rfl rfl rfl rfl rfl ⟨rfl, rfl, rfl, rfl, rfl⟩ rfl rfl rfl rfl rfl (by kernel_rfl) Try.func7 (by kernel_rfl)
    (of_decide_eq_true (by kernel_rfl)) (by unfold Func.isWrapper; first | (rw [if_pos (by decide +kernel)]; kernel_rfl) | (rw [if_neg (by decide +kernel)]; exact ⟨rfl, rfl⟩))
    (fun os started H enc _ => lifted os started H enc)
end Go.Proofs.Ytfgedkmopgkonaa
