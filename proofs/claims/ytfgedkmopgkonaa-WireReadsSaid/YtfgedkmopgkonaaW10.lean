/- WireReads: whatever the reader and whatever is asked of it, the law answers true, and its arguments read as they did. -/
import Derived.Test.YtfgedkmopgkonaaW9
namespace Go.Proofs.Ytfgedkmopgkonaa
open Go.ChangeShapes Go.WideShapes Go.ChangeAt Go.RowKit

set_option maxRecDepth 100000
set_option linter.unusedSimpArgs false

theorem own : ownKnob Try.prog.godebug = none := by kernel_rfl
theorem laid : laidOutB Try.prog = true := by kernel_rfl

theorem reads_sat (s : List UInt8) (a e f n : Int) (w : List UInt8) (x y : Int) : (Pw.vcFun (Pw.mkE Try.prog (Pw.tblOf tbl2) fun _ _ => none) 20 4 [.agg [.str s, .int .i64 a, .int .i64 e, .int .i64 f], .agg [.int .i64 n, .str w, .int .i64 x, .int .i64 y]] .nil 0 (Pw.isBool true)).sat := by
  refine (reads_vc s a e f n w x y).mpr ?_
  refine Pw.VB_intro (fun _ => rfl) (fun h => ?_)
  simp only [Bool.or_eq_false_iff, decide_eq_false_iff_not] at h
  have h1 : s.length ≤ 9223372036854775807 := by omega
  have h2 : w.length ≤ 9223372036854775807 := by omega
  simp [Pw.VB, Pw.NB, h1, h2, Pw.impB, Pw.isW]

def witReads : Input := ⟨#[], #[.agg #[.string ⟨⟨[]⟩⟩, .int .i64 0, .int .i64 0, .int .i64 0], .agg #[.int .i64 0, .string ⟨⟨[]⟩⟩, .int .i64 0, .int .i64 0]], []⟩

set_option maxRecDepth 100000 in
theorem wireReads_lifted (os : Os) (started : os.Started) (H : Type) (enc : TypeId × Value → H) :
    ReturnsInHanded {} Try.checked os 4 .any (Rows.wireReadsSpec.pre6 enc Try.prog Try.f4 Rows.wireReadsRow.domain false) (Rows.wireReadsSpec.post enc Try.prog Try.f4 false true false false) := by
  refine returnsInHanded_of_change (C := Try.checked) own started (by kernel_rfl) Try.func4
    (ChangeSpec.witness6 (enc := enc) (C := Try.checked) false witReads 8 (by kernel_rfl) (by kernel_rfl) (by kernel_rfl) (by kernel_rfl)) ?_
  intro W base args ds gs before hval0 hW hcnd _
  have hW' := hW
  obtain ⟨p, q, hA0, hV, rfl, hfz, hnd⟩ := hW
  have hA : DataW.TrodAll enc Try.prog W 0 (fun _ => true) true Try.f4.params.toList args.toList ds p := hA0
  rw [Try.params4] at hA
  obtain ⟨rfl, rfl⟩ := trodVars_none hV
  obtain ⟨v1, vs1, d1, ds1, p1, q1, e1, rfl, -, -, hA⟩ := trodAll_cons hA
  obtain ⟨v2, vs2, d2, ds2, p2, q2, e2, rfl, -, -, hA⟩ := trodAll_cons hA
  obtain rfl : ds2 = [] := by cases vs2 <;> cases ds2 <;> simp [DataW.TrodAll] at hA ⊢
  refine (Pw.row_true (d := 12) (L := [.strct [.str, .int .i64, .strct [.int .i64, .int .i64]], .strct [.int .i64, .str, .int .i64, .int .i64]]) (by kernel_rfl) (Pw.mkE Try.prog (Pw.tblOf tbl2) fun _ _ => none) rfl (Pw.mkE_ctr tbl2_ok) (fun M => Pw.glob_undef M) (k := 20) (by kernel_rfl) hval0 hW'
    (fun g _ => reads_sat g.1.1 g.1.2.1 g.1.2.2.1.1 g.1.2.2.1.2.1 g.2.1.1 g.2.1.2.1 g.2.1.2.2.1 g.2.1.2.2.2.1)).mono fun e W' ⟨he, hk⟩ => ?_
  subst he
  exact ⟨_, rfl, Pw.post_true laid (by kernel_rfl) rfl rfl rfl rfl (by kernel_rfl) Try.underlying4 hW' hk⟩

theorem wireReads_holds : Rows.WireReadsSaid :=
  OpenClaim.holds_of_wide 4 Try.f4 rfl rfl rfl rfl rfl rfl rfl ⟨rfl, rfl, rfl, rfl, rfl⟩ rfl rfl rfl rfl rfl (by kernel_rfl) Try.func4 (by kernel_rfl)
    (of_decide_eq_true (by kernel_rfl)) (by unfold Func.isWrapper; first | (rw [if_pos (by decide +kernel)]; kernel_rfl) | (rw [if_neg (by decide +kernel)]; exact ⟨rfl, rfl⟩))
    (fun os started H enc _ => wireReads_lifted os started H enc)
end Go.Proofs.Ytfgedkmopgkonaa
