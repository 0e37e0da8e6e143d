/- WIRE 16: the law of writers, its code. -/
import Derived.Test.YtfgedkmopgkonaaW15
namespace Go.Proofs.Ytfgedkmopgkonaa
open Pw Go
set_option maxRecDepth 100000

noncomputable def tbl4 : List (Nat × Ctr) := (14, cPut) :: tbl3
theorem tbl4_ok : TblOK Try.prog (fun _ => .undef) (tblOf tbl4) := tbl_cons wputR_ok tbl3_ok

theorem putIntR_vc (s : List UInt8) (m e n : Int) (r : Wr) : (vcFun (mkE Try.prog (tblOf tbl4) (fun _ _ => none)) 20 16 [.agg [.str s, .int .i64 m, .int .i64 e], .int .i64 n] .nil 0 (retP 3 (.agg [.str r.s, .int .i64 r.most, .int .i64 r.err]))).sat = (
  NB
    (decide
      (s.length ≤ (9223372036854775807 : Nat) ∧ (0 : Int) ≤ IntKind.u64.wrap n ∧ IntKind.u64.wrap n ≤ (18446744073709551615 : Int) ∧ (-9223372036854775808 : Int) ≤ (8 : Int) ∧ (8 : Int) ≤ (9223372036854775807 : Int)))
    ((wrPut { s := s, most := m, err := e } (8 : Int) (IntKind.u64.wrap n)).s = r.s ∧
      (wrPut { s := s, most := m, err := e } (8 : Int) (IntKind.u64.wrap n)).most = r.most ∧ (wrPut { s := s, most := m, err := e } (8 : Int) (IntKind.u64.wrap n)).err = r.err ∧ True)) := by
  kernel_rfl

theorem putIntR_ok : PureF Try.prog 16 cPutI := by
  intro args nd v h hnd
  unfold cPutI at h
  split at h <;> cases h
  rename_i s m e n
  have hl := of_decide_eq_true hnd
  refine pure_vc mix tbl4_ok ((putIntR_vc s m e n (wrPutI ⟨s, m, e⟩ n)).mpr ?_)
  have h0 : IntKind.u64.wrap n % 18446744073709551616 = IntKind.u64.wrap n := by rw [wrap_u64]; omega
  have h1 : wrPut ⟨s, m, e⟩ 8 (IntKind.u64.wrap n) = wrPutI ⟨s, m, e⟩ n := by
    have h2 := numS_digS 8 (IntKind.u64.wrap n) (by rw [wrap_u64]; omega) (by decide)
    have h3 : numS (digS (IntKind.u64.wrap n) 8) = IntKind.u64.wrap n := by rw [h2, wrap_u64]; omega
    unfold wrPut wrPutI
    rw [show Int.toNat 8 = 8 from rfl, h3, if_neg (by simp [okSize]), digS_wrap8]
  rw [h1]
  refine NB_intro ?_ ⟨rfl, rfl, rfl, trivial⟩
  simp only [decide_eq_true_eq, wrap_u64]
  omega

noncomputable def tbl5 : List (Nat × Ctr) := [(11, cMake), (12, cMake), (13, cPut), (14, cPut), (15, cPutI), (16, cPutI),
  (17, cAdd), (18, cAdd), (19, cPutSized), (20, cPutSized), (21, cDone), (22, cDone),
  (10, cOwn), (23, cSame), (9, cAwake), (5, cAwake)]
theorem tbl5_ok : TblOK Try.prog (fun _ => .undef) (tblOf tbl5) := tbl_cons makeI_ok (tbl_cons makeR_ok (tbl_cons wputI_ok (tbl_cons wputR_ok (tbl_cons putIntI_ok (tbl_cons putIntR_ok (tbl_cons addI_ok (tbl_cons addR_ok (tbl_cons putSizedI_ok (tbl_cons putSizedR_ok
  (tbl_cons doneI_ok (tbl_cons doneR_ok (tbl_cons own_ok (tbl_cons same_ok (tbl_cons awake_ok (tbl_cons known_ok (tbl_nil _))))))))))))))))

end Go.Proofs.Ytfgedkmopgkonaa
