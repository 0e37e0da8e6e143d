/- WIRE 9: WireReads. -/
import Derived.Test.YtfgedkmopgkonaaW8
namespace Go.Proofs.Ytfgedkmopgkonaa
open Pw Go
set_option maxRecDepth 100000

def cAwake : Ctr
  | [] => some (true, .bool true)
  | _ => none
theorem awake_ok : PureF Try.prog 9 cAwake := by
  intro args nd v h hnd
  unfold cAwake at h
  split at h <;> cases h
  exact pure_closed (k := 20) mix (by kernel_rfl)
theorem known_ok : PureF Try.prog 5 cAwake := by
  intro args nd v h hnd
  unfold cAwake at h
  split at h <;> cases h
  exact pure_closed (k := 20) mix (by kernel_rfl)

def tbl2 : List (Nat × Ctr) := [(24, cUint), (25, cUint), (26, cInt), (27, cInt),
  (28, cBytes), (29, cBytes), (30, cSized), (31, cSized), (32, cWant), (33, cWant),
  (34, cFail), (35, cFail), (36, cEnd), (37, cEnd), (38, cRead), (39, cRead),
  (9, cAwake), (5, cAwake)]
theorem tbl2_ok : TblOK Try.prog (fun _ => .undef) (tblOf tbl2) := tbl_cons uintI_ok (tbl_cons uintR_ok (tbl_cons intI_ok (tbl_cons intR_ok (tbl_cons bytesI_ok (tbl_cons bytesR_ok (tbl_cons sizedI_ok (tbl_cons sizedR_ok (tbl_cons wantI_ok (tbl_cons wantR_ok
  (tbl_cons failI_ok (tbl_cons failR_ok (tbl_cons endI_ok (tbl_cons endR_ok (tbl_cons readI_ok (tbl_cons readR_ok (tbl_cons awake_ok (tbl_cons known_ok (tbl_nil _))))))))))))))))))

end Go.Proofs.Ytfgedkmopgkonaa
