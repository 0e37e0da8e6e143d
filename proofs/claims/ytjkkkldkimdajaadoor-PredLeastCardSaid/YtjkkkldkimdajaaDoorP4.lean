/- PRED 4: the law of comparisons, its code. -/
import Derived.Test.YtjkkkldkimdajaaDoorP3
namespace Go.Proofs.YtjkkkldkimdajaaDoor
open Pw Go
set_option maxRecDepth 100000
set_option linter.unusedSimpArgs false

def cAwake : Ctr
  | [] => some (true, .bool true)
  | _ => none
theorem known_ok : PureF Tryd.prog 6 cAwake := by
  intro args nd v h hnd
  unfold cAwake at h
  split at h <;> cases h
  exact pure_closed (k := 40) mix (by kernel_rfl)
def tbl2 : List (Nat × Ctr) := [(15, cCond), (6, cAwake)]
theorem tbl2_ok : TblOK Tryd.prog (fun _ => .undef) (tblOf tbl2) := tbl_cons condI_ok (tbl_cons known_ok (tbl_nil _))

end Go.Proofs.YtjkkkldkimdajaaDoor
