/- OP 13: To, right, Mod: conditions. -/
import Derived.Test.YtniihecdmcphgaaO10
namespace Go.Proofs.Ytniihecdmcphgaa
open Pw Go
set_option maxRecDepth 100000
set_option linter.unusedSimpArgs false
noncomputable def tblO : List (Nat × Ctr) := [(12, cBytes), (11, cClean), (15, cCheck), (13, cParse)]
theorem tblO_ok : TblOK Try.prog (fun _ => .undef) (tblOf tblO) := tbl_cons bytes_ok (tbl_cons clean_ok (tbl_cons check_ok (tbl_cons parse_ok (tbl_nil _))))
theorem awake_vc (r : Bool) : (vcFun (mkF Try.prog (tblOf tblO) (fun _ _ => none) 8) 60 9 [] .nil 0 (retP 3 (.bool r))).sat = ( true = r) := by
 kernel_rfl
def cAwake : Ctr
 | [] => some (true, .bool true)
 | _ => none
theorem awake_ok : PureF Try.prog 9 cAwake := by
 intro args nd v h hnd
 unfold cAwake at h
 split at h <;> cases h
 exact pure_vcF mix tblO_ok ((awake_vc _).mpr (by decide))
end Go.Proofs.Ytniihecdmcphgaa
