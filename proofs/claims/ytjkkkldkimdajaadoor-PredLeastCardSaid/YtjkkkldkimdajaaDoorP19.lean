/- PRED 19: a condition made of numbers. -/
import Derived.Test.YtjkkkldkimdajaaDoorP18
namespace Go.Proofs.YtjkkkldkimdajaaDoor
open Pw Go
set_option maxRecDepth 100000
set_option linter.unusedSimpArgs false

theorem op_vc (a b x y : Int) : (vcFun (mkE Tryd.prog (tblOf tbl6) fun _ _ => none) 20 41 [.int .i64 a, .int .i64 b] .nil 0 (retP 3 (.agg [.int .i64 x, .int .i64 y]))).sat = (
  IntKind.i64.wrap ((1 : Int) + a % (6 : Int)) = x ∧ b = y ∧ True) := by
  kernel_rfl

def cOp : Ctr
  | [.int .i64 a, .int .i64 b] => some (true, .agg [.int .i64 (1 + a % 6), .int .i64 b])
  | _ => none
theorem op_ok : PureF Tryd.prog 41 cOp := by
  intro args nd v h hnd
  unfold cOp at h
  split at h <;> cases h
  rename_i a b
  refine pure_vc (t := tblOf tbl6) (inv := fun _ _ => none) (k := 20) (d := 3) mix tbl6_ok ((op_vc a b _ _).mpr ?_)
  have h1 := Int.emod_nonneg a (b := 6) (by omega)
  have h2 := Int.emod_lt_of_pos a (b := 6) (by omega)
  refine ?_
  refine ⟨wrap_i64_id (by omega) (by omega), rfl, trivial⟩
noncomputable def tbl7 : List (Nat × Ctr) := (41, cOp) :: (42, cMod) :: tbl5
theorem tbl7_ok : TblOK Tryd.prog (fun _ => .undef) (tblOf tbl7) := tbl_cons op_ok (tbl_cons mod_ok tbl5_ok)

end Go.Proofs.YtjkkkldkimdajaaDoor
