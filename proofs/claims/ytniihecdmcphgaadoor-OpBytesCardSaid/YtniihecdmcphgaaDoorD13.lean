/- OP 13: To, right, Mod: conditions. -/
import Derived.Test.YtniihecdmcphgaaDoorD10
namespace Go.Proofs.YtniihecdmcphgaaDoor
open Pw Go
set_option maxRecDepth 100000
set_option linter.unusedSimpArgs false

noncomputable def tblO : List (Nat × Ctr) := [(5, cBytes), (7, cClean), (9, cCheck), (17, cParse)]
theorem tblO_ok : TblOK Tryd.prog (fun _ => .undef) (tblOf tblO) := tbl_cons bytes_ok (tbl_cons clean_ok (tbl_cons check_ok (tbl_cons parse_ok (tbl_nil _))))

theorem to_vc (k t l n m il id : Int) (x : List UInt8) (r : Int) : (vcFun EW 20 11 [.agg [.int .i64 k, .int .i64 t, .int .u64 l, .str x, .int .i64 n, .int .i64 m, .int .u64 il, .int .u64 id]] .nil 0 (retP 3 (.int .i64 r))).sat = (
  VB (!(decide (k ≥ (1 : Int)) && decide (k ≤ (8 : Int))) || k == (4 : Int) || k == (5 : Int) || decide (t < (1 : Int)) || decide (t > (6 : Int))) ((0 : Int) = r) (t = r)) := by
  kernel_rfl

theorem awake_vc (r : Bool) : (vcFun (mkF Tryd.prog (tblOf tblO) (fun _ _ => none) 8) 60 4 [] .nil 0 (retP 3 (.bool r))).sat = (
  true = r) := by
  kernel_rfl

def cAwake : Ctr
  | [] => some (true, .bool true)
  | _ => none
theorem awake_ok : PureF Tryd.prog 4 cAwake := by
  intro args nd v h hnd
  unfold cAwake at h
  split at h <;> cases h
  exact pure_vcF mix tblO_ok ((awake_vc _).mpr (by decide))
def cTo : Ctr
  | [.agg [.int .i64 k, .int .i64 t, .int .u64 l, .str x, .int .i64 n, .int .i64 m, .int .u64 il, .int .u64 id]] => some (true, .int .i64 (opTo ⟨k, t, l, x, n, m, il, id⟩))
  | _ => none
theorem to_ok : PureF Tryd.prog 11 cTo := by
  intro args nd v h hnd
  unfold cTo at h
  split at h <;> cases h
  rename_i k t l x n m il id
  refine pure_vcF mix tblW_ok ((to_vc k t l n m il id x _).mpr ?_)
  repeat' (first
    | (with_reducible refine VB_intro (fun h => ?_) (fun h => ?_) <;> try simp only [h, VB_t, VB_f, NB_t, Bool.not_true, Bool.not_false, Bool.true_and, Bool.false_and, Bool.and_true, Bool.and_false])
    | (with_reducible refine NB_intro' ?_ (fun h => ?_)))
  all_goals try simp only [isW_t, isW_f, impB_t, impB_f, beq_iff_eq, bne_iff_ne, Bool.not_eq_eq_eq_not, Bool.not_true, Bool.not_false, Bool.and_eq_true, Bool.and_eq_false_iff, Bool.or_eq_true, Bool.or_eq_false_iff, beq_eq_false_iff_ne, decide_eq_true_eq, decide_eq_false_iff_not, EqI] at *
  all_goals try simp (disch := omega) only [wrap_i64_id, wrap_u64_id, Int.add_sub_cancel] at *
  all_goals try simp (disch := omega) only [wrap_i64_id, wrap_u64_id, Int.add_sub_cancel] at *
  all_goals try simp (disch := omega) only [wrap_i64_id, wrap_u64_id, Int.add_sub_cancel] at *
  all_goals try simp (disch := omega) only [wrap_i64_id, wrap_u64_id, Int.add_sub_cancel] at *
  all_goals try grind (splits := 20) [opTo]
end Go.Proofs.YtniihecdmcphgaaDoor
