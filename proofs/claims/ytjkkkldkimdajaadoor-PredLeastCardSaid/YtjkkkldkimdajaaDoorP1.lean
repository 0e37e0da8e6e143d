/- PRED 1: conditions, in Lean; their code. -/
import Derived.Test.YtjkkkldkimdajaaDoorRows
import Derived.Test.YtjkkkldkimdajaaDoorPwG7
namespace Go.Proofs.YtjkkkldkimdajaaDoor
open Pw Go
set_option maxRecDepth 100000
set_option linter.unusedSimpArgs false

theorem mix : Tryd.prog.follows .mixedOrders = true := by kernel_rfl
/-- Whether a comparison with c holds for x. -/
def opS (op c x : Int) : Bool :=
  if op = 1 then x == c else if op = 2 then x != c else if op = 3 then decide (x < c) else if op = 4 then decide (x ≤ c) else if op = 5 then decide (x > c) else decide (x ≥ c)
def okOp (op : Int) : Bool := decide (1 ≤ op) && decide (op ≤ 6)
noncomputable def E0 : Env := mkE Tryd.prog (tblOf []) fun _ _ => none

theorem holds1_vc (c x : Int) (r : Bool) : (vcFun E0 20 51 [.agg [.int .i64 1, .int .i64 c], .int .i64 x] .nil 0 (retP 3 (.bool r))).sat = (
  (x == c) = r) := by
  kernel_rfl

theorem holds2_vc (c x : Int) (r : Bool) : (vcFun E0 20 51 [.agg [.int .i64 2, .int .i64 c], .int .i64 x] .nil 0 (retP 3 (.bool r))).sat = (
  (x != c) = r) := by
  kernel_rfl

theorem holds3_vc (c x : Int) (r : Bool) : (vcFun E0 20 51 [.agg [.int .i64 3, .int .i64 c], .int .i64 x] .nil 0 (retP 3 (.bool r))).sat = (
  decide (x < c) = r) := by
  kernel_rfl

theorem holds4_vc (c x : Int) (r : Bool) : (vcFun E0 20 51 [.agg [.int .i64 4, .int .i64 c], .int .i64 x] .nil 0 (retP 3 (.bool r))).sat = (
  decide (x ≤ c) = r) := by
  kernel_rfl

theorem holds5_vc (c x : Int) (r : Bool) : (vcFun E0 20 51 [.agg [.int .i64 5, .int .i64 c], .int .i64 x] .nil 0 (retP 3 (.bool r))).sat = (
  decide (x > c) = r) := by
  kernel_rfl

theorem holds6_vc (c x : Int) (r : Bool) : (vcFun E0 20 51 [.agg [.int .i64 6, .int .i64 c], .int .i64 x] .nil 0 (retP 3 (.bool r))).sat = (
  decide (x ≥ c) = r) := by
  kernel_rfl

theorem condR_vc (op c x : Int) (r : Bool) (e : Int) : (vcFun E0 20 16 [.agg [.int .i64 op, .int .i64 c], .int .i64 x] .nil 0 (retP 3 (.tup [.bool r, .int .i64 e]))).sat = (
  VB (op == (1 : Int)) ((x == c) = r ∧ (0 : Int) = e ∧ True)
    (VB (op == (2 : Int)) ((x != c) = r ∧ (0 : Int) = e ∧ True)
      (VB (op == (3 : Int)) (decide (x < c) = r ∧ (0 : Int) = e ∧ True)
        (VB (op == (4 : Int)) (decide (x ≤ c) = r ∧ (0 : Int) = e ∧ True)
          (VB (op == (5 : Int)) (decide (x > c) = r ∧ (0 : Int) = e ∧ True) (VB (op == (6 : Int)) (decide (x ≥ c) = r ∧ (0 : Int) = e ∧ True) (false = r ∧ (11 : Int) = e ∧ True))))))) := by
  kernel_rfl

def cHolds : Ctr
  | [.agg [.int .i64 op, .int .i64 c], .int .i64 x] => some (decide (1 ≤ op ∧ op ≤ 6), .bool (opS op c x))
  | _ => none
theorem holds1_ok (c x : Int) : PureC Tryd.prog (fun _ => .undef) 51 [.agg [.int .i64 1, .int .i64 c], .int .i64 x] (.bool (opS 1 c x)) :=
  pure_vc (t := tblOf []) (inv := fun _ _ => none) (k := 20) (d := 3) mix (tbl_nil _) ((holds1_vc c x (opS 1 c x)).mpr (by simp [opS]))
theorem holds2_ok (c x : Int) : PureC Tryd.prog (fun _ => .undef) 51 [.agg [.int .i64 2, .int .i64 c], .int .i64 x] (.bool (opS 2 c x)) :=
  pure_vc (t := tblOf []) (inv := fun _ _ => none) (k := 20) (d := 3) mix (tbl_nil _) ((holds2_vc c x (opS 2 c x)).mpr (by simp [opS]))
theorem holds3_ok (c x : Int) : PureC Tryd.prog (fun _ => .undef) 51 [.agg [.int .i64 3, .int .i64 c], .int .i64 x] (.bool (opS 3 c x)) :=
  pure_vc (t := tblOf []) (inv := fun _ _ => none) (k := 20) (d := 3) mix (tbl_nil _) ((holds3_vc c x (opS 3 c x)).mpr (by simp [opS]))
theorem holds4_ok (c x : Int) : PureC Tryd.prog (fun _ => .undef) 51 [.agg [.int .i64 4, .int .i64 c], .int .i64 x] (.bool (opS 4 c x)) :=
  pure_vc (t := tblOf []) (inv := fun _ _ => none) (k := 20) (d := 3) mix (tbl_nil _) ((holds4_vc c x (opS 4 c x)).mpr (by simp [opS]))
theorem holds5_ok (c x : Int) : PureC Tryd.prog (fun _ => .undef) 51 [.agg [.int .i64 5, .int .i64 c], .int .i64 x] (.bool (opS 5 c x)) :=
  pure_vc (t := tblOf []) (inv := fun _ _ => none) (k := 20) (d := 3) mix (tbl_nil _) ((holds5_vc c x (opS 5 c x)).mpr (by simp [opS]))
theorem holds6_ok (c x : Int) : PureC Tryd.prog (fun _ => .undef) 51 [.agg [.int .i64 6, .int .i64 c], .int .i64 x] (.bool (opS 6 c x)) :=
  pure_vc (t := tblOf []) (inv := fun _ _ => none) (k := 20) (d := 3) mix (tbl_nil _) ((holds6_vc c x (opS 6 c x)).mpr (by simp [opS]))
theorem holds_ok : PureF Tryd.prog 51 cHolds := by
  intro args nd v h hnd
  unfold cHolds at h
  split at h <;> cases h
  rename_i op c x
  have hl := of_decide_eq_true hnd
  have h6 : op = 1 ∨ op = 2 ∨ op = 3 ∨ op = 4 ∨ op = 5 ∨ op = 6 := by omega
  rcases h6 with rfl | rfl | rfl | rfl | rfl | rfl
  · exact holds1_ok c x
  · exact holds2_ok c x
  · exact holds3_ok c x
  · exact holds4_ok c x
  · exact holds5_ok c x
  · exact holds6_ok c x
def condE (op : Int) : Int := if okOp op = true then 0 else 11
def condS (op c x : Int) : Bool := okOp op && opS op c x
def cCond : Ctr
  | [.agg [.int .i64 op, .int .i64 c], .int .i64 x] => some (true, .tup [.bool (condS op c x), .int .i64 (condE op)])
  | _ => none
theorem condR_ok : PureF Tryd.prog 16 cCond := by
  intro args nd v h hnd
  unfold cCond at h
  split at h <;> cases h
  rename_i op c x
  refine pure_vc mix (tbl_nil _) ((condR_vc op c x _ _).mpr ?_)
  repeat' (first
    | (with_reducible refine VB_intro (fun h => ?_) (fun h => ?_) <;> try simp only [h, VB_t, VB_f, NB_t, Bool.not_true, Bool.not_false, Bool.true_and, Bool.false_and, Bool.and_true, Bool.and_false])
    | (with_reducible refine NB_intro' ?_ (fun h => ?_)))
  all_goals try simp only [isW_t, isW_f, impB_t, impB_f, beq_iff_eq, bne_iff_ne, Bool.not_eq_eq_eq_not, Bool.not_true, Bool.not_false, Bool.and_eq_true, Bool.and_eq_false_iff, Bool.or_eq_true, Bool.or_eq_false_iff, beq_eq_false_iff_ne, decide_eq_true_eq, decide_eq_false_iff_not, EqI] at *
  all_goals try simp (disch := omega) only [wrap_i64_id, wrap_u64_id, Int.add_sub_cancel] at *
  all_goals try simp (disch := omega) only [wrap_i64_id, wrap_u64_id, Int.add_sub_cancel] at *
  all_goals try simp (disch := omega) only [wrap_i64_id, wrap_u64_id, Int.add_sub_cancel] at *
  all_goals try simp (disch := omega) only [wrap_i64_id, wrap_u64_id, Int.add_sub_cancel] at *
  all_goals try grind (splits := 20) [condS, condE, okOp, opS]
end Go.Proofs.YtjkkkldkimdajaaDoor
