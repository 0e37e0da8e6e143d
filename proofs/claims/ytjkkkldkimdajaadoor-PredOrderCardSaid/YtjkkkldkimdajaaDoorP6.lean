/- PRED 6: the law of comparisons answers true. -/
import Derived.Test.YtjkkkldkimdajaaDoorP5
namespace Go.Proofs.YtjkkkldkimdajaaDoor
open Pw Go
set_option maxRecDepth 100000
set_option linter.unusedSimpArgs false

theorem order_sat (a b : Int) : (vcFun (mkF Tryd.prog (tblOf tbl2) (fun _ _ => none) 10) 20 7 [.int .i64 a, .int .i64 b] .nil 0 (isBool true)).sat := by
  refine (order_vc a b).mpr ?_
  have c1 : condS 1 a b = (b == a) := by simp [condS, okOp, opS]
  have c2 : condS 2 a b = (b != a) := by simp [condS, okOp, opS]
  have c3 : condS 3 a b = decide (b < a) := by simp [condS, okOp, opS]
  have c4 : condS 4 a b = decide (b ≤ a) := by simp [condS, okOp, opS]
  have c5 : condS 5 a b = decide (b > a) := by simp [condS, okOp, opS]
  have c6 : condS 6 a b = decide (b ≥ a) := by simp [condS, okOp, opS]
  rcases Int.lt_trichotomy b a with h | h | h
  · have e1 : (b == a) = false := by simp; omega
    have e2 : (b != a) = true := by simp; omega
    have e3 : decide (b < a) = true := by simp; omega
    have e4 : decide (b ≤ a) = true := by simp; omega
    have e5 : decide (b > a) = false := by simp; omega
    have e6 : decide (b ≥ a) = false := by simp; omega
    simp only [c1, c2, c3, c4, c5, c6, e1, e2, e3, e4, e5, e6, Bool.and_true, Bool.and_false, Bool.false_and, Bool.true_and, VB_t, VB_f]
    rfl
  · have e1 : (b == a) = true := by simp; omega
    have e2 : (b != a) = false := by simp; omega
    have e3 : decide (b < a) = false := by simp; omega
    have e4 : decide (b ≤ a) = true := by simp; omega
    have e5 : decide (b > a) = false := by simp; omega
    have e6 : decide (b ≥ a) = true := by simp; omega
    simp only [c1, c2, c3, c4, c5, c6, e1, e2, e3, e4, e5, e6, Bool.and_true, Bool.and_false, Bool.false_and, Bool.true_and, VB_t, VB_f]
    rfl
  · have e1 : (b == a) = false := by simp; omega
    have e2 : (b != a) = true := by simp; omega
    have e3 : decide (b < a) = false := by simp; omega
    have e4 : decide (b ≤ a) = false := by simp; omega
    have e5 : decide (b > a) = true := by simp; omega
    have e6 : decide (b ≥ a) = true := by simp; omega
    simp only [c1, c2, c3, c4, c5, c6, e1, e2, e3, e4, e5, e6, Bool.and_true, Bool.and_false, Bool.false_and, Bool.true_and, VB_t, VB_f]
    rfl
end Go.Proofs.YtjkkkldkimdajaaDoor
