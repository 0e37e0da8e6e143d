/- WIRE 7: readers, their code. -/
import Derived.Test.YtfgedkmopgkonaaW5
import Derived.Test.YtfgedkmopgkonaaW6
namespace Go.Proofs.Ytfgedkmopgkonaa
open Pw Go
set_option maxRecDepth 100000

noncomputable def tbl1 : List (Nat × Ctr) := [(60, cNumU), (64, cNumI), (52, cNumU),
  (50, cDig .u64), (55, cDig .i64), (53, cDigR)]
theorem tbl1_ok : TblOK Try.prog (fun _ => .undef) (tblOf tbl1) := tbl_cons numU_ok (tbl_cons numI_ok (tbl_cons numR_ok (tbl_cons digU_ok (tbl_cons digI_ok (tbl_cons digR_ok (tbl_nil _))))))
noncomputable def E1 : Env := mkE Try.prog (tblOf tbl1) fun _ _ => none

theorem uintI_vc (s : List UInt8) (a e f n : Int) (r : Rd) (v : Int) : (vcFun E1 20 24 [.agg [.str s, .int .i64 a, .int .i64 e, .int .i64 f], .int .i64 n] .nil 0 (retP 3 (.tup [.agg [.str r.s, .int .i64 r.at_, .int .i64 r.err, .int .i64 r.fat], .int .u64 v]))).sat = (
  VB (e == 0)
    (VB (!(decide (a ≥ 0) && decide (a ≤ (↑s.length : Int)) && f == 0))
      (VB (!(n == 1 || n == 2 || n == 4 || n == 8)) (([] = r.s ∧ 0 = r.at_ ∧ 10 = r.err ∧ 0 = r.fat ∧ True) ∧ 0 = v ∧ True) (([] = r.s ∧ 0 = r.at_ ∧ 10 = r.err ∧ 0 = r.fat ∧ True) ∧ 0 = v ∧ True))
      (VB (!(n == 1 || n == 2 || n == 4 || n == 8))
        (VB (e == 0) ((s = r.s ∧ a = r.at_ ∧ 2 = r.err ∧ a = r.fat ∧ True) ∧ 0 = v ∧ True)
          (VB (!e == 0) ((s = r.s ∧ a = r.at_ ∧ e = r.err ∧ f = r.fat ∧ True) ∧ 0 = v ∧ True)
            (VB (decide (n < 0))
              (VB (e == 0) ((s = r.s ∧ a = r.at_ ∧ 2 = r.err ∧ a = r.fat ∧ True) ∧ numS [] = v ∧ True)
                (VB (!e == 0) ((s = r.s ∧ a = r.at_ ∧ e = r.err ∧ f = r.fat ∧ True) ∧ numS [] = v ∧ True)
                  (NB (decide (0 ≤ IntKind.i64.wrap (IntKind.i64.wrap (a + n) - n) ∧ IntKind.i64.wrap (IntKind.i64.wrap (a + n) - n) ≤ IntKind.i64.wrap (a + n) ∧ IntKind.i64.wrap (a + n) ≤ (↑s.length : Int)))
                    (NB
                      (decide
                        ((List.take ((IntKind.i64.wrap (a + n)).toNat - (IntKind.i64.wrap (IntKind.i64.wrap (a + n) - n)).toNat) (List.drop (IntKind.i64.wrap (IntKind.i64.wrap (a + n) - n)).toNat s)).length ≤
                          9223372036854775807))
                      ((s = r.s ∧ IntKind.i64.wrap (a + n) = r.at_ ∧ e = r.err ∧ f = r.fat ∧ True) ∧
                        numS (List.take ((IntKind.i64.wrap (a + n)).toNat - (IntKind.i64.wrap (IntKind.i64.wrap (a + n) - n)).toNat) (List.drop (IntKind.i64.wrap (IntKind.i64.wrap (a + n) - n)).toNat s)) = v ∧ True)))))
              (VB (decide (n > IntKind.i64.wrap ((↑s.length : Int) - a)))
                (VB (e == 0) ((s = r.s ∧ a = r.at_ ∧ 5 = r.err ∧ a = r.fat ∧ True) ∧ numS [] = v ∧ True)
                  (VB (!e == 0) ((s = r.s ∧ a = r.at_ ∧ e = r.err ∧ f = r.fat ∧ True) ∧ numS [] = v ∧ True)
                    (NB (decide (0 ≤ IntKind.i64.wrap (IntKind.i64.wrap (a + n) - n) ∧ IntKind.i64.wrap (IntKind.i64.wrap (a + n) - n) ≤ IntKind.i64.wrap (a + n) ∧ IntKind.i64.wrap (a + n) ≤ (↑s.length : Int)))
                      (NB
                        (decide
                          ((List.take ((IntKind.i64.wrap (a + n)).toNat - (IntKind.i64.wrap (IntKind.i64.wrap (a + n) - n)).toNat) (List.drop (IntKind.i64.wrap (IntKind.i64.wrap (a + n) - n)).toNat s)).length ≤
                            9223372036854775807))
                        ((s = r.s ∧ IntKind.i64.wrap (a + n) = r.at_ ∧ e = r.err ∧ f = r.fat ∧ True) ∧
                          numS (List.take ((IntKind.i64.wrap (a + n)).toNat - (IntKind.i64.wrap (IntKind.i64.wrap (a + n) - n)).toNat) (List.drop (IntKind.i64.wrap (IntKind.i64.wrap (a + n) - n)).toNat s)) = v ∧ True)))))
                (VB (!e == 0) ((s = r.s ∧ a = r.at_ ∧ e = r.err ∧ f = r.fat ∧ True) ∧ numS [] = v ∧ True)
                  (NB (decide (0 ≤ IntKind.i64.wrap (IntKind.i64.wrap (a + n) - n) ∧ IntKind.i64.wrap (IntKind.i64.wrap (a + n) - n) ≤ IntKind.i64.wrap (a + n) ∧ IntKind.i64.wrap (a + n) ≤ (↑s.length : Int)))
                    (NB
                      (decide
                        ((List.take ((IntKind.i64.wrap (a + n)).toNat - (IntKind.i64.wrap (IntKind.i64.wrap (a + n) - n)).toNat) (List.drop (IntKind.i64.wrap (IntKind.i64.wrap (a + n) - n)).toNat s)).length ≤
                          9223372036854775807))
                      ((s = r.s ∧ IntKind.i64.wrap (a + n) = r.at_ ∧ e = r.err ∧ f = r.fat ∧ True) ∧
                        numS (List.take ((IntKind.i64.wrap (a + n)).toNat - (IntKind.i64.wrap (IntKind.i64.wrap (a + n) - n)).toNat) (List.drop (IntKind.i64.wrap (IntKind.i64.wrap (a + n) - n)).toNat s)) = v ∧ True))))))))
        (VB (!e == 0) ((s = r.s ∧ a = r.at_ ∧ e = r.err ∧ f = r.fat ∧ True) ∧ 0 = v ∧ True)
          (VB (decide (n < 0))
            (VB (e == 0) ((s = r.s ∧ a = r.at_ ∧ 2 = r.err ∧ a = r.fat ∧ True) ∧ numS [] = v ∧ True)
              (VB (!e == 0) ((s = r.s ∧ a = r.at_ ∧ e = r.err ∧ f = r.fat ∧ True) ∧ numS [] = v ∧ True)
                (NB (decide (0 ≤ IntKind.i64.wrap (IntKind.i64.wrap (a + n) - n) ∧ IntKind.i64.wrap (IntKind.i64.wrap (a + n) - n) ≤ IntKind.i64.wrap (a + n) ∧ IntKind.i64.wrap (a + n) ≤ (↑s.length : Int)))
                  (NB
                    (decide
                      ((List.take ((IntKind.i64.wrap (a + n)).toNat - (IntKind.i64.wrap (IntKind.i64.wrap (a + n) - n)).toNat) (List.drop (IntKind.i64.wrap (IntKind.i64.wrap (a + n) - n)).toNat s)).length ≤
                        9223372036854775807))
                    ((s = r.s ∧ IntKind.i64.wrap (a + n) = r.at_ ∧ e = r.err ∧ f = r.fat ∧ True) ∧
                      numS (List.take ((IntKind.i64.wrap (a + n)).toNat - (IntKind.i64.wrap (IntKind.i64.wrap (a + n) - n)).toNat) (List.drop (IntKind.i64.wrap (IntKind.i64.wrap (a + n) - n)).toNat s)) = v ∧ True)))))
            (VB (decide (n > IntKind.i64.wrap ((↑s.length : Int) - a)))
              (VB (e == 0) ((s = r.s ∧ a = r.at_ ∧ 5 = r.err ∧ a = r.fat ∧ True) ∧ numS [] = v ∧ True)
                (VB (!e == 0) ((s = r.s ∧ a = r.at_ ∧ e = r.err ∧ f = r.fat ∧ True) ∧ numS [] = v ∧ True)
                  (NB (decide (0 ≤ IntKind.i64.wrap (IntKind.i64.wrap (a + n) - n) ∧ IntKind.i64.wrap (IntKind.i64.wrap (a + n) - n) ≤ IntKind.i64.wrap (a + n) ∧ IntKind.i64.wrap (a + n) ≤ (↑s.length : Int)))
                    (NB
                      (decide
                        ((List.take ((IntKind.i64.wrap (a + n)).toNat - (IntKind.i64.wrap (IntKind.i64.wrap (a + n) - n)).toNat) (List.drop (IntKind.i64.wrap (IntKind.i64.wrap (a + n) - n)).toNat s)).length ≤
                          9223372036854775807))
                      ((s = r.s ∧ IntKind.i64.wrap (a + n) = r.at_ ∧ e = r.err ∧ f = r.fat ∧ True) ∧
                        numS (List.take ((IntKind.i64.wrap (a + n)).toNat - (IntKind.i64.wrap (IntKind.i64.wrap (a + n) - n)).toNat) (List.drop (IntKind.i64.wrap (IntKind.i64.wrap (a + n) - n)).toNat s)) = v ∧ True)))))
              (VB (!e == 0) ((s = r.s ∧ a = r.at_ ∧ e = r.err ∧ f = r.fat ∧ True) ∧ numS [] = v ∧ True)
                (NB (decide (0 ≤ IntKind.i64.wrap (IntKind.i64.wrap (a + n) - n) ∧ IntKind.i64.wrap (IntKind.i64.wrap (a + n) - n) ≤ IntKind.i64.wrap (a + n) ∧ IntKind.i64.wrap (a + n) ≤ (↑s.length : Int)))
                  (NB
                    (decide
                      ((List.take ((IntKind.i64.wrap (a + n)).toNat - (IntKind.i64.wrap (IntKind.i64.wrap (a + n) - n)).toNat) (List.drop (IntKind.i64.wrap (IntKind.i64.wrap (a + n) - n)).toNat s)).length ≤
                        9223372036854775807))
                    ((s = r.s ∧ IntKind.i64.wrap (a + n) = r.at_ ∧ e = r.err ∧ f = r.fat ∧ True) ∧
                      numS (List.take ((IntKind.i64.wrap (a + n)).toNat - (IntKind.i64.wrap (IntKind.i64.wrap (a + n) - n)).toNat) (List.drop (IntKind.i64.wrap (IntKind.i64.wrap (a + n) - n)).toNat s)) = v ∧ True)))))))))
    (VB (!(decide (a ≥ 0) && decide (a ≤ (↑s.length : Int)) && decide (e ≥ 1) && decide (e ≤ 23) && decide (f ≥ 0) && decide (f ≤ (↑s.length : Int))))
      (VB (!(n == 1 || n == 2 || n == 4 || n == 8)) (([] = r.s ∧ 0 = r.at_ ∧ 10 = r.err ∧ 0 = r.fat ∧ True) ∧ 0 = v ∧ True) (([] = r.s ∧ 0 = r.at_ ∧ 10 = r.err ∧ 0 = r.fat ∧ True) ∧ 0 = v ∧ True))
      (VB (!(n == 1 || n == 2 || n == 4 || n == 8))
        (VB (e == 0) ((s = r.s ∧ a = r.at_ ∧ 2 = r.err ∧ a = r.fat ∧ True) ∧ 0 = v ∧ True)
          (VB (!e == 0) ((s = r.s ∧ a = r.at_ ∧ e = r.err ∧ f = r.fat ∧ True) ∧ 0 = v ∧ True)
            (VB (decide (n < 0))
              (VB (e == 0) ((s = r.s ∧ a = r.at_ ∧ 2 = r.err ∧ a = r.fat ∧ True) ∧ numS [] = v ∧ True)
                (VB (!e == 0) ((s = r.s ∧ a = r.at_ ∧ e = r.err ∧ f = r.fat ∧ True) ∧ numS [] = v ∧ True)
                  (NB (decide (0 ≤ IntKind.i64.wrap (IntKind.i64.wrap (a + n) - n) ∧ IntKind.i64.wrap (IntKind.i64.wrap (a + n) - n) ≤ IntKind.i64.wrap (a + n) ∧ IntKind.i64.wrap (a + n) ≤ (↑s.length : Int)))
                    (NB
                      (decide
                        ((List.take ((IntKind.i64.wrap (a + n)).toNat - (IntKind.i64.wrap (IntKind.i64.wrap (a + n) - n)).toNat) (List.drop (IntKind.i64.wrap (IntKind.i64.wrap (a + n) - n)).toNat s)).length ≤
                          9223372036854775807))
                      ((s = r.s ∧ IntKind.i64.wrap (a + n) = r.at_ ∧ e = r.err ∧ f = r.fat ∧ True) ∧
                        numS (List.take ((IntKind.i64.wrap (a + n)).toNat - (IntKind.i64.wrap (IntKind.i64.wrap (a + n) - n)).toNat) (List.drop (IntKind.i64.wrap (IntKind.i64.wrap (a + n) - n)).toNat s)) = v ∧ True)))))
              (VB (decide (n > IntKind.i64.wrap ((↑s.length : Int) - a)))
                (VB (e == 0) ((s = r.s ∧ a = r.at_ ∧ 5 = r.err ∧ a = r.fat ∧ True) ∧ numS [] = v ∧ True)
                  (VB (!e == 0) ((s = r.s ∧ a = r.at_ ∧ e = r.err ∧ f = r.fat ∧ True) ∧ numS [] = v ∧ True)
                    (NB (decide (0 ≤ IntKind.i64.wrap (IntKind.i64.wrap (a + n) - n) ∧ IntKind.i64.wrap (IntKind.i64.wrap (a + n) - n) ≤ IntKind.i64.wrap (a + n) ∧ IntKind.i64.wrap (a + n) ≤ (↑s.length : Int)))
                      (NB
                        (decide
                          ((List.take ((IntKind.i64.wrap (a + n)).toNat - (IntKind.i64.wrap (IntKind.i64.wrap (a + n) - n)).toNat) (List.drop (IntKind.i64.wrap (IntKind.i64.wrap (a + n) - n)).toNat s)).length ≤
                            9223372036854775807))
                        ((s = r.s ∧ IntKind.i64.wrap (a + n) = r.at_ ∧ e = r.err ∧ f = r.fat ∧ True) ∧
                          numS (List.take ((IntKind.i64.wrap (a + n)).toNat - (IntKind.i64.wrap (IntKind.i64.wrap (a + n) - n)).toNat) (List.drop (IntKind.i64.wrap (IntKind.i64.wrap (a + n) - n)).toNat s)) = v ∧ True)))))
                (VB (!e == 0) ((s = r.s ∧ a = r.at_ ∧ e = r.err ∧ f = r.fat ∧ True) ∧ numS [] = v ∧ True)
                  (NB (decide (0 ≤ IntKind.i64.wrap (IntKind.i64.wrap (a + n) - n) ∧ IntKind.i64.wrap (IntKind.i64.wrap (a + n) - n) ≤ IntKind.i64.wrap (a + n) ∧ IntKind.i64.wrap (a + n) ≤ (↑s.length : Int)))
                    (NB
                      (decide
                        ((List.take ((IntKind.i64.wrap (a + n)).toNat - (IntKind.i64.wrap (IntKind.i64.wrap (a + n) - n)).toNat) (List.drop (IntKind.i64.wrap (IntKind.i64.wrap (a + n) - n)).toNat s)).length ≤
                          9223372036854775807))
                      ((s = r.s ∧ IntKind.i64.wrap (a + n) = r.at_ ∧ e = r.err ∧ f = r.fat ∧ True) ∧
                        numS (List.take ((IntKind.i64.wrap (a + n)).toNat - (IntKind.i64.wrap (IntKind.i64.wrap (a + n) - n)).toNat) (List.drop (IntKind.i64.wrap (IntKind.i64.wrap (a + n) - n)).toNat s)) = v ∧ True))))))))
        (VB (!e == 0) ((s = r.s ∧ a = r.at_ ∧ e = r.err ∧ f = r.fat ∧ True) ∧ 0 = v ∧ True)
          (VB (decide (n < 0))
            (VB (e == 0) ((s = r.s ∧ a = r.at_ ∧ 2 = r.err ∧ a = r.fat ∧ True) ∧ numS [] = v ∧ True)
              (VB (!e == 0) ((s = r.s ∧ a = r.at_ ∧ e = r.err ∧ f = r.fat ∧ True) ∧ numS [] = v ∧ True)
                (NB (decide (0 ≤ IntKind.i64.wrap (IntKind.i64.wrap (a + n) - n) ∧ IntKind.i64.wrap (IntKind.i64.wrap (a + n) - n) ≤ IntKind.i64.wrap (a + n) ∧ IntKind.i64.wrap (a + n) ≤ (↑s.length : Int)))
                  (NB
                    (decide
                      ((List.take ((IntKind.i64.wrap (a + n)).toNat - (IntKind.i64.wrap (IntKind.i64.wrap (a + n) - n)).toNat) (List.drop (IntKind.i64.wrap (IntKind.i64.wrap (a + n) - n)).toNat s)).length ≤
                        9223372036854775807))
                    ((s = r.s ∧ IntKind.i64.wrap (a + n) = r.at_ ∧ e = r.err ∧ f = r.fat ∧ True) ∧
                      numS (List.take ((IntKind.i64.wrap (a + n)).toNat - (IntKind.i64.wrap (IntKind.i64.wrap (a + n) - n)).toNat) (List.drop (IntKind.i64.wrap (IntKind.i64.wrap (a + n) - n)).toNat s)) = v ∧ True)))))
            (VB (decide (n > IntKind.i64.wrap ((↑s.length : Int) - a)))
              (VB (e == 0) ((s = r.s ∧ a = r.at_ ∧ 5 = r.err ∧ a = r.fat ∧ True) ∧ numS [] = v ∧ True)
                (VB (!e == 0) ((s = r.s ∧ a = r.at_ ∧ e = r.err ∧ f = r.fat ∧ True) ∧ numS [] = v ∧ True)
                  (NB (decide (0 ≤ IntKind.i64.wrap (IntKind.i64.wrap (a + n) - n) ∧ IntKind.i64.wrap (IntKind.i64.wrap (a + n) - n) ≤ IntKind.i64.wrap (a + n) ∧ IntKind.i64.wrap (a + n) ≤ (↑s.length : Int)))
                    (NB
                      (decide
                        ((List.take ((IntKind.i64.wrap (a + n)).toNat - (IntKind.i64.wrap (IntKind.i64.wrap (a + n) - n)).toNat) (List.drop (IntKind.i64.wrap (IntKind.i64.wrap (a + n) - n)).toNat s)).length ≤
                          9223372036854775807))
                      ((s = r.s ∧ IntKind.i64.wrap (a + n) = r.at_ ∧ e = r.err ∧ f = r.fat ∧ True) ∧
                        numS (List.take ((IntKind.i64.wrap (a + n)).toNat - (IntKind.i64.wrap (IntKind.i64.wrap (a + n) - n)).toNat) (List.drop (IntKind.i64.wrap (IntKind.i64.wrap (a + n) - n)).toNat s)) = v ∧ True)))))
              (VB (!e == 0) ((s = r.s ∧ a = r.at_ ∧ e = r.err ∧ f = r.fat ∧ True) ∧ numS [] = v ∧ True)
                (NB (decide (0 ≤ IntKind.i64.wrap (IntKind.i64.wrap (a + n) - n) ∧ IntKind.i64.wrap (IntKind.i64.wrap (a + n) - n) ≤ IntKind.i64.wrap (a + n) ∧ IntKind.i64.wrap (a + n) ≤ (↑s.length : Int)))
                  (NB
                    (decide
                      ((List.take ((IntKind.i64.wrap (a + n)).toNat - (IntKind.i64.wrap (IntKind.i64.wrap (a + n) - n)).toNat) (List.drop (IntKind.i64.wrap (IntKind.i64.wrap (a + n) - n)).toNat s)).length ≤
                        9223372036854775807))
                    ((s = r.s ∧ IntKind.i64.wrap (a + n) = r.at_ ∧ e = r.err ∧ f = r.fat ∧ True) ∧
                      numS (List.take ((IntKind.i64.wrap (a + n)).toNat - (IntKind.i64.wrap (IntKind.i64.wrap (a + n) - n)).toNat) (List.drop (IntKind.i64.wrap (IntKind.i64.wrap (a + n) - n)).toNat s)) = v ∧ True)))))))))) := by
  kernel_rfl

theorem uintR_vc (s : List UInt8) (a e f n : Int) (r : Rd) (v : Int) : (vcFun E1 20 25 [.agg [.str s, .int .i64 a, .int .i64 e, .int .i64 f], .int .i64 n] .nil 0 (retP 3 (.tup [.agg [.str r.s, .int .i64 r.at_, .int .i64 r.err, .int .i64 r.fat], .int .u64 v]))).sat = (
  VB (e == 0)
    (VB (!(decide (a ≥ 0) && decide (a ≤ (↑s.length : Int)) && f == 0))
      (VB (!(n == 1 || n == 2 || n == 4 || n == 8)) (([] = r.s ∧ 0 = r.at_ ∧ 10 = r.err ∧ 0 = r.fat ∧ True) ∧ 0 = v ∧ True) (([] = r.s ∧ 0 = r.at_ ∧ 10 = r.err ∧ 0 = r.fat ∧ True) ∧ numS [] = v ∧ True))
      (VB (!(n == 1 || n == 2 || n == 4 || n == 8)) (VB (e == 0) ((s = r.s ∧ a = r.at_ ∧ 2 = r.err ∧ a = r.fat ∧ True) ∧ 0 = v ∧ True) ((s = r.s ∧ a = r.at_ ∧ e = r.err ∧ f = r.fat ∧ True) ∧ 0 = v ∧ True))
        (VB (e != 0) ((s = r.s ∧ a = r.at_ ∧ e = r.err ∧ f = r.fat ∧ True) ∧ numS [] = v ∧ True)
          (VB (decide (IntKind.i64.wrap ((↑s.length : Int) - a) < n))
            (VB (e == 0) ((s = r.s ∧ a = r.at_ ∧ 5 = r.err ∧ a = r.fat ∧ True) ∧ numS [] = v ∧ True) ((s = r.s ∧ a = r.at_ ∧ e = r.err ∧ f = r.fat ∧ True) ∧ numS [] = v ∧ True))
            (NB (decide (0 ≤ a ∧ a ≤ IntKind.i64.wrap (a + n) ∧ IntKind.i64.wrap (a + n) ≤ (↑s.length : Int)))
              (NB (decide ((List.take ((IntKind.i64.wrap (a + n)).toNat - a.toNat) (List.drop a.toNat s)).length ≤ 9223372036854775807))
                ((s = r.s ∧ IntKind.i64.wrap (a + n) = r.at_ ∧ e = r.err ∧ f = r.fat ∧ True) ∧ numS (List.take ((IntKind.i64.wrap (a + n)).toNat - a.toNat) (List.drop a.toNat s)) = v ∧ True)))))))
    (VB (!(decide (a ≥ 0) && decide (a ≤ (↑s.length : Int)) && decide (e ≥ 1) && decide (e ≤ 23) && decide (f ≥ 0) && decide (f ≤ (↑s.length : Int))))
      (VB (!(n == 1 || n == 2 || n == 4 || n == 8)) (([] = r.s ∧ 0 = r.at_ ∧ 10 = r.err ∧ 0 = r.fat ∧ True) ∧ 0 = v ∧ True) (([] = r.s ∧ 0 = r.at_ ∧ 10 = r.err ∧ 0 = r.fat ∧ True) ∧ numS [] = v ∧ True))
      (VB (!(n == 1 || n == 2 || n == 4 || n == 8)) (VB (e == 0) ((s = r.s ∧ a = r.at_ ∧ 2 = r.err ∧ a = r.fat ∧ True) ∧ 0 = v ∧ True) ((s = r.s ∧ a = r.at_ ∧ e = r.err ∧ f = r.fat ∧ True) ∧ 0 = v ∧ True))
        (VB (e != 0) ((s = r.s ∧ a = r.at_ ∧ e = r.err ∧ f = r.fat ∧ True) ∧ numS [] = v ∧ True)
          (VB (decide (IntKind.i64.wrap ((↑s.length : Int) - a) < n))
            (VB (e == 0) ((s = r.s ∧ a = r.at_ ∧ 5 = r.err ∧ a = r.fat ∧ True) ∧ numS [] = v ∧ True) ((s = r.s ∧ a = r.at_ ∧ e = r.err ∧ f = r.fat ∧ True) ∧ numS [] = v ∧ True))
            (NB (decide (0 ≤ a ∧ a ≤ IntKind.i64.wrap (a + n) ∧ IntKind.i64.wrap (a + n) ≤ (↑s.length : Int)))
              (NB (decide ((List.take ((IntKind.i64.wrap (a + n)).toNat - a.toNat) (List.drop a.toNat s)).length ≤ 9223372036854775807))
                ((s = r.s ∧ IntKind.i64.wrap (a + n) = r.at_ ∧ e = r.err ∧ f = r.fat ∧ True) ∧ numS (List.take ((IntKind.i64.wrap (a + n)).toNat - a.toNat) (List.drop a.toNat s)) = v ∧ True)))))))) := by
  kernel_rfl

theorem intI_vc (s : List UInt8) (a e f : Int) (r : Rd) (v : Int) : (vcFun E1 20 26 [.agg [.str s, .int .i64 a, .int .i64 e, .int .i64 f]] .nil 0 (retP 3 (.tup [.agg [.str r.s, .int .i64 r.at_, .int .i64 r.err, .int .i64 r.fat], .int .i64 v]))).sat = (
  VB (e == 0)
    (VB (!(decide (a ≥ 0) && decide (a ≤ (↑s.length : Int)) && f == 0)) (([] = r.s ∧ 0 = r.at_ ∧ 10 = r.err ∧ 0 = r.fat ∧ True) ∧ IntKind.i64.wrap (numS []) = v ∧ True)
      (VB (decide (8 > IntKind.i64.wrap ((↑s.length : Int) - a)))
        (VB (e == 0) ((s = r.s ∧ a = r.at_ ∧ 5 = r.err ∧ a = r.fat ∧ True) ∧ IntKind.i64.wrap (numS []) = v ∧ True)
          (VB (!e == 0) ((s = r.s ∧ a = r.at_ ∧ e = r.err ∧ f = r.fat ∧ True) ∧ IntKind.i64.wrap (numS []) = v ∧ True)
            (NB (decide (0 ≤ IntKind.i64.wrap (IntKind.i64.wrap (a + 8) - 8) ∧ IntKind.i64.wrap (IntKind.i64.wrap (a + 8) - 8) ≤ IntKind.i64.wrap (a + 8) ∧ IntKind.i64.wrap (a + 8) ≤ (↑s.length : Int)))
              (NB
                (decide
                  ((List.take ((IntKind.i64.wrap (a + 8)).toNat - (IntKind.i64.wrap (IntKind.i64.wrap (a + 8) - 8)).toNat) (List.drop (IntKind.i64.wrap (IntKind.i64.wrap (a + 8) - 8)).toNat s)).length ≤
                    9223372036854775807))
                ((s = r.s ∧ IntKind.i64.wrap (a + 8) = r.at_ ∧ e = r.err ∧ f = r.fat ∧ True) ∧
                  IntKind.i64.wrap (numS (List.take ((IntKind.i64.wrap (a + 8)).toNat - (IntKind.i64.wrap (IntKind.i64.wrap (a + 8) - 8)).toNat) (List.drop (IntKind.i64.wrap (IntKind.i64.wrap (a + 8) - 8)).toNat s))) = v ∧
                    True)))))
        (VB (!e == 0) ((s = r.s ∧ a = r.at_ ∧ e = r.err ∧ f = r.fat ∧ True) ∧ IntKind.i64.wrap (numS []) = v ∧ True)
          (NB (decide (0 ≤ IntKind.i64.wrap (IntKind.i64.wrap (a + 8) - 8) ∧ IntKind.i64.wrap (IntKind.i64.wrap (a + 8) - 8) ≤ IntKind.i64.wrap (a + 8) ∧ IntKind.i64.wrap (a + 8) ≤ (↑s.length : Int)))
            (NB
              (decide
                ((List.take ((IntKind.i64.wrap (a + 8)).toNat - (IntKind.i64.wrap (IntKind.i64.wrap (a + 8) - 8)).toNat) (List.drop (IntKind.i64.wrap (IntKind.i64.wrap (a + 8) - 8)).toNat s)).length ≤ 9223372036854775807))
              ((s = r.s ∧ IntKind.i64.wrap (a + 8) = r.at_ ∧ e = r.err ∧ f = r.fat ∧ True) ∧
                IntKind.i64.wrap (numS (List.take ((IntKind.i64.wrap (a + 8)).toNat - (IntKind.i64.wrap (IntKind.i64.wrap (a + 8) - 8)).toNat) (List.drop (IntKind.i64.wrap (IntKind.i64.wrap (a + 8) - 8)).toNat s))) = v ∧
                  True))))))
    (VB (!(decide (a ≥ 0) && decide (a ≤ (↑s.length : Int)) && decide (e ≥ 1) && decide (e ≤ 23) && decide (f ≥ 0) && decide (f ≤ (↑s.length : Int))))
      (([] = r.s ∧ 0 = r.at_ ∧ 10 = r.err ∧ 0 = r.fat ∧ True) ∧ IntKind.i64.wrap (numS []) = v ∧ True)
      (VB (decide (8 > IntKind.i64.wrap ((↑s.length : Int) - a)))
        (VB (e == 0) ((s = r.s ∧ a = r.at_ ∧ 5 = r.err ∧ a = r.fat ∧ True) ∧ IntKind.i64.wrap (numS []) = v ∧ True)
          (VB (!e == 0) ((s = r.s ∧ a = r.at_ ∧ e = r.err ∧ f = r.fat ∧ True) ∧ IntKind.i64.wrap (numS []) = v ∧ True)
            (NB (decide (0 ≤ IntKind.i64.wrap (IntKind.i64.wrap (a + 8) - 8) ∧ IntKind.i64.wrap (IntKind.i64.wrap (a + 8) - 8) ≤ IntKind.i64.wrap (a + 8) ∧ IntKind.i64.wrap (a + 8) ≤ (↑s.length : Int)))
              (NB
                (decide
                  ((List.take ((IntKind.i64.wrap (a + 8)).toNat - (IntKind.i64.wrap (IntKind.i64.wrap (a + 8) - 8)).toNat) (List.drop (IntKind.i64.wrap (IntKind.i64.wrap (a + 8) - 8)).toNat s)).length ≤
                    9223372036854775807))
                ((s = r.s ∧ IntKind.i64.wrap (a + 8) = r.at_ ∧ e = r.err ∧ f = r.fat ∧ True) ∧
                  IntKind.i64.wrap (numS (List.take ((IntKind.i64.wrap (a + 8)).toNat - (IntKind.i64.wrap (IntKind.i64.wrap (a + 8) - 8)).toNat) (List.drop (IntKind.i64.wrap (IntKind.i64.wrap (a + 8) - 8)).toNat s))) = v ∧
                    True)))))
        (VB (!e == 0) ((s = r.s ∧ a = r.at_ ∧ e = r.err ∧ f = r.fat ∧ True) ∧ IntKind.i64.wrap (numS []) = v ∧ True)
          (NB (decide (0 ≤ IntKind.i64.wrap (IntKind.i64.wrap (a + 8) - 8) ∧ IntKind.i64.wrap (IntKind.i64.wrap (a + 8) - 8) ≤ IntKind.i64.wrap (a + 8) ∧ IntKind.i64.wrap (a + 8) ≤ (↑s.length : Int)))
            (NB
              (decide
                ((List.take ((IntKind.i64.wrap (a + 8)).toNat - (IntKind.i64.wrap (IntKind.i64.wrap (a + 8) - 8)).toNat) (List.drop (IntKind.i64.wrap (IntKind.i64.wrap (a + 8) - 8)).toNat s)).length ≤ 9223372036854775807))
              ((s = r.s ∧ IntKind.i64.wrap (a + 8) = r.at_ ∧ e = r.err ∧ f = r.fat ∧ True) ∧
                IntKind.i64.wrap (numS (List.take ((IntKind.i64.wrap (a + 8)).toNat - (IntKind.i64.wrap (IntKind.i64.wrap (a + 8) - 8)).toNat) (List.drop (IntKind.i64.wrap (IntKind.i64.wrap (a + 8) - 8)).toNat s))) = v ∧
                  True))))))) := by
  kernel_rfl

theorem intR_vc (s : List UInt8) (a e f : Int) (r : Rd) (v : Int) : (vcFun E1 20 27 [.agg [.str s, .int .i64 a, .int .i64 e, .int .i64 f]] .nil 0 (retP 3 (.tup [.agg [.str r.s, .int .i64 r.at_, .int .i64 r.err, .int .i64 r.fat], .int .i64 v]))).sat = (
  VB (e == 0)
    (VB (!(decide (a ≥ 0) && decide (a ≤ (↑s.length : Int)) && f == 0)) (([] = r.s ∧ 0 = r.at_ ∧ 10 = r.err ∧ 0 = r.fat ∧ True) ∧ IntKind.i64.wrap (numS []) = v ∧ True)
      (VB (e != 0) ((s = r.s ∧ a = r.at_ ∧ e = r.err ∧ f = r.fat ∧ True) ∧ IntKind.i64.wrap (numS []) = v ∧ True)
        (VB (decide (IntKind.i64.wrap ((↑s.length : Int) - a) < 8))
          (VB (e == 0) ((s = r.s ∧ a = r.at_ ∧ 5 = r.err ∧ a = r.fat ∧ True) ∧ IntKind.i64.wrap (numS []) = v ∧ True) ((s = r.s ∧ a = r.at_ ∧ e = r.err ∧ f = r.fat ∧ True) ∧ IntKind.i64.wrap (numS []) = v ∧ True))
          (NB (decide (0 ≤ a ∧ a ≤ IntKind.i64.wrap (a + 8) ∧ IntKind.i64.wrap (a + 8) ≤ (↑s.length : Int)))
            (NB (decide ((List.take ((IntKind.i64.wrap (a + 8)).toNat - a.toNat) (List.drop a.toNat s)).length ≤ 9223372036854775807))
              ((s = r.s ∧ IntKind.i64.wrap (a + 8) = r.at_ ∧ e = r.err ∧ f = r.fat ∧ True) ∧ IntKind.i64.wrap (numS (List.take ((IntKind.i64.wrap (a + 8)).toNat - a.toNat) (List.drop a.toNat s))) = v ∧ True))))))
    (VB (!(decide (a ≥ 0) && decide (a ≤ (↑s.length : Int)) && decide (e ≥ 1) && decide (e ≤ 23) && decide (f ≥ 0) && decide (f ≤ (↑s.length : Int))))
      (([] = r.s ∧ 0 = r.at_ ∧ 10 = r.err ∧ 0 = r.fat ∧ True) ∧ IntKind.i64.wrap (numS []) = v ∧ True)
      (VB (e != 0) ((s = r.s ∧ a = r.at_ ∧ e = r.err ∧ f = r.fat ∧ True) ∧ IntKind.i64.wrap (numS []) = v ∧ True)
        (VB (decide (IntKind.i64.wrap ((↑s.length : Int) - a) < 8))
          (VB (e == 0) ((s = r.s ∧ a = r.at_ ∧ 5 = r.err ∧ a = r.fat ∧ True) ∧ IntKind.i64.wrap (numS []) = v ∧ True) ((s = r.s ∧ a = r.at_ ∧ e = r.err ∧ f = r.fat ∧ True) ∧ IntKind.i64.wrap (numS []) = v ∧ True))
          (NB (decide (0 ≤ a ∧ a ≤ IntKind.i64.wrap (a + 8) ∧ IntKind.i64.wrap (a + 8) ≤ (↑s.length : Int)))
            (NB (decide ((List.take ((IntKind.i64.wrap (a + 8)).toNat - a.toNat) (List.drop a.toNat s)).length ≤ 9223372036854775807))
              ((s = r.s ∧ IntKind.i64.wrap (a + 8) = r.at_ ∧ e = r.err ∧ f = r.fat ∧ True) ∧ IntKind.i64.wrap (numS (List.take ((IntKind.i64.wrap (a + 8)).toNat - a.toNat) (List.drop a.toNat s))) = v ∧ True))))))) := by
  kernel_rfl

theorem bytesI_vc (s : List UInt8) (a e f n : Int) (r : Rd) (v : List UInt8) : (vcFun E1 20 28 [.agg [.str s, .int .i64 a, .int .i64 e, .int .i64 f], .int .i64 n] .nil 0 (retP 3 (.tup [.agg [.str r.s, .int .i64 r.at_, .int .i64 r.err, .int .i64 r.fat], .str v]))).sat = (
  VB (e == 0)
    (VB (!(decide (a ≥ 0) && decide (a ≤ (↑s.length : Int)) && f == 0))
      (VB (decide (n < 0)) (([] = r.s ∧ 0 = r.at_ ∧ 10 = r.err ∧ 0 = r.fat ∧ True) ∧ [] = v ∧ True)
        (VB (decide (n > IntKind.i64.wrap (0 - 0))) (([] = r.s ∧ 0 = r.at_ ∧ 10 = r.err ∧ 0 = r.fat ∧ True) ∧ [] = v ∧ True) (([] = r.s ∧ 0 = r.at_ ∧ 10 = r.err ∧ 0 = r.fat ∧ True) ∧ [] = v ∧ True)))
      (VB (decide (n < 0))
        (VB (e == 0) ((s = r.s ∧ a = r.at_ ∧ 2 = r.err ∧ a = r.fat ∧ True) ∧ [] = v ∧ True)
          (VB (!e == 0) ((s = r.s ∧ a = r.at_ ∧ e = r.err ∧ f = r.fat ∧ True) ∧ [] = v ∧ True)
            (NB (decide (0 ≤ IntKind.i64.wrap (IntKind.i64.wrap (a + n) - n) ∧ IntKind.i64.wrap (IntKind.i64.wrap (a + n) - n) ≤ IntKind.i64.wrap (a + n) ∧ IntKind.i64.wrap (a + n) ≤ (↑s.length : Int)))
              ((s = r.s ∧ IntKind.i64.wrap (a + n) = r.at_ ∧ e = r.err ∧ f = r.fat ∧ True) ∧
                List.take ((IntKind.i64.wrap (a + n)).toNat - (IntKind.i64.wrap (IntKind.i64.wrap (a + n) - n)).toNat) (List.drop (IntKind.i64.wrap (IntKind.i64.wrap (a + n) - n)).toNat s) = v ∧ True))))
        (VB (decide (n > IntKind.i64.wrap ((↑s.length : Int) - a)))
          (VB (e == 0) ((s = r.s ∧ a = r.at_ ∧ 5 = r.err ∧ a = r.fat ∧ True) ∧ [] = v ∧ True)
            (VB (!e == 0) ((s = r.s ∧ a = r.at_ ∧ e = r.err ∧ f = r.fat ∧ True) ∧ [] = v ∧ True)
              (NB (decide (0 ≤ IntKind.i64.wrap (IntKind.i64.wrap (a + n) - n) ∧ IntKind.i64.wrap (IntKind.i64.wrap (a + n) - n) ≤ IntKind.i64.wrap (a + n) ∧ IntKind.i64.wrap (a + n) ≤ (↑s.length : Int)))
                ((s = r.s ∧ IntKind.i64.wrap (a + n) = r.at_ ∧ e = r.err ∧ f = r.fat ∧ True) ∧
                  List.take ((IntKind.i64.wrap (a + n)).toNat - (IntKind.i64.wrap (IntKind.i64.wrap (a + n) - n)).toNat) (List.drop (IntKind.i64.wrap (IntKind.i64.wrap (a + n) - n)).toNat s) = v ∧ True))))
          (VB (!e == 0) ((s = r.s ∧ a = r.at_ ∧ e = r.err ∧ f = r.fat ∧ True) ∧ [] = v ∧ True)
            (NB (decide (0 ≤ IntKind.i64.wrap (IntKind.i64.wrap (a + n) - n) ∧ IntKind.i64.wrap (IntKind.i64.wrap (a + n) - n) ≤ IntKind.i64.wrap (a + n) ∧ IntKind.i64.wrap (a + n) ≤ (↑s.length : Int)))
              ((s = r.s ∧ IntKind.i64.wrap (a + n) = r.at_ ∧ e = r.err ∧ f = r.fat ∧ True) ∧
                List.take ((IntKind.i64.wrap (a + n)).toNat - (IntKind.i64.wrap (IntKind.i64.wrap (a + n) - n)).toNat) (List.drop (IntKind.i64.wrap (IntKind.i64.wrap (a + n) - n)).toNat s) = v ∧ True))))))
    (VB (!(decide (a ≥ 0) && decide (a ≤ (↑s.length : Int)) && decide (e ≥ 1) && decide (e ≤ 23) && decide (f ≥ 0) && decide (f ≤ (↑s.length : Int))))
      (VB (decide (n < 0)) (([] = r.s ∧ 0 = r.at_ ∧ 10 = r.err ∧ 0 = r.fat ∧ True) ∧ [] = v ∧ True)
        (VB (decide (n > IntKind.i64.wrap (0 - 0))) (([] = r.s ∧ 0 = r.at_ ∧ 10 = r.err ∧ 0 = r.fat ∧ True) ∧ [] = v ∧ True) (([] = r.s ∧ 0 = r.at_ ∧ 10 = r.err ∧ 0 = r.fat ∧ True) ∧ [] = v ∧ True)))
      (VB (decide (n < 0))
        (VB (e == 0) ((s = r.s ∧ a = r.at_ ∧ 2 = r.err ∧ a = r.fat ∧ True) ∧ [] = v ∧ True)
          (VB (!e == 0) ((s = r.s ∧ a = r.at_ ∧ e = r.err ∧ f = r.fat ∧ True) ∧ [] = v ∧ True)
            (NB (decide (0 ≤ IntKind.i64.wrap (IntKind.i64.wrap (a + n) - n) ∧ IntKind.i64.wrap (IntKind.i64.wrap (a + n) - n) ≤ IntKind.i64.wrap (a + n) ∧ IntKind.i64.wrap (a + n) ≤ (↑s.length : Int)))
              ((s = r.s ∧ IntKind.i64.wrap (a + n) = r.at_ ∧ e = r.err ∧ f = r.fat ∧ True) ∧
                List.take ((IntKind.i64.wrap (a + n)).toNat - (IntKind.i64.wrap (IntKind.i64.wrap (a + n) - n)).toNat) (List.drop (IntKind.i64.wrap (IntKind.i64.wrap (a + n) - n)).toNat s) = v ∧ True))))
        (VB (decide (n > IntKind.i64.wrap ((↑s.length : Int) - a)))
          (VB (e == 0) ((s = r.s ∧ a = r.at_ ∧ 5 = r.err ∧ a = r.fat ∧ True) ∧ [] = v ∧ True)
            (VB (!e == 0) ((s = r.s ∧ a = r.at_ ∧ e = r.err ∧ f = r.fat ∧ True) ∧ [] = v ∧ True)
              (NB (decide (0 ≤ IntKind.i64.wrap (IntKind.i64.wrap (a + n) - n) ∧ IntKind.i64.wrap (IntKind.i64.wrap (a + n) - n) ≤ IntKind.i64.wrap (a + n) ∧ IntKind.i64.wrap (a + n) ≤ (↑s.length : Int)))
                ((s = r.s ∧ IntKind.i64.wrap (a + n) = r.at_ ∧ e = r.err ∧ f = r.fat ∧ True) ∧
                  List.take ((IntKind.i64.wrap (a + n)).toNat - (IntKind.i64.wrap (IntKind.i64.wrap (a + n) - n)).toNat) (List.drop (IntKind.i64.wrap (IntKind.i64.wrap (a + n) - n)).toNat s) = v ∧ True))))
          (VB (!e == 0) ((s = r.s ∧ a = r.at_ ∧ e = r.err ∧ f = r.fat ∧ True) ∧ [] = v ∧ True)
            (NB (decide (0 ≤ IntKind.i64.wrap (IntKind.i64.wrap (a + n) - n) ∧ IntKind.i64.wrap (IntKind.i64.wrap (a + n) - n) ≤ IntKind.i64.wrap (a + n) ∧ IntKind.i64.wrap (a + n) ≤ (↑s.length : Int)))
              ((s = r.s ∧ IntKind.i64.wrap (a + n) = r.at_ ∧ e = r.err ∧ f = r.fat ∧ True) ∧
                List.take ((IntKind.i64.wrap (a + n)).toNat - (IntKind.i64.wrap (IntKind.i64.wrap (a + n) - n)).toNat) (List.drop (IntKind.i64.wrap (IntKind.i64.wrap (a + n) - n)).toNat s) = v ∧ True))))))) := by
  kernel_rfl

theorem bytesR_vc (s : List UInt8) (a e f n : Int) (r : Rd) (v : List UInt8) : (vcFun E1 20 29 [.agg [.str s, .int .i64 a, .int .i64 e, .int .i64 f], .int .i64 n] .nil 0 (retP 3 (.tup [.agg [.str r.s, .int .i64 r.at_, .int .i64 r.err, .int .i64 r.fat], .str v]))).sat = (
  VB (e == 0)
    (VB (!(decide (a ≥ 0) && decide (a ≤ (↑s.length : Int)) && f == 0))
      (VB (decide (n < 0)) (([] = r.s ∧ 0 = r.at_ ∧ 10 = r.err ∧ 0 = r.fat ∧ True) ∧ [] = v ∧ True) (([] = r.s ∧ 0 = r.at_ ∧ 10 = r.err ∧ 0 = r.fat ∧ True) ∧ [] = v ∧ True))
      (VB (decide (n < 0)) (VB (e == 0) ((s = r.s ∧ a = r.at_ ∧ 2 = r.err ∧ a = r.fat ∧ True) ∧ [] = v ∧ True) ((s = r.s ∧ a = r.at_ ∧ e = r.err ∧ f = r.fat ∧ True) ∧ [] = v ∧ True))
        (VB (e != 0) ((s = r.s ∧ a = r.at_ ∧ e = r.err ∧ f = r.fat ∧ True) ∧ [] = v ∧ True)
          (VB (decide (IntKind.i64.wrap ((↑s.length : Int) - a) < n))
            (VB (e == 0) ((s = r.s ∧ a = r.at_ ∧ 5 = r.err ∧ a = r.fat ∧ True) ∧ [] = v ∧ True) ((s = r.s ∧ a = r.at_ ∧ e = r.err ∧ f = r.fat ∧ True) ∧ [] = v ∧ True))
            (NB (decide (0 ≤ a ∧ a ≤ IntKind.i64.wrap (a + n) ∧ IntKind.i64.wrap (a + n) ≤ (↑s.length : Int)))
              ((s = r.s ∧ IntKind.i64.wrap (a + n) = r.at_ ∧ e = r.err ∧ f = r.fat ∧ True) ∧ List.take ((IntKind.i64.wrap (a + n)).toNat - a.toNat) (List.drop a.toNat s) = v ∧ True))))))
    (VB (!(decide (a ≥ 0) && decide (a ≤ (↑s.length : Int)) && decide (e ≥ 1) && decide (e ≤ 23) && decide (f ≥ 0) && decide (f ≤ (↑s.length : Int))))
      (VB (decide (n < 0)) (([] = r.s ∧ 0 = r.at_ ∧ 10 = r.err ∧ 0 = r.fat ∧ True) ∧ [] = v ∧ True) (([] = r.s ∧ 0 = r.at_ ∧ 10 = r.err ∧ 0 = r.fat ∧ True) ∧ [] = v ∧ True))
      (VB (decide (n < 0)) (VB (e == 0) ((s = r.s ∧ a = r.at_ ∧ 2 = r.err ∧ a = r.fat ∧ True) ∧ [] = v ∧ True) ((s = r.s ∧ a = r.at_ ∧ e = r.err ∧ f = r.fat ∧ True) ∧ [] = v ∧ True))
        (VB (e != 0) ((s = r.s ∧ a = r.at_ ∧ e = r.err ∧ f = r.fat ∧ True) ∧ [] = v ∧ True)
          (VB (decide (IntKind.i64.wrap ((↑s.length : Int) - a) < n))
            (VB (e == 0) ((s = r.s ∧ a = r.at_ ∧ 5 = r.err ∧ a = r.fat ∧ True) ∧ [] = v ∧ True) ((s = r.s ∧ a = r.at_ ∧ e = r.err ∧ f = r.fat ∧ True) ∧ [] = v ∧ True))
            (NB (decide (0 ≤ a ∧ a ≤ IntKind.i64.wrap (a + n) ∧ IntKind.i64.wrap (a + n) ≤ (↑s.length : Int)))
              ((s = r.s ∧ IntKind.i64.wrap (a + n) = r.at_ ∧ e = r.err ∧ f = r.fat ∧ True) ∧ List.take ((IntKind.i64.wrap (a + n)).toNat - a.toNat) (List.drop a.toNat s) = v ∧ True))))))) := by
  kernel_rfl

theorem sizedI0_vc (s : List UInt8) (a f n : Int) (r : Rd) (v : List UInt8) : (vcFun E1 20 30 [.agg [.str s, .int .i64 a, .int .i64 0, .int .i64 f], .int .i64 n] .nil 0 (retP 3 (.tup [.agg [.str r.s, .int .i64 r.at_, .int .i64 r.err, .int .i64 r.fat], .str v]))).sat = (
  VB (!(decide (a ≥ 0) && decide (a ≤ (↑s.length : Int)) && f == 0))
    (VB (decide (n < 0) || decide (n > 65535)) (([] = r.s ∧ 0 = r.at_ ∧ 10 = r.err ∧ 0 = r.fat ∧ True) ∧ [] = v ∧ True) (([] = r.s ∧ 0 = r.at_ ∧ 10 = r.err ∧ 0 = r.fat ∧ True) ∧ [] = v ∧ True))
    (VB (decide (n < 0) || decide (n > 65535))
      (VB (decide (2 > IntKind.i64.wrap ((↑s.length : Int) - a)))
        (VB (decide (IntKind.i64.wrap (numS []) > IntKind.i64.wrap ((↑s.length : Int) - a))) ((s = r.s ∧ a = r.at_ ∧ 2 = r.err ∧ a = r.fat ∧ True) ∧ [] = v ∧ True)
          ((s = r.s ∧ a = r.at_ ∧ 2 = r.err ∧ a = r.fat ∧ True) ∧ [] = v ∧ True))
        (VB (decide (IntKind.i64.wrap (numS []) > IntKind.i64.wrap ((↑s.length : Int) - a))) ((s = r.s ∧ a = r.at_ ∧ 2 = r.err ∧ a = r.fat ∧ True) ∧ [] = v ∧ True)
          ((s = r.s ∧ a = r.at_ ∧ 2 = r.err ∧ a = r.fat ∧ True) ∧ [] = v ∧ True)))
      (VB (decide (2 > IntKind.i64.wrap ((↑s.length : Int) - a)))
        (VB (decide (IntKind.i64.wrap (numS []) > IntKind.i64.wrap ((↑s.length : Int) - a))) ((s = r.s ∧ a = r.at_ ∧ 5 = r.err ∧ a = r.fat ∧ True) ∧ [] = v ∧ True)
          ((s = r.s ∧ a = r.at_ ∧ 5 = r.err ∧ a = r.fat ∧ True) ∧ [] = v ∧ True))
        (NB (decide (0 ≤ IntKind.i64.wrap (IntKind.i64.wrap (a + 2) - 2) ∧ IntKind.i64.wrap (IntKind.i64.wrap (a + 2) - 2) ≤ IntKind.i64.wrap (a + 2) ∧ IntKind.i64.wrap (a + 2) ≤ (↑s.length : Int)))
          (NB
            (decide
              ((List.take ((IntKind.i64.wrap (a + 2)).toNat - (IntKind.i64.wrap (IntKind.i64.wrap (a + 2) - 2)).toNat) (List.drop (IntKind.i64.wrap (IntKind.i64.wrap (a + 2) - 2)).toNat s)).length ≤ 9223372036854775807))
            (VB
              (0 == 0 &&
                decide
                  (IntKind.i64.wrap (numS (List.take ((IntKind.i64.wrap (a + 2)).toNat - (IntKind.i64.wrap (IntKind.i64.wrap (a + 2) - 2)).toNat) (List.drop (IntKind.i64.wrap (IntKind.i64.wrap (a + 2) - 2)).toNat s))) >
                    n))
              (VB
                (decide
                  (IntKind.i64.wrap (numS (List.take ((IntKind.i64.wrap (a + 2)).toNat - (IntKind.i64.wrap (IntKind.i64.wrap (a + 2) - 2)).toNat) (List.drop (IntKind.i64.wrap (IntKind.i64.wrap (a + 2) - 2)).toNat s))) <
                    0))
                ((s = r.s ∧ a = r.at_ ∧ 4 = r.err ∧ a = r.fat ∧ True) ∧ [] = v ∧ True)
                (VB
                  (decide
                    (IntKind.i64.wrap (numS (List.take ((IntKind.i64.wrap (a + 2)).toNat - (IntKind.i64.wrap (IntKind.i64.wrap (a + 2) - 2)).toNat) (List.drop (IntKind.i64.wrap (IntKind.i64.wrap (a + 2) - 2)).toNat s))) >
                      IntKind.i64.wrap ((↑s.length : Int) - a)))
                  ((s = r.s ∧ a = r.at_ ∧ 4 = r.err ∧ a = r.fat ∧ True) ∧ [] = v ∧ True) ((s = r.s ∧ a = r.at_ ∧ 4 = r.err ∧ a = r.fat ∧ True) ∧ [] = v ∧ True)))
              (VB
                (decide
                  (IntKind.i64.wrap (numS (List.take ((IntKind.i64.wrap (a + 2)).toNat - (IntKind.i64.wrap (IntKind.i64.wrap (a + 2) - 2)).toNat) (List.drop (IntKind.i64.wrap (IntKind.i64.wrap (a + 2) - 2)).toNat s))) <
                    0))
                ((s = r.s ∧ IntKind.i64.wrap (a + 2) = r.at_ ∧ 2 = r.err ∧ IntKind.i64.wrap (a + 2) = r.fat ∧ True) ∧ [] = v ∧ True)
                (VB
                  (decide
                    (IntKind.i64.wrap (numS (List.take ((IntKind.i64.wrap (a + 2)).toNat - (IntKind.i64.wrap (IntKind.i64.wrap (a + 2) - 2)).toNat) (List.drop (IntKind.i64.wrap (IntKind.i64.wrap (a + 2) - 2)).toNat s))) >
                      IntKind.i64.wrap ((↑s.length : Int) - IntKind.i64.wrap (a + 2))))
                  ((s = r.s ∧ IntKind.i64.wrap (a + 2) = r.at_ ∧ 5 = r.err ∧ IntKind.i64.wrap (a + 2) = r.fat ∧ True) ∧ [] = v ∧ True)
                  (NB
                    (decide
                      (0 ≤
                          IntKind.i64.wrap
                            (IntKind.i64.wrap
                                (IntKind.i64.wrap (a + 2) +
                                  IntKind.i64.wrap
                                    (numS (List.take ((IntKind.i64.wrap (a + 2)).toNat - (IntKind.i64.wrap (IntKind.i64.wrap (a + 2) - 2)).toNat) (List.drop (IntKind.i64.wrap (IntKind.i64.wrap (a + 2) - 2)).toNat s)))) -
                              IntKind.i64.wrap
                                (numS (List.take ((IntKind.i64.wrap (a + 2)).toNat - (IntKind.i64.wrap (IntKind.i64.wrap (a + 2) - 2)).toNat) (List.drop (IntKind.i64.wrap (IntKind.i64.wrap (a + 2) - 2)).toNat s)))) ∧
                        IntKind.i64.wrap
                              (IntKind.i64.wrap
                                  (IntKind.i64.wrap (a + 2) +
                                    IntKind.i64.wrap
                                      (numS (List.take ((IntKind.i64.wrap (a + 2)).toNat - (IntKind.i64.wrap (IntKind.i64.wrap (a + 2) - 2)).toNat) (List.drop (IntKind.i64.wrap (IntKind.i64.wrap (a + 2) - 2)).toNat s)))) -
                                IntKind.i64.wrap
                                  (numS (List.take ((IntKind.i64.wrap (a + 2)).toNat - (IntKind.i64.wrap (IntKind.i64.wrap (a + 2) - 2)).toNat) (List.drop (IntKind.i64.wrap (IntKind.i64.wrap (a + 2) - 2)).toNat s)))) ≤
                            IntKind.i64.wrap
                              (IntKind.i64.wrap (a + 2) +
                                IntKind.i64.wrap
                                  (numS (List.take ((IntKind.i64.wrap (a + 2)).toNat - (IntKind.i64.wrap (IntKind.i64.wrap (a + 2) - 2)).toNat) (List.drop (IntKind.i64.wrap (IntKind.i64.wrap (a + 2) - 2)).toNat s)))) ∧
                          IntKind.i64.wrap
                              (IntKind.i64.wrap (a + 2) +
                                IntKind.i64.wrap
                                  (numS (List.take ((IntKind.i64.wrap (a + 2)).toNat - (IntKind.i64.wrap (IntKind.i64.wrap (a + 2) - 2)).toNat) (List.drop (IntKind.i64.wrap (IntKind.i64.wrap (a + 2) - 2)).toNat s)))) ≤
                            (↑s.length : Int)))
                    ((s = r.s ∧
                        IntKind.i64.wrap
                              (IntKind.i64.wrap (a + 2) +
                                IntKind.i64.wrap
                                  (numS (List.take ((IntKind.i64.wrap (a + 2)).toNat - (IntKind.i64.wrap (IntKind.i64.wrap (a + 2) - 2)).toNat) (List.drop (IntKind.i64.wrap (IntKind.i64.wrap (a + 2) - 2)).toNat s)))) =
                            r.at_ ∧
                          0 = r.err ∧ f = r.fat ∧ True) ∧
                      List.take
                            ((IntKind.i64.wrap
                                  (IntKind.i64.wrap (a + 2) +
                                    IntKind.i64.wrap
                                      (numS
                                        (List.take ((IntKind.i64.wrap (a + 2)).toNat - (IntKind.i64.wrap (IntKind.i64.wrap (a + 2) - 2)).toNat)
                                          (List.drop (IntKind.i64.wrap (IntKind.i64.wrap (a + 2) - 2)).toNat s))))).toNat -
                              (IntKind.i64.wrap
                                  (IntKind.i64.wrap
                                      (IntKind.i64.wrap (a + 2) +
                                        IntKind.i64.wrap
                                          (numS
                                            (List.take ((IntKind.i64.wrap (a + 2)).toNat - (IntKind.i64.wrap (IntKind.i64.wrap (a + 2) - 2)).toNat) (List.drop (IntKind.i64.wrap (IntKind.i64.wrap (a + 2) - 2)).toNat s)))) -
                                    IntKind.i64.wrap
                                      (numS
                                        (List.take ((IntKind.i64.wrap (a + 2)).toNat - (IntKind.i64.wrap (IntKind.i64.wrap (a + 2) - 2)).toNat)
                                          (List.drop (IntKind.i64.wrap (IntKind.i64.wrap (a + 2) - 2)).toNat s))))).toNat)
                            (List.drop
                              (IntKind.i64.wrap
                                  (IntKind.i64.wrap
                                      (IntKind.i64.wrap (a + 2) +
                                        IntKind.i64.wrap
                                          (numS
                                            (List.take ((IntKind.i64.wrap (a + 2)).toNat - (IntKind.i64.wrap (IntKind.i64.wrap (a + 2) - 2)).toNat) (List.drop (IntKind.i64.wrap (IntKind.i64.wrap (a + 2) - 2)).toNat s)))) -
                                    IntKind.i64.wrap
                                      (numS
                                        (List.take ((IntKind.i64.wrap (a + 2)).toNat - (IntKind.i64.wrap (IntKind.i64.wrap (a + 2) - 2)).toNat)
                                          (List.drop (IntKind.i64.wrap (IntKind.i64.wrap (a + 2) - 2)).toNat s))))).toNat
                              s) =
                          v ∧
                        True)))))))))) := by
  kernel_rfl

theorem sizedI1_vc (s : List UInt8) (a f n : Int) (m : Nat) (r : Rd) (v : List UInt8) : (vcFun E1 20 30 [.agg [.str s, .int .i64 a, .int .i64 (Int.ofNat (m + 1)), .int .i64 f], .int .i64 n] .nil 0 (retP 3 (.tup [.agg [.str r.s, .int .i64 r.at_, .int .i64 r.err, .int .i64 r.fat], .str v]))).sat = (
  VB (!(decide (a ≥ 0) && decide (a ≤ (↑s.length : Int)) && decide (Int.ofNat (m + 1) ≥ 1) && decide (Int.ofNat (m + 1) ≤ 23) && decide (f ≥ 0) && decide (f ≤ (↑s.length : Int))))
    (VB (decide (n < 0) || decide (n > 65535)) (([] = r.s ∧ 0 = r.at_ ∧ 10 = r.err ∧ 0 = r.fat ∧ True) ∧ [] = v ∧ True) (([] = r.s ∧ 0 = r.at_ ∧ 10 = r.err ∧ 0 = r.fat ∧ True) ∧ [] = v ∧ True))
    (VB (decide (n < 0) || decide (n > 65535))
      (VB (decide (2 > IntKind.i64.wrap ((↑s.length : Int) - a)))
        (VB (decide (IntKind.i64.wrap (numS []) > IntKind.i64.wrap ((↑s.length : Int) - a))) ((s = r.s ∧ a = r.at_ ∧ Int.ofNat (m + 1) = r.err ∧ f = r.fat ∧ True) ∧ [] = v ∧ True)
          ((s = r.s ∧ a = r.at_ ∧ Int.ofNat (m + 1) = r.err ∧ f = r.fat ∧ True) ∧ [] = v ∧ True))
        (VB (decide (IntKind.i64.wrap (numS []) > IntKind.i64.wrap ((↑s.length : Int) - a))) ((s = r.s ∧ a = r.at_ ∧ Int.ofNat (m + 1) = r.err ∧ f = r.fat ∧ True) ∧ [] = v ∧ True)
          ((s = r.s ∧ a = r.at_ ∧ Int.ofNat (m + 1) = r.err ∧ f = r.fat ∧ True) ∧ [] = v ∧ True)))
      (VB (decide (2 > IntKind.i64.wrap ((↑s.length : Int) - a)))
        (VB (decide (IntKind.i64.wrap (numS []) > IntKind.i64.wrap ((↑s.length : Int) - a))) ((s = r.s ∧ a = r.at_ ∧ Int.ofNat (m + 1) = r.err ∧ f = r.fat ∧ True) ∧ [] = v ∧ True)
          ((s = r.s ∧ a = r.at_ ∧ Int.ofNat (m + 1) = r.err ∧ f = r.fat ∧ True) ∧ [] = v ∧ True))
        (VB (decide (IntKind.i64.wrap (numS []) > IntKind.i64.wrap ((↑s.length : Int) - a))) ((s = r.s ∧ a = r.at_ ∧ Int.ofNat (m + 1) = r.err ∧ f = r.fat ∧ True) ∧ [] = v ∧ True)
          ((s = r.s ∧ a = r.at_ ∧ Int.ofNat (m + 1) = r.err ∧ f = r.fat ∧ True) ∧ [] = v ∧ True))))) := by
  kernel_rfl

theorem sizedI2_vc (s : List UInt8) (a f n : Int) (m : Nat) (r : Rd) (v : List UInt8) : (vcFun E1 20 30 [.agg [.str s, .int .i64 a, .int .i64 (Int.negSucc m), .int .i64 f], .int .i64 n] .nil 0 (retP 3 (.tup [.agg [.str r.s, .int .i64 r.at_, .int .i64 r.err, .int .i64 r.fat], .str v]))).sat = (
  VB (!(decide (a ≥ 0) && decide (a ≤ (↑s.length : Int)) && decide (Int.negSucc m ≥ 1) && decide (Int.negSucc m ≤ 23) && decide (f ≥ 0) && decide (f ≤ (↑s.length : Int))))
    (VB (decide (n < 0) || decide (n > 65535)) (([] = r.s ∧ 0 = r.at_ ∧ 10 = r.err ∧ 0 = r.fat ∧ True) ∧ [] = v ∧ True) (([] = r.s ∧ 0 = r.at_ ∧ 10 = r.err ∧ 0 = r.fat ∧ True) ∧ [] = v ∧ True))
    (VB (decide (n < 0) || decide (n > 65535))
      (VB (decide (2 > IntKind.i64.wrap ((↑s.length : Int) - a)))
        (VB (decide (IntKind.i64.wrap (numS []) > IntKind.i64.wrap ((↑s.length : Int) - a))) ((s = r.s ∧ a = r.at_ ∧ Int.negSucc m = r.err ∧ f = r.fat ∧ True) ∧ [] = v ∧ True)
          ((s = r.s ∧ a = r.at_ ∧ Int.negSucc m = r.err ∧ f = r.fat ∧ True) ∧ [] = v ∧ True))
        (VB (decide (IntKind.i64.wrap (numS []) > IntKind.i64.wrap ((↑s.length : Int) - a))) ((s = r.s ∧ a = r.at_ ∧ Int.negSucc m = r.err ∧ f = r.fat ∧ True) ∧ [] = v ∧ True)
          ((s = r.s ∧ a = r.at_ ∧ Int.negSucc m = r.err ∧ f = r.fat ∧ True) ∧ [] = v ∧ True)))
      (VB (decide (2 > IntKind.i64.wrap ((↑s.length : Int) - a)))
        (VB (decide (IntKind.i64.wrap (numS []) > IntKind.i64.wrap ((↑s.length : Int) - a))) ((s = r.s ∧ a = r.at_ ∧ Int.negSucc m = r.err ∧ f = r.fat ∧ True) ∧ [] = v ∧ True)
          ((s = r.s ∧ a = r.at_ ∧ Int.negSucc m = r.err ∧ f = r.fat ∧ True) ∧ [] = v ∧ True))
        (VB (decide (IntKind.i64.wrap (numS []) > IntKind.i64.wrap ((↑s.length : Int) - a))) ((s = r.s ∧ a = r.at_ ∧ Int.negSucc m = r.err ∧ f = r.fat ∧ True) ∧ [] = v ∧ True)
          ((s = r.s ∧ a = r.at_ ∧ Int.negSucc m = r.err ∧ f = r.fat ∧ True) ∧ [] = v ∧ True))))) := by
  kernel_rfl

theorem sizedR_vc (s : List UInt8) (a e f n : Int) (r : Rd) (v : List UInt8) : (vcFun E1 20 31 [.agg [.str s, .int .i64 a, .int .i64 e, .int .i64 f], .int .i64 n] .nil 0 (retP 3 (.tup [.agg [.str r.s, .int .i64 r.at_, .int .i64 r.err, .int .i64 r.fat], .str v]))).sat = (
  VB (e == 0)
    (VB (!(decide (a ≥ 0) && decide (a ≤ (↑s.length : Int)) && f == 0))
      (VB (decide (n < 0) || decide (n > 65535)) (([] = r.s ∧ 0 = r.at_ ∧ 10 = r.err ∧ 0 = r.fat ∧ True) ∧ [] = v ∧ True) (([] = r.s ∧ 0 = r.at_ ∧ 10 = r.err ∧ 0 = r.fat ∧ True) ∧ [] = v ∧ True))
      (VB (decide (n < 0) || decide (n > 65535)) (VB (e == 0) ((s = r.s ∧ a = r.at_ ∧ 2 = r.err ∧ a = r.fat ∧ True) ∧ [] = v ∧ True) ((s = r.s ∧ a = r.at_ ∧ e = r.err ∧ f = r.fat ∧ True) ∧ [] = v ∧ True))
        (VB (e != 0)
          (VB (e != 0) ((s = r.s ∧ a = r.at_ ∧ e = r.err ∧ f = r.fat ∧ True) ∧ [] = v ∧ True)
            (VB (decide (IntKind.i64.wrap (numS []) > n)) (VB (e == 0) ((s = r.s ∧ a = r.at_ ∧ 4 = r.err ∧ a = r.fat ∧ True) ∧ [] = v ∧ True) ((s = r.s ∧ a = r.at_ ∧ e = r.err ∧ f = r.fat ∧ True) ∧ [] = v ∧ True))
              (VB (e != 0) ((s = r.s ∧ a = r.at_ ∧ e = r.err ∧ f = r.fat ∧ True) ∧ [] = v ∧ True)
                (VB (decide (IntKind.i64.wrap ((↑s.length : Int) - a) < IntKind.i64.wrap (numS [])))
                  (VB (e == 0) ((s = r.s ∧ a = r.at_ ∧ 5 = r.err ∧ a = r.fat ∧ True) ∧ [] = v ∧ True) ((s = r.s ∧ a = r.at_ ∧ e = r.err ∧ f = r.fat ∧ True) ∧ [] = v ∧ True))
                  (NB (decide (0 ≤ a ∧ a ≤ IntKind.i64.wrap (a + IntKind.i64.wrap (numS [])) ∧ IntKind.i64.wrap (a + IntKind.i64.wrap (numS [])) ≤ (↑s.length : Int)))
                    ((s = r.s ∧ IntKind.i64.wrap (a + IntKind.i64.wrap (numS [])) = r.at_ ∧ e = r.err ∧ f = r.fat ∧ True) ∧
                      List.take ((IntKind.i64.wrap (a + IntKind.i64.wrap (numS []))).toNat - a.toNat) (List.drop a.toNat s) = v ∧ True))))))
          (VB (decide (IntKind.i64.wrap ((↑s.length : Int) - a) < 2))
            (VB (e == 0) ((s = r.s ∧ a = r.at_ ∧ 5 = r.err ∧ a = r.fat ∧ True) ∧ [] = v ∧ True)
              (VB (e != 0) ((s = r.s ∧ a = r.at_ ∧ e = r.err ∧ f = r.fat ∧ True) ∧ [] = v ∧ True)
                (VB (decide (IntKind.i64.wrap (numS []) > n)) (VB (e == 0) ((s = r.s ∧ a = r.at_ ∧ 4 = r.err ∧ a = r.fat ∧ True) ∧ [] = v ∧ True) ((s = r.s ∧ a = r.at_ ∧ e = r.err ∧ f = r.fat ∧ True) ∧ [] = v ∧ True))
                  (VB (e != 0) ((s = r.s ∧ a = r.at_ ∧ e = r.err ∧ f = r.fat ∧ True) ∧ [] = v ∧ True)
                    (VB (decide (IntKind.i64.wrap ((↑s.length : Int) - a) < IntKind.i64.wrap (numS [])))
                      (VB (e == 0) ((s = r.s ∧ a = r.at_ ∧ 5 = r.err ∧ a = r.fat ∧ True) ∧ [] = v ∧ True) ((s = r.s ∧ a = r.at_ ∧ e = r.err ∧ f = r.fat ∧ True) ∧ [] = v ∧ True))
                      (NB (decide (0 ≤ a ∧ a ≤ IntKind.i64.wrap (a + IntKind.i64.wrap (numS [])) ∧ IntKind.i64.wrap (a + IntKind.i64.wrap (numS [])) ≤ (↑s.length : Int)))
                        ((s = r.s ∧ IntKind.i64.wrap (a + IntKind.i64.wrap (numS [])) = r.at_ ∧ e = r.err ∧ f = r.fat ∧ True) ∧
                          List.take ((IntKind.i64.wrap (a + IntKind.i64.wrap (numS []))).toNat - a.toNat) (List.drop a.toNat s) = v ∧ True)))))))
            (NB (decide (0 ≤ a ∧ a ≤ IntKind.i64.wrap (a + 2) ∧ IntKind.i64.wrap (a + 2) ≤ (↑s.length : Int)))
              (VB (e != 0) ((s = r.s ∧ IntKind.i64.wrap (a + 2) = r.at_ ∧ e = r.err ∧ f = r.fat ∧ True) ∧ [] = v ∧ True)
                (NB (decide ((List.take ((IntKind.i64.wrap (a + 2)).toNat - a.toNat) (List.drop a.toNat s)).length ≤ 9223372036854775807))
                  (VB (decide (IntKind.i64.wrap (numS (List.take ((IntKind.i64.wrap (a + 2)).toNat - a.toNat) (List.drop a.toNat s))) > n))
                    (VB (e == 0) ((s = r.s ∧ a = r.at_ ∧ 4 = r.err ∧ a = r.fat ∧ True) ∧ [] = v ∧ True) ((s = r.s ∧ a = r.at_ ∧ e = r.err ∧ f = r.fat ∧ True) ∧ [] = v ∧ True))
                    (VB (e != 0) ((s = r.s ∧ IntKind.i64.wrap (a + 2) = r.at_ ∧ e = r.err ∧ f = r.fat ∧ True) ∧ [] = v ∧ True)
                      (VB (decide (IntKind.i64.wrap ((↑s.length : Int) - IntKind.i64.wrap (a + 2)) < IntKind.i64.wrap (numS (List.take ((IntKind.i64.wrap (a + 2)).toNat - a.toNat) (List.drop a.toNat s)))))
                        (VB (e == 0) ((s = r.s ∧ IntKind.i64.wrap (a + 2) = r.at_ ∧ 5 = r.err ∧ IntKind.i64.wrap (a + 2) = r.fat ∧ True) ∧ [] = v ∧ True)
                          ((s = r.s ∧ IntKind.i64.wrap (a + 2) = r.at_ ∧ e = r.err ∧ f = r.fat ∧ True) ∧ [] = v ∧ True))
                        (NB
                          (decide
                            (0 ≤ IntKind.i64.wrap (a + 2) ∧
                              IntKind.i64.wrap (a + 2) ≤ IntKind.i64.wrap (IntKind.i64.wrap (a + 2) + IntKind.i64.wrap (numS (List.take ((IntKind.i64.wrap (a + 2)).toNat - a.toNat) (List.drop a.toNat s)))) ∧
                                IntKind.i64.wrap (IntKind.i64.wrap (a + 2) + IntKind.i64.wrap (numS (List.take ((IntKind.i64.wrap (a + 2)).toNat - a.toNat) (List.drop a.toNat s)))) ≤ (↑s.length : Int)))
                          ((s = r.s ∧
                              IntKind.i64.wrap (IntKind.i64.wrap (a + 2) + IntKind.i64.wrap (numS (List.take ((IntKind.i64.wrap (a + 2)).toNat - a.toNat) (List.drop a.toNat s)))) = r.at_ ∧ e = r.err ∧ f = r.fat ∧ True) ∧
                            List.take
                                  ((IntKind.i64.wrap (IntKind.i64.wrap (a + 2) + IntKind.i64.wrap (numS (List.take ((IntKind.i64.wrap (a + 2)).toNat - a.toNat) (List.drop a.toNat s))))).toNat -
                                    (IntKind.i64.wrap (a + 2)).toNat)
                                  (List.drop (IntKind.i64.wrap (a + 2)).toNat s) =
                                v ∧
                              True))))))))))))
    (VB (!(decide (a ≥ 0) && decide (a ≤ (↑s.length : Int)) && decide (e ≥ 1) && decide (e ≤ 23) && decide (f ≥ 0) && decide (f ≤ (↑s.length : Int))))
      (VB (decide (n < 0) || decide (n > 65535)) (([] = r.s ∧ 0 = r.at_ ∧ 10 = r.err ∧ 0 = r.fat ∧ True) ∧ [] = v ∧ True) (([] = r.s ∧ 0 = r.at_ ∧ 10 = r.err ∧ 0 = r.fat ∧ True) ∧ [] = v ∧ True))
      (VB (decide (n < 0) || decide (n > 65535)) (VB (e == 0) ((s = r.s ∧ a = r.at_ ∧ 2 = r.err ∧ a = r.fat ∧ True) ∧ [] = v ∧ True) ((s = r.s ∧ a = r.at_ ∧ e = r.err ∧ f = r.fat ∧ True) ∧ [] = v ∧ True))
        (VB (e != 0)
          (VB (e != 0) ((s = r.s ∧ a = r.at_ ∧ e = r.err ∧ f = r.fat ∧ True) ∧ [] = v ∧ True)
            (VB (decide (IntKind.i64.wrap (numS []) > n)) (VB (e == 0) ((s = r.s ∧ a = r.at_ ∧ 4 = r.err ∧ a = r.fat ∧ True) ∧ [] = v ∧ True) ((s = r.s ∧ a = r.at_ ∧ e = r.err ∧ f = r.fat ∧ True) ∧ [] = v ∧ True))
              (VB (e != 0) ((s = r.s ∧ a = r.at_ ∧ e = r.err ∧ f = r.fat ∧ True) ∧ [] = v ∧ True)
                (VB (decide (IntKind.i64.wrap ((↑s.length : Int) - a) < IntKind.i64.wrap (numS [])))
                  (VB (e == 0) ((s = r.s ∧ a = r.at_ ∧ 5 = r.err ∧ a = r.fat ∧ True) ∧ [] = v ∧ True) ((s = r.s ∧ a = r.at_ ∧ e = r.err ∧ f = r.fat ∧ True) ∧ [] = v ∧ True))
                  (NB (decide (0 ≤ a ∧ a ≤ IntKind.i64.wrap (a + IntKind.i64.wrap (numS [])) ∧ IntKind.i64.wrap (a + IntKind.i64.wrap (numS [])) ≤ (↑s.length : Int)))
                    ((s = r.s ∧ IntKind.i64.wrap (a + IntKind.i64.wrap (numS [])) = r.at_ ∧ e = r.err ∧ f = r.fat ∧ True) ∧
                      List.take ((IntKind.i64.wrap (a + IntKind.i64.wrap (numS []))).toNat - a.toNat) (List.drop a.toNat s) = v ∧ True))))))
          (VB (decide (IntKind.i64.wrap ((↑s.length : Int) - a) < 2))
            (VB (e == 0) ((s = r.s ∧ a = r.at_ ∧ 5 = r.err ∧ a = r.fat ∧ True) ∧ [] = v ∧ True)
              (VB (e != 0) ((s = r.s ∧ a = r.at_ ∧ e = r.err ∧ f = r.fat ∧ True) ∧ [] = v ∧ True)
                (VB (decide (IntKind.i64.wrap (numS []) > n)) (VB (e == 0) ((s = r.s ∧ a = r.at_ ∧ 4 = r.err ∧ a = r.fat ∧ True) ∧ [] = v ∧ True) ((s = r.s ∧ a = r.at_ ∧ e = r.err ∧ f = r.fat ∧ True) ∧ [] = v ∧ True))
                  (VB (e != 0) ((s = r.s ∧ a = r.at_ ∧ e = r.err ∧ f = r.fat ∧ True) ∧ [] = v ∧ True)
                    (VB (decide (IntKind.i64.wrap ((↑s.length : Int) - a) < IntKind.i64.wrap (numS [])))
                      (VB (e == 0) ((s = r.s ∧ a = r.at_ ∧ 5 = r.err ∧ a = r.fat ∧ True) ∧ [] = v ∧ True) ((s = r.s ∧ a = r.at_ ∧ e = r.err ∧ f = r.fat ∧ True) ∧ [] = v ∧ True))
                      (NB (decide (0 ≤ a ∧ a ≤ IntKind.i64.wrap (a + IntKind.i64.wrap (numS [])) ∧ IntKind.i64.wrap (a + IntKind.i64.wrap (numS [])) ≤ (↑s.length : Int)))
                        ((s = r.s ∧ IntKind.i64.wrap (a + IntKind.i64.wrap (numS [])) = r.at_ ∧ e = r.err ∧ f = r.fat ∧ True) ∧
                          List.take ((IntKind.i64.wrap (a + IntKind.i64.wrap (numS []))).toNat - a.toNat) (List.drop a.toNat s) = v ∧ True)))))))
            (NB (decide (0 ≤ a ∧ a ≤ IntKind.i64.wrap (a + 2) ∧ IntKind.i64.wrap (a + 2) ≤ (↑s.length : Int)))
              (VB (e != 0) ((s = r.s ∧ IntKind.i64.wrap (a + 2) = r.at_ ∧ e = r.err ∧ f = r.fat ∧ True) ∧ [] = v ∧ True)
                (NB (decide ((List.take ((IntKind.i64.wrap (a + 2)).toNat - a.toNat) (List.drop a.toNat s)).length ≤ 9223372036854775807))
                  (VB (decide (IntKind.i64.wrap (numS (List.take ((IntKind.i64.wrap (a + 2)).toNat - a.toNat) (List.drop a.toNat s))) > n))
                    (VB (e == 0) ((s = r.s ∧ a = r.at_ ∧ 4 = r.err ∧ a = r.fat ∧ True) ∧ [] = v ∧ True) ((s = r.s ∧ a = r.at_ ∧ e = r.err ∧ f = r.fat ∧ True) ∧ [] = v ∧ True))
                    (VB (e != 0) ((s = r.s ∧ IntKind.i64.wrap (a + 2) = r.at_ ∧ e = r.err ∧ f = r.fat ∧ True) ∧ [] = v ∧ True)
                      (VB (decide (IntKind.i64.wrap ((↑s.length : Int) - IntKind.i64.wrap (a + 2)) < IntKind.i64.wrap (numS (List.take ((IntKind.i64.wrap (a + 2)).toNat - a.toNat) (List.drop a.toNat s)))))
                        (VB (e == 0) ((s = r.s ∧ IntKind.i64.wrap (a + 2) = r.at_ ∧ 5 = r.err ∧ IntKind.i64.wrap (a + 2) = r.fat ∧ True) ∧ [] = v ∧ True)
                          ((s = r.s ∧ IntKind.i64.wrap (a + 2) = r.at_ ∧ e = r.err ∧ f = r.fat ∧ True) ∧ [] = v ∧ True))
                        (NB
                          (decide
                            (0 ≤ IntKind.i64.wrap (a + 2) ∧
                              IntKind.i64.wrap (a + 2) ≤ IntKind.i64.wrap (IntKind.i64.wrap (a + 2) + IntKind.i64.wrap (numS (List.take ((IntKind.i64.wrap (a + 2)).toNat - a.toNat) (List.drop a.toNat s)))) ∧
                                IntKind.i64.wrap (IntKind.i64.wrap (a + 2) + IntKind.i64.wrap (numS (List.take ((IntKind.i64.wrap (a + 2)).toNat - a.toNat) (List.drop a.toNat s)))) ≤ (↑s.length : Int)))
                          ((s = r.s ∧
                              IntKind.i64.wrap (IntKind.i64.wrap (a + 2) + IntKind.i64.wrap (numS (List.take ((IntKind.i64.wrap (a + 2)).toNat - a.toNat) (List.drop a.toNat s)))) = r.at_ ∧ e = r.err ∧ f = r.fat ∧ True) ∧
                            List.take
                                  ((IntKind.i64.wrap (IntKind.i64.wrap (a + 2) + IntKind.i64.wrap (numS (List.take ((IntKind.i64.wrap (a + 2)).toNat - a.toNat) (List.drop a.toNat s))))).toNat -
                                    (IntKind.i64.wrap (a + 2)).toNat)
                                  (List.drop (IntKind.i64.wrap (a + 2)).toNat s) =
                                v ∧
                              True))))))))))))) := by
  kernel_rfl

theorem wantI_vc (s : List UInt8) (a e f : Int) (w : List UInt8) (r : Rd) : (vcFun E1 20 32 [.agg [.str s, .int .i64 a, .int .i64 e, .int .i64 f], .str w] .nil 0 (retP 3 (.agg [.str r.s, .int .i64 r.at_, .int .i64 r.err, .int .i64 r.fat]))).sat = (
  VB (e == 0)
    (VB (!(decide (a ≥ 0) && decide (a ≤ (↑s.length : Int)) && f == 0))
      (VB (decide ((↑w.length : Int) > IntKind.i64.wrap (0 - 0))) ([] = r.s ∧ 0 = r.at_ ∧ 10 = r.err ∧ 0 = r.fat ∧ True) ([] = r.s ∧ 0 = r.at_ ∧ 10 = r.err ∧ 0 = r.fat ∧ True))
      (VB (decide ((↑w.length : Int) > IntKind.i64.wrap ((↑s.length : Int) - a)))
        (VB (e == 0) (s = r.s ∧ a = r.at_ ∧ 5 = r.err ∧ a = r.fat ∧ True)
          (VB (!e == 0) (VB (e == 0 && ![] == w) (VB (e == 0) (s = r.s ∧ a = r.at_ ∧ 3 = r.err ∧ a = r.fat ∧ True) (s = r.s ∧ a = r.at_ ∧ e = r.err ∧ f = r.fat ∧ True)) (s = r.s ∧ a = r.at_ ∧ e = r.err ∧ f = r.fat ∧ True))
            (NB
              (decide
                (0 ≤ IntKind.i64.wrap (IntKind.i64.wrap (a + (↑w.length : Int)) - (↑w.length : Int)) ∧
                  IntKind.i64.wrap (IntKind.i64.wrap (a + (↑w.length : Int)) - (↑w.length : Int)) ≤ IntKind.i64.wrap (a + (↑w.length : Int)) ∧ IntKind.i64.wrap (a + (↑w.length : Int)) ≤ (↑s.length : Int)))
              (VB
                (e == 0 &&
                  !List.take ((IntKind.i64.wrap (a + (↑w.length : Int))).toNat - (IntKind.i64.wrap (IntKind.i64.wrap (a + (↑w.length : Int)) - (↑w.length : Int))).toNat)
                        (List.drop (IntKind.i64.wrap (IntKind.i64.wrap (a + (↑w.length : Int)) - (↑w.length : Int))).toNat s) ==
                      w)
                (VB (e == 0) (s = r.s ∧ a = r.at_ ∧ 3 = r.err ∧ a = r.fat ∧ True) (s = r.s ∧ a = r.at_ ∧ e = r.err ∧ f = r.fat ∧ True))
                (s = r.s ∧ IntKind.i64.wrap (a + (↑w.length : Int)) = r.at_ ∧ e = r.err ∧ f = r.fat ∧ True)))))
        (VB (!e == 0) (VB (e == 0 && ![] == w) (VB (e == 0) (s = r.s ∧ a = r.at_ ∧ 3 = r.err ∧ a = r.fat ∧ True) (s = r.s ∧ a = r.at_ ∧ e = r.err ∧ f = r.fat ∧ True)) (s = r.s ∧ a = r.at_ ∧ e = r.err ∧ f = r.fat ∧ True))
          (NB
            (decide
              (0 ≤ IntKind.i64.wrap (IntKind.i64.wrap (a + (↑w.length : Int)) - (↑w.length : Int)) ∧
                IntKind.i64.wrap (IntKind.i64.wrap (a + (↑w.length : Int)) - (↑w.length : Int)) ≤ IntKind.i64.wrap (a + (↑w.length : Int)) ∧ IntKind.i64.wrap (a + (↑w.length : Int)) ≤ (↑s.length : Int)))
            (VB
              (e == 0 &&
                !List.take ((IntKind.i64.wrap (a + (↑w.length : Int))).toNat - (IntKind.i64.wrap (IntKind.i64.wrap (a + (↑w.length : Int)) - (↑w.length : Int))).toNat)
                      (List.drop (IntKind.i64.wrap (IntKind.i64.wrap (a + (↑w.length : Int)) - (↑w.length : Int))).toNat s) ==
                    w)
              (VB (e == 0) (s = r.s ∧ a = r.at_ ∧ 3 = r.err ∧ a = r.fat ∧ True) (s = r.s ∧ a = r.at_ ∧ e = r.err ∧ f = r.fat ∧ True))
              (s = r.s ∧ IntKind.i64.wrap (a + (↑w.length : Int)) = r.at_ ∧ e = r.err ∧ f = r.fat ∧ True))))))
    (VB (!(decide (a ≥ 0) && decide (a ≤ (↑s.length : Int)) && decide (e ≥ 1) && decide (e ≤ 23) && decide (f ≥ 0) && decide (f ≤ (↑s.length : Int))))
      (VB (decide ((↑w.length : Int) > IntKind.i64.wrap (0 - 0))) ([] = r.s ∧ 0 = r.at_ ∧ 10 = r.err ∧ 0 = r.fat ∧ True) ([] = r.s ∧ 0 = r.at_ ∧ 10 = r.err ∧ 0 = r.fat ∧ True))
      (VB (decide ((↑w.length : Int) > IntKind.i64.wrap ((↑s.length : Int) - a)))
        (VB (e == 0) (s = r.s ∧ a = r.at_ ∧ 5 = r.err ∧ a = r.fat ∧ True)
          (VB (!e == 0) (VB (e == 0 && ![] == w) (VB (e == 0) (s = r.s ∧ a = r.at_ ∧ 3 = r.err ∧ a = r.fat ∧ True) (s = r.s ∧ a = r.at_ ∧ e = r.err ∧ f = r.fat ∧ True)) (s = r.s ∧ a = r.at_ ∧ e = r.err ∧ f = r.fat ∧ True))
            (NB
              (decide
                (0 ≤ IntKind.i64.wrap (IntKind.i64.wrap (a + (↑w.length : Int)) - (↑w.length : Int)) ∧
                  IntKind.i64.wrap (IntKind.i64.wrap (a + (↑w.length : Int)) - (↑w.length : Int)) ≤ IntKind.i64.wrap (a + (↑w.length : Int)) ∧ IntKind.i64.wrap (a + (↑w.length : Int)) ≤ (↑s.length : Int)))
              (VB
                (e == 0 &&
                  !List.take ((IntKind.i64.wrap (a + (↑w.length : Int))).toNat - (IntKind.i64.wrap (IntKind.i64.wrap (a + (↑w.length : Int)) - (↑w.length : Int))).toNat)
                        (List.drop (IntKind.i64.wrap (IntKind.i64.wrap (a + (↑w.length : Int)) - (↑w.length : Int))).toNat s) ==
                      w)
                (VB (e == 0) (s = r.s ∧ a = r.at_ ∧ 3 = r.err ∧ a = r.fat ∧ True) (s = r.s ∧ a = r.at_ ∧ e = r.err ∧ f = r.fat ∧ True))
                (s = r.s ∧ IntKind.i64.wrap (a + (↑w.length : Int)) = r.at_ ∧ e = r.err ∧ f = r.fat ∧ True)))))
        (VB (!e == 0) (VB (e == 0 && ![] == w) (VB (e == 0) (s = r.s ∧ a = r.at_ ∧ 3 = r.err ∧ a = r.fat ∧ True) (s = r.s ∧ a = r.at_ ∧ e = r.err ∧ f = r.fat ∧ True)) (s = r.s ∧ a = r.at_ ∧ e = r.err ∧ f = r.fat ∧ True))
          (NB
            (decide
              (0 ≤ IntKind.i64.wrap (IntKind.i64.wrap (a + (↑w.length : Int)) - (↑w.length : Int)) ∧
                IntKind.i64.wrap (IntKind.i64.wrap (a + (↑w.length : Int)) - (↑w.length : Int)) ≤ IntKind.i64.wrap (a + (↑w.length : Int)) ∧ IntKind.i64.wrap (a + (↑w.length : Int)) ≤ (↑s.length : Int)))
            (VB
              (e == 0 &&
                !List.take ((IntKind.i64.wrap (a + (↑w.length : Int))).toNat - (IntKind.i64.wrap (IntKind.i64.wrap (a + (↑w.length : Int)) - (↑w.length : Int))).toNat)
                      (List.drop (IntKind.i64.wrap (IntKind.i64.wrap (a + (↑w.length : Int)) - (↑w.length : Int))).toNat s) ==
                    w)
              (VB (e == 0) (s = r.s ∧ a = r.at_ ∧ 3 = r.err ∧ a = r.fat ∧ True) (s = r.s ∧ a = r.at_ ∧ e = r.err ∧ f = r.fat ∧ True))
              (s = r.s ∧ IntKind.i64.wrap (a + (↑w.length : Int)) = r.at_ ∧ e = r.err ∧ f = r.fat ∧ True))))))) := by
  kernel_rfl

theorem wantR_vc (s : List UInt8) (a e f : Int) (w : List UInt8) (r : Rd) : (vcFun E1 20 33 [.agg [.str s, .int .i64 a, .int .i64 e, .int .i64 f], .str w] .nil 0 (retP 3 (.agg [.str r.s, .int .i64 r.at_, .int .i64 r.err, .int .i64 r.fat]))).sat = (
  VB (e == 0)
    (VB (!(decide (a ≥ 0) && decide (a ≤ (↑s.length : Int)) && f == 0)) ([] = r.s ∧ 0 = r.at_ ∧ 10 = r.err ∧ 0 = r.fat ∧ True)
      (VB (e != 0) (VB (e == 0 && ![] == w) (VB (e == 0) (s = r.s ∧ a = r.at_ ∧ 3 = r.err ∧ a = r.fat ∧ True) (s = r.s ∧ a = r.at_ ∧ e = r.err ∧ f = r.fat ∧ True)) (s = r.s ∧ a = r.at_ ∧ e = r.err ∧ f = r.fat ∧ True))
        (VB (decide (IntKind.i64.wrap ((↑s.length : Int) - a) < (↑w.length : Int)))
          (VB (e == 0) (s = r.s ∧ a = r.at_ ∧ 5 = r.err ∧ a = r.fat ∧ True)
            (VB (e == 0 && ![] == w) (VB (e == 0) (s = r.s ∧ a = r.at_ ∧ 3 = r.err ∧ a = r.fat ∧ True) (s = r.s ∧ a = r.at_ ∧ e = r.err ∧ f = r.fat ∧ True)) (s = r.s ∧ a = r.at_ ∧ e = r.err ∧ f = r.fat ∧ True)))
          (NB (decide (0 ≤ a ∧ a ≤ IntKind.i64.wrap (a + (↑w.length : Int)) ∧ IntKind.i64.wrap (a + (↑w.length : Int)) ≤ (↑s.length : Int)))
            (VB (e == 0 && !List.take ((IntKind.i64.wrap (a + (↑w.length : Int))).toNat - a.toNat) (List.drop a.toNat s) == w)
              (VB (e == 0) (s = r.s ∧ a = r.at_ ∧ 3 = r.err ∧ a = r.fat ∧ True) (s = r.s ∧ a = r.at_ ∧ e = r.err ∧ f = r.fat ∧ True))
              (s = r.s ∧ IntKind.i64.wrap (a + (↑w.length : Int)) = r.at_ ∧ e = r.err ∧ f = r.fat ∧ True))))))
    (VB (!(decide (a ≥ 0) && decide (a ≤ (↑s.length : Int)) && decide (e ≥ 1) && decide (e ≤ 23) && decide (f ≥ 0) && decide (f ≤ (↑s.length : Int)))) ([] = r.s ∧ 0 = r.at_ ∧ 10 = r.err ∧ 0 = r.fat ∧ True)
      (VB (e != 0) (VB (e == 0 && ![] == w) (VB (e == 0) (s = r.s ∧ a = r.at_ ∧ 3 = r.err ∧ a = r.fat ∧ True) (s = r.s ∧ a = r.at_ ∧ e = r.err ∧ f = r.fat ∧ True)) (s = r.s ∧ a = r.at_ ∧ e = r.err ∧ f = r.fat ∧ True))
        (VB (decide (IntKind.i64.wrap ((↑s.length : Int) - a) < (↑w.length : Int)))
          (VB (e == 0) (s = r.s ∧ a = r.at_ ∧ 5 = r.err ∧ a = r.fat ∧ True)
            (VB (e == 0 && ![] == w) (VB (e == 0) (s = r.s ∧ a = r.at_ ∧ 3 = r.err ∧ a = r.fat ∧ True) (s = r.s ∧ a = r.at_ ∧ e = r.err ∧ f = r.fat ∧ True)) (s = r.s ∧ a = r.at_ ∧ e = r.err ∧ f = r.fat ∧ True)))
          (NB (decide (0 ≤ a ∧ a ≤ IntKind.i64.wrap (a + (↑w.length : Int)) ∧ IntKind.i64.wrap (a + (↑w.length : Int)) ≤ (↑s.length : Int)))
            (VB (e == 0 && !List.take ((IntKind.i64.wrap (a + (↑w.length : Int))).toNat - a.toNat) (List.drop a.toNat s) == w)
              (VB (e == 0) (s = r.s ∧ a = r.at_ ∧ 3 = r.err ∧ a = r.fat ∧ True) (s = r.s ∧ a = r.at_ ∧ e = r.err ∧ f = r.fat ∧ True))
              (s = r.s ∧ IntKind.i64.wrap (a + (↑w.length : Int)) = r.at_ ∧ e = r.err ∧ f = r.fat ∧ True))))))) := by
  kernel_rfl

theorem failI_vc (s : List UInt8) (a e f x y : Int) (r : Rd) : (vcFun E1 20 34 [.agg [.str s, .int .i64 a, .int .i64 e, .int .i64 f], .int .i64 x, .int .i64 y] .nil 0 (retP 3 (.agg [.str r.s, .int .i64 r.at_, .int .i64 r.err, .int .i64 r.fat]))).sat = (
  VB (e == 0)
    (VB (!(decide (a ≥ 0) && decide (a ≤ (↑s.length : Int)) && f == 0)) (VB (decide (x < 1) || decide (x > 23)) ([] = r.s ∧ 0 = r.at_ ∧ 10 = r.err ∧ 0 = r.fat ∧ True) ([] = r.s ∧ 0 = r.at_ ∧ 10 = r.err ∧ 0 = r.fat ∧ True))
      (VB (decide (x < 1) || decide (x > 23)) (VB (e == 0) (s = r.s ∧ a = r.at_ ∧ 3 = r.err ∧ minI (maxI y 0) (↑s.length : Int) = r.fat ∧ True) (s = r.s ∧ a = r.at_ ∧ e = r.err ∧ f = r.fat ∧ True))
        (VB (e == 0) (s = r.s ∧ a = r.at_ ∧ x = r.err ∧ minI (maxI y 0) (↑s.length : Int) = r.fat ∧ True) (s = r.s ∧ a = r.at_ ∧ e = r.err ∧ f = r.fat ∧ True))))
    (VB (!(decide (a ≥ 0) && decide (a ≤ (↑s.length : Int)) && decide (e ≥ 1) && decide (e ≤ 23) && decide (f ≥ 0) && decide (f ≤ (↑s.length : Int))))
      (VB (decide (x < 1) || decide (x > 23)) ([] = r.s ∧ 0 = r.at_ ∧ 10 = r.err ∧ 0 = r.fat ∧ True) ([] = r.s ∧ 0 = r.at_ ∧ 10 = r.err ∧ 0 = r.fat ∧ True))
      (VB (decide (x < 1) || decide (x > 23)) (VB (e == 0) (s = r.s ∧ a = r.at_ ∧ 3 = r.err ∧ minI (maxI y 0) (↑s.length : Int) = r.fat ∧ True) (s = r.s ∧ a = r.at_ ∧ e = r.err ∧ f = r.fat ∧ True))
        (VB (e == 0) (s = r.s ∧ a = r.at_ ∧ x = r.err ∧ minI (maxI y 0) (↑s.length : Int) = r.fat ∧ True) (s = r.s ∧ a = r.at_ ∧ e = r.err ∧ f = r.fat ∧ True))))) := by
  kernel_rfl

theorem failR_vc (s : List UInt8) (a e f x y : Int) (r : Rd) : (vcFun E1 20 35 [.agg [.str s, .int .i64 a, .int .i64 e, .int .i64 f], .int .i64 x, .int .i64 y] .nil 0 (retP 3 (.agg [.str r.s, .int .i64 r.at_, .int .i64 r.err, .int .i64 r.fat]))).sat = (
  VB (e == 0)
    (VB (!(decide (a ≥ 0) && decide (a ≤ (↑s.length : Int)) && f == 0)) (VB (decide (x < 1) || decide (x > 23)) ([] = r.s ∧ 0 = r.at_ ∧ 10 = r.err ∧ 0 = r.fat ∧ True) ([] = r.s ∧ 0 = r.at_ ∧ 10 = r.err ∧ 0 = r.fat ∧ True))
      (VB (decide (x < 1) || decide (x > 23)) (VB (e == 0) (s = r.s ∧ a = r.at_ ∧ 3 = r.err ∧ minI (maxI y 0) (↑s.length : Int) = r.fat ∧ True) (s = r.s ∧ a = r.at_ ∧ e = r.err ∧ f = r.fat ∧ True))
        (VB (e == 0) (s = r.s ∧ a = r.at_ ∧ x = r.err ∧ minI (maxI y 0) (↑s.length : Int) = r.fat ∧ True) (s = r.s ∧ a = r.at_ ∧ e = r.err ∧ f = r.fat ∧ True))))
    (VB (!(decide (a ≥ 0) && decide (a ≤ (↑s.length : Int)) && decide (e ≥ 1) && decide (e ≤ 23) && decide (f ≥ 0) && decide (f ≤ (↑s.length : Int))))
      (VB (decide (x < 1) || decide (x > 23)) ([] = r.s ∧ 0 = r.at_ ∧ 10 = r.err ∧ 0 = r.fat ∧ True) ([] = r.s ∧ 0 = r.at_ ∧ 10 = r.err ∧ 0 = r.fat ∧ True))
      (VB (decide (x < 1) || decide (x > 23)) (VB (e == 0) (s = r.s ∧ a = r.at_ ∧ 3 = r.err ∧ minI (maxI y 0) (↑s.length : Int) = r.fat ∧ True) (s = r.s ∧ a = r.at_ ∧ e = r.err ∧ f = r.fat ∧ True))
        (VB (e == 0) (s = r.s ∧ a = r.at_ ∧ x = r.err ∧ minI (maxI y 0) (↑s.length : Int) = r.fat ∧ True) (s = r.s ∧ a = r.at_ ∧ e = r.err ∧ f = r.fat ∧ True))))) := by
  kernel_rfl

theorem endI_vc (s : List UInt8) (a e f : Int) (r : Rd) : (vcFun E1 20 36 [.agg [.str s, .int .i64 a, .int .i64 e, .int .i64 f]] .nil 0 (retP 3 (.agg [.int .i64 r.err, .int .i64 r.fat]))).sat = (
  VB (e == 0)
    (VB (!(decide (a ≥ 0) && decide (a ≤ (↑s.length : Int)) && f == 0)) (10 = r.err ∧ 0 = r.fat ∧ True)
      (VB (decide (a < (↑s.length : Int))) (VB (e == 0) (4 = r.err ∧ a = r.fat ∧ True) (e = r.err ∧ f = r.fat ∧ True)) (e = r.err ∧ f = r.fat ∧ True)))
    (VB (!(decide (a ≥ 0) && decide (a ≤ (↑s.length : Int)) && decide (e ≥ 1) && decide (e ≤ 23) && decide (f ≥ 0) && decide (f ≤ (↑s.length : Int)))) (10 = r.err ∧ 0 = r.fat ∧ True)
      (VB (decide (a < (↑s.length : Int))) (VB (e == 0) (4 = r.err ∧ a = r.fat ∧ True) (e = r.err ∧ f = r.fat ∧ True)) (e = r.err ∧ f = r.fat ∧ True)))) := by
  kernel_rfl

theorem endR_vc (s : List UInt8) (a e f : Int) (r : Rd) : (vcFun E1 20 37 [.agg [.str s, .int .i64 a, .int .i64 e, .int .i64 f]] .nil 0 (retP 3 (.agg [.int .i64 r.err, .int .i64 r.fat]))).sat = (
  VB (e == 0)
    (VB (!(decide (a ≥ 0) && decide (a ≤ (↑s.length : Int)) && f == 0)) (10 = r.err ∧ 0 = r.fat ∧ True)
      (VB (decide (a < (↑s.length : Int))) (VB (e == 0) (4 = r.err ∧ a = r.fat ∧ True) (e = r.err ∧ f = r.fat ∧ True)) (e = r.err ∧ f = r.fat ∧ True)))
    (VB (!(decide (a ≥ 0) && decide (a ≤ (↑s.length : Int)) && decide (e ≥ 1) && decide (e ≤ 23) && decide (f ≥ 0) && decide (f ≤ (↑s.length : Int)))) (10 = r.err ∧ 0 = r.fat ∧ True)
      (VB (decide (a < (↑s.length : Int))) (VB (e == 0) (4 = r.err ∧ a = r.fat ∧ True) (e = r.err ∧ f = r.fat ∧ True)) (e = r.err ∧ f = r.fat ∧ True)))) := by
  kernel_rfl

theorem readI_vc (s : List UInt8) : (vcFun E1 20 38 [.str s] .nil 0 (retP 3 (.agg [.str s, .int .i64 0, .int .i64 0, .int .i64 0]))).sat = (
  s = s ∧ EqI 0 0 ∧ EqI 0 0 ∧ EqI 0 0 ∧ True) := by
  kernel_rfl

theorem readR_vc (s : List UInt8) : (vcFun E1 20 39 [.str s] .nil 0 (retP 3 (.agg [.str s, .int .i64 0, .int .i64 0, .int .i64 0]))).sat = (
  s = s ∧ EqI 0 0 ∧ EqI 0 0 ∧ EqI 0 0 ∧ True) := by
  kernel_rfl

end Go.Proofs.Ytfgedkmopgkonaa
