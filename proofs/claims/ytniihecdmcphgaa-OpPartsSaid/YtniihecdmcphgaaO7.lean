/- OP: O7 (from the wire chapter). -/
import Derived.Test.YtniihecdmcphgaaO2
import Derived.Test.YtniihecdmcphgaaW1
namespace Go.Proofs.Ytniihecdmcphgaa
open Pw Go
set_option maxRecDepth 100000
set_option linter.unusedSimpArgs false

noncomputable def tbl1 : List (Nat × Ctr) := [(66, cNumU), (51, cDig .u64)]
theorem tbl1_ok : TblOK Try.prog (fun _ => .undef) (tblOf tbl1) := tbl_cons numU_ok (tbl_cons digU_ok (tbl_nil _))
noncomputable def E1 : Env := mkE Try.prog (tblOf tbl1) fun _ _ => none
theorem uintI_vc (s : List UInt8) (a e f n : Int) (r : Rd) (v : Int) : (vcFun E1 20 39 [.agg [.str s, .int .i64 a, .int .i64 e, .int .i64 f], .int .i64 n] .nil 0 (retP 3 (.tup [.agg [.str r.s, .int .i64 r.at_, .int .i64 r.err, .int .i64 r.fat], .int .u64 v]))).sat = (
  VB (e == (0 : Int))
    (VB (!(decide (a ≥ (0 : Int)) && decide (a ≤ (↑s.length : Int)) && f == (0 : Int)))
      (VB (!(n == (1 : Int) || n == (2 : Int) || n == (4 : Int) || n == (8 : Int))) (([] = r.s ∧ (0 : Int) = r.at_ ∧ (10 : Int) = r.err ∧ (0 : Int) = r.fat ∧ True) ∧ (0 : Int) = v ∧ True)
        (([] = r.s ∧ (0 : Int) = r.at_ ∧ (10 : Int) = r.err ∧ (0 : Int) = r.fat ∧ True) ∧ (0 : Int) = v ∧ True))
      (VB (!(n == (1 : Int) || n == (2 : Int) || n == (4 : Int) || n == (8 : Int)))
        (VB (e == (0 : Int)) ((s = r.s ∧ a = r.at_ ∧ (2 : Int) = r.err ∧ a = r.fat ∧ True) ∧ (0 : Int) = v ∧ True)
          (VB (!e == (0 : Int)) ((s = r.s ∧ a = r.at_ ∧ e = r.err ∧ f = r.fat ∧ True) ∧ (0 : Int) = v ∧ True)
            (VB (decide (n < (0 : Int)))
              (VB (e == (0 : Int)) ((s = r.s ∧ a = r.at_ ∧ (2 : Int) = r.err ∧ a = r.fat ∧ True) ∧ numS [] = v ∧ True)
                (VB (!e == (0 : Int)) ((s = r.s ∧ a = r.at_ ∧ e = r.err ∧ f = r.fat ∧ True) ∧ numS [] = v ∧ True)
                  (NB (decide ((0 : Int) ≤ IntKind.i64.wrap (IntKind.i64.wrap (a + n) - n) ∧ IntKind.i64.wrap (IntKind.i64.wrap (a + n) - n) ≤ IntKind.i64.wrap (a + n) ∧ IntKind.i64.wrap (a + n) ≤ (↑s.length : Int)))
                    (NB
                      (decide
                        ((List.take ((IntKind.i64.wrap (a + n)).toNat - (IntKind.i64.wrap (IntKind.i64.wrap (a + n) - n)).toNat) (List.drop (IntKind.i64.wrap (IntKind.i64.wrap (a + n) - n)).toNat s)).length ≤
                          (9223372036854775807 : Nat)))
                      ((s = r.s ∧ IntKind.i64.wrap (a + n) = r.at_ ∧ e = r.err ∧ f = r.fat ∧ True) ∧
                        numS (List.take ((IntKind.i64.wrap (a + n)).toNat - (IntKind.i64.wrap (IntKind.i64.wrap (a + n) - n)).toNat) (List.drop (IntKind.i64.wrap (IntKind.i64.wrap (a + n) - n)).toNat s)) = v ∧ True)))))
              (VB (decide (n > IntKind.i64.wrap ((↑s.length : Int) - a)))
                (VB (e == (0 : Int)) ((s = r.s ∧ a = r.at_ ∧ (5 : Int) = r.err ∧ a = r.fat ∧ True) ∧ numS [] = v ∧ True)
                  (VB (!e == (0 : Int)) ((s = r.s ∧ a = r.at_ ∧ e = r.err ∧ f = r.fat ∧ True) ∧ numS [] = v ∧ True)
                    (NB (decide ((0 : Int) ≤ IntKind.i64.wrap (IntKind.i64.wrap (a + n) - n) ∧ IntKind.i64.wrap (IntKind.i64.wrap (a + n) - n) ≤ IntKind.i64.wrap (a + n) ∧ IntKind.i64.wrap (a + n) ≤ (↑s.length : Int)))
                      (NB
                        (decide
                          ((List.take ((IntKind.i64.wrap (a + n)).toNat - (IntKind.i64.wrap (IntKind.i64.wrap (a + n) - n)).toNat) (List.drop (IntKind.i64.wrap (IntKind.i64.wrap (a + n) - n)).toNat s)).length ≤
                            (9223372036854775807 : Nat)))
                        ((s = r.s ∧ IntKind.i64.wrap (a + n) = r.at_ ∧ e = r.err ∧ f = r.fat ∧ True) ∧
                          numS (List.take ((IntKind.i64.wrap (a + n)).toNat - (IntKind.i64.wrap (IntKind.i64.wrap (a + n) - n)).toNat) (List.drop (IntKind.i64.wrap (IntKind.i64.wrap (a + n) - n)).toNat s)) = v ∧ True)))))
                (VB (!e == (0 : Int)) ((s = r.s ∧ a = r.at_ ∧ e = r.err ∧ f = r.fat ∧ True) ∧ numS [] = v ∧ True)
                  (NB (decide ((0 : Int) ≤ IntKind.i64.wrap (IntKind.i64.wrap (a + n) - n) ∧ IntKind.i64.wrap (IntKind.i64.wrap (a + n) - n) ≤ IntKind.i64.wrap (a + n) ∧ IntKind.i64.wrap (a + n) ≤ (↑s.length : Int)))
                    (NB
                      (decide
                        ((List.take ((IntKind.i64.wrap (a + n)).toNat - (IntKind.i64.wrap (IntKind.i64.wrap (a + n) - n)).toNat) (List.drop (IntKind.i64.wrap (IntKind.i64.wrap (a + n) - n)).toNat s)).length ≤
                          (9223372036854775807 : Nat)))
                      ((s = r.s ∧ IntKind.i64.wrap (a + n) = r.at_ ∧ e = r.err ∧ f = r.fat ∧ True) ∧
                        numS (List.take ((IntKind.i64.wrap (a + n)).toNat - (IntKind.i64.wrap (IntKind.i64.wrap (a + n) - n)).toNat) (List.drop (IntKind.i64.wrap (IntKind.i64.wrap (a + n) - n)).toNat s)) = v ∧ True))))))))
        (VB (!e == (0 : Int)) ((s = r.s ∧ a = r.at_ ∧ e = r.err ∧ f = r.fat ∧ True) ∧ (0 : Int) = v ∧ True)
          (VB (decide (n < (0 : Int)))
            (VB (e == (0 : Int)) ((s = r.s ∧ a = r.at_ ∧ (2 : Int) = r.err ∧ a = r.fat ∧ True) ∧ numS [] = v ∧ True)
              (VB (!e == (0 : Int)) ((s = r.s ∧ a = r.at_ ∧ e = r.err ∧ f = r.fat ∧ True) ∧ numS [] = v ∧ True)
                (NB (decide ((0 : Int) ≤ IntKind.i64.wrap (IntKind.i64.wrap (a + n) - n) ∧ IntKind.i64.wrap (IntKind.i64.wrap (a + n) - n) ≤ IntKind.i64.wrap (a + n) ∧ IntKind.i64.wrap (a + n) ≤ (↑s.length : Int)))
                  (NB
                    (decide
                      ((List.take ((IntKind.i64.wrap (a + n)).toNat - (IntKind.i64.wrap (IntKind.i64.wrap (a + n) - n)).toNat) (List.drop (IntKind.i64.wrap (IntKind.i64.wrap (a + n) - n)).toNat s)).length ≤
                        (9223372036854775807 : Nat)))
                    ((s = r.s ∧ IntKind.i64.wrap (a + n) = r.at_ ∧ e = r.err ∧ f = r.fat ∧ True) ∧
                      numS (List.take ((IntKind.i64.wrap (a + n)).toNat - (IntKind.i64.wrap (IntKind.i64.wrap (a + n) - n)).toNat) (List.drop (IntKind.i64.wrap (IntKind.i64.wrap (a + n) - n)).toNat s)) = v ∧ True)))))
            (VB (decide (n > IntKind.i64.wrap ((↑s.length : Int) - a)))
              (VB (e == (0 : Int)) ((s = r.s ∧ a = r.at_ ∧ (5 : Int) = r.err ∧ a = r.fat ∧ True) ∧ numS [] = v ∧ True)
                (VB (!e == (0 : Int)) ((s = r.s ∧ a = r.at_ ∧ e = r.err ∧ f = r.fat ∧ True) ∧ numS [] = v ∧ True)
                  (NB (decide ((0 : Int) ≤ IntKind.i64.wrap (IntKind.i64.wrap (a + n) - n) ∧ IntKind.i64.wrap (IntKind.i64.wrap (a + n) - n) ≤ IntKind.i64.wrap (a + n) ∧ IntKind.i64.wrap (a + n) ≤ (↑s.length : Int)))
                    (NB
                      (decide
                        ((List.take ((IntKind.i64.wrap (a + n)).toNat - (IntKind.i64.wrap (IntKind.i64.wrap (a + n) - n)).toNat) (List.drop (IntKind.i64.wrap (IntKind.i64.wrap (a + n) - n)).toNat s)).length ≤
                          (9223372036854775807 : Nat)))
                      ((s = r.s ∧ IntKind.i64.wrap (a + n) = r.at_ ∧ e = r.err ∧ f = r.fat ∧ True) ∧
                        numS (List.take ((IntKind.i64.wrap (a + n)).toNat - (IntKind.i64.wrap (IntKind.i64.wrap (a + n) - n)).toNat) (List.drop (IntKind.i64.wrap (IntKind.i64.wrap (a + n) - n)).toNat s)) = v ∧ True)))))
              (VB (!e == (0 : Int)) ((s = r.s ∧ a = r.at_ ∧ e = r.err ∧ f = r.fat ∧ True) ∧ numS [] = v ∧ True)
                (NB (decide ((0 : Int) ≤ IntKind.i64.wrap (IntKind.i64.wrap (a + n) - n) ∧ IntKind.i64.wrap (IntKind.i64.wrap (a + n) - n) ≤ IntKind.i64.wrap (a + n) ∧ IntKind.i64.wrap (a + n) ≤ (↑s.length : Int)))
                  (NB
                    (decide
                      ((List.take ((IntKind.i64.wrap (a + n)).toNat - (IntKind.i64.wrap (IntKind.i64.wrap (a + n) - n)).toNat) (List.drop (IntKind.i64.wrap (IntKind.i64.wrap (a + n) - n)).toNat s)).length ≤
                        (9223372036854775807 : Nat)))
                    ((s = r.s ∧ IntKind.i64.wrap (a + n) = r.at_ ∧ e = r.err ∧ f = r.fat ∧ True) ∧
                      numS (List.take ((IntKind.i64.wrap (a + n)).toNat - (IntKind.i64.wrap (IntKind.i64.wrap (a + n) - n)).toNat) (List.drop (IntKind.i64.wrap (IntKind.i64.wrap (a + n) - n)).toNat s)) = v ∧ True)))))))))
    (VB (!(decide (a ≥ (0 : Int)) && decide (a ≤ (↑s.length : Int)) && decide (e ≥ (1 : Int)) && decide (e ≤ (23 : Int)) && decide (f ≥ (0 : Int)) && decide (f ≤ (↑s.length : Int))))
      (VB (!(n == (1 : Int) || n == (2 : Int) || n == (4 : Int) || n == (8 : Int))) (([] = r.s ∧ (0 : Int) = r.at_ ∧ (10 : Int) = r.err ∧ (0 : Int) = r.fat ∧ True) ∧ (0 : Int) = v ∧ True)
        (([] = r.s ∧ (0 : Int) = r.at_ ∧ (10 : Int) = r.err ∧ (0 : Int) = r.fat ∧ True) ∧ (0 : Int) = v ∧ True))
      (VB (!(n == (1 : Int) || n == (2 : Int) || n == (4 : Int) || n == (8 : Int)))
        (VB (e == (0 : Int)) ((s = r.s ∧ a = r.at_ ∧ (2 : Int) = r.err ∧ a = r.fat ∧ True) ∧ (0 : Int) = v ∧ True)
          (VB (!e == (0 : Int)) ((s = r.s ∧ a = r.at_ ∧ e = r.err ∧ f = r.fat ∧ True) ∧ (0 : Int) = v ∧ True)
            (VB (decide (n < (0 : Int)))
              (VB (e == (0 : Int)) ((s = r.s ∧ a = r.at_ ∧ (2 : Int) = r.err ∧ a = r.fat ∧ True) ∧ numS [] = v ∧ True)
                (VB (!e == (0 : Int)) ((s = r.s ∧ a = r.at_ ∧ e = r.err ∧ f = r.fat ∧ True) ∧ numS [] = v ∧ True)
                  (NB (decide ((0 : Int) ≤ IntKind.i64.wrap (IntKind.i64.wrap (a + n) - n) ∧ IntKind.i64.wrap (IntKind.i64.wrap (a + n) - n) ≤ IntKind.i64.wrap (a + n) ∧ IntKind.i64.wrap (a + n) ≤ (↑s.length : Int)))
                    (NB
                      (decide
                        ((List.take ((IntKind.i64.wrap (a + n)).toNat - (IntKind.i64.wrap (IntKind.i64.wrap (a + n) - n)).toNat) (List.drop (IntKind.i64.wrap (IntKind.i64.wrap (a + n) - n)).toNat s)).length ≤
                          (9223372036854775807 : Nat)))
                      ((s = r.s ∧ IntKind.i64.wrap (a + n) = r.at_ ∧ e = r.err ∧ f = r.fat ∧ True) ∧
                        numS (List.take ((IntKind.i64.wrap (a + n)).toNat - (IntKind.i64.wrap (IntKind.i64.wrap (a + n) - n)).toNat) (List.drop (IntKind.i64.wrap (IntKind.i64.wrap (a + n) - n)).toNat s)) = v ∧ True)))))
              (VB (decide (n > IntKind.i64.wrap ((↑s.length : Int) - a)))
                (VB (e == (0 : Int)) ((s = r.s ∧ a = r.at_ ∧ (5 : Int) = r.err ∧ a = r.fat ∧ True) ∧ numS [] = v ∧ True)
                  (VB (!e == (0 : Int)) ((s = r.s ∧ a = r.at_ ∧ e = r.err ∧ f = r.fat ∧ True) ∧ numS [] = v ∧ True)
                    (NB (decide ((0 : Int) ≤ IntKind.i64.wrap (IntKind.i64.wrap (a + n) - n) ∧ IntKind.i64.wrap (IntKind.i64.wrap (a + n) - n) ≤ IntKind.i64.wrap (a + n) ∧ IntKind.i64.wrap (a + n) ≤ (↑s.length : Int)))
                      (NB
                        (decide
                          ((List.take ((IntKind.i64.wrap (a + n)).toNat - (IntKind.i64.wrap (IntKind.i64.wrap (a + n) - n)).toNat) (List.drop (IntKind.i64.wrap (IntKind.i64.wrap (a + n) - n)).toNat s)).length ≤
                            (9223372036854775807 : Nat)))
                        ((s = r.s ∧ IntKind.i64.wrap (a + n) = r.at_ ∧ e = r.err ∧ f = r.fat ∧ True) ∧
                          numS (List.take ((IntKind.i64.wrap (a + n)).toNat - (IntKind.i64.wrap (IntKind.i64.wrap (a + n) - n)).toNat) (List.drop (IntKind.i64.wrap (IntKind.i64.wrap (a + n) - n)).toNat s)) = v ∧ True)))))
                (VB (!e == (0 : Int)) ((s = r.s ∧ a = r.at_ ∧ e = r.err ∧ f = r.fat ∧ True) ∧ numS [] = v ∧ True)
                  (NB (decide ((0 : Int) ≤ IntKind.i64.wrap (IntKind.i64.wrap (a + n) - n) ∧ IntKind.i64.wrap (IntKind.i64.wrap (a + n) - n) ≤ IntKind.i64.wrap (a + n) ∧ IntKind.i64.wrap (a + n) ≤ (↑s.length : Int)))
                    (NB
                      (decide
                        ((List.take ((IntKind.i64.wrap (a + n)).toNat - (IntKind.i64.wrap (IntKind.i64.wrap (a + n) - n)).toNat) (List.drop (IntKind.i64.wrap (IntKind.i64.wrap (a + n) - n)).toNat s)).length ≤
                          (9223372036854775807 : Nat)))
                      ((s = r.s ∧ IntKind.i64.wrap (a + n) = r.at_ ∧ e = r.err ∧ f = r.fat ∧ True) ∧
                        numS (List.take ((IntKind.i64.wrap (a + n)).toNat - (IntKind.i64.wrap (IntKind.i64.wrap (a + n) - n)).toNat) (List.drop (IntKind.i64.wrap (IntKind.i64.wrap (a + n) - n)).toNat s)) = v ∧ True))))))))
        (VB (!e == (0 : Int)) ((s = r.s ∧ a = r.at_ ∧ e = r.err ∧ f = r.fat ∧ True) ∧ (0 : Int) = v ∧ True)
          (VB (decide (n < (0 : Int)))
            (VB (e == (0 : Int)) ((s = r.s ∧ a = r.at_ ∧ (2 : Int) = r.err ∧ a = r.fat ∧ True) ∧ numS [] = v ∧ True)
              (VB (!e == (0 : Int)) ((s = r.s ∧ a = r.at_ ∧ e = r.err ∧ f = r.fat ∧ True) ∧ numS [] = v ∧ True)
                (NB (decide ((0 : Int) ≤ IntKind.i64.wrap (IntKind.i64.wrap (a + n) - n) ∧ IntKind.i64.wrap (IntKind.i64.wrap (a + n) - n) ≤ IntKind.i64.wrap (a + n) ∧ IntKind.i64.wrap (a + n) ≤ (↑s.length : Int)))
                  (NB
                    (decide
                      ((List.take ((IntKind.i64.wrap (a + n)).toNat - (IntKind.i64.wrap (IntKind.i64.wrap (a + n) - n)).toNat) (List.drop (IntKind.i64.wrap (IntKind.i64.wrap (a + n) - n)).toNat s)).length ≤
                        (9223372036854775807 : Nat)))
                    ((s = r.s ∧ IntKind.i64.wrap (a + n) = r.at_ ∧ e = r.err ∧ f = r.fat ∧ True) ∧
                      numS (List.take ((IntKind.i64.wrap (a + n)).toNat - (IntKind.i64.wrap (IntKind.i64.wrap (a + n) - n)).toNat) (List.drop (IntKind.i64.wrap (IntKind.i64.wrap (a + n) - n)).toNat s)) = v ∧ True)))))
            (VB (decide (n > IntKind.i64.wrap ((↑s.length : Int) - a)))
              (VB (e == (0 : Int)) ((s = r.s ∧ a = r.at_ ∧ (5 : Int) = r.err ∧ a = r.fat ∧ True) ∧ numS [] = v ∧ True)
                (VB (!e == (0 : Int)) ((s = r.s ∧ a = r.at_ ∧ e = r.err ∧ f = r.fat ∧ True) ∧ numS [] = v ∧ True)
                  (NB (decide ((0 : Int) ≤ IntKind.i64.wrap (IntKind.i64.wrap (a + n) - n) ∧ IntKind.i64.wrap (IntKind.i64.wrap (a + n) - n) ≤ IntKind.i64.wrap (a + n) ∧ IntKind.i64.wrap (a + n) ≤ (↑s.length : Int)))
                    (NB
                      (decide
                        ((List.take ((IntKind.i64.wrap (a + n)).toNat - (IntKind.i64.wrap (IntKind.i64.wrap (a + n) - n)).toNat) (List.drop (IntKind.i64.wrap (IntKind.i64.wrap (a + n) - n)).toNat s)).length ≤
                          (9223372036854775807 : Nat)))
                      ((s = r.s ∧ IntKind.i64.wrap (a + n) = r.at_ ∧ e = r.err ∧ f = r.fat ∧ True) ∧
                        numS (List.take ((IntKind.i64.wrap (a + n)).toNat - (IntKind.i64.wrap (IntKind.i64.wrap (a + n) - n)).toNat) (List.drop (IntKind.i64.wrap (IntKind.i64.wrap (a + n) - n)).toNat s)) = v ∧ True)))))
              (VB (!e == (0 : Int)) ((s = r.s ∧ a = r.at_ ∧ e = r.err ∧ f = r.fat ∧ True) ∧ numS [] = v ∧ True)
                (NB (decide ((0 : Int) ≤ IntKind.i64.wrap (IntKind.i64.wrap (a + n) - n) ∧ IntKind.i64.wrap (IntKind.i64.wrap (a + n) - n) ≤ IntKind.i64.wrap (a + n) ∧ IntKind.i64.wrap (a + n) ≤ (↑s.length : Int)))
                  (NB
                    (decide
                      ((List.take ((IntKind.i64.wrap (a + n)).toNat - (IntKind.i64.wrap (IntKind.i64.wrap (a + n) - n)).toNat) (List.drop (IntKind.i64.wrap (IntKind.i64.wrap (a + n) - n)).toNat s)).length ≤
                        (9223372036854775807 : Nat)))
                    ((s = r.s ∧ IntKind.i64.wrap (a + n) = r.at_ ∧ e = r.err ∧ f = r.fat ∧ True) ∧
                      numS (List.take ((IntKind.i64.wrap (a + n)).toNat - (IntKind.i64.wrap (IntKind.i64.wrap (a + n) - n)).toNat) (List.drop (IntKind.i64.wrap (IntKind.i64.wrap (a + n) - n)).toNat s)) = v ∧ True)))))))))) := by
  kernel_rfl

theorem sizedI0_vc (s : List UInt8) (a f n : Int) (r : Rd) (v : List UInt8) : (vcFun E1 20 71 [.agg [.str s, .int .i64 a, .int .i64 0, .int .i64 f], .int .i64 n] .nil 0 (retP 3 (.tup [.agg [.str r.s, .int .i64 r.at_, .int .i64 r.err, .int .i64 r.fat], .str v]))).sat = (
  VB (!(decide (a ≥ (0 : Int)) && decide (a ≤ (↑s.length : Int)) && f == (0 : Int)))
    (VB (decide (n < (0 : Int)) || decide (n > (65535 : Int))) (([] = r.s ∧ (0 : Int) = r.at_ ∧ (10 : Int) = r.err ∧ (0 : Int) = r.fat ∧ True) ∧ [] = v ∧ True)
      (([] = r.s ∧ (0 : Int) = r.at_ ∧ (10 : Int) = r.err ∧ (0 : Int) = r.fat ∧ True) ∧ [] = v ∧ True))
    (VB (decide (n < (0 : Int)) || decide (n > (65535 : Int)))
      (VB (decide ((2 : Int) > IntKind.i64.wrap ((↑s.length : Int) - a)))
        (VB (decide ((0 : Int) > IntKind.i64.wrap ((↑s.length : Int) - a))) ((s = r.s ∧ a = r.at_ ∧ (2 : Int) = r.err ∧ a = r.fat ∧ True) ∧ [] = v ∧ True)
          ((s = r.s ∧ a = r.at_ ∧ (2 : Int) = r.err ∧ a = r.fat ∧ True) ∧ [] = v ∧ True))
        (VB (decide ((0 : Int) > IntKind.i64.wrap ((↑s.length : Int) - a))) ((s = r.s ∧ a = r.at_ ∧ (2 : Int) = r.err ∧ a = r.fat ∧ True) ∧ [] = v ∧ True)
          ((s = r.s ∧ a = r.at_ ∧ (2 : Int) = r.err ∧ a = r.fat ∧ True) ∧ [] = v ∧ True)))
      (VB (decide ((2 : Int) > IntKind.i64.wrap ((↑s.length : Int) - a)))
        (VB (decide ((0 : Int) > IntKind.i64.wrap ((↑s.length : Int) - a))) ((s = r.s ∧ a = r.at_ ∧ (5 : Int) = r.err ∧ a = r.fat ∧ True) ∧ [] = v ∧ True)
          ((s = r.s ∧ a = r.at_ ∧ (5 : Int) = r.err ∧ a = r.fat ∧ True) ∧ [] = v ∧ True))
        (NB
          (decide
            ((0 : Int) ≤ IntKind.i64.wrap (IntKind.i64.wrap (a + (2 : Int)) - (2 : Int)) ∧
              IntKind.i64.wrap (IntKind.i64.wrap (a + (2 : Int)) - (2 : Int)) ≤ IntKind.i64.wrap (a + (2 : Int)) ∧ IntKind.i64.wrap (a + (2 : Int)) ≤ (↑s.length : Int)))
          (NB
            (decide
              ((List.take ((IntKind.i64.wrap (a + (2 : Int))).toNat - (IntKind.i64.wrap (IntKind.i64.wrap (a + (2 : Int)) - (2 : Int))).toNat)
                    (List.drop (IntKind.i64.wrap (IntKind.i64.wrap (a + (2 : Int)) - (2 : Int))).toNat s)).length ≤
                (9223372036854775807 : Nat)))
            (VB
              (true &&
                decide
                  (IntKind.i64.wrap
                      (numS
                        (List.take ((IntKind.i64.wrap (a + (2 : Int))).toNat - (IntKind.i64.wrap (IntKind.i64.wrap (a + (2 : Int)) - (2 : Int))).toNat)
                          (List.drop (IntKind.i64.wrap (IntKind.i64.wrap (a + (2 : Int)) - (2 : Int))).toNat s))) >
                    n))
              (VB
                (decide
                  (IntKind.i64.wrap
                      (numS
                        (List.take ((IntKind.i64.wrap (a + (2 : Int))).toNat - (IntKind.i64.wrap (IntKind.i64.wrap (a + (2 : Int)) - (2 : Int))).toNat)
                          (List.drop (IntKind.i64.wrap (IntKind.i64.wrap (a + (2 : Int)) - (2 : Int))).toNat s))) <
                    (0 : Int)))
                ((s = r.s ∧ a = r.at_ ∧ (4 : Int) = r.err ∧ a = r.fat ∧ True) ∧ [] = v ∧ True)
                (VB
                  (decide
                    (IntKind.i64.wrap
                        (numS
                          (List.take ((IntKind.i64.wrap (a + (2 : Int))).toNat - (IntKind.i64.wrap (IntKind.i64.wrap (a + (2 : Int)) - (2 : Int))).toNat)
                            (List.drop (IntKind.i64.wrap (IntKind.i64.wrap (a + (2 : Int)) - (2 : Int))).toNat s))) >
                      IntKind.i64.wrap ((↑s.length : Int) - a)))
                  ((s = r.s ∧ a = r.at_ ∧ (4 : Int) = r.err ∧ a = r.fat ∧ True) ∧ [] = v ∧ True) ((s = r.s ∧ a = r.at_ ∧ (4 : Int) = r.err ∧ a = r.fat ∧ True) ∧ [] = v ∧ True)))
              (VB
                (decide
                  (IntKind.i64.wrap
                      (numS
                        (List.take ((IntKind.i64.wrap (a + (2 : Int))).toNat - (IntKind.i64.wrap (IntKind.i64.wrap (a + (2 : Int)) - (2 : Int))).toNat)
                          (List.drop (IntKind.i64.wrap (IntKind.i64.wrap (a + (2 : Int)) - (2 : Int))).toNat s))) <
                    (0 : Int)))
                ((s = r.s ∧ IntKind.i64.wrap (a + (2 : Int)) = r.at_ ∧ (2 : Int) = r.err ∧ IntKind.i64.wrap (a + (2 : Int)) = r.fat ∧ True) ∧ [] = v ∧ True)
                (VB
                  (decide
                    (IntKind.i64.wrap
                        (numS
                          (List.take ((IntKind.i64.wrap (a + (2 : Int))).toNat - (IntKind.i64.wrap (IntKind.i64.wrap (a + (2 : Int)) - (2 : Int))).toNat)
                            (List.drop (IntKind.i64.wrap (IntKind.i64.wrap (a + (2 : Int)) - (2 : Int))).toNat s))) >
                      IntKind.i64.wrap ((↑s.length : Int) - IntKind.i64.wrap (a + (2 : Int)))))
                  ((s = r.s ∧ IntKind.i64.wrap (a + (2 : Int)) = r.at_ ∧ (5 : Int) = r.err ∧ IntKind.i64.wrap (a + (2 : Int)) = r.fat ∧ True) ∧ [] = v ∧ True)
                  (NB
                    (decide
                      ((0 : Int) ≤
                          IntKind.i64.wrap
                            (IntKind.i64.wrap
                                (IntKind.i64.wrap (a + (2 : Int)) +
                                  IntKind.i64.wrap
                                    (numS
                                      (List.take ((IntKind.i64.wrap (a + (2 : Int))).toNat - (IntKind.i64.wrap (IntKind.i64.wrap (a + (2 : Int)) - (2 : Int))).toNat)
                                        (List.drop (IntKind.i64.wrap (IntKind.i64.wrap (a + (2 : Int)) - (2 : Int))).toNat s)))) -
                              IntKind.i64.wrap
                                (numS
                                  (List.take ((IntKind.i64.wrap (a + (2 : Int))).toNat - (IntKind.i64.wrap (IntKind.i64.wrap (a + (2 : Int)) - (2 : Int))).toNat)
                                    (List.drop (IntKind.i64.wrap (IntKind.i64.wrap (a + (2 : Int)) - (2 : Int))).toNat s)))) ∧
                        IntKind.i64.wrap
                              (IntKind.i64.wrap
                                  (IntKind.i64.wrap (a + (2 : Int)) +
                                    IntKind.i64.wrap
                                      (numS
                                        (List.take ((IntKind.i64.wrap (a + (2 : Int))).toNat - (IntKind.i64.wrap (IntKind.i64.wrap (a + (2 : Int)) - (2 : Int))).toNat)
                                          (List.drop (IntKind.i64.wrap (IntKind.i64.wrap (a + (2 : Int)) - (2 : Int))).toNat s)))) -
                                IntKind.i64.wrap
                                  (numS
                                    (List.take ((IntKind.i64.wrap (a + (2 : Int))).toNat - (IntKind.i64.wrap (IntKind.i64.wrap (a + (2 : Int)) - (2 : Int))).toNat)
                                      (List.drop (IntKind.i64.wrap (IntKind.i64.wrap (a + (2 : Int)) - (2 : Int))).toNat s)))) ≤
                            IntKind.i64.wrap
                              (IntKind.i64.wrap (a + (2 : Int)) +
                                IntKind.i64.wrap
                                  (numS
                                    (List.take ((IntKind.i64.wrap (a + (2 : Int))).toNat - (IntKind.i64.wrap (IntKind.i64.wrap (a + (2 : Int)) - (2 : Int))).toNat)
                                      (List.drop (IntKind.i64.wrap (IntKind.i64.wrap (a + (2 : Int)) - (2 : Int))).toNat s)))) ∧
                          IntKind.i64.wrap
                              (IntKind.i64.wrap (a + (2 : Int)) +
                                IntKind.i64.wrap
                                  (numS
                                    (List.take ((IntKind.i64.wrap (a + (2 : Int))).toNat - (IntKind.i64.wrap (IntKind.i64.wrap (a + (2 : Int)) - (2 : Int))).toNat)
                                      (List.drop (IntKind.i64.wrap (IntKind.i64.wrap (a + (2 : Int)) - (2 : Int))).toNat s)))) ≤
                            (↑s.length : Int)))
                    ((s = r.s ∧
                        IntKind.i64.wrap
                              (IntKind.i64.wrap (a + (2 : Int)) +
                                IntKind.i64.wrap
                                  (numS
                                    (List.take ((IntKind.i64.wrap (a + (2 : Int))).toNat - (IntKind.i64.wrap (IntKind.i64.wrap (a + (2 : Int)) - (2 : Int))).toNat)
                                      (List.drop (IntKind.i64.wrap (IntKind.i64.wrap (a + (2 : Int)) - (2 : Int))).toNat s)))) =
                            r.at_ ∧
                          (0 : Int) = r.err ∧ f = r.fat ∧ True) ∧
                      List.take
                            ((IntKind.i64.wrap
                                  (IntKind.i64.wrap (a + (2 : Int)) +
                                    IntKind.i64.wrap
                                      (numS
                                        (List.take ((IntKind.i64.wrap (a + (2 : Int))).toNat - (IntKind.i64.wrap (IntKind.i64.wrap (a + (2 : Int)) - (2 : Int))).toNat)
                                          (List.drop (IntKind.i64.wrap (IntKind.i64.wrap (a + (2 : Int)) - (2 : Int))).toNat s))))).toNat -
                              (IntKind.i64.wrap
                                  (IntKind.i64.wrap
                                      (IntKind.i64.wrap (a + (2 : Int)) +
                                        IntKind.i64.wrap
                                          (numS
                                            (List.take ((IntKind.i64.wrap (a + (2 : Int))).toNat - (IntKind.i64.wrap (IntKind.i64.wrap (a + (2 : Int)) - (2 : Int))).toNat)
                                              (List.drop (IntKind.i64.wrap (IntKind.i64.wrap (a + (2 : Int)) - (2 : Int))).toNat s)))) -
                                    IntKind.i64.wrap
                                      (numS
                                        (List.take ((IntKind.i64.wrap (a + (2 : Int))).toNat - (IntKind.i64.wrap (IntKind.i64.wrap (a + (2 : Int)) - (2 : Int))).toNat)
                                          (List.drop (IntKind.i64.wrap (IntKind.i64.wrap (a + (2 : Int)) - (2 : Int))).toNat s))))).toNat)
                            (List.drop
                              (IntKind.i64.wrap
                                  (IntKind.i64.wrap
                                      (IntKind.i64.wrap (a + (2 : Int)) +
                                        IntKind.i64.wrap
                                          (numS
                                            (List.take ((IntKind.i64.wrap (a + (2 : Int))).toNat - (IntKind.i64.wrap (IntKind.i64.wrap (a + (2 : Int)) - (2 : Int))).toNat)
                                              (List.drop (IntKind.i64.wrap (IntKind.i64.wrap (a + (2 : Int)) - (2 : Int))).toNat s)))) -
                                    IntKind.i64.wrap
                                      (numS
                                        (List.take ((IntKind.i64.wrap (a + (2 : Int))).toNat - (IntKind.i64.wrap (IntKind.i64.wrap (a + (2 : Int)) - (2 : Int))).toNat)
                                          (List.drop (IntKind.i64.wrap (IntKind.i64.wrap (a + (2 : Int)) - (2 : Int))).toNat s))))).toNat
                              s) =
                          v ∧
                        True)))))))))) := by
  kernel_rfl

theorem sizedI1_vc (s : List UInt8) (a f n : Int) (m : Nat) (r : Rd) (v : List UInt8) : (vcFun E1 20 71 [.agg [.str s, .int .i64 a, .int .i64 (Int.ofNat (m + 1)), .int .i64 f], .int .i64 n] .nil 0 (retP 3 (.tup [.agg [.str r.s, .int .i64 r.at_, .int .i64 r.err, .int .i64 r.fat], .str v]))).sat = (
  VB
    (!(decide (a ≥ (0 : Int)) && decide (a ≤ (↑s.length : Int)) && decide (Int.ofNat (m + (1 : Nat)) ≥ (1 : Int)) && decide (Int.ofNat (m + (1 : Nat)) ≤ (23 : Int)) && decide (f ≥ (0 : Int)) &&
        decide (f ≤ (↑s.length : Int))))
    (VB (decide (n < (0 : Int)) || decide (n > (65535 : Int))) (([] = r.s ∧ (0 : Int) = r.at_ ∧ (10 : Int) = r.err ∧ (0 : Int) = r.fat ∧ True) ∧ [] = v ∧ True)
      (([] = r.s ∧ (0 : Int) = r.at_ ∧ (10 : Int) = r.err ∧ (0 : Int) = r.fat ∧ True) ∧ [] = v ∧ True))
    (VB (decide (n < (0 : Int)) || decide (n > (65535 : Int)))
      (VB (decide ((2 : Int) > IntKind.i64.wrap ((↑s.length : Int) - a)))
        (VB (decide ((0 : Int) > IntKind.i64.wrap ((↑s.length : Int) - a))) ((s = r.s ∧ a = r.at_ ∧ Int.ofNat (m + (1 : Nat)) = r.err ∧ f = r.fat ∧ True) ∧ [] = v ∧ True)
          ((s = r.s ∧ a = r.at_ ∧ Int.ofNat (m + (1 : Nat)) = r.err ∧ f = r.fat ∧ True) ∧ [] = v ∧ True))
        (VB (decide ((0 : Int) > IntKind.i64.wrap ((↑s.length : Int) - a))) ((s = r.s ∧ a = r.at_ ∧ Int.ofNat (m + (1 : Nat)) = r.err ∧ f = r.fat ∧ True) ∧ [] = v ∧ True)
          ((s = r.s ∧ a = r.at_ ∧ Int.ofNat (m + (1 : Nat)) = r.err ∧ f = r.fat ∧ True) ∧ [] = v ∧ True)))
      (VB (decide ((2 : Int) > IntKind.i64.wrap ((↑s.length : Int) - a)))
        (VB (decide ((0 : Int) > IntKind.i64.wrap ((↑s.length : Int) - a))) ((s = r.s ∧ a = r.at_ ∧ Int.ofNat (m + (1 : Nat)) = r.err ∧ f = r.fat ∧ True) ∧ [] = v ∧ True)
          ((s = r.s ∧ a = r.at_ ∧ Int.ofNat (m + (1 : Nat)) = r.err ∧ f = r.fat ∧ True) ∧ [] = v ∧ True))
        (VB (decide ((0 : Int) > IntKind.i64.wrap ((↑s.length : Int) - a))) ((s = r.s ∧ a = r.at_ ∧ Int.ofNat (m + (1 : Nat)) = r.err ∧ f = r.fat ∧ True) ∧ [] = v ∧ True)
          ((s = r.s ∧ a = r.at_ ∧ Int.ofNat (m + (1 : Nat)) = r.err ∧ f = r.fat ∧ True) ∧ [] = v ∧ True))))) := by
  kernel_rfl

theorem sizedI2_vc (s : List UInt8) (a f n : Int) (m : Nat) (r : Rd) (v : List UInt8) : (vcFun E1 20 71 [.agg [.str s, .int .i64 a, .int .i64 (Int.negSucc m), .int .i64 f], .int .i64 n] .nil 0 (retP 3 (.tup [.agg [.str r.s, .int .i64 r.at_, .int .i64 r.err, .int .i64 r.fat], .str v]))).sat = (
  VB (!(decide (a ≥ (0 : Int)) && decide (a ≤ (↑s.length : Int)) && decide (Int.negSucc m ≥ (1 : Int)) && decide (Int.negSucc m ≤ (23 : Int)) && decide (f ≥ (0 : Int)) && decide (f ≤ (↑s.length : Int))))
    (VB (decide (n < (0 : Int)) || decide (n > (65535 : Int))) (([] = r.s ∧ (0 : Int) = r.at_ ∧ (10 : Int) = r.err ∧ (0 : Int) = r.fat ∧ True) ∧ [] = v ∧ True)
      (([] = r.s ∧ (0 : Int) = r.at_ ∧ (10 : Int) = r.err ∧ (0 : Int) = r.fat ∧ True) ∧ [] = v ∧ True))
    (VB (decide (n < (0 : Int)) || decide (n > (65535 : Int)))
      (VB (decide ((2 : Int) > IntKind.i64.wrap ((↑s.length : Int) - a)))
        (VB (decide ((0 : Int) > IntKind.i64.wrap ((↑s.length : Int) - a))) ((s = r.s ∧ a = r.at_ ∧ Int.negSucc m = r.err ∧ f = r.fat ∧ True) ∧ [] = v ∧ True)
          ((s = r.s ∧ a = r.at_ ∧ Int.negSucc m = r.err ∧ f = r.fat ∧ True) ∧ [] = v ∧ True))
        (VB (decide ((0 : Int) > IntKind.i64.wrap ((↑s.length : Int) - a))) ((s = r.s ∧ a = r.at_ ∧ Int.negSucc m = r.err ∧ f = r.fat ∧ True) ∧ [] = v ∧ True)
          ((s = r.s ∧ a = r.at_ ∧ Int.negSucc m = r.err ∧ f = r.fat ∧ True) ∧ [] = v ∧ True)))
      (VB (decide ((2 : Int) > IntKind.i64.wrap ((↑s.length : Int) - a)))
        (VB (decide ((0 : Int) > IntKind.i64.wrap ((↑s.length : Int) - a))) ((s = r.s ∧ a = r.at_ ∧ Int.negSucc m = r.err ∧ f = r.fat ∧ True) ∧ [] = v ∧ True)
          ((s = r.s ∧ a = r.at_ ∧ Int.negSucc m = r.err ∧ f = r.fat ∧ True) ∧ [] = v ∧ True))
        (VB (decide ((0 : Int) > IntKind.i64.wrap ((↑s.length : Int) - a))) ((s = r.s ∧ a = r.at_ ∧ Int.negSucc m = r.err ∧ f = r.fat ∧ True) ∧ [] = v ∧ True)
          ((s = r.s ∧ a = r.at_ ∧ Int.negSucc m = r.err ∧ f = r.fat ∧ True) ∧ [] = v ∧ True))))) := by
  kernel_rfl

theorem failI_vc (s : List UInt8) (a e f x y : Int) (r : Rd) : (vcFun E1 20 40 [.agg [.str s, .int .i64 a, .int .i64 e, .int .i64 f], .int .i64 x, .int .i64 y] .nil 0 (retP 3 (.agg [.str r.s, .int .i64 r.at_, .int .i64 r.err, .int .i64 r.fat]))).sat = (
  VB (e == (0 : Int))
    (VB (!(decide (a ≥ (0 : Int)) && decide (a ≤ (↑s.length : Int)) && f == (0 : Int)))
      (VB (decide (x < (1 : Int)) || decide (x > (23 : Int))) ([] = r.s ∧ (0 : Int) = r.at_ ∧ (10 : Int) = r.err ∧ (0 : Int) = r.fat ∧ True) ([] = r.s ∧ (0 : Int) = r.at_ ∧ (10 : Int) = r.err ∧ (0 : Int) = r.fat ∧ True))
      (VB (decide (x < (1 : Int)) || decide (x > (23 : Int)))
        (VB (e == (0 : Int)) (s = r.s ∧ a = r.at_ ∧ (3 : Int) = r.err ∧ minI (maxI y (0 : Int)) (↑s.length : Int) = r.fat ∧ True) (s = r.s ∧ a = r.at_ ∧ e = r.err ∧ f = r.fat ∧ True))
        (VB (e == (0 : Int)) (s = r.s ∧ a = r.at_ ∧ x = r.err ∧ minI (maxI y (0 : Int)) (↑s.length : Int) = r.fat ∧ True) (s = r.s ∧ a = r.at_ ∧ e = r.err ∧ f = r.fat ∧ True))))
    (VB (!(decide (a ≥ (0 : Int)) && decide (a ≤ (↑s.length : Int)) && decide (e ≥ (1 : Int)) && decide (e ≤ (23 : Int)) && decide (f ≥ (0 : Int)) && decide (f ≤ (↑s.length : Int))))
      (VB (decide (x < (1 : Int)) || decide (x > (23 : Int))) ([] = r.s ∧ (0 : Int) = r.at_ ∧ (10 : Int) = r.err ∧ (0 : Int) = r.fat ∧ True) ([] = r.s ∧ (0 : Int) = r.at_ ∧ (10 : Int) = r.err ∧ (0 : Int) = r.fat ∧ True))
      (VB (decide (x < (1 : Int)) || decide (x > (23 : Int)))
        (VB (e == (0 : Int)) (s = r.s ∧ a = r.at_ ∧ (3 : Int) = r.err ∧ minI (maxI y (0 : Int)) (↑s.length : Int) = r.fat ∧ True) (s = r.s ∧ a = r.at_ ∧ e = r.err ∧ f = r.fat ∧ True))
        (VB (e == (0 : Int)) (s = r.s ∧ a = r.at_ ∧ x = r.err ∧ minI (maxI y (0 : Int)) (↑s.length : Int) = r.fat ∧ True) (s = r.s ∧ a = r.at_ ∧ e = r.err ∧ f = r.fat ∧ True))))) := by
  kernel_rfl

theorem endI_vc (s : List UInt8) (a e f : Int) (r : Rd) : (vcFun E1 20 27 [.agg [.str s, .int .i64 a, .int .i64 e, .int .i64 f]] .nil 0 (retP 3 (.agg [.int .i64 r.err, .int .i64 r.fat]))).sat = (
  VB (e == (0 : Int))
    (VB (!(decide (a ≥ (0 : Int)) && decide (a ≤ (↑s.length : Int)) && f == (0 : Int))) ((10 : Int) = r.err ∧ (0 : Int) = r.fat ∧ True)
      (VB (decide (a < (↑s.length : Int))) (VB (e == (0 : Int)) ((4 : Int) = r.err ∧ a = r.fat ∧ True) (e = r.err ∧ f = r.fat ∧ True)) (e = r.err ∧ f = r.fat ∧ True)))
    (VB (!(decide (a ≥ (0 : Int)) && decide (a ≤ (↑s.length : Int)) && decide (e ≥ (1 : Int)) && decide (e ≤ (23 : Int)) && decide (f ≥ (0 : Int)) && decide (f ≤ (↑s.length : Int))))
      ((10 : Int) = r.err ∧ (0 : Int) = r.fat ∧ True) (VB (decide (a < (↑s.length : Int))) (VB (e == (0 : Int)) ((4 : Int) = r.err ∧ a = r.fat ∧ True) (e = r.err ∧ f = r.fat ∧ True)) (e = r.err ∧ f = r.fat ∧ True)))) := by
  kernel_rfl

theorem makeI_vc (m : Int) (r : Wr) : (vcFun E1 20 36 [.int .i64 m] .nil 0 (retP 3 (.agg [.str r.s, .int .i64 r.most, .int .i64 r.err]))).sat = (
  VB (decide (m < (0 : Int)) || decide (m > (20000 : Int)) || decide ((0 : Int) > m) || false || false) ([] = r.s ∧ (0 : Int) = r.most ∧ (10 : Int) = r.err ∧ True) ([] = r.s ∧ m = r.most ∧ (0 : Int) = r.err ∧ True)) := by
  kernel_rfl

theorem wputI_vc (s : List UInt8) (m e k n : Int) (r : Wr) : (vcFun (mkF Try.prog (tblOf tbl1) (fun _ _ => none) 4) 20 35 [.agg [.str s, .int .i64 m, .int .i64 e], .int .i64 k, .int .u64 n] .nil 0 (retP 3 (.agg [.str r.s, .int .i64 r.most, .int .i64 r.err]))).sat = (
  VB (decide (m < (0 : Int)) || decide (m > (20000 : Int)) || decide ((↑s.length : Int) > m) || decide (e < (0 : Int)) || decide (e > (23 : Int)))
    (NB (impB (isW false !(k == (1 : Int) || k == (2 : Int) || k == (4 : Int) || k == (8 : Int)) && isW true (decide (k < (8 : Int)))) (decide ((0 : Int) ≤ IntKind.i64.wrap ((8 : Int) * k))))
      (VB (!(k == (1 : Int) || k == (2 : Int) || k == (4 : Int) || k == (8 : Int)) || decide (k < (8 : Int)) && shrI IntKind.u64 n (IntKind.i64.wrap ((8 : Int) * k)) != (0 : Int))
        ([] = r.s ∧ (0 : Int) = r.most ∧ (10 : Int) = r.err ∧ True)
        (NB (decide ((0 : Int) ≤ k ∧ k ≤ (8 : Int)))
          (VB (decide ((↑(hide (digS n k.toNat)).length : Int) > (0 : Int))) ([] = r.s ∧ (0 : Int) = r.most ∧ (10 : Int) = r.err ∧ True) ([] = r.s ∧ (0 : Int) = r.most ∧ (10 : Int) = r.err ∧ True)))))
    (NB (impB (isW false !(k == (1 : Int) || k == (2 : Int) || k == (4 : Int) || k == (8 : Int)) && isW true (decide (k < (8 : Int)))) (decide ((0 : Int) ≤ IntKind.i64.wrap ((8 : Int) * k))))
      (VB (!(k == (1 : Int) || k == (2 : Int) || k == (4 : Int) || k == (8 : Int)) || decide (k < (8 : Int)) && shrI IntKind.u64 n (IntKind.i64.wrap ((8 : Int) * k)) != (0 : Int))
        (VB (e == (0 : Int)) (s = r.s ∧ m = r.most ∧ (2 : Int) = r.err ∧ True) (s = r.s ∧ m = r.most ∧ e = r.err ∧ True))
        (NB (decide ((0 : Int) ≤ k ∧ k ≤ (8 : Int)))
          (VB (decide ((↑(hide (digS n k.toNat)).length : Int) > IntKind.i64.wrap (m - (↑s.length : Int)))) (VB (e == (0 : Int)) (s = r.s ∧ m = r.most ∧ (4 : Int) = r.err ∧ True) (s = r.s ∧ m = r.most ∧ e = r.err ∧ True))
            (VB (e != (0 : Int)) (s = r.s ∧ m = r.most ∧ e = r.err ∧ True)
              (NB (decide ((↑s.length : Int) + (↑(hide (digS n k.toNat)).length : Int) ≤ (9223372036854775807 : Int))) (s ++ hide (digS n k.toNat) = r.s ∧ m = r.most ∧ e = r.err ∧ True)))))))) := by
  kernel_rfl

theorem putSizedI_vc (s : List UInt8) (m e : Int) (t : List UInt8) (r : Wr) : (vcFun (mkF Try.prog (tblOf tbl1) (fun _ _ => none) 4) 20 72 [.agg [.str s, .int .i64 m, .int .i64 e], .str t] .nil 0 (retP 3 (.agg [.str r.s, .int .i64 r.most, .int .i64 r.err]))).sat = (
  VB (decide (m < (0 : Int)) || decide (m > (20000 : Int)) || decide ((↑s.length : Int) > m) || decide (e < (0 : Int)) || decide (e > (23 : Int)))
    (VB (decide ((↑t.length : Int) > (65535 : Int))) ([] = r.s ∧ (0 : Int) = r.most ∧ (10 : Int) = r.err ∧ True)
      (VB (decide ((↑(hide (digS (IntKind.u64.wrap (↑t.length : Int)) (Int.toNat (2 : Int)))).length : Int) > (0 : Int))) ([] = r.s ∧ (0 : Int) = r.most ∧ (10 : Int) = r.err ∧ True)
        (VB (decide ((↑t.length : Int) > IntKind.i64.wrap ((0 : Int) - IntKind.i64.wrap ((0 : Int) + (↑(hide (digS (IntKind.u64.wrap (↑t.length : Int)) (Int.toNat (2 : Int)))).length : Int)))))
          ([] = r.s ∧ (0 : Int) = r.most ∧ (10 : Int) = r.err ∧ True) ([] = r.s ∧ (0 : Int) = r.most ∧ (10 : Int) = r.err ∧ True))))
    (VB (decide ((↑t.length : Int) > (65535 : Int))) (VB (e == (0 : Int)) (s = r.s ∧ m = r.most ∧ (2 : Int) = r.err ∧ True) (s = r.s ∧ m = r.most ∧ e = r.err ∧ True))
      (VB (decide ((↑(hide (digS (IntKind.u64.wrap (↑t.length : Int)) (Int.toNat (2 : Int)))).length : Int) > IntKind.i64.wrap (m - (↑s.length : Int))))
        (VB (e == (0 : Int)) (s = r.s ∧ m = r.most ∧ (4 : Int) = r.err ∧ True) (s = r.s ∧ m = r.most ∧ e = r.err ∧ True))
        (VB (decide ((↑t.length : Int) > IntKind.i64.wrap (m - IntKind.i64.wrap ((↑s.length : Int) + (↑(hide (digS (IntKind.u64.wrap (↑t.length : Int)) (Int.toNat (2 : Int)))).length : Int)))))
          (VB (e == (0 : Int)) (s = r.s ∧ m = r.most ∧ (4 : Int) = r.err ∧ True) (s = r.s ∧ m = r.most ∧ e = r.err ∧ True))
          (VB (e != (0 : Int)) (s = r.s ∧ m = r.most ∧ e = r.err ∧ True)
            (NB (decide ((↑s.length : Int) + (↑(hide (digS (IntKind.u64.wrap (↑t.length : Int)) (Int.toNat (2 : Int)))).length : Int) ≤ (9223372036854775807 : Int)))
              (NB (decide ((↑(s ++ hide (digS (IntKind.u64.wrap (↑t.length : Int)) (Int.toNat (2 : Int)))).length : Int) + (↑t.length : Int) ≤ (9223372036854775807 : Int)))
                (s ++ hide (digS (IntKind.u64.wrap (↑t.length : Int)) (Int.toNat (2 : Int))) ++ t = r.s ∧ m = r.most ∧ e = r.err ∧ True)))))))) := by
  kernel_rfl

theorem doneI_vc (s : List UInt8) (m e : Int) (t : List UInt8) (x : Int) : (vcFun E1 20 25 [.agg [.str s, .int .i64 m, .int .i64 e]] .nil 0 (retP 3 (.tup [.str t, .int .i64 x]))).sat = (
  VB (decide (m < (0 : Int)) || decide (m > (20000 : Int)) || decide ((↑s.length : Int) > m) || decide (e < (0 : Int)) || decide (e > (23 : Int))) ([] = t ∧ (10 : Int) = x ∧ True)
    (VB (e != (0 : Int)) ([] = t ∧ e = x ∧ True) (s = t ∧ (0 : Int) = x ∧ True))) := by
  kernel_rfl

end Go.Proofs.Ytniihecdmcphgaa
