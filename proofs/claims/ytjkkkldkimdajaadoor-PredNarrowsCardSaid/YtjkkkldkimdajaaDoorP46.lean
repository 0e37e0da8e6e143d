/- PRED 46: labels made of numbers; which atoms match, as a new list: conditions of the codes. -/
import Derived.Test.YtjkkkldkimdajaaDoorP38
import Derived.Test.YtjkkkldkimdajaaDoorP18
import Derived.Test.YtjkkkldkimdajaaDoorPwG5
namespace Go.Proofs.YtjkkkldkimdajaaDoor
open Pw Go
set_option maxRecDepth 100000
set_option linter.unusedSimpArgs false

theorem label_vc (n r : Int) : (vcFun (mkE Tryd.prog (tblOf tbl6) fun _ _ => none) 20 43 [.int .i64 n] .nil 0 (retP 3 (.int .u64 r))).sat = (
  VB ((n % (1099511627776 : Int)).tmod (16 : Int) == (15 : Int)) (IntKind.u64.wrap (IntKind.u64.wrap (IntKind.i64.wrap ((n % (1099511627776 : Int)).tdiv (16 : Int))) * (11400714819323198485 : Int)) = r)
    (IntKind.u64.wrap (andI IntKind.i64 ((n % (1099511627776 : Int)).tmod (16 : Int)) ((IntKind.i64.wrap ((n % (1099511627776 : Int)).tdiv (16 : Int))).tmod (16 : Int))) = r)) := by
  kernel_rfl

theorem whichN_vc (m : Nat) (A : Ats) (l ek x : Int) : (vcFun (mkG Tryd.prog gN (tblOf tblD) (fun f b => if f = 31 then (if b = 0 then some (invW1 m A l ek x) else if b = 2 then some (invW2 m A l ek x) else none) else none) 0) 20 31 [.rof m (fun j => .agg [.int .i64 (A.K j), .bool (A.B j), .int .u64 (A.O j), .rof (A.N j) (fun i => .agg [.int .i64 (A.P j i), .int .i64 (A.V j i)]) false, .str (A.M j)]) false, .agg [.int .u64 l, .int .i64 ek, .int .i64 x]] .nil 0 (retN 3 (.tup [.rof (if allE A m ek = 0 then whN A l ek x m else 0) (fun k => .int .i64 (whV A l ek x m k)) false, .int .i64 (allE A m ek)]))).sat = (
  (∃ (i : Nat),
      (i ≤ m ∧ ckS A i = (0 : Int)) ∧
        ((m = m ∧
              (∀ (i : Nat),
                  i < m →
                    (A.K i = A.K i ∧
                        A.B i = A.B i ∧
                          A.O i = A.O i ∧
                            (A.N i = A.N i ∧
                                (∀ (i_1 : Nat),
                                    i_1 < A.N i →
                                      (A.P i i_1 = A.P i i_1 ∧ A.V i i_1 = A.V i i_1 ∧ True) ∧
                                        [AV.int IntKind.i64 (A.P i i_1), AV.int IntKind.i64 (A.V i i_1)].length = [AV.int IntKind.i64 (A.P i i_1), AV.int IntKind.i64 (A.V i i_1)].length) ∧
                                  (false = true → false = true)) ∧
                              A.M i = A.M i ∧ True) ∧
                      [AV.int IntKind.i64 (A.K i), AV.bool (A.B i), AV.int IntKind.u64 (A.O i), AV.rof (A.N i) (fun (i_1 : Nat) => AV.agg [AV.int IntKind.i64 (A.P i i_1), AV.int IntKind.i64 (A.V i i_1)]) false,
                            AV.str (A.M i)].length =
                        [AV.int IntKind.i64 (A.K i), AV.bool (A.B i), AV.int IntKind.u64 (A.O i), AV.rof (A.N i) (fun (i_1 : Nat) => AV.agg [AV.int IntKind.i64 (A.P i i_1), AV.int IntKind.i64 (A.V i i_1)]) false,
                            AV.str (A.M i)].length) ∧
                (false = true → false = true)) ∧
            ((0 : Nat) = (0 : Nat) ∧ (0 : Nat) = (0 : Nat) ∧ (0 : Nat) = (0 : Nat)) ∧
              (m = m ∧
                  (∀ (i : Nat),
                      i < m →
                        (A.K i = A.K i ∧
                            A.B i = A.B i ∧
                              A.O i = A.O i ∧
                                (A.N i = A.N i ∧
                                    (∀ (i_1 : Nat),
                                        i_1 < A.N i →
                                          (A.P i i_1 = A.P i i_1 ∧ A.V i i_1 = A.V i i_1 ∧ True) ∧
                                            [AV.int IntKind.i64 (A.P i i_1), AV.int IntKind.i64 (A.V i i_1)].length = [AV.int IntKind.i64 (A.P i i_1), AV.int IntKind.i64 (A.V i i_1)].length) ∧
                                      (false = true → false = true)) ∧
                                  A.M i = A.M i ∧ True) ∧
                          [AV.int IntKind.i64 (A.K i), AV.bool (A.B i), AV.int IntKind.u64 (A.O i), AV.rof (A.N i) (fun (i_1 : Nat) => AV.agg [AV.int IntKind.i64 (A.P i i_1), AV.int IntKind.i64 (A.V i i_1)]) false,
                                AV.str (A.M i)].length =
                            [AV.int IntKind.i64 (A.K i), AV.bool (A.B i), AV.int IntKind.u64 (A.O i), AV.rof (A.N i) (fun (i_1 : Nat) => AV.agg [AV.int IntKind.i64 (A.P i i_1), AV.int IntKind.i64 (A.V i i_1)]) false,
                                AV.str (A.M i)].length) ∧
                    (false = true → false = true)) ∧
                (↑m : Int) = (↑m : Int) ∧ (0 : Int) = (↑i : Int) ∧ True) ∧
          ((0 : Nat) = (0 : Nat) ∧
              (true = true → true = true) ∧
                ((l = l ∧ ek = ek ∧ x = x ∧ True) ∧ [AV.int IntKind.u64 l, AV.int IntKind.i64 ek, AV.int IntKind.i64 x].length = [AV.int IntKind.u64 l, AV.int IntKind.i64 ek, AV.int IntKind.i64 x].length) ∧ True) ∧
            True) ∧
    ∀ (i : Nat),
      i ≤ m ∧ ckS A i = (0 : Int) →
        VB (decide ((↑i : Int) < (↑m : Int)))
          (NB (decide ((0 : Int) ≤ (↑i : Int) ∧ (↑i : Int) < (↑m : Int)))
            (NB
              ((condsB (A.N (↑i : Int).toNat) fun (i_1 : Nat) => AV.agg [AV.int IntKind.i64 (A.P (↑i : Int).toNat i_1), AV.int IntKind.i64 (A.V (↑i : Int).toNat i_1)]) &&
                decide ((A.M (↑i : Int).toNat).length ≤ (9223372036854775807 : Nat)))
              (VB (checkE (A.K (↑i : Int).toNat) (A.B (↑i : Int).toNat) (A.O (↑i : Int).toNat) (A.N (↑i : Int).toNat) (fun (i_1 : Nat) => A.5 (↑i : Int).toNat i_1) (A.M (↑i : Int).toNat) != (0 : Int))
                ((if allE A m ek = (0 : Int) then whN A l ek x m else (0 : Nat)) = (0 : Nat) ∧
                  checkE (A.K (↑i : Int).toNat) (A.B (↑i : Int).toNat) (A.O (↑i : Int).toNat) (A.N (↑i : Int).toNat) (fun (i_1 : Nat) => A.5 (↑i : Int).toNat i_1) (A.M (↑i : Int).toNat) = allE A m ek ∧ True)
                (∃ (i' : Nat),
                  (i' ≤ m ∧ ckS A i' = (0 : Int)) ∧
                    (invW1 m A l ek x).μ i' < (invW1 m A l ek x).μ i ∧
                      ((m = m ∧
                            (∀ (i : Nat),
                                i < m →
                                  (A.K i = A.K i ∧
                                      A.B i = A.B i ∧
                                        A.O i = A.O i ∧
                                          (A.N i = A.N i ∧
                                              (∀ (i_1 : Nat),
                                                  i_1 < A.N i →
                                                    (A.P i i_1 = A.P i i_1 ∧ A.V i i_1 = A.V i i_1 ∧ True) ∧
                                                      [AV.int IntKind.i64 (A.P i i_1), AV.int IntKind.i64 (A.V i i_1)].length = [AV.int IntKind.i64 (A.P i i_1), AV.int IntKind.i64 (A.V i i_1)].length) ∧
                                                (false = true → false = true)) ∧
                                            A.M i = A.M i ∧ True) ∧
                                    [AV.int IntKind.i64 (A.K i), AV.bool (A.B i), AV.int IntKind.u64 (A.O i),
                                          AV.rof (A.N i) (fun (i_1 : Nat) => AV.agg [AV.int IntKind.i64 (A.P i i_1), AV.int IntKind.i64 (A.V i i_1)]) false, AV.str (A.M i)].length =
                                      [AV.int IntKind.i64 (A.K i), AV.bool (A.B i), AV.int IntKind.u64 (A.O i),
                                          AV.rof (A.N i) (fun (i_1 : Nat) => AV.agg [AV.int IntKind.i64 (A.P i i_1), AV.int IntKind.i64 (A.V i i_1)]) false, AV.str (A.M i)].length) ∧
                              (false = true → false = true)) ∧
                          ((0 : Nat) = (0 : Nat) ∧ (0 : Nat) = (0 : Nat) ∧ (0 : Nat) = (0 : Nat)) ∧
                            (m = m ∧
                                (∀ (i : Nat),
                                    i < m →
                                      (A.K i = A.K i ∧
                                          A.B i = A.B i ∧
                                            A.O i = A.O i ∧
                                              (A.N i = A.N i ∧
                                                  (∀ (i_1 : Nat),
                                                      i_1 < A.N i →
                                                        (A.P i i_1 = A.P i i_1 ∧ A.V i i_1 = A.V i i_1 ∧ True) ∧
                                                          [AV.int IntKind.i64 (A.P i i_1), AV.int IntKind.i64 (A.V i i_1)].length = [AV.int IntKind.i64 (A.P i i_1), AV.int IntKind.i64 (A.V i i_1)].length) ∧
                                                    (false = true → false = true)) ∧
                                                A.M i = A.M i ∧ True) ∧
                                        [AV.int IntKind.i64 (A.K i), AV.bool (A.B i), AV.int IntKind.u64 (A.O i),
                                              AV.rof (A.N i) (fun (i_1 : Nat) => AV.agg [AV.int IntKind.i64 (A.P i i_1), AV.int IntKind.i64 (A.V i i_1)]) false, AV.str (A.M i)].length =
                                          [AV.int IntKind.i64 (A.K i), AV.bool (A.B i), AV.int IntKind.u64 (A.O i),
                                              AV.rof (A.N i) (fun (i_1 : Nat) => AV.agg [AV.int IntKind.i64 (A.P i i_1), AV.int IntKind.i64 (A.V i i_1)]) false, AV.str (A.M i)].length) ∧
                                  (false = true → false = true)) ∧
                              (↑m : Int) = (↑m : Int) ∧ IntKind.i64.wrap ((↑i : Int) + (1 : Int)) = (↑i' : Int) ∧ True) ∧
                        ((0 : Nat) = (0 : Nat) ∧
                            (true = true → true = true) ∧
                              ((l = l ∧ ek = ek ∧ x = x ∧ True) ∧ [AV.int IntKind.u64 l, AV.int IntKind.i64 ek, AV.int IntKind.i64 x].length = [AV.int IntKind.u64 l, AV.int IntKind.i64 ek, AV.int IntKind.i64 x].length) ∧
                                True) ∧
                          True))))
          (VB (eventE ek != (0 : Int)) ((if allE A m ek = (0 : Int) then whN A l ek x m else (0 : Nat)) = (0 : Nat) ∧ eventE ek = allE A m ek ∧ True)
            ((∃ (i : Nat × Nat),
                i.fst.le m ∧
                  (((0 : Nat) = (0 : Nat) ∧ (0 : Nat) = (0 : Nat) ∧ (0 : Nat) = (0 : Nat)) ∧
                      (whN A l ek x i.fst = (0 : Nat) ∧ i.snd = i.snd ∧ whN A l ek x i.fst = (0 : Nat)) ∧
                        (m = m ∧
                            (∀ (i : Nat),
                                i < m →
                                  (A.K i = A.K i ∧
                                      A.B i = A.B i ∧
                                        A.O i = A.O i ∧
                                          (A.N i = A.N i ∧
                                              (∀ (i_1 : Nat),
                                                  i_1 < A.N i →
                                                    (A.P i i_1 = A.P i i_1 ∧ A.V i i_1 = A.V i i_1 ∧ True) ∧
                                                      [AV.int IntKind.i64 (A.P i i_1), AV.int IntKind.i64 (A.V i i_1)].length = [AV.int IntKind.i64 (A.P i i_1), AV.int IntKind.i64 (A.V i i_1)].length) ∧
                                                (false = true → false = true)) ∧
                                            A.M i = A.M i ∧ True) ∧
                                    [AV.int IntKind.i64 (A.K i), AV.bool (A.B i), AV.int IntKind.u64 (A.O i),
                                          AV.rof (A.N i) (fun (i_1 : Nat) => AV.agg [AV.int IntKind.i64 (A.P i i_1), AV.int IntKind.i64 (A.V i i_1)]) false, AV.str (A.M i)].length =
                                      [AV.int IntKind.i64 (A.K i), AV.bool (A.B i), AV.int IntKind.u64 (A.O i),
                                          AV.rof (A.N i) (fun (i_1 : Nat) => AV.agg [AV.int IntKind.i64 (A.P i i_1), AV.int IntKind.i64 (A.V i i_1)]) false, AV.str (A.M i)].length) ∧
                              (false = true → false = true)) ∧
                          (↑m : Int) = (↑m : Int) ∧ (0 : Int) = (↑i.fst : Int) ∧ True) ∧
                    ((0 : Nat) = (0 : Nat) ∧
                        (true = true → true = true) ∧
                          ((l = l ∧ ek = ek ∧ x = x ∧ True) ∧ [AV.int IntKind.u64 l, AV.int IntKind.i64 ek, AV.int IntKind.i64 x].length = [AV.int IntKind.u64 l, AV.int IntKind.i64 ek, AV.int IntKind.i64 x].length) ∧
                            True) ∧
                      whN A l ek x i.fst = (0 : Nat) ∧ True) ∧
              ∀ (i : Nat × Nat),
                i.fst.le m →
                  VB (decide ((↑i.fst : Int) < (↑m : Int)))
                    (NB (decide ((0 : Int) ≤ (↑i.fst : Int) ∧ (↑i.fst : Int) < (↑m : Int)))
                      (NB
                        (((decide (A.N (↑i.fst : Int).toNat ≤ (1000000 : Nat)) &&
                                condsB (A.N (↑i.fst : Int).toNat) fun (i_1 : Nat) => AV.agg [AV.int IntKind.i64 (A.P (↑i.fst : Int).toNat i_1), AV.int IntKind.i64 (A.V (↑i.fst : Int).toNat i_1)]) &&
                              okAll (A.N (↑i.fst : Int).toNat) fun (i_1 : Nat) => A.5 (↑i.fst : Int).toNat i_1) &&
                            u64B l &&
                          u64B (A.O (↑i.fst : Int).toNat))
                        (VB
                          (matchS (A.K (↑i.fst : Int).toNat) (A.B (↑i.fst : Int).toNat) (A.O (↑i.fst : Int).toNat) (A.N (↑i.fst : Int).toNat) (fun (i_1 : Nat) => A.5 (↑i.fst : Int).toNat i_1)
                            (fun (i_1 : Nat) => A.6 (↑i.fst : Int).toNat i_1) l ek x)
                          (NB (true && decide (i.snd = i.snd) && room (whN A l ek x i.fst + (1 : Nat)) (8 : Nat))
                            (∃ (i' : Nat × Nat),
                              i'.fst.le m ∧
                                (invW2 m A l ek x).μ i' < (invW2 m A l ek x).μ i ∧
                                  (((0 : Nat) = (0 : Nat) ∧ (0 : Nat) = (0 : Nat) ∧ (0 : Nat) = (0 : Nat)) ∧
                                      (i.snd + (1 : Nat) = i'.snd ∧ (0 : Nat) = (0 : Nat) ∧ whN A l ek x i.fst + (1 : Nat) = whN A l ek x i'.fst ∧ (@Eq (Option Nat) none none ∨ @Eq (Option Nat) none none)) ∧
                                        (m = m ∧
                                            (∀ (i : Nat),
                                                i < m →
                                                  (A.K i = A.K i ∧
                                                      A.B i = A.B i ∧
                                                        A.O i = A.O i ∧
                                                          (A.N i = A.N i ∧
                                                              (∀ (i_1 : Nat),
                                                                  i_1 < A.N i →
                                                                    (A.P i i_1 = A.P i i_1 ∧ A.V i i_1 = A.V i i_1 ∧ True) ∧
                                                                      [AV.int IntKind.i64 (A.P i i_1), AV.int IntKind.i64 (A.V i i_1)].length = [AV.int IntKind.i64 (A.P i i_1), AV.int IntKind.i64 (A.V i i_1)].length) ∧
                                                                (false = true → false = true)) ∧
                                                            A.M i = A.M i ∧ True) ∧
                                                    [AV.int IntKind.i64 (A.K i), AV.bool (A.B i), AV.int IntKind.u64 (A.O i),
                                                          AV.rof (A.N i) (fun (i_1 : Nat) => AV.agg [AV.int IntKind.i64 (A.P i i_1), AV.int IntKind.i64 (A.V i i_1)]) false, AV.str (A.M i)].length =
                                                      [AV.int IntKind.i64 (A.K i), AV.bool (A.B i), AV.int IntKind.u64 (A.O i),
                                                          AV.rof (A.N i) (fun (i_1 : Nat) => AV.agg [AV.int IntKind.i64 (A.P i i_1), AV.int IntKind.i64 (A.V i i_1)]) false, AV.str (A.M i)].length) ∧
                                              (false = true → false = true)) ∧
                                          (↑m : Int) = (↑m : Int) ∧ IntKind.i64.wrap ((↑i.fst : Int) + (1 : Int)) = (↑i'.fst : Int) ∧ True) ∧
                                    ((0 : Nat) = (0 : Nat) ∧
                                        (true = true → true = true) ∧
                                          ((l = l ∧ ek = ek ∧ x = x ∧ True) ∧
                                              [AV.int IntKind.u64 l, AV.int IntKind.i64 ek, AV.int IntKind.i64 x].length = [AV.int IntKind.u64 l, AV.int IntKind.i64 ek, AV.int IntKind.i64 x].length) ∧
                                            True) ∧
                                      (i.snd + (1 : Nat) = i'.snd ∧
                                          (true = true → true = true) ∧
                                            whN A l ek x i.fst + (1 : Nat) = whN A l ek x i'.fst ∧
                                              ∀ (i_1 : Nat),
                                                i_1 < whN A l ek x i.fst + (1 : Nat) →
                                                  (if i_1 < whN A l ek x i.fst then AV.int IntKind.i64 (whV A l ek x i.fst ((0 : Nat) + i_1))
                                                        else ((Sq.lst [AV.int IntKind.i64 (↑i.fst : Int)]).sub (0 : Nat) (1 : Nat)).get (i_1 - whN A l ek x i.fst)).sub
                                                      (AV.int IntKind.i64 (whV A l ek x i'.fst i_1)) ∧
                                                    (if i_1 < whN A l ek x i.fst then AV.int IntKind.i64 (whV A l ek x i.fst ((0 : Nat) + i_1))
                                                          else ((Sq.lst [AV.int IntKind.i64 (↑i.fst : Int)]).sub (0 : Nat) (1 : Nat)).get (i_1 - whN A l ek x i.fst)).cells.length =
                                                      [AV.int IntKind.i64 (whV A l ek x i'.fst i_1)].length) ∧
                                        True))
                          (∃ (i' : Nat × Nat),
                            i'.fst.le m ∧
                              (invW2 m A l ek x).μ i' < (invW2 m A l ek x).μ i ∧
                                (((0 : Nat) = (0 : Nat) ∧ (0 : Nat) = (0 : Nat) ∧ (0 : Nat) = (0 : Nat)) ∧
                                    (i.snd = i'.snd ∧ (0 : Nat) = (0 : Nat) ∧ whN A l ek x i.fst = whN A l ek x i'.fst ∧ (@Eq (Option Nat) none none ∨ @Eq (Option Nat) none none)) ∧
                                      (m = m ∧
                                          (∀ (i : Nat),
                                              i < m →
                                                (A.K i = A.K i ∧
                                                    A.B i = A.B i ∧
                                                      A.O i = A.O i ∧
                                                        (A.N i = A.N i ∧
                                                            (∀ (i_1 : Nat),
                                                                i_1 < A.N i →
                                                                  (A.P i i_1 = A.P i i_1 ∧ A.V i i_1 = A.V i i_1 ∧ True) ∧
                                                                    [AV.int IntKind.i64 (A.P i i_1), AV.int IntKind.i64 (A.V i i_1)].length = [AV.int IntKind.i64 (A.P i i_1), AV.int IntKind.i64 (A.V i i_1)].length) ∧
                                                              (false = true → false = true)) ∧
                                                          A.M i = A.M i ∧ True) ∧
                                                  [AV.int IntKind.i64 (A.K i), AV.bool (A.B i), AV.int IntKind.u64 (A.O i),
                                                        AV.rof (A.N i) (fun (i_1 : Nat) => AV.agg [AV.int IntKind.i64 (A.P i i_1), AV.int IntKind.i64 (A.V i i_1)]) false, AV.str (A.M i)].length =
                                                    [AV.int IntKind.i64 (A.K i), AV.bool (A.B i), AV.int IntKind.u64 (A.O i),
                                                        AV.rof (A.N i) (fun (i_1 : Nat) => AV.agg [AV.int IntKind.i64 (A.P i i_1), AV.int IntKind.i64 (A.V i i_1)]) false, AV.str (A.M i)].length) ∧
                                            (false = true → false = true)) ∧
                                        (↑m : Int) = (↑m : Int) ∧ IntKind.i64.wrap ((↑i.fst : Int) + (1 : Int)) = (↑i'.fst : Int) ∧ True) ∧
                                  ((0 : Nat) = (0 : Nat) ∧
                                      (true = true → true = true) ∧
                                        ((l = l ∧ ek = ek ∧ x = x ∧ True) ∧
                                            [AV.int IntKind.u64 l, AV.int IntKind.i64 ek, AV.int IntKind.i64 x].length = [AV.int IntKind.u64 l, AV.int IntKind.i64 ek, AV.int IntKind.i64 x].length) ∧
                                          True) ∧
                                    (i.snd = i'.snd ∧
                                        (true = true → true = true) ∧
                                          whN A l ek x i.fst = whN A l ek x i'.fst ∧
                                            ∀ (i_1 : Nat),
                                              i_1 < whN A l ek x i.fst →
                                                whV A l ek x i.fst i_1 = whV A l ek x i'.fst i_1 ∧ [AV.int IntKind.i64 (whV A l ek x i.fst i_1)].length = [AV.int IntKind.i64 (whV A l ek x i'.fst i_1)].length) ∧
                                      True))))
                    (NB (decide (i.snd = i.snd) && true)
                      (((whN A l ek x i.fst = if allE A m ek = (0 : Int) then whN A l ek x m else (0 : Nat)) ∧
                          (∀ (i_1 : Nat),
                              i_1 < whN A l ek x i.fst →
                                whV A l ek x i.fst ((0 : Nat) + i_1) = whV A l ek x m i_1 ∧
                                  [match AV.int IntKind.i64 (whV A l ek x i.fst ((0 : Nat) + i_1)) with
                                        | AV.agg l_1 => AV.agg (List.map (frzFC (nat_lit 2) fun (b : Nat) => T.get Blk.dead (((invW2 m A l ek x).st i).mk' (invW2 m A l ek x).nx).hp b) l_1)
                                        | y => frzFC (nat_lit 2) (fun (b : Nat) => T.get Blk.dead (((invW2 m A l ek x).st i).mk' (invW2 m A l ek x).nx).hp b) y].length =
                                    [AV.int IntKind.i64 (whV A l ek x m i_1)].length) ∧
                            (false = true → decide (none = some (whN A l ek x i.fst)) = true)) ∧
                        (0 : Int) = allE A m ek ∧ True))))) := by
  kernel_rfl

end Go.Proofs.YtjkkkldkimdajaaDoor
namespace Go.Proofs.YtjkkkldkimdajaaDoor
open Pw Go
set_option maxRecDepth 100000
set_option linter.unusedSimpArgs false

def labS (n : Int) : Int := if (n % 1099511627776).tmod 16 = 15 then IntKind.u64.wrap (IntKind.u64.wrap (IntKind.i64.wrap ((n % 1099511627776).tdiv 16)) * 11400714819323198485) else IntKind.u64.wrap (andI .i64 ((n % 1099511627776).tmod 16) ((IntKind.i64.wrap ((n % 1099511627776).tdiv 16)).tmod 16))
theorem labS_ok (n : Int) : u64B (labS n) = true := by
  rw [u64B_iff, labS]
  split <;> (rw [wrap_u64]; omega)
theorem label_pure (n : Int) : PureC Tryd.prog (fun _ => .undef) 43 [.int .i64 n] (.int .u64 (labS n)) := by
  refine pure_vc mix tbl6_ok ((label_vc n _).mpr ?_)
  refine VB_intro (fun h => ?_) (fun h => ?_)
  · have h' : (n % 1099511627776).tmod 16 = 15 := by simpa using h
    rw [labS, if_pos h']
  · have h' : ¬ (n % 1099511627776).tmod 16 = 15 := by simpa using h
    rw [labS, if_neg h']
def cLabel : Ctr
  | [.int .i64 n] => some (true, .int .u64 (labS n))
  | _ => none
theorem label_ok : PureF Tryd.prog 43 cLabel := by
  intro args nd v he hnd
  unfold cLabel at he
  split at he <;> cases he
  exact label_pure _

def nilF (_ : Nat) : AV := .undef
def condArg : AV → Option (Nat × (Nat → AV))
  | .rof n f _ => some (n, f)
  | .rol l _ => some (l.length, fun i => l.getD i .undef)
  | .nils => some (0, nilF)
  | _ => none
theorem subF_getD : ∀ (l : List AV) (k : Nat) (g : Nat → AV), (∀ i, i < l.length → (l.getD i .undef).sub (g (k + i)) ∧ (l.getD i .undef).cells.length = (g (k + i)).cells.length) → AV.subF l k g
  | [], _, _, _ => trivial
  | x :: l, k, g, h => by
    refine ⟨by simpa using h 0 (by simp), subF_getD l (k + 1) g fun i hi => ?_⟩
    have := h (i + 1) (by simpa using hi)
    simpa [Nat.add_assoc, Nat.add_comm 1 i] using this
theorem condArg_sub {c : AV} {n : Nat} {f : Nat → AV} (h : condArg c = some (n, f)) (hb : condsB n f = true) : c.sub (condsAV n (fun i => opOf (f i)) (fun i => valOf (f i))) := by
  unfold condArg at h
  split at h <;> cases h
  · exact rof_cond_sub hb
  · rename_i l ex
    obtain ⟨-, h2, -⟩ := rof_cond_sub (ex := false) hb
    refine ⟨rfl, subF_getD l 0 _ fun i hi => ?_, by simp⟩
    rw [Nat.zero_add]
    exact h2 i hi
  · rfl
structure AtomA where
  k : Int
  bd : Bool
  bo : Int
  n : Nat
  f : Nat → AV
  nm : List UInt8
def atomArg : AV → Option AtomA
  | .agg [.int .i64 k, .bool bd, .int .u64 bo, c, .str nm] => (condArg c).map fun p => ⟨k, bd, bo, p.1, p.2, nm⟩
  | _ => none
theorem atomArg_sub {x : AV} {a : AtomA} (h : atomArg x = some a) (hb : condsB a.n a.f = true) : x.sub (.agg (atomL a.k a.bd a.bo a.n (fun i => opOf (a.f i)) (fun i => valOf (a.f i)) a.nm)) := by
  unfold atomArg at h
  split at h
  · obtain ⟨p, hp, rfl⟩ := Option.map_eq_some_iff.1 h
    exact ⟨rfl, rfl, rfl, condArg_sub hp hb, rfl, trivial⟩
  · cases h
def AtomA.o (a : AtomA) (i : Nat) : Int := opOf (a.f i)
def AtomA.v (a : AtomA) (i : Nat) : Int := valOf (a.f i)
def cMatches2 : Ctr
  | [a, .agg [.int .u64 l, .int .i64 ek, .int .i64 x]] => (atomArg a).map fun a => (condsB a.n a.f && nmB a.nm && u64B l && u64B a.bo, .tup [.bool (MatB a.k a.bd a.bo a.n a.o a.v a.nm l ek x), .int .i64 (MatE a.k a.bd a.bo a.n a.o a.nm ek)])
  | _ => none
noncomputable def cEmpty2 : Ctr
  | [a] => (atomArg a).map fun a => (condsB a.n a.f && nmB a.nm && rngAll a.n a.v, .tup [.bool (EmpB a.k a.bd a.bo a.n a.o a.v a.nm), .int .i64 (checkE a.k a.bd a.bo a.n a.o a.nm)])
  | _ => none
noncomputable def cSample2 : Ctr
  | [a] => (atomArg a).map fun a => (condsB a.n a.f && nmB a.nm && rngAll a.n a.v, .tup [.agg [.int .u64 (SamL a.k a.bd a.bo a.n a.o a.v a.nm), .int .i64 (SamK a.k a.bd a.bo a.n a.o a.v a.nm), .int .i64 (SamX a.k a.bd a.bo a.n a.o a.v a.nm)], .int .i64 (SamE a.k a.bd a.bo a.n a.o a.v a.nm)])
  | _ => none
theorem matches2_ok : PureG Tryd.prog gN 19 cMatches2 := by
  intro args nd v he hnd
  unfold cMatches2 at he
  split at he
  · obtain ⟨a, ha, e⟩ := Option.map_eq_some_iff.1 he
    cases e
    simp only [Bool.and_eq_true, nmB, decide_eq_true_eq] at hnd
    exact args2 (atomArg_sub ha hnd.1.1.1) (ev_sub _ _ _) (matchesI_pure _ _ _ _ _ _ _ _ _ _ hnd.1.1.2 hnd.1.2 hnd.2)
  · cases he
theorem empty2_ok : PureG Tryd.prog gN 21 cEmpty2 := by
  intro args nd v he hnd
  unfold cEmpty2 at he
  split at he
  · obtain ⟨a, ha, e⟩ := Option.map_eq_some_iff.1 he
    cases e
    simp only [Bool.and_eq_true, nmB, decide_eq_true_eq] at hnd
    exact args1 (atomArg_sub ha hnd.1.1) (emptyI_pure _ _ _ _ _ _ _ hnd.1.2 hnd.2)
  · cases he
theorem sample2_ok : PureG Tryd.prog gN 23 cSample2 := by
  intro args nd v he hnd
  unfold cSample2 at he
  split at he
  · obtain ⟨a, ha, e⟩ := Option.map_eq_some_iff.1 he
    cases e
    simp only [Bool.and_eq_true, nmB, decide_eq_true_eq] at hnd
    exact args1 (atomArg_sub ha hnd.1.1) (sampleI_pure _ _ _ _ _ _ _ hnd.1.2 hnd.2)
  · cases he
/-- An atom, as such a list holds it. -/
def nrmA (x : AV) : AV := match atomArg x with
  | some a => .agg [.int .i64 a.k, .bool a.bd, .int .u64 a.bo, .rof a.n a.f false, .str a.nm]
  | none => .undef
def cWhich2 : Ctr
  | [.rol l _, .agg [.int .u64 lb, .int .i64 ek, .int .i64 x]] => some (decide (l.length ≤ 1000000) && atsB l.length (fun j => nrmA (l.getD j .undef)) && okAts l.length (atsOf fun j => nrmA (l.getD j .undef)) && u64B lb, WhAV (atsOf fun j => nrmA (l.getD j .undef)) l.length lb ek x)
  | _ => none
theorem rol_ats_sub {l : List AV} {ex : Bool} (h : atsB l.length (fun j => nrmA (l.getD j .undef)) = true) : (AV.rol l ex).sub (atsAV l.length (atsOf fun j => nrmA (l.getD j .undef))) := by
  refine ⟨rfl, subF_getD l 0 _ fun j hj => ?_, by simp⟩
  have this : isAtom (nrmA (l.getD j .undef)) = true := List.all_eq_true.1 h j (by simpa using hj)
  rw [Nat.zero_add]
  show (l.getD j .undef).sub (.agg [.int .i64 (aK (nrmA (l.getD j .undef))), .bool (aB (nrmA (l.getD j .undef))), .int .u64 (aO (nrmA (l.getD j .undef))), .rof (aN (nrmA (l.getD j .undef))) (fun i => .agg [.int .i64 (opOf (aF (nrmA (l.getD j .undef)) i)), .int .i64 (valOf (aF (nrmA (l.getD j .undef)) i))]) false, .str (aM (nrmA (l.getD j .undef)))]) ∧ (l.getD j .undef).cells.length = 5
  generalize l.getD j .undef = x at this
  cases ha : atomArg x with
  | none =>
    simp only [nrmA, ha] at this
    cases this
  | some a =>
    simp only [nrmA, ha] at this ⊢
    refine ⟨atomArg_sub ha this, ?_⟩
    unfold atomArg at ha
    split at ha
    · rfl
    · cases ha
theorem whichN_pure (m : Nat) (A : Ats) (l ek x : Int) (hm : m ≤ 1000000) (hA : atsOK m A) (hl : u64B l = true) : PureN Tryd.prog gN 31 [atsAV m A, .agg (evL l ek x)] (WhAV A m l ek x) := by
  refine PureN.of_vc (E := mkG Tryd.prog gN (tblOf tblD) (fun f b => if f = 31 then (if b = 0 then some (invW1 m A l ek x) else if b = 2 then some (invW2 m A l ek x) else none) else none) 0) mix (mkG_ctr tblD_ok) ((whichN_vc m A l ek x).mpr ?_)
  have hc : ∀ i, checkE (A.K i) (A.B i) (A.O i) (A.N i) (fun i_1 => A.P i i_1) (A.M i) = checkJ A i := fun i => rfl
  have hma : ∀ i, matchS (A.K i) (A.B i) (A.O i) (A.N i) (fun i_1 => A.P i i_1) (fun i_1 => A.V i i_1) l ek x = matchJ A l ek x i := fun i => rfl
  simp only [EqI, imp_self, true_and, and_true, implies_true, Int.toNat_natCast, List.length_cons, List.length_nil, condsB_agg, hc, hma, hl, decide_true, Bool.and_self, NB_t, or_self, or_true, true_or, Nat.zero_add, Bool.true_and, Bool.and_true]
  refine ⟨⟨0, by simp [ckS]⟩, fun i hi => ?_⟩
  obtain ⟨hi1, hi2⟩ := hi
  refine VB_intro (fun hlt => ?_) (fun hlt => ?_)
  · have hlt' : i < m := by have := of_decide_eq_true hlt; omega
    refine NB_intro (decide_eq_true (by omega)) (NB_intro (decide_eq_true (hA i hlt').1) (VB_intro (fun hb => ?_) (fun hb => ?_)))
    · have hb' : checkJ A i ≠ 0 := by simpa using hb
      have := all_stop (ek := ek) hlt' hi2 hb'
      rw [this, if_neg hb']
      exact ⟨rfl, rfl⟩
    · have hb' : checkJ A i = 0 := by simpa using hb
      exact ⟨i + 1, ⟨by omega, by rw [ckS_succ hi2, hb']⟩, by simp only [invW1]; omega, by rw [wrap_i64_id (by omega) (by omega)]; omega⟩
  · have hie : i = m := by have := of_decide_eq_false hlt; omega
    subst hie
    have hall := ck_all hi2
    have hE : allE A i ek = eventE ek := by rw [allE, if_pos hi2]
    rw [hE]
    refine VB_intro (fun hb => ?_) (fun hb => ?_)
    · have hb' : eventE ek ≠ 0 := by simpa using hb
      rw [if_neg hb']
      exact ⟨rfl, rfl⟩
    · have hb' : eventE ek = 0 := by simpa using hb
      rw [if_pos hb', hb']
      refine ⟨⟨(0, 0), by simp, by simp [whN, whS]⟩, fun p hp => ?_⟩
      obtain ⟨q, g⟩ := p
      simp only at hp ⊢
      replace hp : q ≤ i := hp
      have hle := whN_le A l ek x q
      refine VB_intro (fun hq => ?_) (fun hq => ?_)
      · have hq' : q < i := by have := of_decide_eq_true hq; omega
        obtain ⟨c1, c2, _⟩ := check_zero (hall q hq')
        have e1 : okAll (A.N q) (fun i_1 => A.P q i_1) = true := c2
        refine NB_intro (decide_eq_true (by omega)) (NB_intro (by rw [decide_eq_true (show A.N q ≤ 1000000 by omega), e1, (hA q hq').2]; rfl) (VB_intro (fun hmt => ?_) (fun hmt => ?_)))
        · refine NB_intro (by simp only [room]; exact decide_eq_true (by omega)) ?_
          have hN : whN A l ek x (q + 1) = whN A l ek x q + 1 := by rw [whN_succ, if_pos hmt]
          refine ⟨(q + 1, g + 1), by show q + 1 ≤ i; omega, by simp only [invW2]; omega, ⟨⟨rfl, hN.symm⟩, by rw [wrap_i64_id (by omega) (by omega)]; simp⟩, rfl, hN.symm, fun k hk => ?_⟩
          have hV := whV_succ (k := k) hmt
          simp only
          by_cases hk1 : k < whN A l ek x q
          · rw [if_pos hk1, hV, if_pos hk1]
            exact ⟨(sub_int _ _).2 rfl, rfl⟩
          · rw [if_neg hk1, show k - whN A l ek x q = 0 by omega, one_get, hV, if_neg hk1, if_pos (by omega)]
            exact ⟨(sub_int _ _).2 rfl, rfl⟩
        · obtain ⟨s1, s2⟩ := whV_skip hmt
          refine ⟨(q + 1, g), by show q + 1 ≤ i; omega, by simp only [invW2]; omega, ⟨⟨rfl, s1.symm⟩, by rw [wrap_i64_id (by omega) (by omega)]; simp⟩, rfl, s1.symm, fun k hk => (s2 k).symm⟩
      · have hqe : q = i := by have := of_decide_eq_false hq; omega
        subst hqe
        simp
theorem argsN2 {g : Nat} {gl : Nat → AV} {x y x' y' v : AV} (hs : x.sub y) (hs' : x'.sub y') (h : PureN Tryd.prog gl g [y, y'] v) : PureN Tryd.prog gl g [x, x'] v := by
  refine PureN.args (args' := [y, y']) rfl ?_ h
  intro i hi
  match i, hi with
  | 0, _ => exact hs
  | 1, _ => exact hs'
theorem which2_ok : PureNG Tryd.prog gN 31 cWhich2 := by
  intro args nd v he hnd
  unfold cWhich2 at he
  split at he <;> cases he
  simp only [Bool.and_eq_true, decide_eq_true_eq] at hnd
  exact argsN2 (rol_ats_sub hnd.1.1.2) (ev_sub _ _ _) (whichN_pure _ _ _ _ _ hnd.1.1.1 (okAts_iff.1 hnd.1.2) hnd.2)
theorem sameInts2_ok : PureG Tryd.prog gN 35 cSameInts := sameInts_ok
noncomputable def tblP : List (Nat × Ctr) := [(19, cMatches2), (21, cEmpty2), (23, cSample2), (35, cSameInts), (6, cAwake), (42, cMod), (41, cOp), (43, cLabel)]
theorem tblP_ok : TblOK Tryd.prog gN (tblOf tblP) :=
  tblG_cons matches2_ok (tblG_cons empty2_ok (tblG_cons sample2_ok (tblG_cons sameInts_ok (tblG_cons known_ok.up (tblG_cons mod_ok.up (tblG_cons op_ok.up (tblG_cons label_ok.up (tblG_nil _ _))))))))
def tblPN : List (Nat × Ctr) := [(31, cWhich2)]
theorem tblPN_ok : TblNOK Tryd.prog gN (tblOf tblPN) := tblN_cons which2_ok (tblN_nil _ _)
end Go.Proofs.YtjkkkldkimdajaaDoor
