/- OP 22: the document's Bytes: conditions. -/
import Derived.Test.YtniihecdmcphgaaO20
namespace Go.Proofs.Ytniihecdmcphgaa
open Pw Go
set_option maxRecDepth 100000
set_option linter.unusedSimpArgs false

theorem bytesR_vc (k t l n m il id : Int) (x : List UInt8) (s : List UInt8) (e : Int) : (vcFun EQ 20 31 [.agg [.int .i64 k, .int .i64 t, .int .u64 l, .str x, .int .i64 n, .int .i64 m, .int .u64 il, .int .u64 id]] .nil 0 (retP 3 (.tup [.str s, .int .i64 e]))).sat = (
  VB (opChk (Opr.mk k t l x n m il id) != (0 : Int)) ([] = s ∧ opChk (Opr.mk k t l x n m il id) = e ∧ True)
    (VB (k == (1 : Int))
      (NB (decide ((0 : Int) ≤ IntKind.u64.wrap t) && true)
        (NB (decide ((↑(List.map byteAV [AV.int IntKind.u8 (IntKind.u8.wrap k)]).length : Int) + (↑(hide (digS (IntKind.u64.wrap t) (Int.toNat (8 : Int)))).length : Int) ≤ (9223372036854775807 : Int)))
          (NB (decide ((0 : Int) ≤ l) && true)
            (NB
              (decide
                ((↑(List.map byteAV [AV.int IntKind.u8 (IntKind.u8.wrap k)] ++ hide (digS (IntKind.u64.wrap t) (Int.toNat (8 : Int)))).length : Int) + (↑(hide (digS l (Int.toNat (8 : Int)))).length : Int) ≤
                  (9223372036854775807 : Int)))
              (List.map byteAV [AV.int IntKind.u8 (IntKind.u8.wrap k)] ++ hide (digS (IntKind.u64.wrap t) (Int.toNat (8 : Int))) ++ hide (digS l (Int.toNat (8 : Int))) = s ∧ (0 : Int) = e ∧ True)))))
      (VB (k == (2 : Int))
        (NB (decide ((0 : Int) ≤ IntKind.u64.wrap t) && true)
          (NB (decide ((↑(List.map byteAV [AV.int IntKind.u8 (IntKind.u8.wrap k)]).length : Int) + (↑(hide (digS (IntKind.u64.wrap t) (Int.toNat (8 : Int)))).length : Int) ≤ (9223372036854775807 : Int)))
            (NB
              (decide
                ((↑(List.map byteAV [AV.int IntKind.u8 (IntKind.u8.wrap k)] ++ hide (digS (IntKind.u64.wrap t) (Int.toNat (8 : Int)))).length : Int) +
                    (↑(hide (digS (IntKind.u64.wrap (↑x.length : Int)) (Int.toNat (2 : Int)))).length : Int) ≤
                  (9223372036854775807 : Int)))
              (NB
                (decide
                  ((↑(List.map byteAV [AV.int IntKind.u8 (IntKind.u8.wrap k)] ++ hide (digS (IntKind.u64.wrap t) (Int.toNat (8 : Int))) ++ hide (digS (IntKind.u64.wrap (↑x.length : Int)) (Int.toNat (2 : Int)))).length :
                        Int) +
                      (↑x.length : Int) ≤
                    (9223372036854775807 : Int)))
                (List.map byteAV [AV.int IntKind.u8 (IntKind.u8.wrap k)] ++ hide (digS (IntKind.u64.wrap t) (Int.toNat (8 : Int))) ++ hide (digS (IntKind.u64.wrap (↑x.length : Int)) (Int.toNat (2 : Int))) ++ x = s ∧
                  (0 : Int) = e ∧ True)))))
        (VB (k == (3 : Int))
          (NB (decide ((0 : Int) ≤ IntKind.u64.wrap t) && true)
            (NB (decide ((↑(List.map byteAV [AV.int IntKind.u8 (IntKind.u8.wrap k)]).length : Int) + (↑(hide (digS (IntKind.u64.wrap t) (Int.toNat (8 : Int)))).length : Int) ≤ (9223372036854775807 : Int)))
              (NB (decide ((0 : Int) ≤ IntKind.u64.wrap n) && true)
                (NB
                  (decide
                    ((↑(List.map byteAV [AV.int IntKind.u8 (IntKind.u8.wrap k)] ++ hide (digS (IntKind.u64.wrap t) (Int.toNat (8 : Int)))).length : Int) +
                        (↑(hide (digS (IntKind.u64.wrap n) (Int.toNat (8 : Int)))).length : Int) ≤
                      (9223372036854775807 : Int)))
                  (List.map byteAV [AV.int IntKind.u8 (IntKind.u8.wrap k)] ++ hide (digS (IntKind.u64.wrap t) (Int.toNat (8 : Int))) ++ hide (digS (IntKind.u64.wrap n) (Int.toNat (8 : Int))) = s ∧ (0 : Int) = e ∧ True)))))
          (VB (k == (4 : Int))
            (NB (decide ((↑(List.map byteAV [AV.int IntKind.u8 (IntKind.u8.wrap k)]).length : Int) + (↑(hide (digS (IntKind.u64.wrap (↑x.length : Int)) (Int.toNat (2 : Int)))).length : Int) ≤ (9223372036854775807 : Int)))
              (NB
                (decide
                  ((↑(List.map byteAV [AV.int IntKind.u8 (IntKind.u8.wrap k)] ++ hide (digS (IntKind.u64.wrap (↑x.length : Int)) (Int.toNat (2 : Int)))).length : Int) + (↑x.length : Int) ≤ (9223372036854775807 : Int)))
                (List.map byteAV [AV.int IntKind.u8 (IntKind.u8.wrap k)] ++ hide (digS (IntKind.u64.wrap (↑x.length : Int)) (Int.toNat (2 : Int))) ++ x = s ∧ (0 : Int) = e ∧ True)))
            (VB (k == (5 : Int)) (List.map byteAV [AV.int IntKind.u8 (IntKind.u8.wrap k)] = s ∧ (0 : Int) = e ∧ True)
              (VB (k == (6 : Int))
                (NB (decide ((0 : Int) ≤ IntKind.u64.wrap t) && true)
                  (NB (decide ((↑(List.map byteAV [AV.int IntKind.u8 (IntKind.u8.wrap k)]).length : Int) + (↑(hide (digS (IntKind.u64.wrap t) (Int.toNat (8 : Int)))).length : Int) ≤ (9223372036854775807 : Int)))
                    (NB (decide ((0 : Int) ≤ IntKind.u64.wrap m) && true)
                      (NB
                        (decide
                          ((↑(List.map byteAV [AV.int IntKind.u8 (IntKind.u8.wrap k)] ++ hide (digS (IntKind.u64.wrap t) (Int.toNat (8 : Int)))).length : Int) +
                              (↑(hide (digS (IntKind.u64.wrap m) (Int.toNat (8 : Int)))).length : Int) ≤
                            (9223372036854775807 : Int)))
                        (List.map byteAV [AV.int IntKind.u8 (IntKind.u8.wrap k)] ++ hide (digS (IntKind.u64.wrap t) (Int.toNat (8 : Int))) ++ hide (digS (IntKind.u64.wrap m) (Int.toNat (8 : Int))) = s ∧
                          (0 : Int) = e ∧ True)))))
                (VB (k == (7 : Int))
                  (NB (decide ((0 : Int) ≤ IntKind.u64.wrap t) && true)
                    (NB (decide ((↑(List.map byteAV [AV.int IntKind.u8 (IntKind.u8.wrap k)]).length : Int) + (↑(hide (digS (IntKind.u64.wrap t) (Int.toNat (8 : Int)))).length : Int) ≤ (9223372036854775807 : Int)))
                      (NB (decide ((0 : Int) ≤ IntKind.u64.wrap n) && true)
                        (NB
                          (decide
                            ((↑(List.map byteAV [AV.int IntKind.u8 (IntKind.u8.wrap k)] ++ hide (digS (IntKind.u64.wrap t) (Int.toNat (8 : Int)))).length : Int) +
                                (↑(hide (digS (IntKind.u64.wrap n) (Int.toNat (8 : Int)))).length : Int) ≤
                              (9223372036854775807 : Int)))
                          (NB (decide ((0 : Int) ≤ il) && true)
                            (NB
                              (decide
                                ((↑(List.map byteAV [AV.int IntKind.u8 (IntKind.u8.wrap k)] ++ hide (digS (IntKind.u64.wrap t) (Int.toNat (8 : Int))) ++ hide (digS (IntKind.u64.wrap n) (Int.toNat (8 : Int)))).length :
                                      Int) +
                                    (↑(hide (digS il (Int.toNat (8 : Int)))).length : Int) ≤
                                  (9223372036854775807 : Int)))
                              (NB (decide ((0 : Int) ≤ id) && true)
                                (NB
                                  (decide
                                    ((↑(List.map byteAV [AV.int IntKind.u8 (IntKind.u8.wrap k)] ++ hide (digS (IntKind.u64.wrap t) (Int.toNat (8 : Int))) ++ hide (digS (IntKind.u64.wrap n) (Int.toNat (8 : Int))) ++
                                                hide (digS il (Int.toNat (8 : Int)))).length :
                                          Int) +
                                        (↑(hide (digS id (Int.toNat (8 : Int)))).length : Int) ≤
                                      (9223372036854775807 : Int)))
                                  (List.map byteAV [AV.int IntKind.u8 (IntKind.u8.wrap k)] ++ hide (digS (IntKind.u64.wrap t) (Int.toNat (8 : Int))) ++ hide (digS (IntKind.u64.wrap n) (Int.toNat (8 : Int))) ++
                                          hide (digS il (Int.toNat (8 : Int))) ++
                                        hide (digS id (Int.toNat (8 : Int))) =
                                      s ∧
                                    (0 : Int) = e ∧ True)))))))))
                  (VB (k == (8 : Int))
                    (NB (decide ((0 : Int) ≤ IntKind.u64.wrap t) && true)
                      (NB (decide ((↑(List.map byteAV [AV.int IntKind.u8 (IntKind.u8.wrap k)]).length : Int) + (↑(hide (digS (IntKind.u64.wrap t) (Int.toNat (8 : Int)))).length : Int) ≤ (9223372036854775807 : Int)))
                        (NB (decide ((0 : Int) ≤ IntKind.u64.wrap n) && true)
                          (NB
                            (decide
                              ((↑(List.map byteAV [AV.int IntKind.u8 (IntKind.u8.wrap k)] ++ hide (digS (IntKind.u64.wrap t) (Int.toNat (8 : Int)))).length : Int) +
                                  (↑(hide (digS (IntKind.u64.wrap n) (Int.toNat (8 : Int)))).length : Int) ≤
                                (9223372036854775807 : Int)))
                            (NB (decide ((0 : Int) ≤ IntKind.u64.wrap m) && true)
                              (NB
                                (decide
                                  ((↑(List.map byteAV [AV.int IntKind.u8 (IntKind.u8.wrap k)] ++ hide (digS (IntKind.u64.wrap t) (Int.toNat (8 : Int))) ++ hide (digS (IntKind.u64.wrap n) (Int.toNat (8 : Int)))).length :
                                        Int) +
                                      (↑(hide (digS (IntKind.u64.wrap m) (Int.toNat (8 : Int)))).length : Int) ≤
                                    (9223372036854775807 : Int)))
                                (List.map byteAV [AV.int IntKind.u8 (IntKind.u8.wrap k)] ++ hide (digS (IntKind.u64.wrap t) (Int.toNat (8 : Int))) ++ hide (digS (IntKind.u64.wrap n) (Int.toNat (8 : Int))) ++
                                      hide (digS (IntKind.u64.wrap m) (Int.toNat (8 : Int))) =
                                    s ∧
                                  (0 : Int) = e ∧ True)))))))
                    (List.map byteAV [AV.int IntKind.u8 (IntKind.u8.wrap k)] = s ∧ (0 : Int) = e ∧ True)))))))))) := by
  kernel_rfl

end Go.Proofs.Ytniihecdmcphgaa
