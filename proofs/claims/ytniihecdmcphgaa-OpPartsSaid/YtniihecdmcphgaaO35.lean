/- OP 35: the operation that begins at an offset, read: its code. -/
import Derived.Test.YtniihecdmcphgaaO10
import Derived.Test.YtniihecdmcphgaaOS
namespace Go.Proofs.Ytniihecdmcphgaa
open Pw Go
set_option maxRecDepth 100000
set_option linter.unusedSimpArgs false

theorem next1_vc (s : List UInt8) (a : Int) (s1 : List UInt8) (a1 e1 f1 k1 t1 l1 n1 m1 il1 id1 : Int) (x1 : List UInt8) : (vcFun (ER 0 1) 40 26 [.str s, .int .i64 a] .nil 0 (retP 3 (.rptr (.agg [.str s1, .int .i64 a1, .int .i64 e1, .int .i64 f1, .int .i64 k1, .int .i64 t1, .int .u64 l1, .str x1, .int .i64 n1, .int .i64 m1, .int .u64 il1, .int .u64 id1]) 0))).sat = (
  NB
    (decide (s.length ≤ (9223372036854775807 : Nat)) && decide ((rdTake (rdUse (Rd.mk s a (0 : Int) (0 : Int))) (1 : Int)).fst.err = (0 : Int)) &&
      decide (numS (rdTake (rdUse (Rd.mk s a (0 : Int) (0 : Int))) (1 : Int)).snd = (1 : Int)))
    (NB (decide ((rdTake (rdUse (Rd.mk s a (0 : Int) (0 : Int))) (1 : Int)).fst.s.length ≤ (9223372036854775807 : Nat)))
      (NB
        (decide
          ((rdTake
                    (rdUse
                      (Rd.mk (rdTake (rdUse (Rd.mk s a (0 : Int) (0 : Int))) (1 : Int)).fst.s (rdTake (rdUse (Rd.mk s a (0 : Int) (0 : Int))) (1 : Int)).fst.at_ (0 : Int)
                        (rdTake (rdUse (Rd.mk s a (0 : Int) (0 : Int))) (1 : Int)).fst.fat))
                    (8 : Int)).fst.s.length ≤
            (9223372036854775807 : Nat)))
        ((((rdTake
                      (rdUse
                        (rdTake
                            (rdUse
                              (Rd.mk (rdTake (rdUse (Rd.mk s a (0 : Int) (0 : Int))) (1 : Int)).fst.s (rdTake (rdUse (Rd.mk s a (0 : Int) (0 : Int))) (1 : Int)).fst.at_ (0 : Int)
                                (rdTake (rdUse (Rd.mk s a (0 : Int) (0 : Int))) (1 : Int)).fst.fat))
                            (8 : Int)).fst)
                      (8 : Int)).fst.s =
                s1 ∧
              (rdTake
                        (rdUse
                          (rdTake
                              (rdUse
                                (Rd.mk (rdTake (rdUse (Rd.mk s a (0 : Int) (0 : Int))) (1 : Int)).fst.s (rdTake (rdUse (Rd.mk s a (0 : Int) (0 : Int))) (1 : Int)).fst.at_ (0 : Int)
                                  (rdTake (rdUse (Rd.mk s a (0 : Int) (0 : Int))) (1 : Int)).fst.fat))
                              (8 : Int)).fst)
                        (8 : Int)).fst.at_ =
                  a1 ∧
                (rdTake
                          (rdUse
                            (rdTake
                                (rdUse
                                  (Rd.mk (rdTake (rdUse (Rd.mk s a (0 : Int) (0 : Int))) (1 : Int)).fst.s (rdTake (rdUse (Rd.mk s a (0 : Int) (0 : Int))) (1 : Int)).fst.at_ (0 : Int)
                                    (rdTake (rdUse (Rd.mk s a (0 : Int) (0 : Int))) (1 : Int)).fst.fat))
                                (8 : Int)).fst)
                          (8 : Int)).fst.err =
                    e1 ∧
                  (rdTake
                            (rdUse
                              (rdTake
                                  (rdUse
                                    (Rd.mk (rdTake (rdUse (Rd.mk s a (0 : Int) (0 : Int))) (1 : Int)).fst.s (rdTake (rdUse (Rd.mk s a (0 : Int) (0 : Int))) (1 : Int)).fst.at_ (0 : Int)
                                      (rdTake (rdUse (Rd.mk s a (0 : Int) (0 : Int))) (1 : Int)).fst.fat))
                                  (8 : Int)).fst)
                            (8 : Int)).fst.fat =
                      f1 ∧
                    (1 : Int) = k1 ∧
                      IntKind.i64.wrap
                            (numS
                              (rdTake
                                  (rdUse
                                    (Rd.mk (rdTake (rdUse (Rd.mk s a (0 : Int) (0 : Int))) (1 : Int)).fst.s (rdTake (rdUse (Rd.mk s a (0 : Int) (0 : Int))) (1 : Int)).fst.at_ (0 : Int)
                                      (rdTake (rdUse (Rd.mk s a (0 : Int) (0 : Int))) (1 : Int)).fst.fat))
                                  (8 : Int)).snd) =
                          t1 ∧
                        numS
                              (rdTake
                                  (rdUse
                                    (rdTake
                                        (rdUse
                                          (Rd.mk (rdTake (rdUse (Rd.mk s a (0 : Int) (0 : Int))) (1 : Int)).fst.s (rdTake (rdUse (Rd.mk s a (0 : Int) (0 : Int))) (1 : Int)).fst.at_ (0 : Int)
                                            (rdTake (rdUse (Rd.mk s a (0 : Int) (0 : Int))) (1 : Int)).fst.fat))
                                        (8 : Int)).fst)
                                  (8 : Int)).snd =
                            l1 ∧
                          [] = x1 ∧ (0 : Int) = n1 ∧ (0 : Int) = m1 ∧ (0 : Int) = il1 ∧ (0 : Int) = id1 ∧ True) ∧
            [AV.str
                    (rdTake
                          (rdUse
                            (rdTake
                                (rdUse
                                  (Rd.mk (rdTake (rdUse (Rd.mk s a (0 : Int) (0 : Int))) (1 : Int)).fst.s (rdTake (rdUse (Rd.mk s a (0 : Int) (0 : Int))) (1 : Int)).fst.at_ (0 : Int)
                                    (rdTake (rdUse (Rd.mk s a (0 : Int) (0 : Int))) (1 : Int)).fst.fat))
                                (8 : Int)).fst)
                          (8 : Int)).fst.s,
                  AV.int IntKind.i64
                    (rdTake
                          (rdUse
                            (rdTake
                                (rdUse
                                  (Rd.mk (rdTake (rdUse (Rd.mk s a (0 : Int) (0 : Int))) (1 : Int)).fst.s (rdTake (rdUse (Rd.mk s a (0 : Int) (0 : Int))) (1 : Int)).fst.at_ (0 : Int)
                                    (rdTake (rdUse (Rd.mk s a (0 : Int) (0 : Int))) (1 : Int)).fst.fat))
                                (8 : Int)).fst)
                          (8 : Int)).fst.at_,
                  AV.int IntKind.i64
                    (rdTake
                          (rdUse
                            (rdTake
                                (rdUse
                                  (Rd.mk (rdTake (rdUse (Rd.mk s a (0 : Int) (0 : Int))) (1 : Int)).fst.s (rdTake (rdUse (Rd.mk s a (0 : Int) (0 : Int))) (1 : Int)).fst.at_ (0 : Int)
                                    (rdTake (rdUse (Rd.mk s a (0 : Int) (0 : Int))) (1 : Int)).fst.fat))
                                (8 : Int)).fst)
                          (8 : Int)).fst.err,
                  AV.int IntKind.i64
                    (rdTake
                          (rdUse
                            (rdTake
                                (rdUse
                                  (Rd.mk (rdTake (rdUse (Rd.mk s a (0 : Int) (0 : Int))) (1 : Int)).fst.s (rdTake (rdUse (Rd.mk s a (0 : Int) (0 : Int))) (1 : Int)).fst.at_ (0 : Int)
                                    (rdTake (rdUse (Rd.mk s a (0 : Int) (0 : Int))) (1 : Int)).fst.fat))
                                (8 : Int)).fst)
                          (8 : Int)).fst.fat,
                  AV.int IntKind.i64 (1 : Int),
                  AV.int IntKind.i64
                    (IntKind.i64.wrap
                      (numS
                        (rdTake
                            (rdUse
                              (Rd.mk (rdTake (rdUse (Rd.mk s a (0 : Int) (0 : Int))) (1 : Int)).fst.s (rdTake (rdUse (Rd.mk s a (0 : Int) (0 : Int))) (1 : Int)).fst.at_ (0 : Int)
                                (rdTake (rdUse (Rd.mk s a (0 : Int) (0 : Int))) (1 : Int)).fst.fat))
                            (8 : Int)).snd)),
                  AV.int IntKind.u64
                    (numS
                      (rdTake
                          (rdUse
                            (rdTake
                                (rdUse
                                  (Rd.mk (rdTake (rdUse (Rd.mk s a (0 : Int) (0 : Int))) (1 : Int)).fst.s (rdTake (rdUse (Rd.mk s a (0 : Int) (0 : Int))) (1 : Int)).fst.at_ (0 : Int)
                                    (rdTake (rdUse (Rd.mk s a (0 : Int) (0 : Int))) (1 : Int)).fst.fat))
                                (8 : Int)).fst)
                          (8 : Int)).snd),
                  AV.str [], AV.int IntKind.i64 (0 : Int), AV.int IntKind.i64 (0 : Int), AV.int IntKind.u64 (0 : Int), AV.int IntKind.u64 (0 : Int)].length =
              [AV.str s1, AV.int IntKind.i64 a1, AV.int IntKind.i64 e1, AV.int IntKind.i64 f1, AV.int IntKind.i64 k1, AV.int IntKind.i64 t1, AV.int IntKind.u64 l1, AV.str x1, AV.int IntKind.i64 n1, AV.int IntKind.i64 m1,
                  AV.int IntKind.u64 il1, AV.int IntKind.u64 id1].length) ∧
          (0 : Nat) = (0 : Nat))))) := by
  kernel_rfl

theorem next2_vc (s : List UInt8) (a : Int) (s1 : List UInt8) (a1 e1 f1 k1 t1 l1 n1 m1 il1 id1 : Int) (x1 : List UInt8) : (vcFun (ER 0 2) 40 26 [.str s, .int .i64 a] .nil 0 (retP 3 (.rptr (.agg [.str s1, .int .i64 a1, .int .i64 e1, .int .i64 f1, .int .i64 k1, .int .i64 t1, .int .u64 l1, .str x1, .int .i64 n1, .int .i64 m1, .int .u64 il1, .int .u64 id1]) 0))).sat = (
  NB
    (decide (s.length ≤ (9223372036854775807 : Nat)) && decide ((rdTake (rdUse (Rd.mk s a (0 : Int) (0 : Int))) (1 : Int)).fst.err = (0 : Int)) &&
      decide (numS (rdTake (rdUse (Rd.mk s a (0 : Int) (0 : Int))) (1 : Int)).snd = (2 : Int)))
    (NB (decide ((rdTake (rdUse (Rd.mk s a (0 : Int) (0 : Int))) (1 : Int)).fst.s.length ≤ (9223372036854775807 : Nat)))
      (NB
        (decide
          ((rdTake
                    (rdUse
                      (Rd.mk (rdTake (rdUse (Rd.mk s a (0 : Int) (0 : Int))) (1 : Int)).fst.s (rdTake (rdUse (Rd.mk s a (0 : Int) (0 : Int))) (1 : Int)).fst.at_ (0 : Int)
                        (rdTake (rdUse (Rd.mk s a (0 : Int) (0 : Int))) (1 : Int)).fst.fat))
                    (8 : Int)).fst.s.length ≤
            (9223372036854775807 : Nat)))
        ((((rdSized
                      (rdTake
                          (rdUse
                            (Rd.mk (rdTake (rdUse (Rd.mk s a (0 : Int) (0 : Int))) (1 : Int)).fst.s (rdTake (rdUse (Rd.mk s a (0 : Int) (0 : Int))) (1 : Int)).fst.at_ (0 : Int)
                              (rdTake (rdUse (Rd.mk s a (0 : Int) (0 : Int))) (1 : Int)).fst.fat))
                          (8 : Int)).fst
                      (1000 : Int)).fst.s =
                s1 ∧
              (rdSized
                        (rdTake
                            (rdUse
                              (Rd.mk (rdTake (rdUse (Rd.mk s a (0 : Int) (0 : Int))) (1 : Int)).fst.s (rdTake (rdUse (Rd.mk s a (0 : Int) (0 : Int))) (1 : Int)).fst.at_ (0 : Int)
                                (rdTake (rdUse (Rd.mk s a (0 : Int) (0 : Int))) (1 : Int)).fst.fat))
                            (8 : Int)).fst
                        (1000 : Int)).fst.at_ =
                  a1 ∧
                (rdSized
                          (rdTake
                              (rdUse
                                (Rd.mk (rdTake (rdUse (Rd.mk s a (0 : Int) (0 : Int))) (1 : Int)).fst.s (rdTake (rdUse (Rd.mk s a (0 : Int) (0 : Int))) (1 : Int)).fst.at_ (0 : Int)
                                  (rdTake (rdUse (Rd.mk s a (0 : Int) (0 : Int))) (1 : Int)).fst.fat))
                              (8 : Int)).fst
                          (1000 : Int)).fst.err =
                    e1 ∧
                  (rdSized
                            (rdTake
                                (rdUse
                                  (Rd.mk (rdTake (rdUse (Rd.mk s a (0 : Int) (0 : Int))) (1 : Int)).fst.s (rdTake (rdUse (Rd.mk s a (0 : Int) (0 : Int))) (1 : Int)).fst.at_ (0 : Int)
                                    (rdTake (rdUse (Rd.mk s a (0 : Int) (0 : Int))) (1 : Int)).fst.fat))
                                (8 : Int)).fst
                            (1000 : Int)).fst.fat =
                      f1 ∧
                    (2 : Int) = k1 ∧
                      IntKind.i64.wrap
                            (numS
                              (rdTake
                                  (rdUse
                                    (Rd.mk (rdTake (rdUse (Rd.mk s a (0 : Int) (0 : Int))) (1 : Int)).fst.s (rdTake (rdUse (Rd.mk s a (0 : Int) (0 : Int))) (1 : Int)).fst.at_ (0 : Int)
                                      (rdTake (rdUse (Rd.mk s a (0 : Int) (0 : Int))) (1 : Int)).fst.fat))
                                  (8 : Int)).snd) =
                          t1 ∧
                        (0 : Int) = l1 ∧
                          (rdSized
                                  (rdTake
                                      (rdUse
                                        (Rd.mk (rdTake (rdUse (Rd.mk s a (0 : Int) (0 : Int))) (1 : Int)).fst.s (rdTake (rdUse (Rd.mk s a (0 : Int) (0 : Int))) (1 : Int)).fst.at_ (0 : Int)
                                          (rdTake (rdUse (Rd.mk s a (0 : Int) (0 : Int))) (1 : Int)).fst.fat))
                                      (8 : Int)).fst
                                  (1000 : Int)).snd =
                              x1 ∧
                            (0 : Int) = n1 ∧ (0 : Int) = m1 ∧ (0 : Int) = il1 ∧ (0 : Int) = id1 ∧ True) ∧
            [AV.str
                    (rdSized
                          (rdTake
                              (rdUse
                                (Rd.mk (rdTake (rdUse (Rd.mk s a (0 : Int) (0 : Int))) (1 : Int)).fst.s (rdTake (rdUse (Rd.mk s a (0 : Int) (0 : Int))) (1 : Int)).fst.at_ (0 : Int)
                                  (rdTake (rdUse (Rd.mk s a (0 : Int) (0 : Int))) (1 : Int)).fst.fat))
                              (8 : Int)).fst
                          (1000 : Int)).fst.s,
                  AV.int IntKind.i64
                    (rdSized
                          (rdTake
                              (rdUse
                                (Rd.mk (rdTake (rdUse (Rd.mk s a (0 : Int) (0 : Int))) (1 : Int)).fst.s (rdTake (rdUse (Rd.mk s a (0 : Int) (0 : Int))) (1 : Int)).fst.at_ (0 : Int)
                                  (rdTake (rdUse (Rd.mk s a (0 : Int) (0 : Int))) (1 : Int)).fst.fat))
                              (8 : Int)).fst
                          (1000 : Int)).fst.at_,
                  AV.int IntKind.i64
                    (rdSized
                          (rdTake
                              (rdUse
                                (Rd.mk (rdTake (rdUse (Rd.mk s a (0 : Int) (0 : Int))) (1 : Int)).fst.s (rdTake (rdUse (Rd.mk s a (0 : Int) (0 : Int))) (1 : Int)).fst.at_ (0 : Int)
                                  (rdTake (rdUse (Rd.mk s a (0 : Int) (0 : Int))) (1 : Int)).fst.fat))
                              (8 : Int)).fst
                          (1000 : Int)).fst.err,
                  AV.int IntKind.i64
                    (rdSized
                          (rdTake
                              (rdUse
                                (Rd.mk (rdTake (rdUse (Rd.mk s a (0 : Int) (0 : Int))) (1 : Int)).fst.s (rdTake (rdUse (Rd.mk s a (0 : Int) (0 : Int))) (1 : Int)).fst.at_ (0 : Int)
                                  (rdTake (rdUse (Rd.mk s a (0 : Int) (0 : Int))) (1 : Int)).fst.fat))
                              (8 : Int)).fst
                          (1000 : Int)).fst.fat,
                  AV.int IntKind.i64 (2 : Int),
                  AV.int IntKind.i64
                    (IntKind.i64.wrap
                      (numS
                        (rdTake
                            (rdUse
                              (Rd.mk (rdTake (rdUse (Rd.mk s a (0 : Int) (0 : Int))) (1 : Int)).fst.s (rdTake (rdUse (Rd.mk s a (0 : Int) (0 : Int))) (1 : Int)).fst.at_ (0 : Int)
                                (rdTake (rdUse (Rd.mk s a (0 : Int) (0 : Int))) (1 : Int)).fst.fat))
                            (8 : Int)).snd)),
                  AV.int IntKind.u64 (0 : Int),
                  AV.str
                    (rdSized
                        (rdTake
                            (rdUse
                              (Rd.mk (rdTake (rdUse (Rd.mk s a (0 : Int) (0 : Int))) (1 : Int)).fst.s (rdTake (rdUse (Rd.mk s a (0 : Int) (0 : Int))) (1 : Int)).fst.at_ (0 : Int)
                                (rdTake (rdUse (Rd.mk s a (0 : Int) (0 : Int))) (1 : Int)).fst.fat))
                            (8 : Int)).fst
                        (1000 : Int)).snd,
                  AV.int IntKind.i64 (0 : Int), AV.int IntKind.i64 (0 : Int), AV.int IntKind.u64 (0 : Int), AV.int IntKind.u64 (0 : Int)].length =
              [AV.str s1, AV.int IntKind.i64 a1, AV.int IntKind.i64 e1, AV.int IntKind.i64 f1, AV.int IntKind.i64 k1, AV.int IntKind.i64 t1, AV.int IntKind.u64 l1, AV.str x1, AV.int IntKind.i64 n1, AV.int IntKind.i64 m1,
                  AV.int IntKind.u64 il1, AV.int IntKind.u64 id1].length) ∧
          (0 : Nat) = (0 : Nat))))) := by
  kernel_rfl

theorem next3_vc (s : List UInt8) (a : Int) (s1 : List UInt8) (a1 e1 f1 k1 t1 l1 n1 m1 il1 id1 : Int) (x1 : List UInt8) : (vcFun (ER 0 3) 40 26 [.str s, .int .i64 a] .nil 0 (retP 3 (.rptr (.agg [.str s1, .int .i64 a1, .int .i64 e1, .int .i64 f1, .int .i64 k1, .int .i64 t1, .int .u64 l1, .str x1, .int .i64 n1, .int .i64 m1, .int .u64 il1, .int .u64 id1]) 0))).sat = (
  NB
    (decide (s.length ≤ (9223372036854775807 : Nat)) && decide ((rdTake (rdUse (Rd.mk s a (0 : Int) (0 : Int))) (1 : Int)).fst.err = (0 : Int)) &&
      decide (numS (rdTake (rdUse (Rd.mk s a (0 : Int) (0 : Int))) (1 : Int)).snd = (3 : Int)))
    (NB (decide ((rdTake (rdUse (Rd.mk s a (0 : Int) (0 : Int))) (1 : Int)).fst.s.length ≤ (9223372036854775807 : Nat)))
      (NB
        (decide
          ((rdTake
                    (rdUse
                      (Rd.mk (rdTake (rdUse (Rd.mk s a (0 : Int) (0 : Int))) (1 : Int)).fst.s (rdTake (rdUse (Rd.mk s a (0 : Int) (0 : Int))) (1 : Int)).fst.at_ (0 : Int)
                        (rdTake (rdUse (Rd.mk s a (0 : Int) (0 : Int))) (1 : Int)).fst.fat))
                    (8 : Int)).fst.s.length ≤
            (9223372036854775807 : Nat)))
        ((((rdTake
                      (rdUse
                        (rdTake
                            (rdUse
                              (Rd.mk (rdTake (rdUse (Rd.mk s a (0 : Int) (0 : Int))) (1 : Int)).fst.s (rdTake (rdUse (Rd.mk s a (0 : Int) (0 : Int))) (1 : Int)).fst.at_ (0 : Int)
                                (rdTake (rdUse (Rd.mk s a (0 : Int) (0 : Int))) (1 : Int)).fst.fat))
                            (8 : Int)).fst)
                      (8 : Int)).fst.s =
                s1 ∧
              (rdTake
                        (rdUse
                          (rdTake
                              (rdUse
                                (Rd.mk (rdTake (rdUse (Rd.mk s a (0 : Int) (0 : Int))) (1 : Int)).fst.s (rdTake (rdUse (Rd.mk s a (0 : Int) (0 : Int))) (1 : Int)).fst.at_ (0 : Int)
                                  (rdTake (rdUse (Rd.mk s a (0 : Int) (0 : Int))) (1 : Int)).fst.fat))
                              (8 : Int)).fst)
                        (8 : Int)).fst.at_ =
                  a1 ∧
                (rdTake
                          (rdUse
                            (rdTake
                                (rdUse
                                  (Rd.mk (rdTake (rdUse (Rd.mk s a (0 : Int) (0 : Int))) (1 : Int)).fst.s (rdTake (rdUse (Rd.mk s a (0 : Int) (0 : Int))) (1 : Int)).fst.at_ (0 : Int)
                                    (rdTake (rdUse (Rd.mk s a (0 : Int) (0 : Int))) (1 : Int)).fst.fat))
                                (8 : Int)).fst)
                          (8 : Int)).fst.err =
                    e1 ∧
                  (rdTake
                            (rdUse
                              (rdTake
                                  (rdUse
                                    (Rd.mk (rdTake (rdUse (Rd.mk s a (0 : Int) (0 : Int))) (1 : Int)).fst.s (rdTake (rdUse (Rd.mk s a (0 : Int) (0 : Int))) (1 : Int)).fst.at_ (0 : Int)
                                      (rdTake (rdUse (Rd.mk s a (0 : Int) (0 : Int))) (1 : Int)).fst.fat))
                                  (8 : Int)).fst)
                            (8 : Int)).fst.fat =
                      f1 ∧
                    (3 : Int) = k1 ∧
                      IntKind.i64.wrap
                            (numS
                              (rdTake
                                  (rdUse
                                    (Rd.mk (rdTake (rdUse (Rd.mk s a (0 : Int) (0 : Int))) (1 : Int)).fst.s (rdTake (rdUse (Rd.mk s a (0 : Int) (0 : Int))) (1 : Int)).fst.at_ (0 : Int)
                                      (rdTake (rdUse (Rd.mk s a (0 : Int) (0 : Int))) (1 : Int)).fst.fat))
                                  (8 : Int)).snd) =
                          t1 ∧
                        (0 : Int) = l1 ∧
                          [] = x1 ∧
                            IntKind.i64.wrap
                                  (numS
                                    (rdTake
                                        (rdUse
                                          (rdTake
                                              (rdUse
                                                (Rd.mk (rdTake (rdUse (Rd.mk s a (0 : Int) (0 : Int))) (1 : Int)).fst.s (rdTake (rdUse (Rd.mk s a (0 : Int) (0 : Int))) (1 : Int)).fst.at_ (0 : Int)
                                                  (rdTake (rdUse (Rd.mk s a (0 : Int) (0 : Int))) (1 : Int)).fst.fat))
                                              (8 : Int)).fst)
                                        (8 : Int)).snd) =
                                n1 ∧
                              (0 : Int) = m1 ∧ (0 : Int) = il1 ∧ (0 : Int) = id1 ∧ True) ∧
            [AV.str
                    (rdTake
                          (rdUse
                            (rdTake
                                (rdUse
                                  (Rd.mk (rdTake (rdUse (Rd.mk s a (0 : Int) (0 : Int))) (1 : Int)).fst.s (rdTake (rdUse (Rd.mk s a (0 : Int) (0 : Int))) (1 : Int)).fst.at_ (0 : Int)
                                    (rdTake (rdUse (Rd.mk s a (0 : Int) (0 : Int))) (1 : Int)).fst.fat))
                                (8 : Int)).fst)
                          (8 : Int)).fst.s,
                  AV.int IntKind.i64
                    (rdTake
                          (rdUse
                            (rdTake
                                (rdUse
                                  (Rd.mk (rdTake (rdUse (Rd.mk s a (0 : Int) (0 : Int))) (1 : Int)).fst.s (rdTake (rdUse (Rd.mk s a (0 : Int) (0 : Int))) (1 : Int)).fst.at_ (0 : Int)
                                    (rdTake (rdUse (Rd.mk s a (0 : Int) (0 : Int))) (1 : Int)).fst.fat))
                                (8 : Int)).fst)
                          (8 : Int)).fst.at_,
                  AV.int IntKind.i64
                    (rdTake
                          (rdUse
                            (rdTake
                                (rdUse
                                  (Rd.mk (rdTake (rdUse (Rd.mk s a (0 : Int) (0 : Int))) (1 : Int)).fst.s (rdTake (rdUse (Rd.mk s a (0 : Int) (0 : Int))) (1 : Int)).fst.at_ (0 : Int)
                                    (rdTake (rdUse (Rd.mk s a (0 : Int) (0 : Int))) (1 : Int)).fst.fat))
                                (8 : Int)).fst)
                          (8 : Int)).fst.err,
                  AV.int IntKind.i64
                    (rdTake
                          (rdUse
                            (rdTake
                                (rdUse
                                  (Rd.mk (rdTake (rdUse (Rd.mk s a (0 : Int) (0 : Int))) (1 : Int)).fst.s (rdTake (rdUse (Rd.mk s a (0 : Int) (0 : Int))) (1 : Int)).fst.at_ (0 : Int)
                                    (rdTake (rdUse (Rd.mk s a (0 : Int) (0 : Int))) (1 : Int)).fst.fat))
                                (8 : Int)).fst)
                          (8 : Int)).fst.fat,
                  AV.int IntKind.i64 (3 : Int),
                  AV.int IntKind.i64
                    (IntKind.i64.wrap
                      (numS
                        (rdTake
                            (rdUse
                              (Rd.mk (rdTake (rdUse (Rd.mk s a (0 : Int) (0 : Int))) (1 : Int)).fst.s (rdTake (rdUse (Rd.mk s a (0 : Int) (0 : Int))) (1 : Int)).fst.at_ (0 : Int)
                                (rdTake (rdUse (Rd.mk s a (0 : Int) (0 : Int))) (1 : Int)).fst.fat))
                            (8 : Int)).snd)),
                  AV.int IntKind.u64 (0 : Int), AV.str [],
                  AV.int IntKind.i64
                    (IntKind.i64.wrap
                      (numS
                        (rdTake
                            (rdUse
                              (rdTake
                                  (rdUse
                                    (Rd.mk (rdTake (rdUse (Rd.mk s a (0 : Int) (0 : Int))) (1 : Int)).fst.s (rdTake (rdUse (Rd.mk s a (0 : Int) (0 : Int))) (1 : Int)).fst.at_ (0 : Int)
                                      (rdTake (rdUse (Rd.mk s a (0 : Int) (0 : Int))) (1 : Int)).fst.fat))
                                  (8 : Int)).fst)
                            (8 : Int)).snd)),
                  AV.int IntKind.i64 (0 : Int), AV.int IntKind.u64 (0 : Int), AV.int IntKind.u64 (0 : Int)].length =
              [AV.str s1, AV.int IntKind.i64 a1, AV.int IntKind.i64 e1, AV.int IntKind.i64 f1, AV.int IntKind.i64 k1, AV.int IntKind.i64 t1, AV.int IntKind.u64 l1, AV.str x1, AV.int IntKind.i64 n1, AV.int IntKind.i64 m1,
                  AV.int IntKind.u64 il1, AV.int IntKind.u64 id1].length) ∧
          (0 : Nat) = (0 : Nat))))) := by
  kernel_rfl

theorem next4_vc (s : List UInt8) (a : Int) (s1 : List UInt8) (a1 e1 f1 k1 t1 l1 n1 m1 il1 id1 : Int) (x1 : List UInt8) : (vcFun (ER 0 4) 40 26 [.str s, .int .i64 a] .nil 0 (retP 3 (.rptr (.agg [.str s1, .int .i64 a1, .int .i64 e1, .int .i64 f1, .int .i64 k1, .int .i64 t1, .int .u64 l1, .str x1, .int .i64 n1, .int .i64 m1, .int .u64 il1, .int .u64 id1]) 0))).sat = (
  NB
    (decide (s.length ≤ (9223372036854775807 : Nat)) && decide ((rdTake (rdUse (Rd.mk s a (0 : Int) (0 : Int))) (1 : Int)).fst.err = (0 : Int)) &&
      decide (numS (rdTake (rdUse (Rd.mk s a (0 : Int) (0 : Int))) (1 : Int)).snd = (4 : Int)))
    (NB (decide ((rdTake (rdUse (Rd.mk s a (0 : Int) (0 : Int))) (1 : Int)).fst.s.length ≤ (9223372036854775807 : Nat)))
      ((((rdSized
                    (Rd.mk (rdTake (rdUse (Rd.mk s a (0 : Int) (0 : Int))) (1 : Int)).fst.s (rdTake (rdUse (Rd.mk s a (0 : Int) (0 : Int))) (1 : Int)).fst.at_ (0 : Int)
                      (rdTake (rdUse (Rd.mk s a (0 : Int) (0 : Int))) (1 : Int)).fst.fat)
                    (1000 : Int)).fst.s =
              s1 ∧
            (rdSized
                      (Rd.mk (rdTake (rdUse (Rd.mk s a (0 : Int) (0 : Int))) (1 : Int)).fst.s (rdTake (rdUse (Rd.mk s a (0 : Int) (0 : Int))) (1 : Int)).fst.at_ (0 : Int)
                        (rdTake (rdUse (Rd.mk s a (0 : Int) (0 : Int))) (1 : Int)).fst.fat)
                      (1000 : Int)).fst.at_ =
                a1 ∧
              (rdSized
                        (Rd.mk (rdTake (rdUse (Rd.mk s a (0 : Int) (0 : Int))) (1 : Int)).fst.s (rdTake (rdUse (Rd.mk s a (0 : Int) (0 : Int))) (1 : Int)).fst.at_ (0 : Int)
                          (rdTake (rdUse (Rd.mk s a (0 : Int) (0 : Int))) (1 : Int)).fst.fat)
                        (1000 : Int)).fst.err =
                  e1 ∧
                (rdSized
                          (Rd.mk (rdTake (rdUse (Rd.mk s a (0 : Int) (0 : Int))) (1 : Int)).fst.s (rdTake (rdUse (Rd.mk s a (0 : Int) (0 : Int))) (1 : Int)).fst.at_ (0 : Int)
                            (rdTake (rdUse (Rd.mk s a (0 : Int) (0 : Int))) (1 : Int)).fst.fat)
                          (1000 : Int)).fst.fat =
                    f1 ∧
                  (4 : Int) = k1 ∧
                    (0 : Int) = t1 ∧
                      (0 : Int) = l1 ∧
                        (rdSized
                                (Rd.mk (rdTake (rdUse (Rd.mk s a (0 : Int) (0 : Int))) (1 : Int)).fst.s (rdTake (rdUse (Rd.mk s a (0 : Int) (0 : Int))) (1 : Int)).fst.at_ (0 : Int)
                                  (rdTake (rdUse (Rd.mk s a (0 : Int) (0 : Int))) (1 : Int)).fst.fat)
                                (1000 : Int)).snd =
                            x1 ∧
                          (0 : Int) = n1 ∧ (0 : Int) = m1 ∧ (0 : Int) = il1 ∧ (0 : Int) = id1 ∧ True) ∧
          [AV.str
                  (rdSized
                        (Rd.mk (rdTake (rdUse (Rd.mk s a (0 : Int) (0 : Int))) (1 : Int)).fst.s (rdTake (rdUse (Rd.mk s a (0 : Int) (0 : Int))) (1 : Int)).fst.at_ (0 : Int)
                          (rdTake (rdUse (Rd.mk s a (0 : Int) (0 : Int))) (1 : Int)).fst.fat)
                        (1000 : Int)).fst.s,
                AV.int IntKind.i64
                  (rdSized
                        (Rd.mk (rdTake (rdUse (Rd.mk s a (0 : Int) (0 : Int))) (1 : Int)).fst.s (rdTake (rdUse (Rd.mk s a (0 : Int) (0 : Int))) (1 : Int)).fst.at_ (0 : Int)
                          (rdTake (rdUse (Rd.mk s a (0 : Int) (0 : Int))) (1 : Int)).fst.fat)
                        (1000 : Int)).fst.at_,
                AV.int IntKind.i64
                  (rdSized
                        (Rd.mk (rdTake (rdUse (Rd.mk s a (0 : Int) (0 : Int))) (1 : Int)).fst.s (rdTake (rdUse (Rd.mk s a (0 : Int) (0 : Int))) (1 : Int)).fst.at_ (0 : Int)
                          (rdTake (rdUse (Rd.mk s a (0 : Int) (0 : Int))) (1 : Int)).fst.fat)
                        (1000 : Int)).fst.err,
                AV.int IntKind.i64
                  (rdSized
                        (Rd.mk (rdTake (rdUse (Rd.mk s a (0 : Int) (0 : Int))) (1 : Int)).fst.s (rdTake (rdUse (Rd.mk s a (0 : Int) (0 : Int))) (1 : Int)).fst.at_ (0 : Int)
                          (rdTake (rdUse (Rd.mk s a (0 : Int) (0 : Int))) (1 : Int)).fst.fat)
                        (1000 : Int)).fst.fat,
                AV.int IntKind.i64 (4 : Int), AV.int IntKind.i64 (0 : Int), AV.int IntKind.u64 (0 : Int),
                AV.str
                  (rdSized
                      (Rd.mk (rdTake (rdUse (Rd.mk s a (0 : Int) (0 : Int))) (1 : Int)).fst.s (rdTake (rdUse (Rd.mk s a (0 : Int) (0 : Int))) (1 : Int)).fst.at_ (0 : Int)
                        (rdTake (rdUse (Rd.mk s a (0 : Int) (0 : Int))) (1 : Int)).fst.fat)
                      (1000 : Int)).snd,
                AV.int IntKind.i64 (0 : Int), AV.int IntKind.i64 (0 : Int), AV.int IntKind.u64 (0 : Int), AV.int IntKind.u64 (0 : Int)].length =
            [AV.str s1, AV.int IntKind.i64 a1, AV.int IntKind.i64 e1, AV.int IntKind.i64 f1, AV.int IntKind.i64 k1, AV.int IntKind.i64 t1, AV.int IntKind.u64 l1, AV.str x1, AV.int IntKind.i64 n1, AV.int IntKind.i64 m1,
                AV.int IntKind.u64 il1, AV.int IntKind.u64 id1].length) ∧
        (0 : Nat) = (0 : Nat)))) := by
  kernel_rfl

theorem next5_vc (s : List UInt8) (a : Int) (s1 : List UInt8) (a1 e1 f1 k1 t1 l1 n1 m1 il1 id1 : Int) (x1 : List UInt8) : (vcFun (ER 0 5) 40 26 [.str s, .int .i64 a] .nil 0 (retP 3 (.rptr (.agg [.str s1, .int .i64 a1, .int .i64 e1, .int .i64 f1, .int .i64 k1, .int .i64 t1, .int .u64 l1, .str x1, .int .i64 n1, .int .i64 m1, .int .u64 il1, .int .u64 id1]) 0))).sat = (
  NB
    (decide (s.length ≤ (9223372036854775807 : Nat)) && decide ((rdTake (rdUse (Rd.mk s a (0 : Int) (0 : Int))) (1 : Int)).fst.err = (0 : Int)) &&
      decide (numS (rdTake (rdUse (Rd.mk s a (0 : Int) (0 : Int))) (1 : Int)).snd = (5 : Int)))
    ((((rdTake (rdUse (Rd.mk s a (0 : Int) (0 : Int))) (1 : Int)).fst.s = s1 ∧
          (rdTake (rdUse (Rd.mk s a (0 : Int) (0 : Int))) (1 : Int)).fst.at_ = a1 ∧
            (0 : Int) = e1 ∧
              (rdTake (rdUse (Rd.mk s a (0 : Int) (0 : Int))) (1 : Int)).fst.fat = f1 ∧
                (5 : Int) = k1 ∧ (0 : Int) = t1 ∧ (0 : Int) = l1 ∧ [] = x1 ∧ (0 : Int) = n1 ∧ (0 : Int) = m1 ∧ (0 : Int) = il1 ∧ (0 : Int) = id1 ∧ True) ∧
        [AV.str (rdTake (rdUse (Rd.mk s a (0 : Int) (0 : Int))) (1 : Int)).fst.s, AV.int IntKind.i64 (rdTake (rdUse (Rd.mk s a (0 : Int) (0 : Int))) (1 : Int)).fst.at_, AV.int IntKind.i64 (0 : Int),
              AV.int IntKind.i64 (rdTake (rdUse (Rd.mk s a (0 : Int) (0 : Int))) (1 : Int)).fst.fat, AV.int IntKind.i64 (5 : Int), AV.int IntKind.i64 (0 : Int), AV.int IntKind.u64 (0 : Int), AV.str [],
              AV.int IntKind.i64 (0 : Int), AV.int IntKind.i64 (0 : Int), AV.int IntKind.u64 (0 : Int), AV.int IntKind.u64 (0 : Int)].length =
          [AV.str s1, AV.int IntKind.i64 a1, AV.int IntKind.i64 e1, AV.int IntKind.i64 f1, AV.int IntKind.i64 k1, AV.int IntKind.i64 t1, AV.int IntKind.u64 l1, AV.str x1, AV.int IntKind.i64 n1, AV.int IntKind.i64 m1,
              AV.int IntKind.u64 il1, AV.int IntKind.u64 id1].length) ∧
      (0 : Nat) = (0 : Nat))) := by
  kernel_rfl

theorem next6_vc (s : List UInt8) (a : Int) (s1 : List UInt8) (a1 e1 f1 k1 t1 l1 n1 m1 il1 id1 : Int) (x1 : List UInt8) : (vcFun (ER 0 6) 40 26 [.str s, .int .i64 a] .nil 0 (retP 3 (.rptr (.agg [.str s1, .int .i64 a1, .int .i64 e1, .int .i64 f1, .int .i64 k1, .int .i64 t1, .int .u64 l1, .str x1, .int .i64 n1, .int .i64 m1, .int .u64 il1, .int .u64 id1]) 0))).sat = (
  NB
    (decide (s.length ≤ (9223372036854775807 : Nat)) && decide ((rdTake (rdUse (Rd.mk s a (0 : Int) (0 : Int))) (1 : Int)).fst.err = (0 : Int)) &&
      decide (numS (rdTake (rdUse (Rd.mk s a (0 : Int) (0 : Int))) (1 : Int)).snd = (6 : Int)))
    (NB (decide ((rdTake (rdUse (Rd.mk s a (0 : Int) (0 : Int))) (1 : Int)).fst.s.length ≤ (9223372036854775807 : Nat)))
      (NB
        (decide
          ((rdTake
                    (rdUse
                      (Rd.mk (rdTake (rdUse (Rd.mk s a (0 : Int) (0 : Int))) (1 : Int)).fst.s (rdTake (rdUse (Rd.mk s a (0 : Int) (0 : Int))) (1 : Int)).fst.at_ (0 : Int)
                        (rdTake (rdUse (Rd.mk s a (0 : Int) (0 : Int))) (1 : Int)).fst.fat))
                    (8 : Int)).fst.s.length ≤
            (9223372036854775807 : Nat)))
        ((((rdTake
                      (rdUse
                        (rdTake
                            (rdUse
                              (Rd.mk (rdTake (rdUse (Rd.mk s a (0 : Int) (0 : Int))) (1 : Int)).fst.s (rdTake (rdUse (Rd.mk s a (0 : Int) (0 : Int))) (1 : Int)).fst.at_ (0 : Int)
                                (rdTake (rdUse (Rd.mk s a (0 : Int) (0 : Int))) (1 : Int)).fst.fat))
                            (8 : Int)).fst)
                      (8 : Int)).fst.s =
                s1 ∧
              (rdTake
                        (rdUse
                          (rdTake
                              (rdUse
                                (Rd.mk (rdTake (rdUse (Rd.mk s a (0 : Int) (0 : Int))) (1 : Int)).fst.s (rdTake (rdUse (Rd.mk s a (0 : Int) (0 : Int))) (1 : Int)).fst.at_ (0 : Int)
                                  (rdTake (rdUse (Rd.mk s a (0 : Int) (0 : Int))) (1 : Int)).fst.fat))
                              (8 : Int)).fst)
                        (8 : Int)).fst.at_ =
                  a1 ∧
                (rdTake
                          (rdUse
                            (rdTake
                                (rdUse
                                  (Rd.mk (rdTake (rdUse (Rd.mk s a (0 : Int) (0 : Int))) (1 : Int)).fst.s (rdTake (rdUse (Rd.mk s a (0 : Int) (0 : Int))) (1 : Int)).fst.at_ (0 : Int)
                                    (rdTake (rdUse (Rd.mk s a (0 : Int) (0 : Int))) (1 : Int)).fst.fat))
                                (8 : Int)).fst)
                          (8 : Int)).fst.err =
                    e1 ∧
                  (rdTake
                            (rdUse
                              (rdTake
                                  (rdUse
                                    (Rd.mk (rdTake (rdUse (Rd.mk s a (0 : Int) (0 : Int))) (1 : Int)).fst.s (rdTake (rdUse (Rd.mk s a (0 : Int) (0 : Int))) (1 : Int)).fst.at_ (0 : Int)
                                      (rdTake (rdUse (Rd.mk s a (0 : Int) (0 : Int))) (1 : Int)).fst.fat))
                                  (8 : Int)).fst)
                            (8 : Int)).fst.fat =
                      f1 ∧
                    (6 : Int) = k1 ∧
                      IntKind.i64.wrap
                            (numS
                              (rdTake
                                  (rdUse
                                    (Rd.mk (rdTake (rdUse (Rd.mk s a (0 : Int) (0 : Int))) (1 : Int)).fst.s (rdTake (rdUse (Rd.mk s a (0 : Int) (0 : Int))) (1 : Int)).fst.at_ (0 : Int)
                                      (rdTake (rdUse (Rd.mk s a (0 : Int) (0 : Int))) (1 : Int)).fst.fat))
                                  (8 : Int)).snd) =
                          t1 ∧
                        (0 : Int) = l1 ∧
                          [] = x1 ∧
                            (0 : Int) = n1 ∧
                              IntKind.i64.wrap
                                    (numS
                                      (rdTake
                                          (rdUse
                                            (rdTake
                                                (rdUse
                                                  (Rd.mk (rdTake (rdUse (Rd.mk s a (0 : Int) (0 : Int))) (1 : Int)).fst.s (rdTake (rdUse (Rd.mk s a (0 : Int) (0 : Int))) (1 : Int)).fst.at_ (0 : Int)
                                                    (rdTake (rdUse (Rd.mk s a (0 : Int) (0 : Int))) (1 : Int)).fst.fat))
                                                (8 : Int)).fst)
                                          (8 : Int)).snd) =
                                  m1 ∧
                                (0 : Int) = il1 ∧ (0 : Int) = id1 ∧ True) ∧
            [AV.str
                    (rdTake
                          (rdUse
                            (rdTake
                                (rdUse
                                  (Rd.mk (rdTake (rdUse (Rd.mk s a (0 : Int) (0 : Int))) (1 : Int)).fst.s (rdTake (rdUse (Rd.mk s a (0 : Int) (0 : Int))) (1 : Int)).fst.at_ (0 : Int)
                                    (rdTake (rdUse (Rd.mk s a (0 : Int) (0 : Int))) (1 : Int)).fst.fat))
                                (8 : Int)).fst)
                          (8 : Int)).fst.s,
                  AV.int IntKind.i64
                    (rdTake
                          (rdUse
                            (rdTake
                                (rdUse
                                  (Rd.mk (rdTake (rdUse (Rd.mk s a (0 : Int) (0 : Int))) (1 : Int)).fst.s (rdTake (rdUse (Rd.mk s a (0 : Int) (0 : Int))) (1 : Int)).fst.at_ (0 : Int)
                                    (rdTake (rdUse (Rd.mk s a (0 : Int) (0 : Int))) (1 : Int)).fst.fat))
                                (8 : Int)).fst)
                          (8 : Int)).fst.at_,
                  AV.int IntKind.i64
                    (rdTake
                          (rdUse
                            (rdTake
                                (rdUse
                                  (Rd.mk (rdTake (rdUse (Rd.mk s a (0 : Int) (0 : Int))) (1 : Int)).fst.s (rdTake (rdUse (Rd.mk s a (0 : Int) (0 : Int))) (1 : Int)).fst.at_ (0 : Int)
                                    (rdTake (rdUse (Rd.mk s a (0 : Int) (0 : Int))) (1 : Int)).fst.fat))
                                (8 : Int)).fst)
                          (8 : Int)).fst.err,
                  AV.int IntKind.i64
                    (rdTake
                          (rdUse
                            (rdTake
                                (rdUse
                                  (Rd.mk (rdTake (rdUse (Rd.mk s a (0 : Int) (0 : Int))) (1 : Int)).fst.s (rdTake (rdUse (Rd.mk s a (0 : Int) (0 : Int))) (1 : Int)).fst.at_ (0 : Int)
                                    (rdTake (rdUse (Rd.mk s a (0 : Int) (0 : Int))) (1 : Int)).fst.fat))
                                (8 : Int)).fst)
                          (8 : Int)).fst.fat,
                  AV.int IntKind.i64 (6 : Int),
                  AV.int IntKind.i64
                    (IntKind.i64.wrap
                      (numS
                        (rdTake
                            (rdUse
                              (Rd.mk (rdTake (rdUse (Rd.mk s a (0 : Int) (0 : Int))) (1 : Int)).fst.s (rdTake (rdUse (Rd.mk s a (0 : Int) (0 : Int))) (1 : Int)).fst.at_ (0 : Int)
                                (rdTake (rdUse (Rd.mk s a (0 : Int) (0 : Int))) (1 : Int)).fst.fat))
                            (8 : Int)).snd)),
                  AV.int IntKind.u64 (0 : Int), AV.str [], AV.int IntKind.i64 (0 : Int),
                  AV.int IntKind.i64
                    (IntKind.i64.wrap
                      (numS
                        (rdTake
                            (rdUse
                              (rdTake
                                  (rdUse
                                    (Rd.mk (rdTake (rdUse (Rd.mk s a (0 : Int) (0 : Int))) (1 : Int)).fst.s (rdTake (rdUse (Rd.mk s a (0 : Int) (0 : Int))) (1 : Int)).fst.at_ (0 : Int)
                                      (rdTake (rdUse (Rd.mk s a (0 : Int) (0 : Int))) (1 : Int)).fst.fat))
                                  (8 : Int)).fst)
                            (8 : Int)).snd)),
                  AV.int IntKind.u64 (0 : Int), AV.int IntKind.u64 (0 : Int)].length =
              [AV.str s1, AV.int IntKind.i64 a1, AV.int IntKind.i64 e1, AV.int IntKind.i64 f1, AV.int IntKind.i64 k1, AV.int IntKind.i64 t1, AV.int IntKind.u64 l1, AV.str x1, AV.int IntKind.i64 n1, AV.int IntKind.i64 m1,
                  AV.int IntKind.u64 il1, AV.int IntKind.u64 id1].length) ∧
          (0 : Nat) = (0 : Nat))))) := by
  kernel_rfl

theorem next7_vc (s : List UInt8) (a : Int) (s1 : List UInt8) (a1 e1 f1 k1 t1 l1 n1 m1 il1 id1 : Int) (x1 : List UInt8) : (vcFun (ER 0 7) 40 26 [.str s, .int .i64 a] .nil 0 (retP 3 (.rptr (.agg [.str s1, .int .i64 a1, .int .i64 e1, .int .i64 f1, .int .i64 k1, .int .i64 t1, .int .u64 l1, .str x1, .int .i64 n1, .int .i64 m1, .int .u64 il1, .int .u64 id1]) 0))).sat = (
  NB
    (decide (s.length ≤ (9223372036854775807 : Nat)) && decide ((rdTake (rdUse (Rd.mk s a (0 : Int) (0 : Int))) (1 : Int)).fst.err = (0 : Int)) &&
      decide (numS (rdTake (rdUse (Rd.mk s a (0 : Int) (0 : Int))) (1 : Int)).snd = (7 : Int)))
    (NB (decide ((rdTake (rdUse (Rd.mk s a (0 : Int) (0 : Int))) (1 : Int)).fst.s.length ≤ (9223372036854775807 : Nat)))
      (NB
        (decide
          ((rdTake
                    (rdUse
                      (Rd.mk (rdTake (rdUse (Rd.mk s a (0 : Int) (0 : Int))) (1 : Int)).fst.s (rdTake (rdUse (Rd.mk s a (0 : Int) (0 : Int))) (1 : Int)).fst.at_ (0 : Int)
                        (rdTake (rdUse (Rd.mk s a (0 : Int) (0 : Int))) (1 : Int)).fst.fat))
                    (8 : Int)).fst.s.length ≤
            (9223372036854775807 : Nat)))
        (NB
          (decide
            ((rdTake
                      (rdUse
                        (rdTake
                            (rdUse
                              (Rd.mk (rdTake (rdUse (Rd.mk s a (0 : Int) (0 : Int))) (1 : Int)).fst.s (rdTake (rdUse (Rd.mk s a (0 : Int) (0 : Int))) (1 : Int)).fst.at_ (0 : Int)
                                (rdTake (rdUse (Rd.mk s a (0 : Int) (0 : Int))) (1 : Int)).fst.fat))
                            (8 : Int)).fst)
                      (8 : Int)).fst.s.length ≤
              (9223372036854775807 : Nat)))
          (NB
            (decide
              ((rdTake
                        (rdUse
                          (rdTake
                              (rdUse
                                (rdTake
                                    (rdUse
                                      (Rd.mk (rdTake (rdUse (Rd.mk s a (0 : Int) (0 : Int))) (1 : Int)).fst.s (rdTake (rdUse (Rd.mk s a (0 : Int) (0 : Int))) (1 : Int)).fst.at_ (0 : Int)
                                        (rdTake (rdUse (Rd.mk s a (0 : Int) (0 : Int))) (1 : Int)).fst.fat))
                                    (8 : Int)).fst)
                              (8 : Int)).fst)
                        (8 : Int)).fst.s.length ≤
                (9223372036854775807 : Nat)))
            ((((rdTake
                          (rdUse
                            (rdTake
                                (rdUse
                                  (rdTake
                                      (rdUse
                                        (rdTake
                                            (rdUse
                                              (Rd.mk (rdTake (rdUse (Rd.mk s a (0 : Int) (0 : Int))) (1 : Int)).fst.s (rdTake (rdUse (Rd.mk s a (0 : Int) (0 : Int))) (1 : Int)).fst.at_ (0 : Int)
                                                (rdTake (rdUse (Rd.mk s a (0 : Int) (0 : Int))) (1 : Int)).fst.fat))
                                            (8 : Int)).fst)
                                      (8 : Int)).fst)
                                (8 : Int)).fst)
                          (8 : Int)).fst.s =
                    s1 ∧
                  (rdTake
                            (rdUse
                              (rdTake
                                  (rdUse
                                    (rdTake
                                        (rdUse
                                          (rdTake
                                              (rdUse
                                                (Rd.mk (rdTake (rdUse (Rd.mk s a (0 : Int) (0 : Int))) (1 : Int)).fst.s (rdTake (rdUse (Rd.mk s a (0 : Int) (0 : Int))) (1 : Int)).fst.at_ (0 : Int)
                                                  (rdTake (rdUse (Rd.mk s a (0 : Int) (0 : Int))) (1 : Int)).fst.fat))
                                              (8 : Int)).fst)
                                        (8 : Int)).fst)
                                  (8 : Int)).fst)
                            (8 : Int)).fst.at_ =
                      a1 ∧
                    (rdTake
                              (rdUse
                                (rdTake
                                    (rdUse
                                      (rdTake
                                          (rdUse
                                            (rdTake
                                                (rdUse
                                                  (Rd.mk (rdTake (rdUse (Rd.mk s a (0 : Int) (0 : Int))) (1 : Int)).fst.s (rdTake (rdUse (Rd.mk s a (0 : Int) (0 : Int))) (1 : Int)).fst.at_ (0 : Int)
                                                    (rdTake (rdUse (Rd.mk s a (0 : Int) (0 : Int))) (1 : Int)).fst.fat))
                                                (8 : Int)).fst)
                                          (8 : Int)).fst)
                                    (8 : Int)).fst)
                              (8 : Int)).fst.err =
                        e1 ∧
                      (rdTake
                                (rdUse
                                  (rdTake
                                      (rdUse
                                        (rdTake
                                            (rdUse
                                              (rdTake
                                                  (rdUse
                                                    (Rd.mk (rdTake (rdUse (Rd.mk s a (0 : Int) (0 : Int))) (1 : Int)).fst.s (rdTake (rdUse (Rd.mk s a (0 : Int) (0 : Int))) (1 : Int)).fst.at_ (0 : Int)
                                                      (rdTake (rdUse (Rd.mk s a (0 : Int) (0 : Int))) (1 : Int)).fst.fat))
                                                  (8 : Int)).fst)
                                            (8 : Int)).fst)
                                      (8 : Int)).fst)
                                (8 : Int)).fst.fat =
                          f1 ∧
                        (7 : Int) = k1 ∧
                          IntKind.i64.wrap
                                (numS
                                  (rdTake
                                      (rdUse
                                        (Rd.mk (rdTake (rdUse (Rd.mk s a (0 : Int) (0 : Int))) (1 : Int)).fst.s (rdTake (rdUse (Rd.mk s a (0 : Int) (0 : Int))) (1 : Int)).fst.at_ (0 : Int)
                                          (rdTake (rdUse (Rd.mk s a (0 : Int) (0 : Int))) (1 : Int)).fst.fat))
                                      (8 : Int)).snd) =
                              t1 ∧
                            (0 : Int) = l1 ∧
                              [] = x1 ∧
                                IntKind.i64.wrap
                                      (numS
                                        (rdTake
                                            (rdUse
                                              (rdTake
                                                  (rdUse
                                                    (Rd.mk (rdTake (rdUse (Rd.mk s a (0 : Int) (0 : Int))) (1 : Int)).fst.s (rdTake (rdUse (Rd.mk s a (0 : Int) (0 : Int))) (1 : Int)).fst.at_ (0 : Int)
                                                      (rdTake (rdUse (Rd.mk s a (0 : Int) (0 : Int))) (1 : Int)).fst.fat))
                                                  (8 : Int)).fst)
                                            (8 : Int)).snd) =
                                    n1 ∧
                                  (0 : Int) = m1 ∧
                                    numS
                                          (rdTake
                                              (rdUse
                                                (rdTake
                                                    (rdUse
                                                      (rdTake
                                                          (rdUse
                                                            (Rd.mk (rdTake (rdUse (Rd.mk s a (0 : Int) (0 : Int))) (1 : Int)).fst.s (rdTake (rdUse (Rd.mk s a (0 : Int) (0 : Int))) (1 : Int)).fst.at_ (0 : Int)
                                                              (rdTake (rdUse (Rd.mk s a (0 : Int) (0 : Int))) (1 : Int)).fst.fat))
                                                          (8 : Int)).fst)
                                                    (8 : Int)).fst)
                                              (8 : Int)).snd =
                                        il1 ∧
                                      numS
                                            (rdTake
                                                (rdUse
                                                  (rdTake
                                                      (rdUse
                                                        (rdTake
                                                            (rdUse
                                                              (rdTake
                                                                  (rdUse
                                                                    (Rd.mk (rdTake (rdUse (Rd.mk s a (0 : Int) (0 : Int))) (1 : Int)).fst.s (rdTake (rdUse (Rd.mk s a (0 : Int) (0 : Int))) (1 : Int)).fst.at_ (0 : Int)
                                                                      (rdTake (rdUse (Rd.mk s a (0 : Int) (0 : Int))) (1 : Int)).fst.fat))
                                                                  (8 : Int)).fst)
                                                            (8 : Int)).fst)
                                                      (8 : Int)).fst)
                                                (8 : Int)).snd =
                                          id1 ∧
                                        True) ∧
                [AV.str
                        (rdTake
                              (rdUse
                                (rdTake
                                    (rdUse
                                      (rdTake
                                          (rdUse
                                            (rdTake
                                                (rdUse
                                                  (Rd.mk (rdTake (rdUse (Rd.mk s a (0 : Int) (0 : Int))) (1 : Int)).fst.s (rdTake (rdUse (Rd.mk s a (0 : Int) (0 : Int))) (1 : Int)).fst.at_ (0 : Int)
                                                    (rdTake (rdUse (Rd.mk s a (0 : Int) (0 : Int))) (1 : Int)).fst.fat))
                                                (8 : Int)).fst)
                                          (8 : Int)).fst)
                                    (8 : Int)).fst)
                              (8 : Int)).fst.s,
                      AV.int IntKind.i64
                        (rdTake
                              (rdUse
                                (rdTake
                                    (rdUse
                                      (rdTake
                                          (rdUse
                                            (rdTake
                                                (rdUse
                                                  (Rd.mk (rdTake (rdUse (Rd.mk s a (0 : Int) (0 : Int))) (1 : Int)).fst.s (rdTake (rdUse (Rd.mk s a (0 : Int) (0 : Int))) (1 : Int)).fst.at_ (0 : Int)
                                                    (rdTake (rdUse (Rd.mk s a (0 : Int) (0 : Int))) (1 : Int)).fst.fat))
                                                (8 : Int)).fst)
                                          (8 : Int)).fst)
                                    (8 : Int)).fst)
                              (8 : Int)).fst.at_,
                      AV.int IntKind.i64
                        (rdTake
                              (rdUse
                                (rdTake
                                    (rdUse
                                      (rdTake
                                          (rdUse
                                            (rdTake
                                                (rdUse
                                                  (Rd.mk (rdTake (rdUse (Rd.mk s a (0 : Int) (0 : Int))) (1 : Int)).fst.s (rdTake (rdUse (Rd.mk s a (0 : Int) (0 : Int))) (1 : Int)).fst.at_ (0 : Int)
                                                    (rdTake (rdUse (Rd.mk s a (0 : Int) (0 : Int))) (1 : Int)).fst.fat))
                                                (8 : Int)).fst)
                                          (8 : Int)).fst)
                                    (8 : Int)).fst)
                              (8 : Int)).fst.err,
                      AV.int IntKind.i64
                        (rdTake
                              (rdUse
                                (rdTake
                                    (rdUse
                                      (rdTake
                                          (rdUse
                                            (rdTake
                                                (rdUse
                                                  (Rd.mk (rdTake (rdUse (Rd.mk s a (0 : Int) (0 : Int))) (1 : Int)).fst.s (rdTake (rdUse (Rd.mk s a (0 : Int) (0 : Int))) (1 : Int)).fst.at_ (0 : Int)
                                                    (rdTake (rdUse (Rd.mk s a (0 : Int) (0 : Int))) (1 : Int)).fst.fat))
                                                (8 : Int)).fst)
                                          (8 : Int)).fst)
                                    (8 : Int)).fst)
                              (8 : Int)).fst.fat,
                      AV.int IntKind.i64 (7 : Int),
                      AV.int IntKind.i64
                        (IntKind.i64.wrap
                          (numS
                            (rdTake
                                (rdUse
                                  (Rd.mk (rdTake (rdUse (Rd.mk s a (0 : Int) (0 : Int))) (1 : Int)).fst.s (rdTake (rdUse (Rd.mk s a (0 : Int) (0 : Int))) (1 : Int)).fst.at_ (0 : Int)
                                    (rdTake (rdUse (Rd.mk s a (0 : Int) (0 : Int))) (1 : Int)).fst.fat))
                                (8 : Int)).snd)),
                      AV.int IntKind.u64 (0 : Int), AV.str [],
                      AV.int IntKind.i64
                        (IntKind.i64.wrap
                          (numS
                            (rdTake
                                (rdUse
                                  (rdTake
                                      (rdUse
                                        (Rd.mk (rdTake (rdUse (Rd.mk s a (0 : Int) (0 : Int))) (1 : Int)).fst.s (rdTake (rdUse (Rd.mk s a (0 : Int) (0 : Int))) (1 : Int)).fst.at_ (0 : Int)
                                          (rdTake (rdUse (Rd.mk s a (0 : Int) (0 : Int))) (1 : Int)).fst.fat))
                                      (8 : Int)).fst)
                                (8 : Int)).snd)),
                      AV.int IntKind.i64 (0 : Int),
                      AV.int IntKind.u64
                        (numS
                          (rdTake
                              (rdUse
                                (rdTake
                                    (rdUse
                                      (rdTake
                                          (rdUse
                                            (Rd.mk (rdTake (rdUse (Rd.mk s a (0 : Int) (0 : Int))) (1 : Int)).fst.s (rdTake (rdUse (Rd.mk s a (0 : Int) (0 : Int))) (1 : Int)).fst.at_ (0 : Int)
                                              (rdTake (rdUse (Rd.mk s a (0 : Int) (0 : Int))) (1 : Int)).fst.fat))
                                          (8 : Int)).fst)
                                    (8 : Int)).fst)
                              (8 : Int)).snd),
                      AV.int IntKind.u64
                        (numS
                          (rdTake
                              (rdUse
                                (rdTake
                                    (rdUse
                                      (rdTake
                                          (rdUse
                                            (rdTake
                                                (rdUse
                                                  (Rd.mk (rdTake (rdUse (Rd.mk s a (0 : Int) (0 : Int))) (1 : Int)).fst.s (rdTake (rdUse (Rd.mk s a (0 : Int) (0 : Int))) (1 : Int)).fst.at_ (0 : Int)
                                                    (rdTake (rdUse (Rd.mk s a (0 : Int) (0 : Int))) (1 : Int)).fst.fat))
                                                (8 : Int)).fst)
                                          (8 : Int)).fst)
                                    (8 : Int)).fst)
                              (8 : Int)).snd)].length =
                  [AV.str s1, AV.int IntKind.i64 a1, AV.int IntKind.i64 e1, AV.int IntKind.i64 f1, AV.int IntKind.i64 k1, AV.int IntKind.i64 t1, AV.int IntKind.u64 l1, AV.str x1, AV.int IntKind.i64 n1,
                      AV.int IntKind.i64 m1, AV.int IntKind.u64 il1, AV.int IntKind.u64 id1].length) ∧
              (0 : Nat) = (0 : Nat))))))) := by
  kernel_rfl

theorem next8_vc (s : List UInt8) (a : Int) (s1 : List UInt8) (a1 e1 f1 k1 t1 l1 n1 m1 il1 id1 : Int) (x1 : List UInt8) : (vcFun (ER 0 8) 40 26 [.str s, .int .i64 a] .nil 0 (retP 3 (.rptr (.agg [.str s1, .int .i64 a1, .int .i64 e1, .int .i64 f1, .int .i64 k1, .int .i64 t1, .int .u64 l1, .str x1, .int .i64 n1, .int .i64 m1, .int .u64 il1, .int .u64 id1]) 0))).sat = (
  NB
    (decide (s.length ≤ (9223372036854775807 : Nat)) && decide ((rdTake (rdUse (Rd.mk s a (0 : Int) (0 : Int))) (1 : Int)).fst.err = (0 : Int)) &&
      decide (numS (rdTake (rdUse (Rd.mk s a (0 : Int) (0 : Int))) (1 : Int)).snd = (8 : Int)))
    (NB (decide ((rdTake (rdUse (Rd.mk s a (0 : Int) (0 : Int))) (1 : Int)).fst.s.length ≤ (9223372036854775807 : Nat)))
      (NB
        (decide
          ((rdTake
                    (rdUse
                      (Rd.mk (rdTake (rdUse (Rd.mk s a (0 : Int) (0 : Int))) (1 : Int)).fst.s (rdTake (rdUse (Rd.mk s a (0 : Int) (0 : Int))) (1 : Int)).fst.at_ (0 : Int)
                        (rdTake (rdUse (Rd.mk s a (0 : Int) (0 : Int))) (1 : Int)).fst.fat))
                    (8 : Int)).fst.s.length ≤
            (9223372036854775807 : Nat)))
        (NB
          (decide
            ((rdTake
                      (rdUse
                        (rdTake
                            (rdUse
                              (Rd.mk (rdTake (rdUse (Rd.mk s a (0 : Int) (0 : Int))) (1 : Int)).fst.s (rdTake (rdUse (Rd.mk s a (0 : Int) (0 : Int))) (1 : Int)).fst.at_ (0 : Int)
                                (rdTake (rdUse (Rd.mk s a (0 : Int) (0 : Int))) (1 : Int)).fst.fat))
                            (8 : Int)).fst)
                      (8 : Int)).fst.s.length ≤
              (9223372036854775807 : Nat)))
          ((((rdTake
                        (rdUse
                          (rdTake
                              (rdUse
                                (rdTake
                                    (rdUse
                                      (Rd.mk (rdTake (rdUse (Rd.mk s a (0 : Int) (0 : Int))) (1 : Int)).fst.s (rdTake (rdUse (Rd.mk s a (0 : Int) (0 : Int))) (1 : Int)).fst.at_ (0 : Int)
                                        (rdTake (rdUse (Rd.mk s a (0 : Int) (0 : Int))) (1 : Int)).fst.fat))
                                    (8 : Int)).fst)
                              (8 : Int)).fst)
                        (8 : Int)).fst.s =
                  s1 ∧
                (rdTake
                          (rdUse
                            (rdTake
                                (rdUse
                                  (rdTake
                                      (rdUse
                                        (Rd.mk (rdTake (rdUse (Rd.mk s a (0 : Int) (0 : Int))) (1 : Int)).fst.s (rdTake (rdUse (Rd.mk s a (0 : Int) (0 : Int))) (1 : Int)).fst.at_ (0 : Int)
                                          (rdTake (rdUse (Rd.mk s a (0 : Int) (0 : Int))) (1 : Int)).fst.fat))
                                      (8 : Int)).fst)
                                (8 : Int)).fst)
                          (8 : Int)).fst.at_ =
                    a1 ∧
                  (rdTake
                            (rdUse
                              (rdTake
                                  (rdUse
                                    (rdTake
                                        (rdUse
                                          (Rd.mk (rdTake (rdUse (Rd.mk s a (0 : Int) (0 : Int))) (1 : Int)).fst.s (rdTake (rdUse (Rd.mk s a (0 : Int) (0 : Int))) (1 : Int)).fst.at_ (0 : Int)
                                            (rdTake (rdUse (Rd.mk s a (0 : Int) (0 : Int))) (1 : Int)).fst.fat))
                                        (8 : Int)).fst)
                                  (8 : Int)).fst)
                            (8 : Int)).fst.err =
                      e1 ∧
                    (rdTake
                              (rdUse
                                (rdTake
                                    (rdUse
                                      (rdTake
                                          (rdUse
                                            (Rd.mk (rdTake (rdUse (Rd.mk s a (0 : Int) (0 : Int))) (1 : Int)).fst.s (rdTake (rdUse (Rd.mk s a (0 : Int) (0 : Int))) (1 : Int)).fst.at_ (0 : Int)
                                              (rdTake (rdUse (Rd.mk s a (0 : Int) (0 : Int))) (1 : Int)).fst.fat))
                                          (8 : Int)).fst)
                                    (8 : Int)).fst)
                              (8 : Int)).fst.fat =
                        f1 ∧
                      (8 : Int) = k1 ∧
                        IntKind.i64.wrap
                              (numS
                                (rdTake
                                    (rdUse
                                      (Rd.mk (rdTake (rdUse (Rd.mk s a (0 : Int) (0 : Int))) (1 : Int)).fst.s (rdTake (rdUse (Rd.mk s a (0 : Int) (0 : Int))) (1 : Int)).fst.at_ (0 : Int)
                                        (rdTake (rdUse (Rd.mk s a (0 : Int) (0 : Int))) (1 : Int)).fst.fat))
                                    (8 : Int)).snd) =
                            t1 ∧
                          (0 : Int) = l1 ∧
                            [] = x1 ∧
                              IntKind.i64.wrap
                                    (numS
                                      (rdTake
                                          (rdUse
                                            (rdTake
                                                (rdUse
                                                  (Rd.mk (rdTake (rdUse (Rd.mk s a (0 : Int) (0 : Int))) (1 : Int)).fst.s (rdTake (rdUse (Rd.mk s a (0 : Int) (0 : Int))) (1 : Int)).fst.at_ (0 : Int)
                                                    (rdTake (rdUse (Rd.mk s a (0 : Int) (0 : Int))) (1 : Int)).fst.fat))
                                                (8 : Int)).fst)
                                          (8 : Int)).snd) =
                                  n1 ∧
                                IntKind.i64.wrap
                                      (numS
                                        (rdTake
                                            (rdUse
                                              (rdTake
                                                  (rdUse
                                                    (rdTake
                                                        (rdUse
                                                          (Rd.mk (rdTake (rdUse (Rd.mk s a (0 : Int) (0 : Int))) (1 : Int)).fst.s (rdTake (rdUse (Rd.mk s a (0 : Int) (0 : Int))) (1 : Int)).fst.at_ (0 : Int)
                                                            (rdTake (rdUse (Rd.mk s a (0 : Int) (0 : Int))) (1 : Int)).fst.fat))
                                                        (8 : Int)).fst)
                                                  (8 : Int)).fst)
                                            (8 : Int)).snd) =
                                    m1 ∧
                                  (0 : Int) = il1 ∧ (0 : Int) = id1 ∧ True) ∧
              [AV.str
                      (rdTake
                            (rdUse
                              (rdTake
                                  (rdUse
                                    (rdTake
                                        (rdUse
                                          (Rd.mk (rdTake (rdUse (Rd.mk s a (0 : Int) (0 : Int))) (1 : Int)).fst.s (rdTake (rdUse (Rd.mk s a (0 : Int) (0 : Int))) (1 : Int)).fst.at_ (0 : Int)
                                            (rdTake (rdUse (Rd.mk s a (0 : Int) (0 : Int))) (1 : Int)).fst.fat))
                                        (8 : Int)).fst)
                                  (8 : Int)).fst)
                            (8 : Int)).fst.s,
                    AV.int IntKind.i64
                      (rdTake
                            (rdUse
                              (rdTake
                                  (rdUse
                                    (rdTake
                                        (rdUse
                                          (Rd.mk (rdTake (rdUse (Rd.mk s a (0 : Int) (0 : Int))) (1 : Int)).fst.s (rdTake (rdUse (Rd.mk s a (0 : Int) (0 : Int))) (1 : Int)).fst.at_ (0 : Int)
                                            (rdTake (rdUse (Rd.mk s a (0 : Int) (0 : Int))) (1 : Int)).fst.fat))
                                        (8 : Int)).fst)
                                  (8 : Int)).fst)
                            (8 : Int)).fst.at_,
                    AV.int IntKind.i64
                      (rdTake
                            (rdUse
                              (rdTake
                                  (rdUse
                                    (rdTake
                                        (rdUse
                                          (Rd.mk (rdTake (rdUse (Rd.mk s a (0 : Int) (0 : Int))) (1 : Int)).fst.s (rdTake (rdUse (Rd.mk s a (0 : Int) (0 : Int))) (1 : Int)).fst.at_ (0 : Int)
                                            (rdTake (rdUse (Rd.mk s a (0 : Int) (0 : Int))) (1 : Int)).fst.fat))
                                        (8 : Int)).fst)
                                  (8 : Int)).fst)
                            (8 : Int)).fst.err,
                    AV.int IntKind.i64
                      (rdTake
                            (rdUse
                              (rdTake
                                  (rdUse
                                    (rdTake
                                        (rdUse
                                          (Rd.mk (rdTake (rdUse (Rd.mk s a (0 : Int) (0 : Int))) (1 : Int)).fst.s (rdTake (rdUse (Rd.mk s a (0 : Int) (0 : Int))) (1 : Int)).fst.at_ (0 : Int)
                                            (rdTake (rdUse (Rd.mk s a (0 : Int) (0 : Int))) (1 : Int)).fst.fat))
                                        (8 : Int)).fst)
                                  (8 : Int)).fst)
                            (8 : Int)).fst.fat,
                    AV.int IntKind.i64 (8 : Int),
                    AV.int IntKind.i64
                      (IntKind.i64.wrap
                        (numS
                          (rdTake
                              (rdUse
                                (Rd.mk (rdTake (rdUse (Rd.mk s a (0 : Int) (0 : Int))) (1 : Int)).fst.s (rdTake (rdUse (Rd.mk s a (0 : Int) (0 : Int))) (1 : Int)).fst.at_ (0 : Int)
                                  (rdTake (rdUse (Rd.mk s a (0 : Int) (0 : Int))) (1 : Int)).fst.fat))
                              (8 : Int)).snd)),
                    AV.int IntKind.u64 (0 : Int), AV.str [],
                    AV.int IntKind.i64
                      (IntKind.i64.wrap
                        (numS
                          (rdTake
                              (rdUse
                                (rdTake
                                    (rdUse
                                      (Rd.mk (rdTake (rdUse (Rd.mk s a (0 : Int) (0 : Int))) (1 : Int)).fst.s (rdTake (rdUse (Rd.mk s a (0 : Int) (0 : Int))) (1 : Int)).fst.at_ (0 : Int)
                                        (rdTake (rdUse (Rd.mk s a (0 : Int) (0 : Int))) (1 : Int)).fst.fat))
                                    (8 : Int)).fst)
                              (8 : Int)).snd)),
                    AV.int IntKind.i64
                      (IntKind.i64.wrap
                        (numS
                          (rdTake
                              (rdUse
                                (rdTake
                                    (rdUse
                                      (rdTake
                                          (rdUse
                                            (Rd.mk (rdTake (rdUse (Rd.mk s a (0 : Int) (0 : Int))) (1 : Int)).fst.s (rdTake (rdUse (Rd.mk s a (0 : Int) (0 : Int))) (1 : Int)).fst.at_ (0 : Int)
                                              (rdTake (rdUse (Rd.mk s a (0 : Int) (0 : Int))) (1 : Int)).fst.fat))
                                          (8 : Int)).fst)
                                    (8 : Int)).fst)
                              (8 : Int)).snd)),
                    AV.int IntKind.u64 (0 : Int), AV.int IntKind.u64 (0 : Int)].length =
                [AV.str s1, AV.int IntKind.i64 a1, AV.int IntKind.i64 e1, AV.int IntKind.i64 f1, AV.int IntKind.i64 k1, AV.int IntKind.i64 t1, AV.int IntKind.u64 l1, AV.str x1, AV.int IntKind.i64 n1, AV.int IntKind.i64 m1,
                    AV.int IntKind.u64 il1, AV.int IntKind.u64 id1].length) ∧
            (0 : Nat) = (0 : Nat)))))) := by
  kernel_rfl

theorem nextU_vc (k : Int) (s : List UInt8) (a : Int) (s1 : List UInt8) (a1 e1 f1 k1 t1 l1 n1 m1 il1 id1 : Int) (x1 : List UInt8) : (vcFun (ERU k) 40 26 [.str s, .int .i64 a] .nil 0 (retP 3 (.rptr (.agg [.str s1, .int .i64 a1, .int .i64 e1, .int .i64 f1, .int .i64 k1, .int .i64 t1, .int .u64 l1, .str x1, .int .i64 n1, .int .i64 m1, .int .u64 il1, .int .u64 id1]) 0))).sat = (
  NB
    (decide (s.length ≤ (9223372036854775807 : Nat)) && decide ((rdTake (rdUse (Rd.mk s a (0 : Int) (0 : Int))) (1 : Int)).fst.err = (0 : Int)) &&
      decide (numS (rdTake (rdUse (Rd.mk s a (0 : Int) (0 : Int))) (1 : Int)).snd = k))
    (NB (impB (isW true true) (decide ¬((1 : Int) ≤ IntKind.i64.wrap k ∧ IntKind.i64.wrap k ≤ (8 : Int))))
      (NB
        (decide ((rdTake (rdUse (Rd.mk s a (0 : Int) (0 : Int))) (1 : Int)).fst.s.length ≤ (9223372036854775807 : Nat)) &&
          decide
            ((rdFailX
                  (Rd.mk (rdTake (rdUse (Rd.mk s a (0 : Int) (0 : Int))) (1 : Int)).fst.s (rdTake (rdUse (Rd.mk s a (0 : Int) (0 : Int))) (1 : Int)).fst.at_ (0 : Int)
                    (rdTake (rdUse (Rd.mk s a (0 : Int) (0 : Int))) (1 : Int)).fst.fat)
                  (11 : Int) a).err =
              (11 : Int)))
        ((((rdFailX
                    (Rd.mk (rdTake (rdUse (Rd.mk s a (0 : Int) (0 : Int))) (1 : Int)).fst.s (rdTake (rdUse (Rd.mk s a (0 : Int) (0 : Int))) (1 : Int)).fst.at_ (0 : Int)
                      (rdTake (rdUse (Rd.mk s a (0 : Int) (0 : Int))) (1 : Int)).fst.fat)
                    (11 : Int) a).s =
                s1 ∧
              (rdFailX
                      (Rd.mk (rdTake (rdUse (Rd.mk s a (0 : Int) (0 : Int))) (1 : Int)).fst.s (rdTake (rdUse (Rd.mk s a (0 : Int) (0 : Int))) (1 : Int)).fst.at_ (0 : Int)
                        (rdTake (rdUse (Rd.mk s a (0 : Int) (0 : Int))) (1 : Int)).fst.fat)
                      (11 : Int) a).at_ =
                  a1 ∧
                (11 : Int) = e1 ∧
                  (rdFailX
                          (Rd.mk (rdTake (rdUse (Rd.mk s a (0 : Int) (0 : Int))) (1 : Int)).fst.s (rdTake (rdUse (Rd.mk s a (0 : Int) (0 : Int))) (1 : Int)).fst.at_ (0 : Int)
                            (rdTake (rdUse (Rd.mk s a (0 : Int) (0 : Int))) (1 : Int)).fst.fat)
                          (11 : Int) a).fat =
                      f1 ∧
                    IntKind.i64.wrap k = k1 ∧ (0 : Int) = t1 ∧ (0 : Int) = l1 ∧ [] = x1 ∧ (0 : Int) = n1 ∧ (0 : Int) = m1 ∧ (0 : Int) = il1 ∧ (0 : Int) = id1 ∧ True) ∧
            [AV.str
                    (rdFailX
                        (Rd.mk (rdTake (rdUse (Rd.mk s a (0 : Int) (0 : Int))) (1 : Int)).fst.s (rdTake (rdUse (Rd.mk s a (0 : Int) (0 : Int))) (1 : Int)).fst.at_ (0 : Int)
                          (rdTake (rdUse (Rd.mk s a (0 : Int) (0 : Int))) (1 : Int)).fst.fat)
                        (11 : Int) a).s,
                  AV.int IntKind.i64
                    (rdFailX
                        (Rd.mk (rdTake (rdUse (Rd.mk s a (0 : Int) (0 : Int))) (1 : Int)).fst.s (rdTake (rdUse (Rd.mk s a (0 : Int) (0 : Int))) (1 : Int)).fst.at_ (0 : Int)
                          (rdTake (rdUse (Rd.mk s a (0 : Int) (0 : Int))) (1 : Int)).fst.fat)
                        (11 : Int) a).at_,
                  AV.int IntKind.i64 (11 : Int),
                  AV.int IntKind.i64
                    (rdFailX
                        (Rd.mk (rdTake (rdUse (Rd.mk s a (0 : Int) (0 : Int))) (1 : Int)).fst.s (rdTake (rdUse (Rd.mk s a (0 : Int) (0 : Int))) (1 : Int)).fst.at_ (0 : Int)
                          (rdTake (rdUse (Rd.mk s a (0 : Int) (0 : Int))) (1 : Int)).fst.fat)
                        (11 : Int) a).fat,
                  AV.int IntKind.i64 (IntKind.i64.wrap k), AV.int IntKind.i64 (0 : Int), AV.int IntKind.u64 (0 : Int), AV.str [], AV.int IntKind.i64 (0 : Int), AV.int IntKind.i64 (0 : Int), AV.int IntKind.u64 (0 : Int),
                  AV.int IntKind.u64 (0 : Int)].length =
              [AV.str s1, AV.int IntKind.i64 a1, AV.int IntKind.i64 e1, AV.int IntKind.i64 f1, AV.int IntKind.i64 k1, AV.int IntKind.i64 t1, AV.int IntKind.u64 l1, AV.str x1, AV.int IntKind.i64 n1, AV.int IntKind.i64 m1,
                  AV.int IntKind.u64 il1, AV.int IntKind.u64 id1].length) ∧
          (0 : Nat) = (0 : Nat))))) := by
  kernel_rfl

end Go.Proofs.Ytniihecdmcphgaa
