/- OP 11: operations read, their code. -/
import Derived.Test.YtniihecdmcphgaaO8
namespace Go.Proofs.Ytniihecdmcphgaa
open Pw Go
set_option maxRecDepth 100000
set_option linter.unusedSimpArgs false

/-- Reading one byte: the fault and the number are known ahead (needs say so). -/
def cUintK (e0 k : Int) : Ctr
  | [.agg [.str s, .int .i64 a, .int .i64 e, .int .i64 f], .int .i64 n] =>
    if n = 1 then some (decide (s.length ≤ 9223372036854775807) && decide ((rdUint ⟨s, a, e, f⟩ 1).1.err = e0) && decide ((rdUint ⟨s, a, e, f⟩ 1).2 = k),
      .tup [.agg [.str (rdUint ⟨s, a, e, f⟩ 1).1.s, .int .i64 (rdUint ⟨s, a, e, f⟩ 1).1.at_, .int .i64 e0, .int .i64 (rdUint ⟨s, a, e, f⟩ 1).1.fat], .int .u64 k])
    else some (decide (s.length ≤ 9223372036854775807), .tup [(rdUint ⟨s, a, e, f⟩ n).1.av, .int .u64 (rdUint ⟨s, a, e, f⟩ n).2])
  | _ => none
/-- A fault that is set: it is known ahead. -/
def cFailK : Ctr
  | [.agg [.str s, .int .i64 a, .int .i64 e, .int .i64 f], .int .i64 x, .int .i64 y] => some (decide (s.length ≤ 9223372036854775807) && decide ((rdFailX ⟨s, a, e, f⟩ x y).err = 11),
      .agg [.str (rdFailX ⟨s, a, e, f⟩ x y).s, .int .i64 (rdFailX ⟨s, a, e, f⟩ x y).at_, .int .i64 11, .int .i64 (rdFailX ⟨s, a, e, f⟩ x y).fat])
  | _ => none
def cKnownF : Ctr
  | [.int .i64 k] => some (decide (¬ (1 ≤ k ∧ k ≤ 8)), .bool false)
  | _ => none
noncomputable def tblR (e0 k : Int) : List (Nat × Ctr) := [(39, cUintK e0 k), (71, cSized), (27, cEnd)]
noncomputable def tblRU (k : Int) : List (Nat × Ctr) := [(39, cUintK 0 k), (40, cFailK), (28, cKnownF), (27, cEnd)]
noncomputable def ER (e0 k : Int) : Env := mkF Try.prog (tblOf (tblR e0 k)) (fun _ _ => none) 4
noncomputable def ERU (k : Int) : Env := mkF Try.prog (tblOf (tblRU k)) (fun _ _ => none) 4

theorem parse1_vc (s : List UInt8) (k1 t1 l1 n1 m1 il1 id1 : Int) (x1 : List UInt8) (e f : Int) : (vcFun (ER 0 1) 40 13 [.str s] .nil 0 (retP 3 (.tup [.agg [.int .i64 k1, .int .i64 t1, .int .u64 l1, .str x1, .int .i64 n1, .int .i64 m1, .int .u64 il1, .int .u64 id1], .agg [.int .i64 e, .int .i64 f]]))).sat = (
  NB
    (decide (s.length ≤ (9223372036854775807 : Nat)) && decide ((rdTake (rdUse (Rd.mk s (0 : Int) (0 : Int) (0 : Int))) (1 : Int)).fst.err = (0 : Int)) &&
      decide (numS (rdTake (rdUse (Rd.mk s (0 : Int) (0 : Int) (0 : Int))) (1 : Int)).snd = (1 : Int)))
    (NB (decide ((rdTake (rdUse (Rd.mk s (0 : Int) (0 : Int) (0 : Int))) (1 : Int)).fst.s.length ≤ (9223372036854775807 : Nat)))
      (NB
        (decide
          ((rdTake
                    (rdUse
                      (Rd.mk (rdTake (rdUse (Rd.mk s (0 : Int) (0 : Int) (0 : Int))) (1 : Int)).fst.s (rdTake (rdUse (Rd.mk s (0 : Int) (0 : Int) (0 : Int))) (1 : Int)).fst.at_ (0 : Int)
                        (rdTake (rdUse (Rd.mk s (0 : Int) (0 : Int) (0 : Int))) (1 : Int)).fst.fat))
                    (8 : Int)).fst.s.length ≤
            (9223372036854775807 : Nat)))
        (NB
          (decide
            ((rdTake
                      (rdUse
                        (rdTake
                            (rdUse
                              (Rd.mk (rdTake (rdUse (Rd.mk s (0 : Int) (0 : Int) (0 : Int))) (1 : Int)).fst.s (rdTake (rdUse (Rd.mk s (0 : Int) (0 : Int) (0 : Int))) (1 : Int)).fst.at_ (0 : Int)
                                (rdTake (rdUse (Rd.mk s (0 : Int) (0 : Int) (0 : Int))) (1 : Int)).fst.fat))
                            (8 : Int)).fst)
                      (8 : Int)).fst.s.length ≤
              (9223372036854775807 : Nat)))
          (VB
            ((rdEnd
                  (rdTake
                      (rdUse
                        (rdTake
                            (rdUse
                              (Rd.mk (rdTake (rdUse (Rd.mk s (0 : Int) (0 : Int) (0 : Int))) (1 : Int)).fst.s (rdTake (rdUse (Rd.mk s (0 : Int) (0 : Int) (0 : Int))) (1 : Int)).fst.at_ (0 : Int)
                                (rdTake (rdUse (Rd.mk s (0 : Int) (0 : Int) (0 : Int))) (1 : Int)).fst.fat))
                            (8 : Int)).fst)
                      (8 : Int)).fst).err !=
              (0 : Int))
            (((0 : Int) = k1 ∧ (0 : Int) = t1 ∧ (0 : Int) = l1 ∧ [] = x1 ∧ (0 : Int) = n1 ∧ (0 : Int) = m1 ∧ (0 : Int) = il1 ∧ (0 : Int) = id1 ∧ True) ∧
              ((rdEnd
                        (rdTake
                            (rdUse
                              (rdTake
                                  (rdUse
                                    (Rd.mk (rdTake (rdUse (Rd.mk s (0 : Int) (0 : Int) (0 : Int))) (1 : Int)).fst.s (rdTake (rdUse (Rd.mk s (0 : Int) (0 : Int) (0 : Int))) (1 : Int)).fst.at_ (0 : Int)
                                      (rdTake (rdUse (Rd.mk s (0 : Int) (0 : Int) (0 : Int))) (1 : Int)).fst.fat))
                                  (8 : Int)).fst)
                            (8 : Int)).fst).err =
                    e ∧
                  (rdEnd
                          (rdTake
                              (rdUse
                                (rdTake
                                    (rdUse
                                      (Rd.mk (rdTake (rdUse (Rd.mk s (0 : Int) (0 : Int) (0 : Int))) (1 : Int)).fst.s (rdTake (rdUse (Rd.mk s (0 : Int) (0 : Int) (0 : Int))) (1 : Int)).fst.at_ (0 : Int)
                                        (rdTake (rdUse (Rd.mk s (0 : Int) (0 : Int) (0 : Int))) (1 : Int)).fst.fat))
                                    (8 : Int)).fst)
                              (8 : Int)).fst).fat =
                      f ∧
                    True) ∧
                True)
            (((1 : Int) = k1 ∧
                IntKind.i64.wrap
                      (numS
                        (rdTake
                            (rdUse
                              (Rd.mk (rdTake (rdUse (Rd.mk s (0 : Int) (0 : Int) (0 : Int))) (1 : Int)).fst.s (rdTake (rdUse (Rd.mk s (0 : Int) (0 : Int) (0 : Int))) (1 : Int)).fst.at_ (0 : Int)
                                (rdTake (rdUse (Rd.mk s (0 : Int) (0 : Int) (0 : Int))) (1 : Int)).fst.fat))
                            (8 : Int)).snd) =
                    t1 ∧
                  numS
                        (rdTake
                            (rdUse
                              (rdTake
                                  (rdUse
                                    (Rd.mk (rdTake (rdUse (Rd.mk s (0 : Int) (0 : Int) (0 : Int))) (1 : Int)).fst.s (rdTake (rdUse (Rd.mk s (0 : Int) (0 : Int) (0 : Int))) (1 : Int)).fst.at_ (0 : Int)
                                      (rdTake (rdUse (Rd.mk s (0 : Int) (0 : Int) (0 : Int))) (1 : Int)).fst.fat))
                                  (8 : Int)).fst)
                            (8 : Int)).snd =
                      l1 ∧
                    [] = x1 ∧ (0 : Int) = n1 ∧ (0 : Int) = m1 ∧ (0 : Int) = il1 ∧ (0 : Int) = id1 ∧ True) ∧
              ((0 : Int) = e ∧ (0 : Int) = f ∧ True) ∧ True)))))) := by
  kernel_rfl

theorem parse2_vc (s : List UInt8) (k1 t1 l1 n1 m1 il1 id1 : Int) (x1 : List UInt8) (e f : Int) : (vcFun (ER 0 2) 40 13 [.str s] .nil 0 (retP 3 (.tup [.agg [.int .i64 k1, .int .i64 t1, .int .u64 l1, .str x1, .int .i64 n1, .int .i64 m1, .int .u64 il1, .int .u64 id1], .agg [.int .i64 e, .int .i64 f]]))).sat = (
  NB
    (decide (s.length ≤ (9223372036854775807 : Nat)) && decide ((rdTake (rdUse (Rd.mk s (0 : Int) (0 : Int) (0 : Int))) (1 : Int)).fst.err = (0 : Int)) &&
      decide (numS (rdTake (rdUse (Rd.mk s (0 : Int) (0 : Int) (0 : Int))) (1 : Int)).snd = (2 : Int)))
    (NB (decide ((rdTake (rdUse (Rd.mk s (0 : Int) (0 : Int) (0 : Int))) (1 : Int)).fst.s.length ≤ (9223372036854775807 : Nat)))
      (NB
        (decide
          ((rdTake
                    (rdUse
                      (Rd.mk (rdTake (rdUse (Rd.mk s (0 : Int) (0 : Int) (0 : Int))) (1 : Int)).fst.s (rdTake (rdUse (Rd.mk s (0 : Int) (0 : Int) (0 : Int))) (1 : Int)).fst.at_ (0 : Int)
                        (rdTake (rdUse (Rd.mk s (0 : Int) (0 : Int) (0 : Int))) (1 : Int)).fst.fat))
                    (8 : Int)).fst.s.length ≤
            (9223372036854775807 : Nat)))
        (NB
          (decide
            ((rdSized
                      (rdTake
                          (rdUse
                            (Rd.mk (rdTake (rdUse (Rd.mk s (0 : Int) (0 : Int) (0 : Int))) (1 : Int)).fst.s (rdTake (rdUse (Rd.mk s (0 : Int) (0 : Int) (0 : Int))) (1 : Int)).fst.at_ (0 : Int)
                              (rdTake (rdUse (Rd.mk s (0 : Int) (0 : Int) (0 : Int))) (1 : Int)).fst.fat))
                          (8 : Int)).fst
                      (1000 : Int)).fst.s.length ≤
              (9223372036854775807 : Nat)))
          (VB
            ((rdEnd
                  (rdSized
                      (rdTake
                          (rdUse
                            (Rd.mk (rdTake (rdUse (Rd.mk s (0 : Int) (0 : Int) (0 : Int))) (1 : Int)).fst.s (rdTake (rdUse (Rd.mk s (0 : Int) (0 : Int) (0 : Int))) (1 : Int)).fst.at_ (0 : Int)
                              (rdTake (rdUse (Rd.mk s (0 : Int) (0 : Int) (0 : Int))) (1 : Int)).fst.fat))
                          (8 : Int)).fst
                      (1000 : Int)).fst).err !=
              (0 : Int))
            (((0 : Int) = k1 ∧ (0 : Int) = t1 ∧ (0 : Int) = l1 ∧ [] = x1 ∧ (0 : Int) = n1 ∧ (0 : Int) = m1 ∧ (0 : Int) = il1 ∧ (0 : Int) = id1 ∧ True) ∧
              ((rdEnd
                        (rdSized
                            (rdTake
                                (rdUse
                                  (Rd.mk (rdTake (rdUse (Rd.mk s (0 : Int) (0 : Int) (0 : Int))) (1 : Int)).fst.s (rdTake (rdUse (Rd.mk s (0 : Int) (0 : Int) (0 : Int))) (1 : Int)).fst.at_ (0 : Int)
                                    (rdTake (rdUse (Rd.mk s (0 : Int) (0 : Int) (0 : Int))) (1 : Int)).fst.fat))
                                (8 : Int)).fst
                            (1000 : Int)).fst).err =
                    e ∧
                  (rdEnd
                          (rdSized
                              (rdTake
                                  (rdUse
                                    (Rd.mk (rdTake (rdUse (Rd.mk s (0 : Int) (0 : Int) (0 : Int))) (1 : Int)).fst.s (rdTake (rdUse (Rd.mk s (0 : Int) (0 : Int) (0 : Int))) (1 : Int)).fst.at_ (0 : Int)
                                      (rdTake (rdUse (Rd.mk s (0 : Int) (0 : Int) (0 : Int))) (1 : Int)).fst.fat))
                                  (8 : Int)).fst
                              (1000 : Int)).fst).fat =
                      f ∧
                    True) ∧
                True)
            (((2 : Int) = k1 ∧
                IntKind.i64.wrap
                      (numS
                        (rdTake
                            (rdUse
                              (Rd.mk (rdTake (rdUse (Rd.mk s (0 : Int) (0 : Int) (0 : Int))) (1 : Int)).fst.s (rdTake (rdUse (Rd.mk s (0 : Int) (0 : Int) (0 : Int))) (1 : Int)).fst.at_ (0 : Int)
                                (rdTake (rdUse (Rd.mk s (0 : Int) (0 : Int) (0 : Int))) (1 : Int)).fst.fat))
                            (8 : Int)).snd) =
                    t1 ∧
                  (0 : Int) = l1 ∧
                    (rdSized
                            (rdTake
                                (rdUse
                                  (Rd.mk (rdTake (rdUse (Rd.mk s (0 : Int) (0 : Int) (0 : Int))) (1 : Int)).fst.s (rdTake (rdUse (Rd.mk s (0 : Int) (0 : Int) (0 : Int))) (1 : Int)).fst.at_ (0 : Int)
                                    (rdTake (rdUse (Rd.mk s (0 : Int) (0 : Int) (0 : Int))) (1 : Int)).fst.fat))
                                (8 : Int)).fst
                            (1000 : Int)).snd =
                        x1 ∧
                      (0 : Int) = n1 ∧ (0 : Int) = m1 ∧ (0 : Int) = il1 ∧ (0 : Int) = id1 ∧ True) ∧
              ((0 : Int) = e ∧ (0 : Int) = f ∧ True) ∧ True)))))) := by
  kernel_rfl

theorem parse3_vc (s : List UInt8) (k1 t1 l1 n1 m1 il1 id1 : Int) (x1 : List UInt8) (e f : Int) : (vcFun (ER 0 3) 40 13 [.str s] .nil 0 (retP 3 (.tup [.agg [.int .i64 k1, .int .i64 t1, .int .u64 l1, .str x1, .int .i64 n1, .int .i64 m1, .int .u64 il1, .int .u64 id1], .agg [.int .i64 e, .int .i64 f]]))).sat = (
  NB
    (decide (s.length ≤ (9223372036854775807 : Nat)) && decide ((rdTake (rdUse (Rd.mk s (0 : Int) (0 : Int) (0 : Int))) (1 : Int)).fst.err = (0 : Int)) &&
      decide (numS (rdTake (rdUse (Rd.mk s (0 : Int) (0 : Int) (0 : Int))) (1 : Int)).snd = (3 : Int)))
    (NB (decide ((rdTake (rdUse (Rd.mk s (0 : Int) (0 : Int) (0 : Int))) (1 : Int)).fst.s.length ≤ (9223372036854775807 : Nat)))
      (NB
        (decide
          ((rdTake
                    (rdUse
                      (Rd.mk (rdTake (rdUse (Rd.mk s (0 : Int) (0 : Int) (0 : Int))) (1 : Int)).fst.s (rdTake (rdUse (Rd.mk s (0 : Int) (0 : Int) (0 : Int))) (1 : Int)).fst.at_ (0 : Int)
                        (rdTake (rdUse (Rd.mk s (0 : Int) (0 : Int) (0 : Int))) (1 : Int)).fst.fat))
                    (8 : Int)).fst.s.length ≤
            (9223372036854775807 : Nat)))
        (NB
          (decide
            ((rdTake
                      (rdUse
                        (rdTake
                            (rdUse
                              (Rd.mk (rdTake (rdUse (Rd.mk s (0 : Int) (0 : Int) (0 : Int))) (1 : Int)).fst.s (rdTake (rdUse (Rd.mk s (0 : Int) (0 : Int) (0 : Int))) (1 : Int)).fst.at_ (0 : Int)
                                (rdTake (rdUse (Rd.mk s (0 : Int) (0 : Int) (0 : Int))) (1 : Int)).fst.fat))
                            (8 : Int)).fst)
                      (8 : Int)).fst.s.length ≤
              (9223372036854775807 : Nat)))
          (VB
            ((rdEnd
                  (rdTake
                      (rdUse
                        (rdTake
                            (rdUse
                              (Rd.mk (rdTake (rdUse (Rd.mk s (0 : Int) (0 : Int) (0 : Int))) (1 : Int)).fst.s (rdTake (rdUse (Rd.mk s (0 : Int) (0 : Int) (0 : Int))) (1 : Int)).fst.at_ (0 : Int)
                                (rdTake (rdUse (Rd.mk s (0 : Int) (0 : Int) (0 : Int))) (1 : Int)).fst.fat))
                            (8 : Int)).fst)
                      (8 : Int)).fst).err !=
              (0 : Int))
            (((0 : Int) = k1 ∧ (0 : Int) = t1 ∧ (0 : Int) = l1 ∧ [] = x1 ∧ (0 : Int) = n1 ∧ (0 : Int) = m1 ∧ (0 : Int) = il1 ∧ (0 : Int) = id1 ∧ True) ∧
              ((rdEnd
                        (rdTake
                            (rdUse
                              (rdTake
                                  (rdUse
                                    (Rd.mk (rdTake (rdUse (Rd.mk s (0 : Int) (0 : Int) (0 : Int))) (1 : Int)).fst.s (rdTake (rdUse (Rd.mk s (0 : Int) (0 : Int) (0 : Int))) (1 : Int)).fst.at_ (0 : Int)
                                      (rdTake (rdUse (Rd.mk s (0 : Int) (0 : Int) (0 : Int))) (1 : Int)).fst.fat))
                                  (8 : Int)).fst)
                            (8 : Int)).fst).err =
                    e ∧
                  (rdEnd
                          (rdTake
                              (rdUse
                                (rdTake
                                    (rdUse
                                      (Rd.mk (rdTake (rdUse (Rd.mk s (0 : Int) (0 : Int) (0 : Int))) (1 : Int)).fst.s (rdTake (rdUse (Rd.mk s (0 : Int) (0 : Int) (0 : Int))) (1 : Int)).fst.at_ (0 : Int)
                                        (rdTake (rdUse (Rd.mk s (0 : Int) (0 : Int) (0 : Int))) (1 : Int)).fst.fat))
                                    (8 : Int)).fst)
                              (8 : Int)).fst).fat =
                      f ∧
                    True) ∧
                True)
            (((3 : Int) = k1 ∧
                IntKind.i64.wrap
                      (numS
                        (rdTake
                            (rdUse
                              (Rd.mk (rdTake (rdUse (Rd.mk s (0 : Int) (0 : Int) (0 : Int))) (1 : Int)).fst.s (rdTake (rdUse (Rd.mk s (0 : Int) (0 : Int) (0 : Int))) (1 : Int)).fst.at_ (0 : Int)
                                (rdTake (rdUse (Rd.mk s (0 : Int) (0 : Int) (0 : Int))) (1 : Int)).fst.fat))
                            (8 : Int)).snd) =
                    t1 ∧
                  (0 : Int) = l1 ∧
                    [] = x1 ∧
                      IntKind.i64.wrap
                            (numS
                              (rdTake
                                  (rdUse
                                    (rdTake
                                        (rdUse
                                          (Rd.mk (rdTake (rdUse (Rd.mk s (0 : Int) (0 : Int) (0 : Int))) (1 : Int)).fst.s (rdTake (rdUse (Rd.mk s (0 : Int) (0 : Int) (0 : Int))) (1 : Int)).fst.at_ (0 : Int)
                                            (rdTake (rdUse (Rd.mk s (0 : Int) (0 : Int) (0 : Int))) (1 : Int)).fst.fat))
                                        (8 : Int)).fst)
                                  (8 : Int)).snd) =
                          n1 ∧
                        (0 : Int) = m1 ∧ (0 : Int) = il1 ∧ (0 : Int) = id1 ∧ True) ∧
              ((0 : Int) = e ∧ (0 : Int) = f ∧ True) ∧ True)))))) := by
  kernel_rfl

theorem parse4_vc (s : List UInt8) (k1 t1 l1 n1 m1 il1 id1 : Int) (x1 : List UInt8) (e f : Int) : (vcFun (ER 0 4) 40 13 [.str s] .nil 0 (retP 3 (.tup [.agg [.int .i64 k1, .int .i64 t1, .int .u64 l1, .str x1, .int .i64 n1, .int .i64 m1, .int .u64 il1, .int .u64 id1], .agg [.int .i64 e, .int .i64 f]]))).sat = (
  NB
    (decide (s.length ≤ (9223372036854775807 : Nat)) && decide ((rdTake (rdUse (Rd.mk s (0 : Int) (0 : Int) (0 : Int))) (1 : Int)).fst.err = (0 : Int)) &&
      decide (numS (rdTake (rdUse (Rd.mk s (0 : Int) (0 : Int) (0 : Int))) (1 : Int)).snd = (4 : Int)))
    (NB (decide ((rdTake (rdUse (Rd.mk s (0 : Int) (0 : Int) (0 : Int))) (1 : Int)).fst.s.length ≤ (9223372036854775807 : Nat)))
      (NB
        (decide
          ((rdSized
                    (Rd.mk (rdTake (rdUse (Rd.mk s (0 : Int) (0 : Int) (0 : Int))) (1 : Int)).fst.s (rdTake (rdUse (Rd.mk s (0 : Int) (0 : Int) (0 : Int))) (1 : Int)).fst.at_ (0 : Int)
                      (rdTake (rdUse (Rd.mk s (0 : Int) (0 : Int) (0 : Int))) (1 : Int)).fst.fat)
                    (1000 : Int)).fst.s.length ≤
            (9223372036854775807 : Nat)))
        (VB
          ((rdEnd
                (rdSized
                    (Rd.mk (rdTake (rdUse (Rd.mk s (0 : Int) (0 : Int) (0 : Int))) (1 : Int)).fst.s (rdTake (rdUse (Rd.mk s (0 : Int) (0 : Int) (0 : Int))) (1 : Int)).fst.at_ (0 : Int)
                      (rdTake (rdUse (Rd.mk s (0 : Int) (0 : Int) (0 : Int))) (1 : Int)).fst.fat)
                    (1000 : Int)).fst).err !=
            (0 : Int))
          (((0 : Int) = k1 ∧ (0 : Int) = t1 ∧ (0 : Int) = l1 ∧ [] = x1 ∧ (0 : Int) = n1 ∧ (0 : Int) = m1 ∧ (0 : Int) = il1 ∧ (0 : Int) = id1 ∧ True) ∧
            ((rdEnd
                      (rdSized
                          (Rd.mk (rdTake (rdUse (Rd.mk s (0 : Int) (0 : Int) (0 : Int))) (1 : Int)).fst.s (rdTake (rdUse (Rd.mk s (0 : Int) (0 : Int) (0 : Int))) (1 : Int)).fst.at_ (0 : Int)
                            (rdTake (rdUse (Rd.mk s (0 : Int) (0 : Int) (0 : Int))) (1 : Int)).fst.fat)
                          (1000 : Int)).fst).err =
                  e ∧
                (rdEnd
                        (rdSized
                            (Rd.mk (rdTake (rdUse (Rd.mk s (0 : Int) (0 : Int) (0 : Int))) (1 : Int)).fst.s (rdTake (rdUse (Rd.mk s (0 : Int) (0 : Int) (0 : Int))) (1 : Int)).fst.at_ (0 : Int)
                              (rdTake (rdUse (Rd.mk s (0 : Int) (0 : Int) (0 : Int))) (1 : Int)).fst.fat)
                            (1000 : Int)).fst).fat =
                    f ∧
                  True) ∧
              True)
          (((4 : Int) = k1 ∧
              (0 : Int) = t1 ∧
                (0 : Int) = l1 ∧
                  (rdSized
                          (Rd.mk (rdTake (rdUse (Rd.mk s (0 : Int) (0 : Int) (0 : Int))) (1 : Int)).fst.s (rdTake (rdUse (Rd.mk s (0 : Int) (0 : Int) (0 : Int))) (1 : Int)).fst.at_ (0 : Int)
                            (rdTake (rdUse (Rd.mk s (0 : Int) (0 : Int) (0 : Int))) (1 : Int)).fst.fat)
                          (1000 : Int)).snd =
                      x1 ∧
                    (0 : Int) = n1 ∧ (0 : Int) = m1 ∧ (0 : Int) = il1 ∧ (0 : Int) = id1 ∧ True) ∧
            ((0 : Int) = e ∧ (0 : Int) = f ∧ True) ∧ True))))) := by
  kernel_rfl

theorem parse5_vc (s : List UInt8) (k1 t1 l1 n1 m1 il1 id1 : Int) (x1 : List UInt8) (e f : Int) : (vcFun (ER 0 5) 40 13 [.str s] .nil 0 (retP 3 (.tup [.agg [.int .i64 k1, .int .i64 t1, .int .u64 l1, .str x1, .int .i64 n1, .int .i64 m1, .int .u64 il1, .int .u64 id1], .agg [.int .i64 e, .int .i64 f]]))).sat = (
  NB
    (decide (s.length ≤ (9223372036854775807 : Nat)) && decide ((rdTake (rdUse (Rd.mk s (0 : Int) (0 : Int) (0 : Int))) (1 : Int)).fst.err = (0 : Int)) &&
      decide (numS (rdTake (rdUse (Rd.mk s (0 : Int) (0 : Int) (0 : Int))) (1 : Int)).snd = (5 : Int)))
    (NB (decide ((rdTake (rdUse (Rd.mk s (0 : Int) (0 : Int) (0 : Int))) (1 : Int)).fst.s.length ≤ (9223372036854775807 : Nat)))
      (VB
        ((rdEnd
              (Rd.mk (rdTake (rdUse (Rd.mk s (0 : Int) (0 : Int) (0 : Int))) (1 : Int)).fst.s (rdTake (rdUse (Rd.mk s (0 : Int) (0 : Int) (0 : Int))) (1 : Int)).fst.at_ (0 : Int)
                (rdTake (rdUse (Rd.mk s (0 : Int) (0 : Int) (0 : Int))) (1 : Int)).fst.fat)).err !=
          (0 : Int))
        (((0 : Int) = k1 ∧ (0 : Int) = t1 ∧ (0 : Int) = l1 ∧ [] = x1 ∧ (0 : Int) = n1 ∧ (0 : Int) = m1 ∧ (0 : Int) = il1 ∧ (0 : Int) = id1 ∧ True) ∧
          ((rdEnd
                    (Rd.mk (rdTake (rdUse (Rd.mk s (0 : Int) (0 : Int) (0 : Int))) (1 : Int)).fst.s (rdTake (rdUse (Rd.mk s (0 : Int) (0 : Int) (0 : Int))) (1 : Int)).fst.at_ (0 : Int)
                      (rdTake (rdUse (Rd.mk s (0 : Int) (0 : Int) (0 : Int))) (1 : Int)).fst.fat)).err =
                e ∧
              (rdEnd
                      (Rd.mk (rdTake (rdUse (Rd.mk s (0 : Int) (0 : Int) (0 : Int))) (1 : Int)).fst.s (rdTake (rdUse (Rd.mk s (0 : Int) (0 : Int) (0 : Int))) (1 : Int)).fst.at_ (0 : Int)
                        (rdTake (rdUse (Rd.mk s (0 : Int) (0 : Int) (0 : Int))) (1 : Int)).fst.fat)).fat =
                  f ∧
                True) ∧
            True)
        (((5 : Int) = k1 ∧ (0 : Int) = t1 ∧ (0 : Int) = l1 ∧ [] = x1 ∧ (0 : Int) = n1 ∧ (0 : Int) = m1 ∧ (0 : Int) = il1 ∧ (0 : Int) = id1 ∧ True) ∧ ((0 : Int) = e ∧ (0 : Int) = f ∧ True) ∧ True)))) := by
  kernel_rfl

theorem parse6_vc (s : List UInt8) (k1 t1 l1 n1 m1 il1 id1 : Int) (x1 : List UInt8) (e f : Int) : (vcFun (ER 0 6) 40 13 [.str s] .nil 0 (retP 3 (.tup [.agg [.int .i64 k1, .int .i64 t1, .int .u64 l1, .str x1, .int .i64 n1, .int .i64 m1, .int .u64 il1, .int .u64 id1], .agg [.int .i64 e, .int .i64 f]]))).sat = (
  NB
    (decide (s.length ≤ (9223372036854775807 : Nat)) && decide ((rdTake (rdUse (Rd.mk s (0 : Int) (0 : Int) (0 : Int))) (1 : Int)).fst.err = (0 : Int)) &&
      decide (numS (rdTake (rdUse (Rd.mk s (0 : Int) (0 : Int) (0 : Int))) (1 : Int)).snd = (6 : Int)))
    (NB (decide ((rdTake (rdUse (Rd.mk s (0 : Int) (0 : Int) (0 : Int))) (1 : Int)).fst.s.length ≤ (9223372036854775807 : Nat)))
      (NB
        (decide
          ((rdTake
                    (rdUse
                      (Rd.mk (rdTake (rdUse (Rd.mk s (0 : Int) (0 : Int) (0 : Int))) (1 : Int)).fst.s (rdTake (rdUse (Rd.mk s (0 : Int) (0 : Int) (0 : Int))) (1 : Int)).fst.at_ (0 : Int)
                        (rdTake (rdUse (Rd.mk s (0 : Int) (0 : Int) (0 : Int))) (1 : Int)).fst.fat))
                    (8 : Int)).fst.s.length ≤
            (9223372036854775807 : Nat)))
        (NB
          (decide
            ((rdTake
                      (rdUse
                        (rdTake
                            (rdUse
                              (Rd.mk (rdTake (rdUse (Rd.mk s (0 : Int) (0 : Int) (0 : Int))) (1 : Int)).fst.s (rdTake (rdUse (Rd.mk s (0 : Int) (0 : Int) (0 : Int))) (1 : Int)).fst.at_ (0 : Int)
                                (rdTake (rdUse (Rd.mk s (0 : Int) (0 : Int) (0 : Int))) (1 : Int)).fst.fat))
                            (8 : Int)).fst)
                      (8 : Int)).fst.s.length ≤
              (9223372036854775807 : Nat)))
          (VB
            ((rdEnd
                  (rdTake
                      (rdUse
                        (rdTake
                            (rdUse
                              (Rd.mk (rdTake (rdUse (Rd.mk s (0 : Int) (0 : Int) (0 : Int))) (1 : Int)).fst.s (rdTake (rdUse (Rd.mk s (0 : Int) (0 : Int) (0 : Int))) (1 : Int)).fst.at_ (0 : Int)
                                (rdTake (rdUse (Rd.mk s (0 : Int) (0 : Int) (0 : Int))) (1 : Int)).fst.fat))
                            (8 : Int)).fst)
                      (8 : Int)).fst).err !=
              (0 : Int))
            (((0 : Int) = k1 ∧ (0 : Int) = t1 ∧ (0 : Int) = l1 ∧ [] = x1 ∧ (0 : Int) = n1 ∧ (0 : Int) = m1 ∧ (0 : Int) = il1 ∧ (0 : Int) = id1 ∧ True) ∧
              ((rdEnd
                        (rdTake
                            (rdUse
                              (rdTake
                                  (rdUse
                                    (Rd.mk (rdTake (rdUse (Rd.mk s (0 : Int) (0 : Int) (0 : Int))) (1 : Int)).fst.s (rdTake (rdUse (Rd.mk s (0 : Int) (0 : Int) (0 : Int))) (1 : Int)).fst.at_ (0 : Int)
                                      (rdTake (rdUse (Rd.mk s (0 : Int) (0 : Int) (0 : Int))) (1 : Int)).fst.fat))
                                  (8 : Int)).fst)
                            (8 : Int)).fst).err =
                    e ∧
                  (rdEnd
                          (rdTake
                              (rdUse
                                (rdTake
                                    (rdUse
                                      (Rd.mk (rdTake (rdUse (Rd.mk s (0 : Int) (0 : Int) (0 : Int))) (1 : Int)).fst.s (rdTake (rdUse (Rd.mk s (0 : Int) (0 : Int) (0 : Int))) (1 : Int)).fst.at_ (0 : Int)
                                        (rdTake (rdUse (Rd.mk s (0 : Int) (0 : Int) (0 : Int))) (1 : Int)).fst.fat))
                                    (8 : Int)).fst)
                              (8 : Int)).fst).fat =
                      f ∧
                    True) ∧
                True)
            (((6 : Int) = k1 ∧
                IntKind.i64.wrap
                      (numS
                        (rdTake
                            (rdUse
                              (Rd.mk (rdTake (rdUse (Rd.mk s (0 : Int) (0 : Int) (0 : Int))) (1 : Int)).fst.s (rdTake (rdUse (Rd.mk s (0 : Int) (0 : Int) (0 : Int))) (1 : Int)).fst.at_ (0 : Int)
                                (rdTake (rdUse (Rd.mk s (0 : Int) (0 : Int) (0 : Int))) (1 : Int)).fst.fat))
                            (8 : Int)).snd) =
                    t1 ∧
                  (0 : Int) = l1 ∧
                    [] = x1 ∧
                      (0 : Int) = n1 ∧
                        IntKind.i64.wrap
                              (numS
                                (rdTake
                                    (rdUse
                                      (rdTake
                                          (rdUse
                                            (Rd.mk (rdTake (rdUse (Rd.mk s (0 : Int) (0 : Int) (0 : Int))) (1 : Int)).fst.s (rdTake (rdUse (Rd.mk s (0 : Int) (0 : Int) (0 : Int))) (1 : Int)).fst.at_ (0 : Int)
                                              (rdTake (rdUse (Rd.mk s (0 : Int) (0 : Int) (0 : Int))) (1 : Int)).fst.fat))
                                          (8 : Int)).fst)
                                    (8 : Int)).snd) =
                            m1 ∧
                          (0 : Int) = il1 ∧ (0 : Int) = id1 ∧ True) ∧
              ((0 : Int) = e ∧ (0 : Int) = f ∧ True) ∧ True)))))) := by
  kernel_rfl

theorem parse7_vc (s : List UInt8) (k1 t1 l1 n1 m1 il1 id1 : Int) (x1 : List UInt8) (e f : Int) : (vcFun (ER 0 7) 40 13 [.str s] .nil 0 (retP 3 (.tup [.agg [.int .i64 k1, .int .i64 t1, .int .u64 l1, .str x1, .int .i64 n1, .int .i64 m1, .int .u64 il1, .int .u64 id1], .agg [.int .i64 e, .int .i64 f]]))).sat = (
  NB
    (decide (s.length ≤ (9223372036854775807 : Nat)) && decide ((rdTake (rdUse (Rd.mk s (0 : Int) (0 : Int) (0 : Int))) (1 : Int)).fst.err = (0 : Int)) &&
      decide (numS (rdTake (rdUse (Rd.mk s (0 : Int) (0 : Int) (0 : Int))) (1 : Int)).snd = (7 : Int)))
    (NB (decide ((rdTake (rdUse (Rd.mk s (0 : Int) (0 : Int) (0 : Int))) (1 : Int)).fst.s.length ≤ (9223372036854775807 : Nat)))
      (NB
        (decide
          ((rdTake
                    (rdUse
                      (Rd.mk (rdTake (rdUse (Rd.mk s (0 : Int) (0 : Int) (0 : Int))) (1 : Int)).fst.s (rdTake (rdUse (Rd.mk s (0 : Int) (0 : Int) (0 : Int))) (1 : Int)).fst.at_ (0 : Int)
                        (rdTake (rdUse (Rd.mk s (0 : Int) (0 : Int) (0 : Int))) (1 : Int)).fst.fat))
                    (8 : Int)).fst.s.length ≤
            (9223372036854775807 : Nat)))
        (NB
          (decide
            ((rdTake
                      (rdUse
                        (rdTake
                            (rdUse
                              (Rd.mk (rdTake (rdUse (Rd.mk s (0 : Int) (0 : Int) (0 : Int))) (1 : Int)).fst.s (rdTake (rdUse (Rd.mk s (0 : Int) (0 : Int) (0 : Int))) (1 : Int)).fst.at_ (0 : Int)
                                (rdTake (rdUse (Rd.mk s (0 : Int) (0 : Int) (0 : Int))) (1 : Int)).fst.fat))
                            (8 : Int)).fst)
                      (8 : Int)).fst.s.length ≤
              (9223372036854775807 : Nat)))
          (NB
            (decide
              ((rdTake
                        (rdUse
                          (rdTake
                              (rdUse
                                (rdTake
                                    (rdUse
                                      (Rd.mk (rdTake (rdUse (Rd.mk s (0 : Int) (0 : Int) (0 : Int))) (1 : Int)).fst.s (rdTake (rdUse (Rd.mk s (0 : Int) (0 : Int) (0 : Int))) (1 : Int)).fst.at_ (0 : Int)
                                        (rdTake (rdUse (Rd.mk s (0 : Int) (0 : Int) (0 : Int))) (1 : Int)).fst.fat))
                                    (8 : Int)).fst)
                              (8 : Int)).fst)
                        (8 : Int)).fst.s.length ≤
                (9223372036854775807 : Nat)))
            (NB
              (decide
                ((rdTake
                          (rdUse
                            (rdTake
                                (rdUse
                                  (rdTake
                                      (rdUse
                                        (rdTake
                                            (rdUse
                                              (Rd.mk (rdTake (rdUse (Rd.mk s (0 : Int) (0 : Int) (0 : Int))) (1 : Int)).fst.s (rdTake (rdUse (Rd.mk s (0 : Int) (0 : Int) (0 : Int))) (1 : Int)).fst.at_ (0 : Int)
                                                (rdTake (rdUse (Rd.mk s (0 : Int) (0 : Int) (0 : Int))) (1 : Int)).fst.fat))
                                            (8 : Int)).fst)
                                      (8 : Int)).fst)
                                (8 : Int)).fst)
                          (8 : Int)).fst.s.length ≤
                  (9223372036854775807 : Nat)))
              (VB
                ((rdEnd
                      (rdTake
                          (rdUse
                            (rdTake
                                (rdUse
                                  (rdTake
                                      (rdUse
                                        (rdTake
                                            (rdUse
                                              (Rd.mk (rdTake (rdUse (Rd.mk s (0 : Int) (0 : Int) (0 : Int))) (1 : Int)).fst.s (rdTake (rdUse (Rd.mk s (0 : Int) (0 : Int) (0 : Int))) (1 : Int)).fst.at_ (0 : Int)
                                                (rdTake (rdUse (Rd.mk s (0 : Int) (0 : Int) (0 : Int))) (1 : Int)).fst.fat))
                                            (8 : Int)).fst)
                                      (8 : Int)).fst)
                                (8 : Int)).fst)
                          (8 : Int)).fst).err !=
                  (0 : Int))
                (((0 : Int) = k1 ∧ (0 : Int) = t1 ∧ (0 : Int) = l1 ∧ [] = x1 ∧ (0 : Int) = n1 ∧ (0 : Int) = m1 ∧ (0 : Int) = il1 ∧ (0 : Int) = id1 ∧ True) ∧
                  ((rdEnd
                            (rdTake
                                (rdUse
                                  (rdTake
                                      (rdUse
                                        (rdTake
                                            (rdUse
                                              (rdTake
                                                  (rdUse
                                                    (Rd.mk (rdTake (rdUse (Rd.mk s (0 : Int) (0 : Int) (0 : Int))) (1 : Int)).fst.s (rdTake (rdUse (Rd.mk s (0 : Int) (0 : Int) (0 : Int))) (1 : Int)).fst.at_ (0 : Int)
                                                      (rdTake (rdUse (Rd.mk s (0 : Int) (0 : Int) (0 : Int))) (1 : Int)).fst.fat))
                                                  (8 : Int)).fst)
                                            (8 : Int)).fst)
                                      (8 : Int)).fst)
                                (8 : Int)).fst).err =
                        e ∧
                      (rdEnd
                              (rdTake
                                  (rdUse
                                    (rdTake
                                        (rdUse
                                          (rdTake
                                              (rdUse
                                                (rdTake
                                                    (rdUse
                                                      (Rd.mk (rdTake (rdUse (Rd.mk s (0 : Int) (0 : Int) (0 : Int))) (1 : Int)).fst.s (rdTake (rdUse (Rd.mk s (0 : Int) (0 : Int) (0 : Int))) (1 : Int)).fst.at_ (0 : Int)
                                                        (rdTake (rdUse (Rd.mk s (0 : Int) (0 : Int) (0 : Int))) (1 : Int)).fst.fat))
                                                    (8 : Int)).fst)
                                              (8 : Int)).fst)
                                        (8 : Int)).fst)
                                  (8 : Int)).fst).fat =
                          f ∧
                        True) ∧
                    True)
                (((7 : Int) = k1 ∧
                    IntKind.i64.wrap
                          (numS
                            (rdTake
                                (rdUse
                                  (Rd.mk (rdTake (rdUse (Rd.mk s (0 : Int) (0 : Int) (0 : Int))) (1 : Int)).fst.s (rdTake (rdUse (Rd.mk s (0 : Int) (0 : Int) (0 : Int))) (1 : Int)).fst.at_ (0 : Int)
                                    (rdTake (rdUse (Rd.mk s (0 : Int) (0 : Int) (0 : Int))) (1 : Int)).fst.fat))
                                (8 : Int)).snd) =
                        t1 ∧
                      (0 : Int) = l1 ∧
                        [] = x1 ∧
                          IntKind.i64.wrap
                                (numS
                                  (rdTake
                                      (rdUse
                                        (rdTake
                                            (rdUse
                                              (Rd.mk (rdTake (rdUse (Rd.mk s (0 : Int) (0 : Int) (0 : Int))) (1 : Int)).fst.s (rdTake (rdUse (Rd.mk s (0 : Int) (0 : Int) (0 : Int))) (1 : Int)).fst.at_ (0 : Int)
                                                (rdTake (rdUse (Rd.mk s (0 : Int) (0 : Int) (0 : Int))) (1 : Int)).fst.fat))
                                            (8 : Int)).fst)
                                      (8 : Int)).snd) =
                              n1 ∧
                            (0 : Int) = m1 ∧
                              numS
                                    (rdTake
                                        (rdUse
                                          (rdTake
                                              (rdUse
                                                (rdTake
                                                    (rdUse
                                                      (Rd.mk (rdTake (rdUse (Rd.mk s (0 : Int) (0 : Int) (0 : Int))) (1 : Int)).fst.s (rdTake (rdUse (Rd.mk s (0 : Int) (0 : Int) (0 : Int))) (1 : Int)).fst.at_ (0 : Int)
                                                        (rdTake (rdUse (Rd.mk s (0 : Int) (0 : Int) (0 : Int))) (1 : Int)).fst.fat))
                                                    (8 : Int)).fst)
                                              (8 : Int)).fst)
                                        (8 : Int)).snd =
                                  il1 ∧
                                numS
                                      (rdTake
                                          (rdUse
                                            (rdTake
                                                (rdUse
                                                  (rdTake
                                                      (rdUse
                                                        (rdTake
                                                            (rdUse
                                                              (Rd.mk (rdTake (rdUse (Rd.mk s (0 : Int) (0 : Int) (0 : Int))) (1 : Int)).fst.s (rdTake (rdUse (Rd.mk s (0 : Int) (0 : Int) (0 : Int))) (1 : Int)).fst.at_
                                                                (0 : Int) (rdTake (rdUse (Rd.mk s (0 : Int) (0 : Int) (0 : Int))) (1 : Int)).fst.fat))
                                                            (8 : Int)).fst)
                                                      (8 : Int)).fst)
                                                (8 : Int)).fst)
                                          (8 : Int)).snd =
                                    id1 ∧
                                  True) ∧
                  ((0 : Int) = e ∧ (0 : Int) = f ∧ True) ∧ True)))))))) := by
  kernel_rfl

theorem parse8_vc (s : List UInt8) (k1 t1 l1 n1 m1 il1 id1 : Int) (x1 : List UInt8) (e f : Int) : (vcFun (ER 0 8) 40 13 [.str s] .nil 0 (retP 3 (.tup [.agg [.int .i64 k1, .int .i64 t1, .int .u64 l1, .str x1, .int .i64 n1, .int .i64 m1, .int .u64 il1, .int .u64 id1], .agg [.int .i64 e, .int .i64 f]]))).sat = (
  NB
    (decide (s.length ≤ (9223372036854775807 : Nat)) && decide ((rdTake (rdUse (Rd.mk s (0 : Int) (0 : Int) (0 : Int))) (1 : Int)).fst.err = (0 : Int)) &&
      decide (numS (rdTake (rdUse (Rd.mk s (0 : Int) (0 : Int) (0 : Int))) (1 : Int)).snd = (8 : Int)))
    (NB (decide ((rdTake (rdUse (Rd.mk s (0 : Int) (0 : Int) (0 : Int))) (1 : Int)).fst.s.length ≤ (9223372036854775807 : Nat)))
      (NB
        (decide
          ((rdTake
                    (rdUse
                      (Rd.mk (rdTake (rdUse (Rd.mk s (0 : Int) (0 : Int) (0 : Int))) (1 : Int)).fst.s (rdTake (rdUse (Rd.mk s (0 : Int) (0 : Int) (0 : Int))) (1 : Int)).fst.at_ (0 : Int)
                        (rdTake (rdUse (Rd.mk s (0 : Int) (0 : Int) (0 : Int))) (1 : Int)).fst.fat))
                    (8 : Int)).fst.s.length ≤
            (9223372036854775807 : Nat)))
        (NB
          (decide
            ((rdTake
                      (rdUse
                        (rdTake
                            (rdUse
                              (Rd.mk (rdTake (rdUse (Rd.mk s (0 : Int) (0 : Int) (0 : Int))) (1 : Int)).fst.s (rdTake (rdUse (Rd.mk s (0 : Int) (0 : Int) (0 : Int))) (1 : Int)).fst.at_ (0 : Int)
                                (rdTake (rdUse (Rd.mk s (0 : Int) (0 : Int) (0 : Int))) (1 : Int)).fst.fat))
                            (8 : Int)).fst)
                      (8 : Int)).fst.s.length ≤
              (9223372036854775807 : Nat)))
          (NB
            (decide
              ((rdTake
                        (rdUse
                          (rdTake
                              (rdUse
                                (rdTake
                                    (rdUse
                                      (Rd.mk (rdTake (rdUse (Rd.mk s (0 : Int) (0 : Int) (0 : Int))) (1 : Int)).fst.s (rdTake (rdUse (Rd.mk s (0 : Int) (0 : Int) (0 : Int))) (1 : Int)).fst.at_ (0 : Int)
                                        (rdTake (rdUse (Rd.mk s (0 : Int) (0 : Int) (0 : Int))) (1 : Int)).fst.fat))
                                    (8 : Int)).fst)
                              (8 : Int)).fst)
                        (8 : Int)).fst.s.length ≤
                (9223372036854775807 : Nat)))
            (VB
              ((rdEnd
                    (rdTake
                        (rdUse
                          (rdTake
                              (rdUse
                                (rdTake
                                    (rdUse
                                      (Rd.mk (rdTake (rdUse (Rd.mk s (0 : Int) (0 : Int) (0 : Int))) (1 : Int)).fst.s (rdTake (rdUse (Rd.mk s (0 : Int) (0 : Int) (0 : Int))) (1 : Int)).fst.at_ (0 : Int)
                                        (rdTake (rdUse (Rd.mk s (0 : Int) (0 : Int) (0 : Int))) (1 : Int)).fst.fat))
                                    (8 : Int)).fst)
                              (8 : Int)).fst)
                        (8 : Int)).fst).err !=
                (0 : Int))
              (((0 : Int) = k1 ∧ (0 : Int) = t1 ∧ (0 : Int) = l1 ∧ [] = x1 ∧ (0 : Int) = n1 ∧ (0 : Int) = m1 ∧ (0 : Int) = il1 ∧ (0 : Int) = id1 ∧ True) ∧
                ((rdEnd
                          (rdTake
                              (rdUse
                                (rdTake
                                    (rdUse
                                      (rdTake
                                          (rdUse
                                            (Rd.mk (rdTake (rdUse (Rd.mk s (0 : Int) (0 : Int) (0 : Int))) (1 : Int)).fst.s (rdTake (rdUse (Rd.mk s (0 : Int) (0 : Int) (0 : Int))) (1 : Int)).fst.at_ (0 : Int)
                                              (rdTake (rdUse (Rd.mk s (0 : Int) (0 : Int) (0 : Int))) (1 : Int)).fst.fat))
                                          (8 : Int)).fst)
                                    (8 : Int)).fst)
                              (8 : Int)).fst).err =
                      e ∧
                    (rdEnd
                            (rdTake
                                (rdUse
                                  (rdTake
                                      (rdUse
                                        (rdTake
                                            (rdUse
                                              (Rd.mk (rdTake (rdUse (Rd.mk s (0 : Int) (0 : Int) (0 : Int))) (1 : Int)).fst.s (rdTake (rdUse (Rd.mk s (0 : Int) (0 : Int) (0 : Int))) (1 : Int)).fst.at_ (0 : Int)
                                                (rdTake (rdUse (Rd.mk s (0 : Int) (0 : Int) (0 : Int))) (1 : Int)).fst.fat))
                                            (8 : Int)).fst)
                                      (8 : Int)).fst)
                                (8 : Int)).fst).fat =
                        f ∧
                      True) ∧
                  True)
              (((8 : Int) = k1 ∧
                  IntKind.i64.wrap
                        (numS
                          (rdTake
                              (rdUse
                                (Rd.mk (rdTake (rdUse (Rd.mk s (0 : Int) (0 : Int) (0 : Int))) (1 : Int)).fst.s (rdTake (rdUse (Rd.mk s (0 : Int) (0 : Int) (0 : Int))) (1 : Int)).fst.at_ (0 : Int)
                                  (rdTake (rdUse (Rd.mk s (0 : Int) (0 : Int) (0 : Int))) (1 : Int)).fst.fat))
                              (8 : Int)).snd) =
                      t1 ∧
                    (0 : Int) = l1 ∧
                      [] = x1 ∧
                        IntKind.i64.wrap
                              (numS
                                (rdTake
                                    (rdUse
                                      (rdTake
                                          (rdUse
                                            (Rd.mk (rdTake (rdUse (Rd.mk s (0 : Int) (0 : Int) (0 : Int))) (1 : Int)).fst.s (rdTake (rdUse (Rd.mk s (0 : Int) (0 : Int) (0 : Int))) (1 : Int)).fst.at_ (0 : Int)
                                              (rdTake (rdUse (Rd.mk s (0 : Int) (0 : Int) (0 : Int))) (1 : Int)).fst.fat))
                                          (8 : Int)).fst)
                                    (8 : Int)).snd) =
                            n1 ∧
                          IntKind.i64.wrap
                                (numS
                                  (rdTake
                                      (rdUse
                                        (rdTake
                                            (rdUse
                                              (rdTake
                                                  (rdUse
                                                    (Rd.mk (rdTake (rdUse (Rd.mk s (0 : Int) (0 : Int) (0 : Int))) (1 : Int)).fst.s (rdTake (rdUse (Rd.mk s (0 : Int) (0 : Int) (0 : Int))) (1 : Int)).fst.at_ (0 : Int)
                                                      (rdTake (rdUse (Rd.mk s (0 : Int) (0 : Int) (0 : Int))) (1 : Int)).fst.fat))
                                                  (8 : Int)).fst)
                                            (8 : Int)).fst)
                                      (8 : Int)).snd) =
                              m1 ∧
                            (0 : Int) = il1 ∧ (0 : Int) = id1 ∧ True) ∧
                ((0 : Int) = e ∧ (0 : Int) = f ∧ True) ∧ True))))))) := by
  kernel_rfl

theorem parseS_vc (s : List UInt8) (k1 t1 l1 n1 m1 il1 id1 : Int) (x1 : List UInt8) (e f : Int) : (vcFun (ER 5 0) 40 13 [.str s] .nil 0 (retP 3 (.tup [.agg [.int .i64 k1, .int .i64 t1, .int .u64 l1, .str x1, .int .i64 n1, .int .i64 m1, .int .u64 il1, .int .u64 id1], .agg [.int .i64 e, .int .i64 f]]))).sat = (
  NB
    (decide (s.length ≤ (9223372036854775807 : Nat)) && decide ((rdTake (rdUse (Rd.mk s (0 : Int) (0 : Int) (0 : Int))) (1 : Int)).fst.err = (5 : Int)) &&
      decide (numS (rdTake (rdUse (Rd.mk s (0 : Int) (0 : Int) (0 : Int))) (1 : Int)).snd = (0 : Int)))
    (NB (decide ((rdTake (rdUse (Rd.mk s (0 : Int) (0 : Int) (0 : Int))) (1 : Int)).fst.s.length ≤ (9223372036854775807 : Nat)))
      (VB
        ((rdEnd
              (Rd.mk (rdTake (rdUse (Rd.mk s (0 : Int) (0 : Int) (0 : Int))) (1 : Int)).fst.s (rdTake (rdUse (Rd.mk s (0 : Int) (0 : Int) (0 : Int))) (1 : Int)).fst.at_ (5 : Int)
                (rdTake (rdUse (Rd.mk s (0 : Int) (0 : Int) (0 : Int))) (1 : Int)).fst.fat)).err !=
          (0 : Int))
        (((0 : Int) = k1 ∧ (0 : Int) = t1 ∧ (0 : Int) = l1 ∧ [] = x1 ∧ (0 : Int) = n1 ∧ (0 : Int) = m1 ∧ (0 : Int) = il1 ∧ (0 : Int) = id1 ∧ True) ∧
          ((rdEnd
                    (Rd.mk (rdTake (rdUse (Rd.mk s (0 : Int) (0 : Int) (0 : Int))) (1 : Int)).fst.s (rdTake (rdUse (Rd.mk s (0 : Int) (0 : Int) (0 : Int))) (1 : Int)).fst.at_ (5 : Int)
                      (rdTake (rdUse (Rd.mk s (0 : Int) (0 : Int) (0 : Int))) (1 : Int)).fst.fat)).err =
                e ∧
              (rdEnd
                      (Rd.mk (rdTake (rdUse (Rd.mk s (0 : Int) (0 : Int) (0 : Int))) (1 : Int)).fst.s (rdTake (rdUse (Rd.mk s (0 : Int) (0 : Int) (0 : Int))) (1 : Int)).fst.at_ (5 : Int)
                        (rdTake (rdUse (Rd.mk s (0 : Int) (0 : Int) (0 : Int))) (1 : Int)).fst.fat)).fat =
                  f ∧
                True) ∧
            True)
        (((0 : Int) = k1 ∧ (0 : Int) = t1 ∧ (0 : Int) = l1 ∧ [] = x1 ∧ (0 : Int) = n1 ∧ (0 : Int) = m1 ∧ (0 : Int) = il1 ∧ (0 : Int) = id1 ∧ True) ∧ ((0 : Int) = e ∧ (0 : Int) = f ∧ True) ∧ True)))) := by
  kernel_rfl

theorem parseU_vc (k : Int) (s : List UInt8) (k1 t1 l1 n1 m1 il1 id1 : Int) (x1 : List UInt8) (e f : Int) : (vcFun (ERU k) 40 13 [.str s] .nil 0 (retP 3 (.tup [.agg [.int .i64 k1, .int .i64 t1, .int .u64 l1, .str x1, .int .i64 n1, .int .i64 m1, .int .u64 il1, .int .u64 id1], .agg [.int .i64 e, .int .i64 f]]))).sat = (
  NB
    (decide (s.length ≤ (9223372036854775807 : Nat)) && decide ((rdTake (rdUse (Rd.mk s (0 : Int) (0 : Int) (0 : Int))) (1 : Int)).fst.err = (0 : Int)) &&
      decide (numS (rdTake (rdUse (Rd.mk s (0 : Int) (0 : Int) (0 : Int))) (1 : Int)).snd = k))
    (NB (impB (isW true true) (decide ¬((1 : Int) ≤ IntKind.i64.wrap k ∧ IntKind.i64.wrap k ≤ (8 : Int))))
      (NB
        (decide ((rdTake (rdUse (Rd.mk s (0 : Int) (0 : Int) (0 : Int))) (1 : Int)).fst.s.length ≤ (9223372036854775807 : Nat)) &&
          decide
            ((rdFailX
                  (Rd.mk (rdTake (rdUse (Rd.mk s (0 : Int) (0 : Int) (0 : Int))) (1 : Int)).fst.s (rdTake (rdUse (Rd.mk s (0 : Int) (0 : Int) (0 : Int))) (1 : Int)).fst.at_ (0 : Int)
                    (rdTake (rdUse (Rd.mk s (0 : Int) (0 : Int) (0 : Int))) (1 : Int)).fst.fat)
                  (11 : Int) (0 : Int)).err =
              (11 : Int)))
        (NB
          (decide
            ((rdFailX
                    (Rd.mk (rdTake (rdUse (Rd.mk s (0 : Int) (0 : Int) (0 : Int))) (1 : Int)).fst.s (rdTake (rdUse (Rd.mk s (0 : Int) (0 : Int) (0 : Int))) (1 : Int)).fst.at_ (0 : Int)
                      (rdTake (rdUse (Rd.mk s (0 : Int) (0 : Int) (0 : Int))) (1 : Int)).fst.fat)
                    (11 : Int) (0 : Int)).s.length ≤
              (9223372036854775807 : Nat)))
          (VB
            ((rdEnd
                  (Rd.mk
                    (rdFailX
                        (Rd.mk (rdTake (rdUse (Rd.mk s (0 : Int) (0 : Int) (0 : Int))) (1 : Int)).fst.s (rdTake (rdUse (Rd.mk s (0 : Int) (0 : Int) (0 : Int))) (1 : Int)).fst.at_ (0 : Int)
                          (rdTake (rdUse (Rd.mk s (0 : Int) (0 : Int) (0 : Int))) (1 : Int)).fst.fat)
                        (11 : Int) (0 : Int)).s
                    (rdFailX
                        (Rd.mk (rdTake (rdUse (Rd.mk s (0 : Int) (0 : Int) (0 : Int))) (1 : Int)).fst.s (rdTake (rdUse (Rd.mk s (0 : Int) (0 : Int) (0 : Int))) (1 : Int)).fst.at_ (0 : Int)
                          (rdTake (rdUse (Rd.mk s (0 : Int) (0 : Int) (0 : Int))) (1 : Int)).fst.fat)
                        (11 : Int) (0 : Int)).at_
                    (11 : Int)
                    (rdFailX
                        (Rd.mk (rdTake (rdUse (Rd.mk s (0 : Int) (0 : Int) (0 : Int))) (1 : Int)).fst.s (rdTake (rdUse (Rd.mk s (0 : Int) (0 : Int) (0 : Int))) (1 : Int)).fst.at_ (0 : Int)
                          (rdTake (rdUse (Rd.mk s (0 : Int) (0 : Int) (0 : Int))) (1 : Int)).fst.fat)
                        (11 : Int) (0 : Int)).fat)).err !=
              (0 : Int))
            (((0 : Int) = k1 ∧ (0 : Int) = t1 ∧ (0 : Int) = l1 ∧ [] = x1 ∧ (0 : Int) = n1 ∧ (0 : Int) = m1 ∧ (0 : Int) = il1 ∧ (0 : Int) = id1 ∧ True) ∧
              ((rdEnd
                        (Rd.mk
                          (rdFailX
                              (Rd.mk (rdTake (rdUse (Rd.mk s (0 : Int) (0 : Int) (0 : Int))) (1 : Int)).fst.s (rdTake (rdUse (Rd.mk s (0 : Int) (0 : Int) (0 : Int))) (1 : Int)).fst.at_ (0 : Int)
                                (rdTake (rdUse (Rd.mk s (0 : Int) (0 : Int) (0 : Int))) (1 : Int)).fst.fat)
                              (11 : Int) (0 : Int)).s
                          (rdFailX
                              (Rd.mk (rdTake (rdUse (Rd.mk s (0 : Int) (0 : Int) (0 : Int))) (1 : Int)).fst.s (rdTake (rdUse (Rd.mk s (0 : Int) (0 : Int) (0 : Int))) (1 : Int)).fst.at_ (0 : Int)
                                (rdTake (rdUse (Rd.mk s (0 : Int) (0 : Int) (0 : Int))) (1 : Int)).fst.fat)
                              (11 : Int) (0 : Int)).at_
                          (11 : Int)
                          (rdFailX
                              (Rd.mk (rdTake (rdUse (Rd.mk s (0 : Int) (0 : Int) (0 : Int))) (1 : Int)).fst.s (rdTake (rdUse (Rd.mk s (0 : Int) (0 : Int) (0 : Int))) (1 : Int)).fst.at_ (0 : Int)
                                (rdTake (rdUse (Rd.mk s (0 : Int) (0 : Int) (0 : Int))) (1 : Int)).fst.fat)
                              (11 : Int) (0 : Int)).fat)).err =
                    e ∧
                  (rdEnd
                          (Rd.mk
                            (rdFailX
                                (Rd.mk (rdTake (rdUse (Rd.mk s (0 : Int) (0 : Int) (0 : Int))) (1 : Int)).fst.s (rdTake (rdUse (Rd.mk s (0 : Int) (0 : Int) (0 : Int))) (1 : Int)).fst.at_ (0 : Int)
                                  (rdTake (rdUse (Rd.mk s (0 : Int) (0 : Int) (0 : Int))) (1 : Int)).fst.fat)
                                (11 : Int) (0 : Int)).s
                            (rdFailX
                                (Rd.mk (rdTake (rdUse (Rd.mk s (0 : Int) (0 : Int) (0 : Int))) (1 : Int)).fst.s (rdTake (rdUse (Rd.mk s (0 : Int) (0 : Int) (0 : Int))) (1 : Int)).fst.at_ (0 : Int)
                                  (rdTake (rdUse (Rd.mk s (0 : Int) (0 : Int) (0 : Int))) (1 : Int)).fst.fat)
                                (11 : Int) (0 : Int)).at_
                            (11 : Int)
                            (rdFailX
                                (Rd.mk (rdTake (rdUse (Rd.mk s (0 : Int) (0 : Int) (0 : Int))) (1 : Int)).fst.s (rdTake (rdUse (Rd.mk s (0 : Int) (0 : Int) (0 : Int))) (1 : Int)).fst.at_ (0 : Int)
                                  (rdTake (rdUse (Rd.mk s (0 : Int) (0 : Int) (0 : Int))) (1 : Int)).fst.fat)
                                (11 : Int) (0 : Int)).fat)).fat =
                      f ∧
                    True) ∧
                True)
            ((IntKind.i64.wrap k = k1 ∧ (0 : Int) = t1 ∧ (0 : Int) = l1 ∧ [] = x1 ∧ (0 : Int) = n1 ∧ (0 : Int) = m1 ∧ (0 : Int) = il1 ∧ (0 : Int) = id1 ∧ True) ∧ ((0 : Int) = e ∧ (0 : Int) = f ∧ True) ∧ True)))))) := by
  kernel_rfl

end Go.Proofs.Ytniihecdmcphgaa
