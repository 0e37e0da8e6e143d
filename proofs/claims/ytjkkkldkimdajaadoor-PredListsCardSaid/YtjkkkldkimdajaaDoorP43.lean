/- PRED 43: the law of lists of atoms, its code. -/
import Derived.Test.YtjkkkldkimdajaaDoorP38
namespace Go.Proofs.YtjkkkldkimdajaaDoor
open Pw Go
set_option maxRecDepth 100000
set_option linter.unusedSimpArgs false

def lightJ (A : Ats) (j : Nat) : Bool := decide (A.N j ≤ 12) && decide ((A.M j).length ≤ 100)
def invPLs (m c : Nat) (A : Ats) (w : Nat → Int) (l ek x : Int) : Inv := ⟨Nat, 40, fun i => ⟨[(0, atsAV m A), (1, wAV c w), (5, .ptr 0 0 0 0), (7, .int .i64 i)], [(0, evRow l ek x)]⟩, fun i => i ≤ m ∧ ∀ j, j < i → lightJ A j = true, fun i => m - i⟩

theorem predLists_vc (m c : Nat) (A : Ats) (w : Nat → Int) (l ek x : Int) : (vcFun (mkG Tryd.prog gN (tblOf tblF) (fun f b => if f = 5 ∧ b = 0 then some (invPLs m c A w l ek x) else none) 0) 20 5 [.rof m (fun j => .agg [.int .i64 (A.K j), .bool (A.B j), .int .u64 (A.O j), .rof (A.N j) (fun i => .agg [.int .i64 (A.P j i), .int .i64 (A.V j i)]) false, .str (A.M j)]) false, .rof c (fun k => .int .i64 (w k)) false, .agg [.int .u64 l, .int .i64 ek, .int .i64 x]] .nil 0 (isBool true)).sat = (
  VB (decide ((↑m : Int) > (16 : Int)) || decide ((↑c : Int) > (20 : Int))) (true = true)
    ((∃ (i : Nat),
        (i ≤ m ∧ ∀ (j : Nat), j < i → lightJ A j = true) ∧
          ((m = m ∧
                (∀ (i : Nat),
                    i < m →
                      (A.K i = A.K i ∧
                          A.B i = A.B i ∧
                            A.O i = A.O i ∧
                              (A.N i = A.N i ∧
                                  (∀ (i_1 : Nat),
                                      i_1 < A.N i →
                                        (A.P i i_1 = A.P i i_1 ∧ A.V i i_1 = A.V i i_1 ∧ True) ∧
                                          [AV.int IntKind.i64 (A.P i i_1), AV.int IntKind.i64 (A.V i i_1)].length = [AV.int IntKind.i64 (A.P i i_1), AV.int IntKind.i64 (A.V i i_1)].length) ∧
                                    (false = true → false = true)) ∧
                                A.M i = A.M i ∧ True) ∧
                        [AV.int IntKind.i64 (A.K i), AV.bool (A.B i), AV.int IntKind.u64 (A.O i), AV.rof (A.N i) (fun (i_1 : Nat) => AV.agg [AV.int IntKind.i64 (A.P i i_1), AV.int IntKind.i64 (A.V i i_1)]) false,
                              AV.str (A.M i)].length =
                          [AV.int IntKind.i64 (A.K i), AV.bool (A.B i), AV.int IntKind.u64 (A.O i), AV.rof (A.N i) (fun (i_1 : Nat) => AV.agg [AV.int IntKind.i64 (A.P i i_1), AV.int IntKind.i64 (A.V i i_1)]) false,
                              AV.str (A.M i)].length) ∧
                  (false = true → false = true)) ∧
              (c = c ∧ (∀ (i : Nat), i < c → w i = w i ∧ [AV.int IntKind.i64 (w i)].length = [AV.int IntKind.i64 (w i)].length) ∧ (false = true → false = true)) ∧
                ((0 : Nat) = (0 : Nat) ∧ (0 : Nat) = (0 : Nat) ∧ (0 : Nat) = (0 : Nat)) ∧ (0 : Int) = (↑i : Int) ∧ True) ∧
            ((0 : Nat) = (0 : Nat) ∧
                (true = true → true = true) ∧
                  ((l = l ∧ ek = ek ∧ x = x ∧ True) ∧ [AV.int IntKind.u64 l, AV.int IntKind.i64 ek, AV.int IntKind.i64 x].length = [AV.int IntKind.u64 l, AV.int IntKind.i64 ek, AV.int IntKind.i64 x].length) ∧ True) ∧
              True) ∧
      ∀ (i : Nat),
        (i ≤ m ∧ ∀ (j : Nat), j < i → lightJ A j = true) →
          VB (decide ((↑i : Int) < (↑m : Int)))
            (NB (decide ((0 : Int) ≤ (↑i : Int) ∧ (↑i : Int) < (↑m : Int)))
              (VB (!(decide ((↑(A.N (↑i : Int).toNat) : Int) ≤ (12 : Int)) && decide ((↑(A.M (↑i : Int).toNat).length : Int) ≤ (100 : Int)))) (true = true)
                (∃ (i' : Nat),
                  (i' ≤ m ∧ ∀ (j : Nat), j < i' → lightJ A j = true) ∧
                    (invPLs m c A w l ek x).μ i' < (invPLs m c A w l ek x).μ i ∧
                      ((m = m ∧
                            (∀ (i : Nat),
                                i < m →
                                  (A.K i = A.K i ∧
                                      A.B i = A.B i ∧
                                        A.O i = A.O i ∧
                                          (A.N i = A.N i ∧
                                              (∀ (i_1 : Nat),
                                                  i_1 < A.N i →
                                                    (A.P i i_1 = A.P i i_1 ∧ A.V i i_1 = A.V i i_1 ∧ True) ∧
                                                      [AV.int IntKind.i64 (A.P i i_1), AV.int IntKind.i64 (A.V i i_1)].length = [AV.int IntKind.i64 (A.P i i_1), AV.int IntKind.i64 (A.V i i_1)].length) ∧
                                                (false = true → false = true)) ∧
                                            A.M i = A.M i ∧ True) ∧
                                    [AV.int IntKind.i64 (A.K i), AV.bool (A.B i), AV.int IntKind.u64 (A.O i),
                                          AV.rof (A.N i) (fun (i_1 : Nat) => AV.agg [AV.int IntKind.i64 (A.P i i_1), AV.int IntKind.i64 (A.V i i_1)]) false, AV.str (A.M i)].length =
                                      [AV.int IntKind.i64 (A.K i), AV.bool (A.B i), AV.int IntKind.u64 (A.O i),
                                          AV.rof (A.N i) (fun (i_1 : Nat) => AV.agg [AV.int IntKind.i64 (A.P i i_1), AV.int IntKind.i64 (A.V i i_1)]) false, AV.str (A.M i)].length) ∧
                              (false = true → false = true)) ∧
                          (c = c ∧ (∀ (i : Nat), i < c → w i = w i ∧ [AV.int IntKind.i64 (w i)].length = [AV.int IntKind.i64 (w i)].length) ∧ (false = true → false = true)) ∧
                            ((0 : Nat) = (0 : Nat) ∧ (0 : Nat) = (0 : Nat) ∧ (0 : Nat) = (0 : Nat)) ∧ IntKind.i64.wrap ((↑i : Int) + (1 : Int)) = (↑i' : Int) ∧ True) ∧
                        ((0 : Nat) = (0 : Nat) ∧
                            (true = true → true = true) ∧
                              ((l = l ∧ ek = ek ∧ x = x ∧ True) ∧ [AV.int IntKind.u64 l, AV.int IntKind.i64 ek, AV.int IntKind.i64 x].length = [AV.int IntKind.u64 l, AV.int IntKind.i64 ek, AV.int IntKind.i64 x].length) ∧
                                True) ∧
                          True)))
            (NB
              ((decide (m ≤ (1000000 : Nat)) &&
                  atsB m fun (j : Nat) =>
                    AV.agg
                      [AV.int IntKind.i64 (A.K j), AV.bool (A.B j), AV.int IntKind.u64 (A.O j), AV.rof (A.N j) (fun (i : Nat) => AV.agg [AV.int IntKind.i64 (A.P j i), AV.int IntKind.i64 (A.V j i)]) false,
                        AV.str (A.M j)]) &&
                smAts m
                  (atsOf fun (j : Nat) =>
                    AV.agg
                      [AV.int IntKind.i64 (A.K j), AV.bool (A.B j), AV.int IntKind.u64 (A.O j), AV.rof (A.N j) (fun (i : Nat) => AV.agg [AV.int IntKind.i64 (A.P j i), AV.int IntKind.i64 (A.V j i)]) false, AV.str (A.M j)]))
              (NB (decide (c ≤ (1000000 : Nat)) && intsB c fun (k : Nat) => AV.int IntKind.i64 (w k))
                (NB
                  ((decide (m ≤ (1000000 : Nat)) &&
                        atsB m fun (j : Nat) =>
                          AV.agg
                            [AV.int IntKind.i64
                                ((atsOf fun (j : Nat) =>
                                      AV.agg
                                        [AV.int IntKind.i64 (A.K j), AV.bool (A.B j), AV.int IntKind.u64 (A.O j), AV.rof (A.N j) (fun (i : Nat) => AV.agg [AV.int IntKind.i64 (A.P j i), AV.int IntKind.i64 (A.V j i)]) false,
                                          AV.str (A.M j)]).K
                                  j),
                              AV.bool
                                ((atsOf fun (j : Nat) =>
                                      AV.agg
                                        [AV.int IntKind.i64 (A.K j), AV.bool (A.B j), AV.int IntKind.u64 (A.O j), AV.rof (A.N j) (fun (i : Nat) => AV.agg [AV.int IntKind.i64 (A.P j i), AV.int IntKind.i64 (A.V j i)]) false,
                                          AV.str (A.M j)]).B
                                  j),
                              AV.int IntKind.u64
                                ((atsOf fun (j : Nat) =>
                                      AV.agg
                                        [AV.int IntKind.i64 (A.K j), AV.bool (A.B j), AV.int IntKind.u64 (A.O j), AV.rof (A.N j) (fun (i : Nat) => AV.agg [AV.int IntKind.i64 (A.P j i), AV.int IntKind.i64 (A.V j i)]) false,
                                          AV.str (A.M j)]).O
                                  j),
                              AV.rof
                                ((atsOf fun (j : Nat) =>
                                      AV.agg
                                        [AV.int IntKind.i64 (A.K j), AV.bool (A.B j), AV.int IntKind.u64 (A.O j), AV.rof (A.N j) (fun (i : Nat) => AV.agg [AV.int IntKind.i64 (A.P j i), AV.int IntKind.i64 (A.V j i)]) false,
                                          AV.str (A.M j)]).N
                                  j)
                                (fun (i : Nat) =>
                                  AV.agg
                                    [AV.int IntKind.i64
                                        ((atsOf fun (j : Nat) =>
                                              AV.agg
                                                [AV.int IntKind.i64 (A.K j), AV.bool (A.B j), AV.int IntKind.u64 (A.O j),
                                                  AV.rof (A.N j) (fun (i : Nat) => AV.agg [AV.int IntKind.i64 (A.P j i), AV.int IntKind.i64 (A.V j i)]) false, AV.str (A.M j)]).P
                                          j i),
                                      AV.int IntKind.i64
                                        ((atsOf fun (j : Nat) =>
                                              AV.agg
                                                [AV.int IntKind.i64 (A.K j), AV.bool (A.B j), AV.int IntKind.u64 (A.O j),
                                                  AV.rof (A.N j) (fun (i : Nat) => AV.agg [AV.int IntKind.i64 (A.P j i), AV.int IntKind.i64 (A.V j i)]) false, AV.str (A.M j)]).V
                                          j i)])
                                false,
                              AV.str
                                ((atsOf fun (j : Nat) =>
                                      AV.agg
                                        [AV.int IntKind.i64 (A.K j), AV.bool (A.B j), AV.int IntKind.u64 (A.O j), AV.rof (A.N j) (fun (i : Nat) => AV.agg [AV.int IntKind.i64 (A.P j i), AV.int IntKind.i64 (A.V j i)]) false,
                                          AV.str (A.M j)]).M
                                  j)]) &&
                      okAts m
                        (atsOf fun (j : Nat) =>
                          AV.agg
                            [AV.int IntKind.i64
                                ((atsOf fun (j : Nat) =>
                                      AV.agg
                                        [AV.int IntKind.i64 (A.K j), AV.bool (A.B j), AV.int IntKind.u64 (A.O j), AV.rof (A.N j) (fun (i : Nat) => AV.agg [AV.int IntKind.i64 (A.P j i), AV.int IntKind.i64 (A.V j i)]) false,
                                          AV.str (A.M j)]).K
                                  j),
                              AV.bool
                                ((atsOf fun (j : Nat) =>
                                      AV.agg
                                        [AV.int IntKind.i64 (A.K j), AV.bool (A.B j), AV.int IntKind.u64 (A.O j), AV.rof (A.N j) (fun (i : Nat) => AV.agg [AV.int IntKind.i64 (A.P j i), AV.int IntKind.i64 (A.V j i)]) false,
                                          AV.str (A.M j)]).B
                                  j),
                              AV.int IntKind.u64
                                ((atsOf fun (j : Nat) =>
                                      AV.agg
                                        [AV.int IntKind.i64 (A.K j), AV.bool (A.B j), AV.int IntKind.u64 (A.O j), AV.rof (A.N j) (fun (i : Nat) => AV.agg [AV.int IntKind.i64 (A.P j i), AV.int IntKind.i64 (A.V j i)]) false,
                                          AV.str (A.M j)]).O
                                  j),
                              AV.rof
                                ((atsOf fun (j : Nat) =>
                                      AV.agg
                                        [AV.int IntKind.i64 (A.K j), AV.bool (A.B j), AV.int IntKind.u64 (A.O j), AV.rof (A.N j) (fun (i : Nat) => AV.agg [AV.int IntKind.i64 (A.P j i), AV.int IntKind.i64 (A.V j i)]) false,
                                          AV.str (A.M j)]).N
                                  j)
                                (fun (i : Nat) =>
                                  AV.agg
                                    [AV.int IntKind.i64
                                        ((atsOf fun (j : Nat) =>
                                              AV.agg
                                                [AV.int IntKind.i64 (A.K j), AV.bool (A.B j), AV.int IntKind.u64 (A.O j),
                                                  AV.rof (A.N j) (fun (i : Nat) => AV.agg [AV.int IntKind.i64 (A.P j i), AV.int IntKind.i64 (A.V j i)]) false, AV.str (A.M j)]).P
                                          j i),
                                      AV.int IntKind.i64
                                        ((atsOf fun (j : Nat) =>
                                              AV.agg
                                                [AV.int IntKind.i64 (A.K j), AV.bool (A.B j), AV.int IntKind.u64 (A.O j),
                                                  AV.rof (A.N j) (fun (i : Nat) => AV.agg [AV.int IntKind.i64 (A.P j i), AV.int IntKind.i64 (A.V j i)]) false, AV.str (A.M j)]).V
                                          j i)])
                                false,
                              AV.str
                                ((atsOf fun (j : Nat) =>
                                      AV.agg
                                        [AV.int IntKind.i64 (A.K j), AV.bool (A.B j), AV.int IntKind.u64 (A.O j), AV.rof (A.N j) (fun (i : Nat) => AV.agg [AV.int IntKind.i64 (A.P j i), AV.int IntKind.i64 (A.V j i)]) false,
                                          AV.str (A.M j)]).M
                                  j)]) &&
                    u64B l)
                  (NB
                    ((decide (m ≤ (1000000 : Nat)) &&
                          atsB m fun (j : Nat) =>
                            AV.agg
                              [AV.int IntKind.i64 (A.K j), AV.bool (A.B j), AV.int IntKind.u64 (A.O j), AV.rof (A.N j) (fun (i : Nat) => AV.agg [AV.int IntKind.i64 (A.P j i), AV.int IntKind.i64 (A.V j i)]) false,
                                AV.str (A.M j)]) &&
                        okAts m
                          (atsOf fun (j : Nat) =>
                            AV.agg
                              [AV.int IntKind.i64 (A.K j), AV.bool (A.B j), AV.int IntKind.u64 (A.O j), AV.rof (A.N j) (fun (i : Nat) => AV.agg [AV.int IntKind.i64 (A.P j i), AV.int IntKind.i64 (A.V j i)]) false,
                                AV.str (A.M j)]) &&
                      u64B l)
                    (NB
                      (((decide (m ≤ (1000000 : Nat)) && decide (c ≤ (1000000 : Nat)) &&
                              atsB m fun (j : Nat) =>
                                AV.agg
                                  [AV.int IntKind.i64
                                      ((atsOf fun (j : Nat) =>
                                            AV.agg
                                              [AV.int IntKind.i64 (A.K j), AV.bool (A.B j), AV.int IntKind.u64 (A.O j),
                                                AV.rof (A.N j) (fun (i : Nat) => AV.agg [AV.int IntKind.i64 (A.P j i), AV.int IntKind.i64 (A.V j i)]) false, AV.str (A.M j)]).K
                                        j),
                                    AV.bool
                                      ((atsOf fun (j : Nat) =>
                                            AV.agg
                                              [AV.int IntKind.i64 (A.K j), AV.bool (A.B j), AV.int IntKind.u64 (A.O j),
                                                AV.rof (A.N j) (fun (i : Nat) => AV.agg [AV.int IntKind.i64 (A.P j i), AV.int IntKind.i64 (A.V j i)]) false, AV.str (A.M j)]).B
                                        j),
                                    AV.int IntKind.u64
                                      ((atsOf fun (j : Nat) =>
                                            AV.agg
                                              [AV.int IntKind.i64 (A.K j), AV.bool (A.B j), AV.int IntKind.u64 (A.O j),
                                                AV.rof (A.N j) (fun (i : Nat) => AV.agg [AV.int IntKind.i64 (A.P j i), AV.int IntKind.i64 (A.V j i)]) false, AV.str (A.M j)]).O
                                        j),
                                    AV.rof
                                      ((atsOf fun (j : Nat) =>
                                            AV.agg
                                              [AV.int IntKind.i64 (A.K j), AV.bool (A.B j), AV.int IntKind.u64 (A.O j),
                                                AV.rof (A.N j) (fun (i : Nat) => AV.agg [AV.int IntKind.i64 (A.P j i), AV.int IntKind.i64 (A.V j i)]) false, AV.str (A.M j)]).N
                                        j)
                                      (fun (i : Nat) =>
                                        AV.agg
                                          [AV.int IntKind.i64
                                              ((atsOf fun (j : Nat) =>
                                                    AV.agg
                                                      [AV.int IntKind.i64 (A.K j), AV.bool (A.B j), AV.int IntKind.u64 (A.O j),
                                                        AV.rof (A.N j) (fun (i : Nat) => AV.agg [AV.int IntKind.i64 (A.P j i), AV.int IntKind.i64 (A.V j i)]) false, AV.str (A.M j)]).P
                                                j i),
                                            AV.int IntKind.i64
                                              ((atsOf fun (j : Nat) =>
                                                    AV.agg
                                                      [AV.int IntKind.i64 (A.K j), AV.bool (A.B j), AV.int IntKind.u64 (A.O j),
                                                        AV.rof (A.N j) (fun (i : Nat) => AV.agg [AV.int IntKind.i64 (A.P j i), AV.int IntKind.i64 (A.V j i)]) false, AV.str (A.M j)]).V
                                                j i)])
                                      false,
                                    AV.str
                                      ((atsOf fun (j : Nat) =>
                                            AV.agg
                                              [AV.int IntKind.i64 (A.K j), AV.bool (A.B j), AV.int IntKind.u64 (A.O j),
                                                AV.rof (A.N j) (fun (i : Nat) => AV.agg [AV.int IntKind.i64 (A.P j i), AV.int IntKind.i64 (A.V j i)]) false, AV.str (A.M j)]).M
                                        j)]) &&
                            intsB c fun (k : Nat) => AV.int IntKind.i64 (iOf (AV.int IntKind.i64 (w k)))) &&
                          okAts m
                            (atsOf fun (j : Nat) =>
                              AV.agg
                                [AV.int IntKind.i64
                                    ((atsOf fun (j : Nat) =>
                                          AV.agg
                                            [AV.int IntKind.i64 (A.K j), AV.bool (A.B j), AV.int IntKind.u64 (A.O j),
                                              AV.rof (A.N j) (fun (i : Nat) => AV.agg [AV.int IntKind.i64 (A.P j i), AV.int IntKind.i64 (A.V j i)]) false, AV.str (A.M j)]).K
                                      j),
                                  AV.bool
                                    ((atsOf fun (j : Nat) =>
                                          AV.agg
                                            [AV.int IntKind.i64 (A.K j), AV.bool (A.B j), AV.int IntKind.u64 (A.O j),
                                              AV.rof (A.N j) (fun (i : Nat) => AV.agg [AV.int IntKind.i64 (A.P j i), AV.int IntKind.i64 (A.V j i)]) false, AV.str (A.M j)]).B
                                      j),
                                  AV.int IntKind.u64
                                    ((atsOf fun (j : Nat) =>
                                          AV.agg
                                            [AV.int IntKind.i64 (A.K j), AV.bool (A.B j), AV.int IntKind.u64 (A.O j),
                                              AV.rof (A.N j) (fun (i : Nat) => AV.agg [AV.int IntKind.i64 (A.P j i), AV.int IntKind.i64 (A.V j i)]) false, AV.str (A.M j)]).O
                                      j),
                                  AV.rof
                                    ((atsOf fun (j : Nat) =>
                                          AV.agg
                                            [AV.int IntKind.i64 (A.K j), AV.bool (A.B j), AV.int IntKind.u64 (A.O j),
                                              AV.rof (A.N j) (fun (i : Nat) => AV.agg [AV.int IntKind.i64 (A.P j i), AV.int IntKind.i64 (A.V j i)]) false, AV.str (A.M j)]).N
                                      j)
                                    (fun (i : Nat) =>
                                      AV.agg
                                        [AV.int IntKind.i64
                                            ((atsOf fun (j : Nat) =>
                                                  AV.agg
                                                    [AV.int IntKind.i64 (A.K j), AV.bool (A.B j), AV.int IntKind.u64 (A.O j),
                                                      AV.rof (A.N j) (fun (i : Nat) => AV.agg [AV.int IntKind.i64 (A.P j i), AV.int IntKind.i64 (A.V j i)]) false, AV.str (A.M j)]).P
                                              j i),
                                          AV.int IntKind.i64
                                            ((atsOf fun (j : Nat) =>
                                                  AV.agg
                                                    [AV.int IntKind.i64 (A.K j), AV.bool (A.B j), AV.int IntKind.u64 (A.O j),
                                                      AV.rof (A.N j) (fun (i : Nat) => AV.agg [AV.int IntKind.i64 (A.P j i), AV.int IntKind.i64 (A.V j i)]) false, AV.str (A.M j)]).V
                                              j i)])
                                    false,
                                  AV.str
                                    ((atsOf fun (j : Nat) =>
                                          AV.agg
                                            [AV.int IntKind.i64 (A.K j), AV.bool (A.B j), AV.int IntKind.u64 (A.O j),
                                              AV.rof (A.N j) (fun (i : Nat) => AV.agg [AV.int IntKind.i64 (A.P j i), AV.int IntKind.i64 (A.V j i)]) false, AV.str (A.M j)]).M
                                      j)]) &&
                        u64B l)
                      (NB
                        (((decide (m ≤ (1000000 : Nat)) && decide (c ≤ (1000000 : Nat)) &&
                                atsB m fun (j : Nat) =>
                                  AV.agg
                                    [AV.int IntKind.i64 (A.K j), AV.bool (A.B j), AV.int IntKind.u64 (A.O j), AV.rof (A.N j) (fun (i : Nat) => AV.agg [AV.int IntKind.i64 (A.P j i), AV.int IntKind.i64 (A.V j i)]) false,
                                      AV.str (A.M j)]) &&
                              intsB c fun (k : Nat) => AV.int IntKind.i64 (w k)) &&
                            okAts m
                              (atsOf fun (j : Nat) =>
                                AV.agg
                                  [AV.int IntKind.i64 (A.K j), AV.bool (A.B j), AV.int IntKind.u64 (A.O j), AV.rof (A.N j) (fun (i : Nat) => AV.agg [AV.int IntKind.i64 (A.P j i), AV.int IntKind.i64 (A.V j i)]) false,
                                    AV.str (A.M j)]) &&
                          u64B l)
                        (NB
                          (((decide
                                    ((if
                                          allE
                                              (atsOf fun (j : Nat) =>
                                                AV.agg
                                                  [AV.int IntKind.i64
                                                      ((atsOf fun (j : Nat) =>
                                                            AV.agg
                                                              [AV.int IntKind.i64 (A.K j), AV.bool (A.B j), AV.int IntKind.u64 (A.O j),
                                                                AV.rof (A.N j) (fun (i : Nat) => AV.agg [AV.int IntKind.i64 (A.P j i), AV.int IntKind.i64 (A.V j i)]) false, AV.str (A.M j)]).K
                                                        j),
                                                    AV.bool
                                                      ((atsOf fun (j : Nat) =>
                                                            AV.agg
                                                              [AV.int IntKind.i64 (A.K j), AV.bool (A.B j), AV.int IntKind.u64 (A.O j),
                                                                AV.rof (A.N j) (fun (i : Nat) => AV.agg [AV.int IntKind.i64 (A.P j i), AV.int IntKind.i64 (A.V j i)]) false, AV.str (A.M j)]).B
                                                        j),
                                                    AV.int IntKind.u64
                                                      ((atsOf fun (j : Nat) =>
                                                            AV.agg
                                                              [AV.int IntKind.i64 (A.K j), AV.bool (A.B j), AV.int IntKind.u64 (A.O j),
                                                                AV.rof (A.N j) (fun (i : Nat) => AV.agg [AV.int IntKind.i64 (A.P j i), AV.int IntKind.i64 (A.V j i)]) false, AV.str (A.M j)]).O
                                                        j),
                                                    AV.rof
                                                      ((atsOf fun (j : Nat) =>
                                                            AV.agg
                                                              [AV.int IntKind.i64 (A.K j), AV.bool (A.B j), AV.int IntKind.u64 (A.O j),
                                                                AV.rof (A.N j) (fun (i : Nat) => AV.agg [AV.int IntKind.i64 (A.P j i), AV.int IntKind.i64 (A.V j i)]) false, AV.str (A.M j)]).N
                                                        j)
                                                      (fun (i : Nat) =>
                                                        AV.agg
                                                          [AV.int IntKind.i64
                                                              ((atsOf fun (j : Nat) =>
                                                                    AV.agg
                                                                      [AV.int IntKind.i64 (A.K j), AV.bool (A.B j), AV.int IntKind.u64 (A.O j),
                                                                        AV.rof (A.N j) (fun (i : Nat) => AV.agg [AV.int IntKind.i64 (A.P j i), AV.int IntKind.i64 (A.V j i)]) false, AV.str (A.M j)]).P
                                                                j i),
                                                            AV.int IntKind.i64
                                                              ((atsOf fun (j : Nat) =>
                                                                    AV.agg
                                                                      [AV.int IntKind.i64 (A.K j), AV.bool (A.B j), AV.int IntKind.u64 (A.O j),
                                                                        AV.rof (A.N j) (fun (i : Nat) => AV.agg [AV.int IntKind.i64 (A.P j i), AV.int IntKind.i64 (A.V j i)]) false, AV.str (A.M j)]).V
                                                                j i)])
                                                      false,
                                                    AV.str
                                                      ((atsOf fun (j : Nat) =>
                                                            AV.agg
                                                              [AV.int IntKind.i64 (A.K j), AV.bool (A.B j), AV.int IntKind.u64 (A.O j),
                                                                AV.rof (A.N j) (fun (i : Nat) => AV.agg [AV.int IntKind.i64 (A.P j i), AV.int IntKind.i64 (A.V j i)]) false, AV.str (A.M j)]).M
                                                        j)])
                                              m ek =
                                            (0 : Int) then
                                        whN
                                          (atsOf fun (j : Nat) =>
                                            AV.agg
                                              [AV.int IntKind.i64
                                                  ((atsOf fun (j : Nat) =>
                                                        AV.agg
                                                          [AV.int IntKind.i64 (A.K j), AV.bool (A.B j), AV.int IntKind.u64 (A.O j),
                                                            AV.rof (A.N j) (fun (i : Nat) => AV.agg [AV.int IntKind.i64 (A.P j i), AV.int IntKind.i64 (A.V j i)]) false, AV.str (A.M j)]).K
                                                    j),
                                                AV.bool
                                                  ((atsOf fun (j : Nat) =>
                                                        AV.agg
                                                          [AV.int IntKind.i64 (A.K j), AV.bool (A.B j), AV.int IntKind.u64 (A.O j),
                                                            AV.rof (A.N j) (fun (i : Nat) => AV.agg [AV.int IntKind.i64 (A.P j i), AV.int IntKind.i64 (A.V j i)]) false, AV.str (A.M j)]).B
                                                    j),
                                                AV.int IntKind.u64
                                                  ((atsOf fun (j : Nat) =>
                                                        AV.agg
                                                          [AV.int IntKind.i64 (A.K j), AV.bool (A.B j), AV.int IntKind.u64 (A.O j),
                                                            AV.rof (A.N j) (fun (i : Nat) => AV.agg [AV.int IntKind.i64 (A.P j i), AV.int IntKind.i64 (A.V j i)]) false, AV.str (A.M j)]).O
                                                    j),
                                                AV.rof
                                                  ((atsOf fun (j : Nat) =>
                                                        AV.agg
                                                          [AV.int IntKind.i64 (A.K j), AV.bool (A.B j), AV.int IntKind.u64 (A.O j),
                                                            AV.rof (A.N j) (fun (i : Nat) => AV.agg [AV.int IntKind.i64 (A.P j i), AV.int IntKind.i64 (A.V j i)]) false, AV.str (A.M j)]).N
                                                    j)
                                                  (fun (i : Nat) =>
                                                    AV.agg
                                                      [AV.int IntKind.i64
                                                          ((atsOf fun (j : Nat) =>
                                                                AV.agg
                                                                  [AV.int IntKind.i64 (A.K j), AV.bool (A.B j), AV.int IntKind.u64 (A.O j),
                                                                    AV.rof (A.N j) (fun (i : Nat) => AV.agg [AV.int IntKind.i64 (A.P j i), AV.int IntKind.i64 (A.V j i)]) false, AV.str (A.M j)]).P
                                                            j i),
                                                        AV.int IntKind.i64
                                                          ((atsOf fun (j : Nat) =>
                                                                AV.agg
                                                                  [AV.int IntKind.i64 (A.K j), AV.bool (A.B j), AV.int IntKind.u64 (A.O j),
                                                                    AV.rof (A.N j) (fun (i : Nat) => AV.agg [AV.int IntKind.i64 (A.P j i), AV.int IntKind.i64 (A.V j i)]) false, AV.str (A.M j)]).V
                                                            j i)])
                                                  false,
                                                AV.str
                                                  ((atsOf fun (j : Nat) =>
                                                        AV.agg
                                                          [AV.int IntKind.i64 (A.K j), AV.bool (A.B j), AV.int IntKind.u64 (A.O j),
                                                            AV.rof (A.N j) (fun (i : Nat) => AV.agg [AV.int IntKind.i64 (A.P j i), AV.int IntKind.i64 (A.V j i)]) false, AV.str (A.M j)]).M
                                                    j)])
                                          l ek x m
                                      else (0 : Nat)) ≤
                                      (1000000 : Nat)) &&
                                  decide
                                    ((if
                                          allE
                                              (atsOf fun (j : Nat) =>
                                                AV.agg
                                                  [AV.int IntKind.i64
                                                      ((atsOf fun (j : Nat) =>
                                                            AV.agg
                                                              [AV.int IntKind.i64 (A.K j), AV.bool (A.B j), AV.int IntKind.u64 (A.O j),
                                                                AV.rof (A.N j) (fun (i : Nat) => AV.agg [AV.int IntKind.i64 (A.P j i), AV.int IntKind.i64 (A.V j i)]) false, AV.str (A.M j)]).K
                                                        j),
                                                    AV.bool
                                                      ((atsOf fun (j : Nat) =>
                                                            AV.agg
                                                              [AV.int IntKind.i64 (A.K j), AV.bool (A.B j), AV.int IntKind.u64 (A.O j),
                                                                AV.rof (A.N j) (fun (i : Nat) => AV.agg [AV.int IntKind.i64 (A.P j i), AV.int IntKind.i64 (A.V j i)]) false, AV.str (A.M j)]).B
                                                        j),
                                                    AV.int IntKind.u64
                                                      ((atsOf fun (j : Nat) =>
                                                            AV.agg
                                                              [AV.int IntKind.i64 (A.K j), AV.bool (A.B j), AV.int IntKind.u64 (A.O j),
                                                                AV.rof (A.N j) (fun (i : Nat) => AV.agg [AV.int IntKind.i64 (A.P j i), AV.int IntKind.i64 (A.V j i)]) false, AV.str (A.M j)]).O
                                                        j),
                                                    AV.rof
                                                      ((atsOf fun (j : Nat) =>
                                                            AV.agg
                                                              [AV.int IntKind.i64 (A.K j), AV.bool (A.B j), AV.int IntKind.u64 (A.O j),
                                                                AV.rof (A.N j) (fun (i : Nat) => AV.agg [AV.int IntKind.i64 (A.P j i), AV.int IntKind.i64 (A.V j i)]) false, AV.str (A.M j)]).N
                                                        j)
                                                      (fun (i : Nat) =>
                                                        AV.agg
                                                          [AV.int IntKind.i64
                                                              ((atsOf fun (j : Nat) =>
                                                                    AV.agg
                                                                      [AV.int IntKind.i64 (A.K j), AV.bool (A.B j), AV.int IntKind.u64 (A.O j),
                                                                        AV.rof (A.N j) (fun (i : Nat) => AV.agg [AV.int IntKind.i64 (A.P j i), AV.int IntKind.i64 (A.V j i)]) false, AV.str (A.M j)]).P
                                                                j i),
                                                            AV.int IntKind.i64
                                                              ((atsOf fun (j : Nat) =>
                                                                    AV.agg
                                                                      [AV.int IntKind.i64 (A.K j), AV.bool (A.B j), AV.int IntKind.u64 (A.O j),
                                                                        AV.rof (A.N j) (fun (i : Nat) => AV.agg [AV.int IntKind.i64 (A.P j i), AV.int IntKind.i64 (A.V j i)]) false, AV.str (A.M j)]).V
                                                                j i)])
                                                      false,
                                                    AV.str
                                                      ((atsOf fun (j : Nat) =>
                                                            AV.agg
                                                              [AV.int IntKind.i64 (A.K j), AV.bool (A.B j), AV.int IntKind.u64 (A.O j),
                                                                AV.rof (A.N j) (fun (i : Nat) => AV.agg [AV.int IntKind.i64 (A.P j i), AV.int IntKind.i64 (A.V j i)]) false, AV.str (A.M j)]).M
                                                        j)])
                                              m ek =
                                            (0 : Int) then
                                        whN
                                          (atsOf fun (j : Nat) =>
                                            AV.agg
                                              [AV.int IntKind.i64
                                                  ((atsOf fun (j : Nat) =>
                                                        AV.agg
                                                          [AV.int IntKind.i64 (A.K j), AV.bool (A.B j), AV.int IntKind.u64 (A.O j),
                                                            AV.rof (A.N j) (fun (i : Nat) => AV.agg [AV.int IntKind.i64 (A.P j i), AV.int IntKind.i64 (A.V j i)]) false, AV.str (A.M j)]).K
                                                    j),
                                                AV.bool
                                                  ((atsOf fun (j : Nat) =>
                                                        AV.agg
                                                          [AV.int IntKind.i64 (A.K j), AV.bool (A.B j), AV.int IntKind.u64 (A.O j),
                                                            AV.rof (A.N j) (fun (i : Nat) => AV.agg [AV.int IntKind.i64 (A.P j i), AV.int IntKind.i64 (A.V j i)]) false, AV.str (A.M j)]).B
                                                    j),
                                                AV.int IntKind.u64
                                                  ((atsOf fun (j : Nat) =>
                                                        AV.agg
                                                          [AV.int IntKind.i64 (A.K j), AV.bool (A.B j), AV.int IntKind.u64 (A.O j),
                                                            AV.rof (A.N j) (fun (i : Nat) => AV.agg [AV.int IntKind.i64 (A.P j i), AV.int IntKind.i64 (A.V j i)]) false, AV.str (A.M j)]).O
                                                    j),
                                                AV.rof
                                                  ((atsOf fun (j : Nat) =>
                                                        AV.agg
                                                          [AV.int IntKind.i64 (A.K j), AV.bool (A.B j), AV.int IntKind.u64 (A.O j),
                                                            AV.rof (A.N j) (fun (i : Nat) => AV.agg [AV.int IntKind.i64 (A.P j i), AV.int IntKind.i64 (A.V j i)]) false, AV.str (A.M j)]).N
                                                    j)
                                                  (fun (i : Nat) =>
                                                    AV.agg
                                                      [AV.int IntKind.i64
                                                          ((atsOf fun (j : Nat) =>
                                                                AV.agg
                                                                  [AV.int IntKind.i64 (A.K j), AV.bool (A.B j), AV.int IntKind.u64 (A.O j),
                                                                    AV.rof (A.N j) (fun (i : Nat) => AV.agg [AV.int IntKind.i64 (A.P j i), AV.int IntKind.i64 (A.V j i)]) false, AV.str (A.M j)]).P
                                                            j i),
                                                        AV.int IntKind.i64
                                                          ((atsOf fun (j : Nat) =>
                                                                AV.agg
                                                                  [AV.int IntKind.i64 (A.K j), AV.bool (A.B j), AV.int IntKind.u64 (A.O j),
                                                                    AV.rof (A.N j) (fun (i : Nat) => AV.agg [AV.int IntKind.i64 (A.P j i), AV.int IntKind.i64 (A.V j i)]) false, AV.str (A.M j)]).V
                                                            j i)])
                                                  false,
                                                AV.str
                                                  ((atsOf fun (j : Nat) =>
                                                        AV.agg
                                                          [AV.int IntKind.i64 (A.K j), AV.bool (A.B j), AV.int IntKind.u64 (A.O j),
                                                            AV.rof (A.N j) (fun (i : Nat) => AV.agg [AV.int IntKind.i64 (A.P j i), AV.int IntKind.i64 (A.V j i)]) false, AV.str (A.M j)]).M
                                                    j)])
                                          l ek x m
                                      else (0 : Nat)) =
                                      if
                                          allE
                                              (atsOf fun (j : Nat) =>
                                                AV.agg
                                                  [AV.int IntKind.i64 (A.K j), AV.bool (A.B j), AV.int IntKind.u64 (A.O j),
                                                    AV.rof (A.N j) (fun (i : Nat) => AV.agg [AV.int IntKind.i64 (A.P j i), AV.int IntKind.i64 (A.V j i)]) false, AV.str (A.M j)])
                                              m ek =
                                            (0 : Int) then
                                        whN
                                          (atsOf fun (j : Nat) =>
                                            AV.agg
                                              [AV.int IntKind.i64 (A.K j), AV.bool (A.B j), AV.int IntKind.u64 (A.O j),
                                                AV.rof (A.N j) (fun (i : Nat) => AV.agg [AV.int IntKind.i64 (A.P j i), AV.int IntKind.i64 (A.V j i)]) false, AV.str (A.M j)])
                                          l ek x m
                                      else (0 : Nat)) &&
                                intsB
                                  (if
                                      allE
                                          (atsOf fun (j : Nat) =>
                                            AV.agg
                                              [AV.int IntKind.i64
                                                  ((atsOf fun (j : Nat) =>
                                                        AV.agg
                                                          [AV.int IntKind.i64 (A.K j), AV.bool (A.B j), AV.int IntKind.u64 (A.O j),
                                                            AV.rof (A.N j) (fun (i : Nat) => AV.agg [AV.int IntKind.i64 (A.P j i), AV.int IntKind.i64 (A.V j i)]) false, AV.str (A.M j)]).K
                                                    j),
                                                AV.bool
                                                  ((atsOf fun (j : Nat) =>
                                                        AV.agg
                                                          [AV.int IntKind.i64 (A.K j), AV.bool (A.B j), AV.int IntKind.u64 (A.O j),
                                                            AV.rof (A.N j) (fun (i : Nat) => AV.agg [AV.int IntKind.i64 (A.P j i), AV.int IntKind.i64 (A.V j i)]) false, AV.str (A.M j)]).B
                                                    j),
                                                AV.int IntKind.u64
                                                  ((atsOf fun (j : Nat) =>
                                                        AV.agg
                                                          [AV.int IntKind.i64 (A.K j), AV.bool (A.B j), AV.int IntKind.u64 (A.O j),
                                                            AV.rof (A.N j) (fun (i : Nat) => AV.agg [AV.int IntKind.i64 (A.P j i), AV.int IntKind.i64 (A.V j i)]) false, AV.str (A.M j)]).O
                                                    j),
                                                AV.rof
                                                  ((atsOf fun (j : Nat) =>
                                                        AV.agg
                                                          [AV.int IntKind.i64 (A.K j), AV.bool (A.B j), AV.int IntKind.u64 (A.O j),
                                                            AV.rof (A.N j) (fun (i : Nat) => AV.agg [AV.int IntKind.i64 (A.P j i), AV.int IntKind.i64 (A.V j i)]) false, AV.str (A.M j)]).N
                                                    j)
                                                  (fun (i : Nat) =>
                                                    AV.agg
                                                      [AV.int IntKind.i64
                                                          ((atsOf fun (j : Nat) =>
                                                                AV.agg
                                                                  [AV.int IntKind.i64 (A.K j), AV.bool (A.B j), AV.int IntKind.u64 (A.O j),
                                                                    AV.rof (A.N j) (fun (i : Nat) => AV.agg [AV.int IntKind.i64 (A.P j i), AV.int IntKind.i64 (A.V j i)]) false, AV.str (A.M j)]).P
                                                            j i),
                                                        AV.int IntKind.i64
                                                          ((atsOf fun (j : Nat) =>
                                                                AV.agg
                                                                  [AV.int IntKind.i64 (A.K j), AV.bool (A.B j), AV.int IntKind.u64 (A.O j),
                                                                    AV.rof (A.N j) (fun (i : Nat) => AV.agg [AV.int IntKind.i64 (A.P j i), AV.int IntKind.i64 (A.V j i)]) false, AV.str (A.M j)]).V
                                                            j i)])
                                                  false,
                                                AV.str
                                                  ((atsOf fun (j : Nat) =>
                                                        AV.agg
                                                          [AV.int IntKind.i64 (A.K j), AV.bool (A.B j), AV.int IntKind.u64 (A.O j),
                                                            AV.rof (A.N j) (fun (i : Nat) => AV.agg [AV.int IntKind.i64 (A.P j i), AV.int IntKind.i64 (A.V j i)]) false, AV.str (A.M j)]).M
                                                    j)])
                                          m ek =
                                        (0 : Int) then
                                    whN
                                      (atsOf fun (j : Nat) =>
                                        AV.agg
                                          [AV.int IntKind.i64
                                              ((atsOf fun (j : Nat) =>
                                                    AV.agg
                                                      [AV.int IntKind.i64 (A.K j), AV.bool (A.B j), AV.int IntKind.u64 (A.O j),
                                                        AV.rof (A.N j) (fun (i : Nat) => AV.agg [AV.int IntKind.i64 (A.P j i), AV.int IntKind.i64 (A.V j i)]) false, AV.str (A.M j)]).K
                                                j),
                                            AV.bool
                                              ((atsOf fun (j : Nat) =>
                                                    AV.agg
                                                      [AV.int IntKind.i64 (A.K j), AV.bool (A.B j), AV.int IntKind.u64 (A.O j),
                                                        AV.rof (A.N j) (fun (i : Nat) => AV.agg [AV.int IntKind.i64 (A.P j i), AV.int IntKind.i64 (A.V j i)]) false, AV.str (A.M j)]).B
                                                j),
                                            AV.int IntKind.u64
                                              ((atsOf fun (j : Nat) =>
                                                    AV.agg
                                                      [AV.int IntKind.i64 (A.K j), AV.bool (A.B j), AV.int IntKind.u64 (A.O j),
                                                        AV.rof (A.N j) (fun (i : Nat) => AV.agg [AV.int IntKind.i64 (A.P j i), AV.int IntKind.i64 (A.V j i)]) false, AV.str (A.M j)]).O
                                                j),
                                            AV.rof
                                              ((atsOf fun (j : Nat) =>
                                                    AV.agg
                                                      [AV.int IntKind.i64 (A.K j), AV.bool (A.B j), AV.int IntKind.u64 (A.O j),
                                                        AV.rof (A.N j) (fun (i : Nat) => AV.agg [AV.int IntKind.i64 (A.P j i), AV.int IntKind.i64 (A.V j i)]) false, AV.str (A.M j)]).N
                                                j)
                                              (fun (i : Nat) =>
                                                AV.agg
                                                  [AV.int IntKind.i64
                                                      ((atsOf fun (j : Nat) =>
                                                            AV.agg
                                                              [AV.int IntKind.i64 (A.K j), AV.bool (A.B j), AV.int IntKind.u64 (A.O j),
                                                                AV.rof (A.N j) (fun (i : Nat) => AV.agg [AV.int IntKind.i64 (A.P j i), AV.int IntKind.i64 (A.V j i)]) false, AV.str (A.M j)]).P
                                                        j i),
                                                    AV.int IntKind.i64
                                                      ((atsOf fun (j : Nat) =>
                                                            AV.agg
                                                              [AV.int IntKind.i64 (A.K j), AV.bool (A.B j), AV.int IntKind.u64 (A.O j),
                                                                AV.rof (A.N j) (fun (i : Nat) => AV.agg [AV.int IntKind.i64 (A.P j i), AV.int IntKind.i64 (A.V j i)]) false, AV.str (A.M j)]).V
                                                        j i)])
                                              false,
                                            AV.str
                                              ((atsOf fun (j : Nat) =>
                                                    AV.agg
                                                      [AV.int IntKind.i64 (A.K j), AV.bool (A.B j), AV.int IntKind.u64 (A.O j),
                                                        AV.rof (A.N j) (fun (i : Nat) => AV.agg [AV.int IntKind.i64 (A.P j i), AV.int IntKind.i64 (A.V j i)]) false, AV.str (A.M j)]).M
                                                j)])
                                      l ek x m
                                  else (0 : Nat))
                                  fun (k : Nat) =>
                                  AV.int IntKind.i64
                                    (whV
                                      (atsOf fun (j : Nat) =>
                                        AV.agg
                                          [AV.int IntKind.i64
                                              ((atsOf fun (j : Nat) =>
                                                    AV.agg
                                                      [AV.int IntKind.i64 (A.K j), AV.bool (A.B j), AV.int IntKind.u64 (A.O j),
                                                        AV.rof (A.N j) (fun (i : Nat) => AV.agg [AV.int IntKind.i64 (A.P j i), AV.int IntKind.i64 (A.V j i)]) false, AV.str (A.M j)]).K
                                                j),
                                            AV.bool
                                              ((atsOf fun (j : Nat) =>
                                                    AV.agg
                                                      [AV.int IntKind.i64 (A.K j), AV.bool (A.B j), AV.int IntKind.u64 (A.O j),
                                                        AV.rof (A.N j) (fun (i : Nat) => AV.agg [AV.int IntKind.i64 (A.P j i), AV.int IntKind.i64 (A.V j i)]) false, AV.str (A.M j)]).B
                                                j),
                                            AV.int IntKind.u64
                                              ((atsOf fun (j : Nat) =>
                                                    AV.agg
                                                      [AV.int IntKind.i64 (A.K j), AV.bool (A.B j), AV.int IntKind.u64 (A.O j),
                                                        AV.rof (A.N j) (fun (i : Nat) => AV.agg [AV.int IntKind.i64 (A.P j i), AV.int IntKind.i64 (A.V j i)]) false, AV.str (A.M j)]).O
                                                j),
                                            AV.rof
                                              ((atsOf fun (j : Nat) =>
                                                    AV.agg
                                                      [AV.int IntKind.i64 (A.K j), AV.bool (A.B j), AV.int IntKind.u64 (A.O j),
                                                        AV.rof (A.N j) (fun (i : Nat) => AV.agg [AV.int IntKind.i64 (A.P j i), AV.int IntKind.i64 (A.V j i)]) false, AV.str (A.M j)]).N
                                                j)
                                              (fun (i : Nat) =>
                                                AV.agg
                                                  [AV.int IntKind.i64
                                                      ((atsOf fun (j : Nat) =>
                                                            AV.agg
                                                              [AV.int IntKind.i64 (A.K j), AV.bool (A.B j), AV.int IntKind.u64 (A.O j),
                                                                AV.rof (A.N j) (fun (i : Nat) => AV.agg [AV.int IntKind.i64 (A.P j i), AV.int IntKind.i64 (A.V j i)]) false, AV.str (A.M j)]).P
                                                        j i),
                                                    AV.int IntKind.i64
                                                      ((atsOf fun (j : Nat) =>
                                                            AV.agg
                                                              [AV.int IntKind.i64 (A.K j), AV.bool (A.B j), AV.int IntKind.u64 (A.O j),
                                                                AV.rof (A.N j) (fun (i : Nat) => AV.agg [AV.int IntKind.i64 (A.P j i), AV.int IntKind.i64 (A.V j i)]) false, AV.str (A.M j)]).V
                                                        j i)])
                                              false,
                                            AV.str
                                              ((atsOf fun (j : Nat) =>
                                                    AV.agg
                                                      [AV.int IntKind.i64 (A.K j), AV.bool (A.B j), AV.int IntKind.u64 (A.O j),
                                                        AV.rof (A.N j) (fun (i : Nat) => AV.agg [AV.int IntKind.i64 (A.P j i), AV.int IntKind.i64 (A.V j i)]) false, AV.str (A.M j)]).M
                                                j)])
                                      l ek x m k)) &&
                              intsB
                                (if
                                    allE
                                        (atsOf fun (j : Nat) =>
                                          AV.agg
                                            [AV.int IntKind.i64 (A.K j), AV.bool (A.B j), AV.int IntKind.u64 (A.O j),
                                              AV.rof (A.N j) (fun (i : Nat) => AV.agg [AV.int IntKind.i64 (A.P j i), AV.int IntKind.i64 (A.V j i)]) false, AV.str (A.M j)])
                                        m ek =
                                      (0 : Int) then
                                  whN
                                    (atsOf fun (j : Nat) =>
                                      AV.agg
                                        [AV.int IntKind.i64 (A.K j), AV.bool (A.B j), AV.int IntKind.u64 (A.O j), AV.rof (A.N j) (fun (i : Nat) => AV.agg [AV.int IntKind.i64 (A.P j i), AV.int IntKind.i64 (A.V j i)]) false,
                                          AV.str (A.M j)])
                                    l ek x m
                                else (0 : Nat))
                                fun (k : Nat) =>
                                AV.int IntKind.i64
                                  (whV
                                    (atsOf fun (j : Nat) =>
                                      AV.agg
                                        [AV.int IntKind.i64 (A.K j), AV.bool (A.B j), AV.int IntKind.u64 (A.O j), AV.rof (A.N j) (fun (i : Nat) => AV.agg [AV.int IntKind.i64 (A.P j i), AV.int IntKind.i64 (A.V j i)]) false,
                                          AV.str (A.M j)])
                                    l ek x m k)) &&
                            eqFn
                              (fun (k : Nat) =>
                                iOf
                                  (AV.int IntKind.i64
                                    (whV
                                      (atsOf fun (j : Nat) =>
                                        AV.agg
                                          [AV.int IntKind.i64
                                              ((atsOf fun (j : Nat) =>
                                                    AV.agg
                                                      [AV.int IntKind.i64 (A.K j), AV.bool (A.B j), AV.int IntKind.u64 (A.O j),
                                                        AV.rof (A.N j) (fun (i : Nat) => AV.agg [AV.int IntKind.i64 (A.P j i), AV.int IntKind.i64 (A.V j i)]) false, AV.str (A.M j)]).K
                                                j),
                                            AV.bool
                                              ((atsOf fun (j : Nat) =>
                                                    AV.agg
                                                      [AV.int IntKind.i64 (A.K j), AV.bool (A.B j), AV.int IntKind.u64 (A.O j),
                                                        AV.rof (A.N j) (fun (i : Nat) => AV.agg [AV.int IntKind.i64 (A.P j i), AV.int IntKind.i64 (A.V j i)]) false, AV.str (A.M j)]).B
                                                j),
                                            AV.int IntKind.u64
                                              ((atsOf fun (j : Nat) =>
                                                    AV.agg
                                                      [AV.int IntKind.i64 (A.K j), AV.bool (A.B j), AV.int IntKind.u64 (A.O j),
                                                        AV.rof (A.N j) (fun (i : Nat) => AV.agg [AV.int IntKind.i64 (A.P j i), AV.int IntKind.i64 (A.V j i)]) false, AV.str (A.M j)]).O
                                                j),
                                            AV.rof
                                              ((atsOf fun (j : Nat) =>
                                                    AV.agg
                                                      [AV.int IntKind.i64 (A.K j), AV.bool (A.B j), AV.int IntKind.u64 (A.O j),
                                                        AV.rof (A.N j) (fun (i : Nat) => AV.agg [AV.int IntKind.i64 (A.P j i), AV.int IntKind.i64 (A.V j i)]) false, AV.str (A.M j)]).N
                                                j)
                                              (fun (i : Nat) =>
                                                AV.agg
                                                  [AV.int IntKind.i64
                                                      ((atsOf fun (j : Nat) =>
                                                            AV.agg
                                                              [AV.int IntKind.i64 (A.K j), AV.bool (A.B j), AV.int IntKind.u64 (A.O j),
                                                                AV.rof (A.N j) (fun (i : Nat) => AV.agg [AV.int IntKind.i64 (A.P j i), AV.int IntKind.i64 (A.V j i)]) false, AV.str (A.M j)]).P
                                                        j i),
                                                    AV.int IntKind.i64
                                                      ((atsOf fun (j : Nat) =>
                                                            AV.agg
                                                              [AV.int IntKind.i64 (A.K j), AV.bool (A.B j), AV.int IntKind.u64 (A.O j),
                                                                AV.rof (A.N j) (fun (i : Nat) => AV.agg [AV.int IntKind.i64 (A.P j i), AV.int IntKind.i64 (A.V j i)]) false, AV.str (A.M j)]).V
                                                        j i)])
                                              false,
                                            AV.str
                                              ((atsOf fun (j : Nat) =>
                                                    AV.agg
                                                      [AV.int IntKind.i64 (A.K j), AV.bool (A.B j), AV.int IntKind.u64 (A.O j),
                                                        AV.rof (A.N j) (fun (i : Nat) => AV.agg [AV.int IntKind.i64 (A.P j i), AV.int IntKind.i64 (A.V j i)]) false, AV.str (A.M j)]).M
                                                j)])
                                      l ek x m k)))
                              fun (k : Nat) =>
                              iOf
                                (AV.int IntKind.i64
                                  (whV
                                    (atsOf fun (j : Nat) =>
                                      AV.agg
                                        [AV.int IntKind.i64 (A.K j), AV.bool (A.B j), AV.int IntKind.u64 (A.O j), AV.rof (A.N j) (fun (i : Nat) => AV.agg [AV.int IntKind.i64 (A.P j i), AV.int IntKind.i64 (A.V j i)]) false,
                                          AV.str (A.M j)])
                                    l ek x m k)))
                          (NB
                            (impB
                              (isW true
                                (true &&
                                      allE
                                          (atsOf fun (j : Nat) =>
                                            AV.agg
                                              [AV.int IntKind.i64
                                                  ((atsOf fun (j : Nat) =>
                                                        AV.agg
                                                          [AV.int IntKind.i64 (A.K j), AV.bool (A.B j), AV.int IntKind.u64 (A.O j),
                                                            AV.rof (A.N j) (fun (i : Nat) => AV.agg [AV.int IntKind.i64 (A.P j i), AV.int IntKind.i64 (A.V j i)]) false, AV.str (A.M j)]).K
                                                    j),
                                                AV.bool
                                                  ((atsOf fun (j : Nat) =>
                                                        AV.agg
                                                          [AV.int IntKind.i64 (A.K j), AV.bool (A.B j), AV.int IntKind.u64 (A.O j),
                                                            AV.rof (A.N j) (fun (i : Nat) => AV.agg [AV.int IntKind.i64 (A.P j i), AV.int IntKind.i64 (A.V j i)]) false, AV.str (A.M j)]).B
                                                    j),
                                                AV.int IntKind.u64
                                                  ((atsOf fun (j : Nat) =>
                                                        AV.agg
                                                          [AV.int IntKind.i64 (A.K j), AV.bool (A.B j), AV.int IntKind.u64 (A.O j),
                                                            AV.rof (A.N j) (fun (i : Nat) => AV.agg [AV.int IntKind.i64 (A.P j i), AV.int IntKind.i64 (A.V j i)]) false, AV.str (A.M j)]).O
                                                    j),
                                                AV.rof
                                                  ((atsOf fun (j : Nat) =>
                                                        AV.agg
                                                          [AV.int IntKind.i64 (A.K j), AV.bool (A.B j), AV.int IntKind.u64 (A.O j),
                                                            AV.rof (A.N j) (fun (i : Nat) => AV.agg [AV.int IntKind.i64 (A.P j i), AV.int IntKind.i64 (A.V j i)]) false, AV.str (A.M j)]).N
                                                    j)
                                                  (fun (i : Nat) =>
                                                    AV.agg
                                                      [AV.int IntKind.i64
                                                          ((atsOf fun (j : Nat) =>
                                                                AV.agg
                                                                  [AV.int IntKind.i64 (A.K j), AV.bool (A.B j), AV.int IntKind.u64 (A.O j),
                                                                    AV.rof (A.N j) (fun (i : Nat) => AV.agg [AV.int IntKind.i64 (A.P j i), AV.int IntKind.i64 (A.V j i)]) false, AV.str (A.M j)]).P
                                                            j i),
                                                        AV.int IntKind.i64
                                                          ((atsOf fun (j : Nat) =>
                                                                AV.agg
                                                                  [AV.int IntKind.i64 (A.K j), AV.bool (A.B j), AV.int IntKind.u64 (A.O j),
                                                                    AV.rof (A.N j) (fun (i : Nat) => AV.agg [AV.int IntKind.i64 (A.P j i), AV.int IntKind.i64 (A.V j i)]) false, AV.str (A.M j)]).V
                                                            j i)])
                                                  false,
                                                AV.str
                                                  ((atsOf fun (j : Nat) =>
                                                        AV.agg
                                                          [AV.int IntKind.i64 (A.K j), AV.bool (A.B j), AV.int IntKind.u64 (A.O j),
                                                            AV.rof (A.N j) (fun (i : Nat) => AV.agg [AV.int IntKind.i64 (A.P j i), AV.int IntKind.i64 (A.V j i)]) false, AV.str (A.M j)]).M
                                                    j)])
                                          m ek ==
                                        allE
                                          (atsOf fun (j : Nat) =>
                                            AV.agg
                                              [AV.int IntKind.i64 (A.K j), AV.bool (A.B j), AV.int IntKind.u64 (A.O j),
                                                AV.rof (A.N j) (fun (i : Nat) => AV.agg [AV.int IntKind.i64 (A.P j i), AV.int IntKind.i64 (A.V j i)]) false, AV.str (A.M j)])
                                          m ek &&
                                    anyB
                                        (atsOf fun (j : Nat) =>
                                          AV.agg
                                            [AV.int IntKind.i64
                                                ((atsOf fun (j : Nat) =>
                                                      AV.agg
                                                        [AV.int IntKind.i64 (A.K j), AV.bool (A.B j), AV.int IntKind.u64 (A.O j),
                                                          AV.rof (A.N j) (fun (i : Nat) => AV.agg [AV.int IntKind.i64 (A.P j i), AV.int IntKind.i64 (A.V j i)]) false, AV.str (A.M j)]).K
                                                  j),
                                              AV.bool
                                                ((atsOf fun (j : Nat) =>
                                                      AV.agg
                                                        [AV.int IntKind.i64 (A.K j), AV.bool (A.B j), AV.int IntKind.u64 (A.O j),
                                                          AV.rof (A.N j) (fun (i : Nat) => AV.agg [AV.int IntKind.i64 (A.P j i), AV.int IntKind.i64 (A.V j i)]) false, AV.str (A.M j)]).B
                                                  j),
                                              AV.int IntKind.u64
                                                ((atsOf fun (j : Nat) =>
                                                      AV.agg
                                                        [AV.int IntKind.i64 (A.K j), AV.bool (A.B j), AV.int IntKind.u64 (A.O j),
                                                          AV.rof (A.N j) (fun (i : Nat) => AV.agg [AV.int IntKind.i64 (A.P j i), AV.int IntKind.i64 (A.V j i)]) false, AV.str (A.M j)]).O
                                                  j),
                                              AV.rof
                                                ((atsOf fun (j : Nat) =>
                                                      AV.agg
                                                        [AV.int IntKind.i64 (A.K j), AV.bool (A.B j), AV.int IntKind.u64 (A.O j),
                                                          AV.rof (A.N j) (fun (i : Nat) => AV.agg [AV.int IntKind.i64 (A.P j i), AV.int IntKind.i64 (A.V j i)]) false, AV.str (A.M j)]).N
                                                  j)
                                                (fun (i : Nat) =>
                                                  AV.agg
                                                    [AV.int IntKind.i64
                                                        ((atsOf fun (j : Nat) =>
                                                              AV.agg
                                                                [AV.int IntKind.i64 (A.K j), AV.bool (A.B j), AV.int IntKind.u64 (A.O j),
                                                                  AV.rof (A.N j) (fun (i : Nat) => AV.agg [AV.int IntKind.i64 (A.P j i), AV.int IntKind.i64 (A.V j i)]) false, AV.str (A.M j)]).P
                                                          j i),
                                                      AV.int IntKind.i64
                                                        ((atsOf fun (j : Nat) =>
                                                              AV.agg
                                                                [AV.int IntKind.i64 (A.K j), AV.bool (A.B j), AV.int IntKind.u64 (A.O j),
                                                                  AV.rof (A.N j) (fun (i : Nat) => AV.agg [AV.int IntKind.i64 (A.P j i), AV.int IntKind.i64 (A.V j i)]) false, AV.str (A.M j)]).V
                                                          j i)])
                                                false,
                                              AV.str
                                                ((atsOf fun (j : Nat) =>
                                                      AV.agg
                                                        [AV.int IntKind.i64 (A.K j), AV.bool (A.B j), AV.int IntKind.u64 (A.O j),
                                                          AV.rof (A.N j) (fun (i : Nat) => AV.agg [AV.int IntKind.i64 (A.P j i), AV.int IntKind.i64 (A.V j i)]) false, AV.str (A.M j)]).M
                                                  j)])
                                        m (fun (k : Nat) => iOf (AV.int IntKind.i64 (iOf (AV.int IntKind.i64 (w k))))) c l ek x ==
                                      anyB
                                        (atsOf fun (j : Nat) =>
                                          AV.agg
                                            [AV.int IntKind.i64 (A.K j), AV.bool (A.B j), AV.int IntKind.u64 (A.O j),
                                              AV.rof (A.N j) (fun (i : Nat) => AV.agg [AV.int IntKind.i64 (A.P j i), AV.int IntKind.i64 (A.V j i)]) false, AV.str (A.M j)])
                                        m (fun (k : Nat) => iOf (AV.int IntKind.i64 (w k))) c l ek x &&
                                  anyE
                                      (atsOf fun (j : Nat) =>
                                        AV.agg
                                          [AV.int IntKind.i64
                                              ((atsOf fun (j : Nat) =>
                                                    AV.agg
                                                      [AV.int IntKind.i64 (A.K j), AV.bool (A.B j), AV.int IntKind.u64 (A.O j),
                                                        AV.rof (A.N j) (fun (i : Nat) => AV.agg [AV.int IntKind.i64 (A.P j i), AV.int IntKind.i64 (A.V j i)]) false, AV.str (A.M j)]).K
                                                j),
                                            AV.bool
                                              ((atsOf fun (j : Nat) =>
                                                    AV.agg
                                                      [AV.int IntKind.i64 (A.K j), AV.bool (A.B j), AV.int IntKind.u64 (A.O j),
                                                        AV.rof (A.N j) (fun (i : Nat) => AV.agg [AV.int IntKind.i64 (A.P j i), AV.int IntKind.i64 (A.V j i)]) false, AV.str (A.M j)]).B
                                                j),
                                            AV.int IntKind.u64
                                              ((atsOf fun (j : Nat) =>
                                                    AV.agg
                                                      [AV.int IntKind.i64 (A.K j), AV.bool (A.B j), AV.int IntKind.u64 (A.O j),
                                                        AV.rof (A.N j) (fun (i : Nat) => AV.agg [AV.int IntKind.i64 (A.P j i), AV.int IntKind.i64 (A.V j i)]) false, AV.str (A.M j)]).O
                                                j),
                                            AV.rof
                                              ((atsOf fun (j : Nat) =>
                                                    AV.agg
                                                      [AV.int IntKind.i64 (A.K j), AV.bool (A.B j), AV.int IntKind.u64 (A.O j),
                                                        AV.rof (A.N j) (fun (i : Nat) => AV.agg [AV.int IntKind.i64 (A.P j i), AV.int IntKind.i64 (A.V j i)]) false, AV.str (A.M j)]).N
                                                j)
                                              (fun (i : Nat) =>
                                                AV.agg
                                                  [AV.int IntKind.i64
                                                      ((atsOf fun (j : Nat) =>
                                                            AV.agg
                                                              [AV.int IntKind.i64 (A.K j), AV.bool (A.B j), AV.int IntKind.u64 (A.O j),
                                                                AV.rof (A.N j) (fun (i : Nat) => AV.agg [AV.int IntKind.i64 (A.P j i), AV.int IntKind.i64 (A.V j i)]) false, AV.str (A.M j)]).P
                                                        j i),
                                                    AV.int IntKind.i64
                                                      ((atsOf fun (j : Nat) =>
                                                            AV.agg
                                                              [AV.int IntKind.i64 (A.K j), AV.bool (A.B j), AV.int IntKind.u64 (A.O j),
                                                                AV.rof (A.N j) (fun (i : Nat) => AV.agg [AV.int IntKind.i64 (A.P j i), AV.int IntKind.i64 (A.V j i)]) false, AV.str (A.M j)]).V
                                                        j i)])
                                              false,
                                            AV.str
                                              ((atsOf fun (j : Nat) =>
                                                    AV.agg
                                                      [AV.int IntKind.i64 (A.K j), AV.bool (A.B j), AV.int IntKind.u64 (A.O j),
                                                        AV.rof (A.N j) (fun (i : Nat) => AV.agg [AV.int IntKind.i64 (A.P j i), AV.int IntKind.i64 (A.V j i)]) false, AV.str (A.M j)]).M
                                                j)])
                                      m (fun (k : Nat) => iOf (AV.int IntKind.i64 (iOf (AV.int IntKind.i64 (w k))))) c ek ==
                                    anyE
                                      (atsOf fun (j : Nat) =>
                                        AV.agg
                                          [AV.int IntKind.i64 (A.K j), AV.bool (A.B j), AV.int IntKind.u64 (A.O j),
                                            AV.rof (A.N j) (fun (i : Nat) => AV.agg [AV.int IntKind.i64 (A.P j i), AV.int IntKind.i64 (A.V j i)]) false, AV.str (A.M j)])
                                      m (fun (k : Nat) => iOf (AV.int IntKind.i64 (w k))) c ek))
                              (((decide (m ≤ (1000000 : Nat)) && decide (m = m) &&
                                      atsB m fun (j : Nat) =>
                                        AV.agg
                                          [AV.int IntKind.i64
                                              ((atsOf fun (j : Nat) =>
                                                    AV.agg
                                                      [AV.int IntKind.i64 (A.K j), AV.bool (A.B j), AV.int IntKind.u64 (A.O j),
                                                        AV.rof (A.N j) (fun (i : Nat) => AV.agg [AV.int IntKind.i64 (A.P j i), AV.int IntKind.i64 (A.V j i)]) false, AV.str (A.M j)]).K
                                                j),
                                            AV.bool
                                              ((atsOf fun (j : Nat) =>
                                                    AV.agg
                                                      [AV.int IntKind.i64 (A.K j), AV.bool (A.B j), AV.int IntKind.u64 (A.O j),
                                                        AV.rof (A.N j) (fun (i : Nat) => AV.agg [AV.int IntKind.i64 (A.P j i), AV.int IntKind.i64 (A.V j i)]) false, AV.str (A.M j)]).B
                                                j),
                                            AV.int IntKind.u64
                                              ((atsOf fun (j : Nat) =>
                                                    AV.agg
                                                      [AV.int IntKind.i64 (A.K j), AV.bool (A.B j), AV.int IntKind.u64 (A.O j),
                                                        AV.rof (A.N j) (fun (i : Nat) => AV.agg [AV.int IntKind.i64 (A.P j i), AV.int IntKind.i64 (A.V j i)]) false, AV.str (A.M j)]).O
                                                j),
                                            AV.rof
                                              ((atsOf fun (j : Nat) =>
                                                    AV.agg
                                                      [AV.int IntKind.i64 (A.K j), AV.bool (A.B j), AV.int IntKind.u64 (A.O j),
                                                        AV.rof (A.N j) (fun (i : Nat) => AV.agg [AV.int IntKind.i64 (A.P j i), AV.int IntKind.i64 (A.V j i)]) false, AV.str (A.M j)]).N
                                                j)
                                              (fun (i : Nat) =>
                                                AV.agg
                                                  [AV.int IntKind.i64
                                                      ((atsOf fun (j : Nat) =>
                                                            AV.agg
                                                              [AV.int IntKind.i64 (A.K j), AV.bool (A.B j), AV.int IntKind.u64 (A.O j),
                                                                AV.rof (A.N j) (fun (i : Nat) => AV.agg [AV.int IntKind.i64 (A.P j i), AV.int IntKind.i64 (A.V j i)]) false, AV.str (A.M j)]).P
                                                        j i),
                                                    AV.int IntKind.i64
                                                      ((atsOf fun (j : Nat) =>
                                                            AV.agg
                                                              [AV.int IntKind.i64 (A.K j), AV.bool (A.B j), AV.int IntKind.u64 (A.O j),
                                                                AV.rof (A.N j) (fun (i : Nat) => AV.agg [AV.int IntKind.i64 (A.P j i), AV.int IntKind.i64 (A.V j i)]) false, AV.str (A.M j)]).V
                                                        j i)])
                                              false,
                                            AV.str
                                              ((atsOf fun (j : Nat) =>
                                                    AV.agg
                                                      [AV.int IntKind.i64 (A.K j), AV.bool (A.B j), AV.int IntKind.u64 (A.O j),
                                                        AV.rof (A.N j) (fun (i : Nat) => AV.agg [AV.int IntKind.i64 (A.P j i), AV.int IntKind.i64 (A.V j i)]) false, AV.str (A.M j)]).M
                                                j)]) &&
                                    atsB m fun (j : Nat) =>
                                      AV.agg
                                        [AV.int IntKind.i64 (A.K j), AV.bool (A.B j), AV.int IntKind.u64 (A.O j), AV.rof (A.N j) (fun (i : Nat) => AV.agg [AV.int IntKind.i64 (A.P j i), AV.int IntKind.i64 (A.V j i)]) false,
                                          AV.str (A.M j)]) &&
                                  smAts m
                                    (atsOf fun (j : Nat) =>
                                      AV.agg
                                        [AV.int IntKind.i64
                                            ((atsOf fun (j : Nat) =>
                                                  AV.agg
                                                    [AV.int IntKind.i64 (A.K j), AV.bool (A.B j), AV.int IntKind.u64 (A.O j),
                                                      AV.rof (A.N j) (fun (i : Nat) => AV.agg [AV.int IntKind.i64 (A.P j i), AV.int IntKind.i64 (A.V j i)]) false, AV.str (A.M j)]).K
                                              j),
                                          AV.bool
                                            ((atsOf fun (j : Nat) =>
                                                  AV.agg
                                                    [AV.int IntKind.i64 (A.K j), AV.bool (A.B j), AV.int IntKind.u64 (A.O j),
                                                      AV.rof (A.N j) (fun (i : Nat) => AV.agg [AV.int IntKind.i64 (A.P j i), AV.int IntKind.i64 (A.V j i)]) false, AV.str (A.M j)]).B
                                              j),
                                          AV.int IntKind.u64
                                            ((atsOf fun (j : Nat) =>
                                                  AV.agg
                                                    [AV.int IntKind.i64 (A.K j), AV.bool (A.B j), AV.int IntKind.u64 (A.O j),
                                                      AV.rof (A.N j) (fun (i : Nat) => AV.agg [AV.int IntKind.i64 (A.P j i), AV.int IntKind.i64 (A.V j i)]) false, AV.str (A.M j)]).O
                                              j),
                                          AV.rof
                                            ((atsOf fun (j : Nat) =>
                                                  AV.agg
                                                    [AV.int IntKind.i64 (A.K j), AV.bool (A.B j), AV.int IntKind.u64 (A.O j),
                                                      AV.rof (A.N j) (fun (i : Nat) => AV.agg [AV.int IntKind.i64 (A.P j i), AV.int IntKind.i64 (A.V j i)]) false, AV.str (A.M j)]).N
                                              j)
                                            (fun (i : Nat) =>
                                              AV.agg
                                                [AV.int IntKind.i64
                                                    ((atsOf fun (j : Nat) =>
                                                          AV.agg
                                                            [AV.int IntKind.i64 (A.K j), AV.bool (A.B j), AV.int IntKind.u64 (A.O j),
                                                              AV.rof (A.N j) (fun (i : Nat) => AV.agg [AV.int IntKind.i64 (A.P j i), AV.int IntKind.i64 (A.V j i)]) false, AV.str (A.M j)]).P
                                                      j i),
                                                  AV.int IntKind.i64
                                                    ((atsOf fun (j : Nat) =>
                                                          AV.agg
                                                            [AV.int IntKind.i64 (A.K j), AV.bool (A.B j), AV.int IntKind.u64 (A.O j),
                                                              AV.rof (A.N j) (fun (i : Nat) => AV.agg [AV.int IntKind.i64 (A.P j i), AV.int IntKind.i64 (A.V j i)]) false, AV.str (A.M j)]).V
                                                      j i)])
                                            false,
                                          AV.str
                                            ((atsOf fun (j : Nat) =>
                                                  AV.agg
                                                    [AV.int IntKind.i64 (A.K j), AV.bool (A.B j), AV.int IntKind.u64 (A.O j),
                                                      AV.rof (A.N j) (fun (i : Nat) => AV.agg [AV.int IntKind.i64 (A.P j i), AV.int IntKind.i64 (A.V j i)]) false, AV.str (A.M j)]).M
                                              j)]) &&
                                eqAts
                                  (atsOf fun (j : Nat) =>
                                    AV.agg
                                      [AV.int IntKind.i64
                                          ((atsOf fun (j : Nat) =>
                                                AV.agg
                                                  [AV.int IntKind.i64 (A.K j), AV.bool (A.B j), AV.int IntKind.u64 (A.O j),
                                                    AV.rof (A.N j) (fun (i : Nat) => AV.agg [AV.int IntKind.i64 (A.P j i), AV.int IntKind.i64 (A.V j i)]) false, AV.str (A.M j)]).K
                                            j),
                                        AV.bool
                                          ((atsOf fun (j : Nat) =>
                                                AV.agg
                                                  [AV.int IntKind.i64 (A.K j), AV.bool (A.B j), AV.int IntKind.u64 (A.O j),
                                                    AV.rof (A.N j) (fun (i : Nat) => AV.agg [AV.int IntKind.i64 (A.P j i), AV.int IntKind.i64 (A.V j i)]) false, AV.str (A.M j)]).B
                                            j),
                                        AV.int IntKind.u64
                                          ((atsOf fun (j : Nat) =>
                                                AV.agg
                                                  [AV.int IntKind.i64 (A.K j), AV.bool (A.B j), AV.int IntKind.u64 (A.O j),
                                                    AV.rof (A.N j) (fun (i : Nat) => AV.agg [AV.int IntKind.i64 (A.P j i), AV.int IntKind.i64 (A.V j i)]) false, AV.str (A.M j)]).O
                                            j),
                                        AV.rof
                                          ((atsOf fun (j : Nat) =>
                                                AV.agg
                                                  [AV.int IntKind.i64 (A.K j), AV.bool (A.B j), AV.int IntKind.u64 (A.O j),
                                                    AV.rof (A.N j) (fun (i : Nat) => AV.agg [AV.int IntKind.i64 (A.P j i), AV.int IntKind.i64 (A.V j i)]) false, AV.str (A.M j)]).N
                                            j)
                                          (fun (i : Nat) =>
                                            AV.agg
                                              [AV.int IntKind.i64
                                                  ((atsOf fun (j : Nat) =>
                                                        AV.agg
                                                          [AV.int IntKind.i64 (A.K j), AV.bool (A.B j), AV.int IntKind.u64 (A.O j),
                                                            AV.rof (A.N j) (fun (i : Nat) => AV.agg [AV.int IntKind.i64 (A.P j i), AV.int IntKind.i64 (A.V j i)]) false, AV.str (A.M j)]).P
                                                    j i),
                                                AV.int IntKind.i64
                                                  ((atsOf fun (j : Nat) =>
                                                        AV.agg
                                                          [AV.int IntKind.i64 (A.K j), AV.bool (A.B j), AV.int IntKind.u64 (A.O j),
                                                            AV.rof (A.N j) (fun (i : Nat) => AV.agg [AV.int IntKind.i64 (A.P j i), AV.int IntKind.i64 (A.V j i)]) false, AV.str (A.M j)]).V
                                                    j i)])
                                          false,
                                        AV.str
                                          ((atsOf fun (j : Nat) =>
                                                AV.agg
                                                  [AV.int IntKind.i64 (A.K j), AV.bool (A.B j), AV.int IntKind.u64 (A.O j),
                                                    AV.rof (A.N j) (fun (i : Nat) => AV.agg [AV.int IntKind.i64 (A.P j i), AV.int IntKind.i64 (A.V j i)]) false, AV.str (A.M j)]).M
                                            j)])
                                  (atsOf fun (j : Nat) =>
                                    AV.agg
                                      [AV.int IntKind.i64 (A.K j), AV.bool (A.B j), AV.int IntKind.u64 (A.O j), AV.rof (A.N j) (fun (i : Nat) => AV.agg [AV.int IntKind.i64 (A.P j i), AV.int IntKind.i64 (A.V j i)]) false,
                                        AV.str (A.M j)])))
                            (NB
                              (impB
                                (isW true
                                  (true &&
                                          allE
                                              (atsOf fun (j : Nat) =>
                                                AV.agg
                                                  [AV.int IntKind.i64
                                                      ((atsOf fun (j : Nat) =>
                                                            AV.agg
                                                              [AV.int IntKind.i64 (A.K j), AV.bool (A.B j), AV.int IntKind.u64 (A.O j),
                                                                AV.rof (A.N j) (fun (i : Nat) => AV.agg [AV.int IntKind.i64 (A.P j i), AV.int IntKind.i64 (A.V j i)]) false, AV.str (A.M j)]).K
                                                        j),
                                                    AV.bool
                                                      ((atsOf fun (j : Nat) =>
                                                            AV.agg
                                                              [AV.int IntKind.i64 (A.K j), AV.bool (A.B j), AV.int IntKind.u64 (A.O j),
                                                                AV.rof (A.N j) (fun (i : Nat) => AV.agg [AV.int IntKind.i64 (A.P j i), AV.int IntKind.i64 (A.V j i)]) false, AV.str (A.M j)]).B
                                                        j),
                                                    AV.int IntKind.u64
                                                      ((atsOf fun (j : Nat) =>
                                                            AV.agg
                                                              [AV.int IntKind.i64 (A.K j), AV.bool (A.B j), AV.int IntKind.u64 (A.O j),
                                                                AV.rof (A.N j) (fun (i : Nat) => AV.agg [AV.int IntKind.i64 (A.P j i), AV.int IntKind.i64 (A.V j i)]) false, AV.str (A.M j)]).O
                                                        j),
                                                    AV.rof
                                                      ((atsOf fun (j : Nat) =>
                                                            AV.agg
                                                              [AV.int IntKind.i64 (A.K j), AV.bool (A.B j), AV.int IntKind.u64 (A.O j),
                                                                AV.rof (A.N j) (fun (i : Nat) => AV.agg [AV.int IntKind.i64 (A.P j i), AV.int IntKind.i64 (A.V j i)]) false, AV.str (A.M j)]).N
                                                        j)
                                                      (fun (i : Nat) =>
                                                        AV.agg
                                                          [AV.int IntKind.i64
                                                              ((atsOf fun (j : Nat) =>
                                                                    AV.agg
                                                                      [AV.int IntKind.i64 (A.K j), AV.bool (A.B j), AV.int IntKind.u64 (A.O j),
                                                                        AV.rof (A.N j) (fun (i : Nat) => AV.agg [AV.int IntKind.i64 (A.P j i), AV.int IntKind.i64 (A.V j i)]) false, AV.str (A.M j)]).P
                                                                j i),
                                                            AV.int IntKind.i64
                                                              ((atsOf fun (j : Nat) =>
                                                                    AV.agg
                                                                      [AV.int IntKind.i64 (A.K j), AV.bool (A.B j), AV.int IntKind.u64 (A.O j),
                                                                        AV.rof (A.N j) (fun (i : Nat) => AV.agg [AV.int IntKind.i64 (A.P j i), AV.int IntKind.i64 (A.V j i)]) false, AV.str (A.M j)]).V
                                                                j i)])
                                                      false,
                                                    AV.str
                                                      ((atsOf fun (j : Nat) =>
                                                            AV.agg
                                                              [AV.int IntKind.i64 (A.K j), AV.bool (A.B j), AV.int IntKind.u64 (A.O j),
                                                                AV.rof (A.N j) (fun (i : Nat) => AV.agg [AV.int IntKind.i64 (A.P j i), AV.int IntKind.i64 (A.V j i)]) false, AV.str (A.M j)]).M
                                                        j)])
                                              m ek ==
                                            allE
                                              (atsOf fun (j : Nat) =>
                                                AV.agg
                                                  [AV.int IntKind.i64 (A.K j), AV.bool (A.B j), AV.int IntKind.u64 (A.O j),
                                                    AV.rof (A.N j) (fun (i : Nat) => AV.agg [AV.int IntKind.i64 (A.P j i), AV.int IntKind.i64 (A.V j i)]) false, AV.str (A.M j)])
                                              m ek &&
                                        anyB
                                            (atsOf fun (j : Nat) =>
                                              AV.agg
                                                [AV.int IntKind.i64
                                                    ((atsOf fun (j : Nat) =>
                                                          AV.agg
                                                            [AV.int IntKind.i64 (A.K j), AV.bool (A.B j), AV.int IntKind.u64 (A.O j),
                                                              AV.rof (A.N j) (fun (i : Nat) => AV.agg [AV.int IntKind.i64 (A.P j i), AV.int IntKind.i64 (A.V j i)]) false, AV.str (A.M j)]).K
                                                      j),
                                                  AV.bool
                                                    ((atsOf fun (j : Nat) =>
                                                          AV.agg
                                                            [AV.int IntKind.i64 (A.K j), AV.bool (A.B j), AV.int IntKind.u64 (A.O j),
                                                              AV.rof (A.N j) (fun (i : Nat) => AV.agg [AV.int IntKind.i64 (A.P j i), AV.int IntKind.i64 (A.V j i)]) false, AV.str (A.M j)]).B
                                                      j),
                                                  AV.int IntKind.u64
                                                    ((atsOf fun (j : Nat) =>
                                                          AV.agg
                                                            [AV.int IntKind.i64 (A.K j), AV.bool (A.B j), AV.int IntKind.u64 (A.O j),
                                                              AV.rof (A.N j) (fun (i : Nat) => AV.agg [AV.int IntKind.i64 (A.P j i), AV.int IntKind.i64 (A.V j i)]) false, AV.str (A.M j)]).O
                                                      j),
                                                  AV.rof
                                                    ((atsOf fun (j : Nat) =>
                                                          AV.agg
                                                            [AV.int IntKind.i64 (A.K j), AV.bool (A.B j), AV.int IntKind.u64 (A.O j),
                                                              AV.rof (A.N j) (fun (i : Nat) => AV.agg [AV.int IntKind.i64 (A.P j i), AV.int IntKind.i64 (A.V j i)]) false, AV.str (A.M j)]).N
                                                      j)
                                                    (fun (i : Nat) =>
                                                      AV.agg
                                                        [AV.int IntKind.i64
                                                            ((atsOf fun (j : Nat) =>
                                                                  AV.agg
                                                                    [AV.int IntKind.i64 (A.K j), AV.bool (A.B j), AV.int IntKind.u64 (A.O j),
                                                                      AV.rof (A.N j) (fun (i : Nat) => AV.agg [AV.int IntKind.i64 (A.P j i), AV.int IntKind.i64 (A.V j i)]) false, AV.str (A.M j)]).P
                                                              j i),
                                                          AV.int IntKind.i64
                                                            ((atsOf fun (j : Nat) =>
                                                                  AV.agg
                                                                    [AV.int IntKind.i64 (A.K j), AV.bool (A.B j), AV.int IntKind.u64 (A.O j),
                                                                      AV.rof (A.N j) (fun (i : Nat) => AV.agg [AV.int IntKind.i64 (A.P j i), AV.int IntKind.i64 (A.V j i)]) false, AV.str (A.M j)]).V
                                                              j i)])
                                                    false,
                                                  AV.str
                                                    ((atsOf fun (j : Nat) =>
                                                          AV.agg
                                                            [AV.int IntKind.i64 (A.K j), AV.bool (A.B j), AV.int IntKind.u64 (A.O j),
                                                              AV.rof (A.N j) (fun (i : Nat) => AV.agg [AV.int IntKind.i64 (A.P j i), AV.int IntKind.i64 (A.V j i)]) false, AV.str (A.M j)]).M
                                                      j)])
                                            m (fun (k : Nat) => iOf (AV.int IntKind.i64 (iOf (AV.int IntKind.i64 (w k))))) c l ek x ==
                                          anyB
                                            (atsOf fun (j : Nat) =>
                                              AV.agg
                                                [AV.int IntKind.i64 (A.K j), AV.bool (A.B j), AV.int IntKind.u64 (A.O j),
                                                  AV.rof (A.N j) (fun (i : Nat) => AV.agg [AV.int IntKind.i64 (A.P j i), AV.int IntKind.i64 (A.V j i)]) false, AV.str (A.M j)])
                                            m (fun (k : Nat) => iOf (AV.int IntKind.i64 (w k))) c l ek x &&
                                      anyE
                                          (atsOf fun (j : Nat) =>
                                            AV.agg
                                              [AV.int IntKind.i64
                                                  ((atsOf fun (j : Nat) =>
                                                        AV.agg
                                                          [AV.int IntKind.i64 (A.K j), AV.bool (A.B j), AV.int IntKind.u64 (A.O j),
                                                            AV.rof (A.N j) (fun (i : Nat) => AV.agg [AV.int IntKind.i64 (A.P j i), AV.int IntKind.i64 (A.V j i)]) false, AV.str (A.M j)]).K
                                                    j),
                                                AV.bool
                                                  ((atsOf fun (j : Nat) =>
                                                        AV.agg
                                                          [AV.int IntKind.i64 (A.K j), AV.bool (A.B j), AV.int IntKind.u64 (A.O j),
                                                            AV.rof (A.N j) (fun (i : Nat) => AV.agg [AV.int IntKind.i64 (A.P j i), AV.int IntKind.i64 (A.V j i)]) false, AV.str (A.M j)]).B
                                                    j),
                                                AV.int IntKind.u64
                                                  ((atsOf fun (j : Nat) =>
                                                        AV.agg
                                                          [AV.int IntKind.i64 (A.K j), AV.bool (A.B j), AV.int IntKind.u64 (A.O j),
                                                            AV.rof (A.N j) (fun (i : Nat) => AV.agg [AV.int IntKind.i64 (A.P j i), AV.int IntKind.i64 (A.V j i)]) false, AV.str (A.M j)]).O
                                                    j),
                                                AV.rof
                                                  ((atsOf fun (j : Nat) =>
                                                        AV.agg
                                                          [AV.int IntKind.i64 (A.K j), AV.bool (A.B j), AV.int IntKind.u64 (A.O j),
                                                            AV.rof (A.N j) (fun (i : Nat) => AV.agg [AV.int IntKind.i64 (A.P j i), AV.int IntKind.i64 (A.V j i)]) false, AV.str (A.M j)]).N
                                                    j)
                                                  (fun (i : Nat) =>
                                                    AV.agg
                                                      [AV.int IntKind.i64
                                                          ((atsOf fun (j : Nat) =>
                                                                AV.agg
                                                                  [AV.int IntKind.i64 (A.K j), AV.bool (A.B j), AV.int IntKind.u64 (A.O j),
                                                                    AV.rof (A.N j) (fun (i : Nat) => AV.agg [AV.int IntKind.i64 (A.P j i), AV.int IntKind.i64 (A.V j i)]) false, AV.str (A.M j)]).P
                                                            j i),
                                                        AV.int IntKind.i64
                                                          ((atsOf fun (j : Nat) =>
                                                                AV.agg
                                                                  [AV.int IntKind.i64 (A.K j), AV.bool (A.B j), AV.int IntKind.u64 (A.O j),
                                                                    AV.rof (A.N j) (fun (i : Nat) => AV.agg [AV.int IntKind.i64 (A.P j i), AV.int IntKind.i64 (A.V j i)]) false, AV.str (A.M j)]).V
                                                            j i)])
                                                  false,
                                                AV.str
                                                  ((atsOf fun (j : Nat) =>
                                                        AV.agg
                                                          [AV.int IntKind.i64 (A.K j), AV.bool (A.B j), AV.int IntKind.u64 (A.O j),
                                                            AV.rof (A.N j) (fun (i : Nat) => AV.agg [AV.int IntKind.i64 (A.P j i), AV.int IntKind.i64 (A.V j i)]) false, AV.str (A.M j)]).M
                                                    j)])
                                          m (fun (k : Nat) => iOf (AV.int IntKind.i64 (iOf (AV.int IntKind.i64 (w k))))) c ek ==
                                        anyE
                                          (atsOf fun (j : Nat) =>
                                            AV.agg
                                              [AV.int IntKind.i64 (A.K j), AV.bool (A.B j), AV.int IntKind.u64 (A.O j),
                                                AV.rof (A.N j) (fun (i : Nat) => AV.agg [AV.int IntKind.i64 (A.P j i), AV.int IntKind.i64 (A.V j i)]) false, AV.str (A.M j)])
                                          m (fun (k : Nat) => iOf (AV.int IntKind.i64 (w k))) c ek &&
                                    true))
                                (((decide (c ≤ (1000000 : Nat)) && decide (c = c) && intsB c fun (k : Nat) => AV.int IntKind.i64 (iOf (AV.int IntKind.i64 (w k)))) && intsB c fun (k : Nat) => AV.int IntKind.i64 (w k)) &&
                                  eqFn (fun (k : Nat) => iOf (AV.int IntKind.i64 (iOf (AV.int IntKind.i64 (w k))))) fun (k : Nat) => iOf (AV.int IntKind.i64 (w k))))
                              (((true &&
                                              allE
                                                  (atsOf fun (j : Nat) =>
                                                    AV.agg
                                                      [AV.int IntKind.i64
                                                          ((atsOf fun (j : Nat) =>
                                                                AV.agg
                                                                  [AV.int IntKind.i64 (A.K j), AV.bool (A.B j), AV.int IntKind.u64 (A.O j),
                                                                    AV.rof (A.N j) (fun (i : Nat) => AV.agg [AV.int IntKind.i64 (A.P j i), AV.int IntKind.i64 (A.V j i)]) false, AV.str (A.M j)]).K
                                                            j),
                                                        AV.bool
                                                          ((atsOf fun (j : Nat) =>
                                                                AV.agg
                                                                  [AV.int IntKind.i64 (A.K j), AV.bool (A.B j), AV.int IntKind.u64 (A.O j),
                                                                    AV.rof (A.N j) (fun (i : Nat) => AV.agg [AV.int IntKind.i64 (A.P j i), AV.int IntKind.i64 (A.V j i)]) false, AV.str (A.M j)]).B
                                                            j),
                                                        AV.int IntKind.u64
                                                          ((atsOf fun (j : Nat) =>
                                                                AV.agg
                                                                  [AV.int IntKind.i64 (A.K j), AV.bool (A.B j), AV.int IntKind.u64 (A.O j),
                                                                    AV.rof (A.N j) (fun (i : Nat) => AV.agg [AV.int IntKind.i64 (A.P j i), AV.int IntKind.i64 (A.V j i)]) false, AV.str (A.M j)]).O
                                                            j),
                                                        AV.rof
                                                          ((atsOf fun (j : Nat) =>
                                                                AV.agg
                                                                  [AV.int IntKind.i64 (A.K j), AV.bool (A.B j), AV.int IntKind.u64 (A.O j),
                                                                    AV.rof (A.N j) (fun (i : Nat) => AV.agg [AV.int IntKind.i64 (A.P j i), AV.int IntKind.i64 (A.V j i)]) false, AV.str (A.M j)]).N
                                                            j)
                                                          (fun (i : Nat) =>
                                                            AV.agg
                                                              [AV.int IntKind.i64
                                                                  ((atsOf fun (j : Nat) =>
                                                                        AV.agg
                                                                          [AV.int IntKind.i64 (A.K j), AV.bool (A.B j), AV.int IntKind.u64 (A.O j),
                                                                            AV.rof (A.N j) (fun (i : Nat) => AV.agg [AV.int IntKind.i64 (A.P j i), AV.int IntKind.i64 (A.V j i)]) false, AV.str (A.M j)]).P
                                                                    j i),
                                                                AV.int IntKind.i64
                                                                  ((atsOf fun (j : Nat) =>
                                                                        AV.agg
                                                                          [AV.int IntKind.i64 (A.K j), AV.bool (A.B j), AV.int IntKind.u64 (A.O j),
                                                                            AV.rof (A.N j) (fun (i : Nat) => AV.agg [AV.int IntKind.i64 (A.P j i), AV.int IntKind.i64 (A.V j i)]) false, AV.str (A.M j)]).V
                                                                    j i)])
                                                          false,
                                                        AV.str
                                                          ((atsOf fun (j : Nat) =>
                                                                AV.agg
                                                                  [AV.int IntKind.i64 (A.K j), AV.bool (A.B j), AV.int IntKind.u64 (A.O j),
                                                                    AV.rof (A.N j) (fun (i : Nat) => AV.agg [AV.int IntKind.i64 (A.P j i), AV.int IntKind.i64 (A.V j i)]) false, AV.str (A.M j)]).M
                                                            j)])
                                                  m ek ==
                                                allE
                                                  (atsOf fun (j : Nat) =>
                                                    AV.agg
                                                      [AV.int IntKind.i64 (A.K j), AV.bool (A.B j), AV.int IntKind.u64 (A.O j),
                                                        AV.rof (A.N j) (fun (i : Nat) => AV.agg [AV.int IntKind.i64 (A.P j i), AV.int IntKind.i64 (A.V j i)]) false, AV.str (A.M j)])
                                                  m ek &&
                                            anyB
                                                (atsOf fun (j : Nat) =>
                                                  AV.agg
                                                    [AV.int IntKind.i64
                                                        ((atsOf fun (j : Nat) =>
                                                              AV.agg
                                                                [AV.int IntKind.i64 (A.K j), AV.bool (A.B j), AV.int IntKind.u64 (A.O j),
                                                                  AV.rof (A.N j) (fun (i : Nat) => AV.agg [AV.int IntKind.i64 (A.P j i), AV.int IntKind.i64 (A.V j i)]) false, AV.str (A.M j)]).K
                                                          j),
                                                      AV.bool
                                                        ((atsOf fun (j : Nat) =>
                                                              AV.agg
                                                                [AV.int IntKind.i64 (A.K j), AV.bool (A.B j), AV.int IntKind.u64 (A.O j),
                                                                  AV.rof (A.N j) (fun (i : Nat) => AV.agg [AV.int IntKind.i64 (A.P j i), AV.int IntKind.i64 (A.V j i)]) false, AV.str (A.M j)]).B
                                                          j),
                                                      AV.int IntKind.u64
                                                        ((atsOf fun (j : Nat) =>
                                                              AV.agg
                                                                [AV.int IntKind.i64 (A.K j), AV.bool (A.B j), AV.int IntKind.u64 (A.O j),
                                                                  AV.rof (A.N j) (fun (i : Nat) => AV.agg [AV.int IntKind.i64 (A.P j i), AV.int IntKind.i64 (A.V j i)]) false, AV.str (A.M j)]).O
                                                          j),
                                                      AV.rof
                                                        ((atsOf fun (j : Nat) =>
                                                              AV.agg
                                                                [AV.int IntKind.i64 (A.K j), AV.bool (A.B j), AV.int IntKind.u64 (A.O j),
                                                                  AV.rof (A.N j) (fun (i : Nat) => AV.agg [AV.int IntKind.i64 (A.P j i), AV.int IntKind.i64 (A.V j i)]) false, AV.str (A.M j)]).N
                                                          j)
                                                        (fun (i : Nat) =>
                                                          AV.agg
                                                            [AV.int IntKind.i64
                                                                ((atsOf fun (j : Nat) =>
                                                                      AV.agg
                                                                        [AV.int IntKind.i64 (A.K j), AV.bool (A.B j), AV.int IntKind.u64 (A.O j),
                                                                          AV.rof (A.N j) (fun (i : Nat) => AV.agg [AV.int IntKind.i64 (A.P j i), AV.int IntKind.i64 (A.V j i)]) false, AV.str (A.M j)]).P
                                                                  j i),
                                                              AV.int IntKind.i64
                                                                ((atsOf fun (j : Nat) =>
                                                                      AV.agg
                                                                        [AV.int IntKind.i64 (A.K j), AV.bool (A.B j), AV.int IntKind.u64 (A.O j),
                                                                          AV.rof (A.N j) (fun (i : Nat) => AV.agg [AV.int IntKind.i64 (A.P j i), AV.int IntKind.i64 (A.V j i)]) false, AV.str (A.M j)]).V
                                                                  j i)])
                                                        false,
                                                      AV.str
                                                        ((atsOf fun (j : Nat) =>
                                                              AV.agg
                                                                [AV.int IntKind.i64 (A.K j), AV.bool (A.B j), AV.int IntKind.u64 (A.O j),
                                                                  AV.rof (A.N j) (fun (i : Nat) => AV.agg [AV.int IntKind.i64 (A.P j i), AV.int IntKind.i64 (A.V j i)]) false, AV.str (A.M j)]).M
                                                          j)])
                                                m (fun (k : Nat) => iOf (AV.int IntKind.i64 (iOf (AV.int IntKind.i64 (w k))))) c l ek x ==
                                              anyB
                                                (atsOf fun (j : Nat) =>
                                                  AV.agg
                                                    [AV.int IntKind.i64 (A.K j), AV.bool (A.B j), AV.int IntKind.u64 (A.O j),
                                                      AV.rof (A.N j) (fun (i : Nat) => AV.agg [AV.int IntKind.i64 (A.P j i), AV.int IntKind.i64 (A.V j i)]) false, AV.str (A.M j)])
                                                m (fun (k : Nat) => iOf (AV.int IntKind.i64 (w k))) c l ek x &&
                                          anyE
                                              (atsOf fun (j : Nat) =>
                                                AV.agg
                                                  [AV.int IntKind.i64
                                                      ((atsOf fun (j : Nat) =>
                                                            AV.agg
                                                              [AV.int IntKind.i64 (A.K j), AV.bool (A.B j), AV.int IntKind.u64 (A.O j),
                                                                AV.rof (A.N j) (fun (i : Nat) => AV.agg [AV.int IntKind.i64 (A.P j i), AV.int IntKind.i64 (A.V j i)]) false, AV.str (A.M j)]).K
                                                        j),
                                                    AV.bool
                                                      ((atsOf fun (j : Nat) =>
                                                            AV.agg
                                                              [AV.int IntKind.i64 (A.K j), AV.bool (A.B j), AV.int IntKind.u64 (A.O j),
                                                                AV.rof (A.N j) (fun (i : Nat) => AV.agg [AV.int IntKind.i64 (A.P j i), AV.int IntKind.i64 (A.V j i)]) false, AV.str (A.M j)]).B
                                                        j),
                                                    AV.int IntKind.u64
                                                      ((atsOf fun (j : Nat) =>
                                                            AV.agg
                                                              [AV.int IntKind.i64 (A.K j), AV.bool (A.B j), AV.int IntKind.u64 (A.O j),
                                                                AV.rof (A.N j) (fun (i : Nat) => AV.agg [AV.int IntKind.i64 (A.P j i), AV.int IntKind.i64 (A.V j i)]) false, AV.str (A.M j)]).O
                                                        j),
                                                    AV.rof
                                                      ((atsOf fun (j : Nat) =>
                                                            AV.agg
                                                              [AV.int IntKind.i64 (A.K j), AV.bool (A.B j), AV.int IntKind.u64 (A.O j),
                                                                AV.rof (A.N j) (fun (i : Nat) => AV.agg [AV.int IntKind.i64 (A.P j i), AV.int IntKind.i64 (A.V j i)]) false, AV.str (A.M j)]).N
                                                        j)
                                                      (fun (i : Nat) =>
                                                        AV.agg
                                                          [AV.int IntKind.i64
                                                              ((atsOf fun (j : Nat) =>
                                                                    AV.agg
                                                                      [AV.int IntKind.i64 (A.K j), AV.bool (A.B j), AV.int IntKind.u64 (A.O j),
                                                                        AV.rof (A.N j) (fun (i : Nat) => AV.agg [AV.int IntKind.i64 (A.P j i), AV.int IntKind.i64 (A.V j i)]) false, AV.str (A.M j)]).P
                                                                j i),
                                                            AV.int IntKind.i64
                                                              ((atsOf fun (j : Nat) =>
                                                                    AV.agg
                                                                      [AV.int IntKind.i64 (A.K j), AV.bool (A.B j), AV.int IntKind.u64 (A.O j),
                                                                        AV.rof (A.N j) (fun (i : Nat) => AV.agg [AV.int IntKind.i64 (A.P j i), AV.int IntKind.i64 (A.V j i)]) false, AV.str (A.M j)]).V
                                                                j i)])
                                                      false,
                                                    AV.str
                                                      ((atsOf fun (j : Nat) =>
                                                            AV.agg
                                                              [AV.int IntKind.i64 (A.K j), AV.bool (A.B j), AV.int IntKind.u64 (A.O j),
                                                                AV.rof (A.N j) (fun (i : Nat) => AV.agg [AV.int IntKind.i64 (A.P j i), AV.int IntKind.i64 (A.V j i)]) false, AV.str (A.M j)]).M
                                                        j)])
                                              m (fun (k : Nat) => iOf (AV.int IntKind.i64 (iOf (AV.int IntKind.i64 (w k))))) c ek ==
                                            anyE
                                              (atsOf fun (j : Nat) =>
                                                AV.agg
                                                  [AV.int IntKind.i64 (A.K j), AV.bool (A.B j), AV.int IntKind.u64 (A.O j),
                                                    AV.rof (A.N j) (fun (i : Nat) => AV.agg [AV.int IntKind.i64 (A.P j i), AV.int IntKind.i64 (A.V j i)]) false, AV.str (A.M j)])
                                              m (fun (k : Nat) => iOf (AV.int IntKind.i64 (w k))) c ek &&
                                        true &&
                                      true &&
                                    true) ==
                                  true) =
                                true)))))))))))) := by
  kernel_rfl

end Go.Proofs.YtjkkkldkimdajaaDoor
