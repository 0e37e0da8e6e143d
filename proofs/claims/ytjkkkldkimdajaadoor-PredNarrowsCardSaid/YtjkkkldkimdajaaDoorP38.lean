/- PRED 38: lists of atoms, conditions of the codes. -/
import Derived.Test.YtjkkkldkimdajaaDoorP32
namespace Go.Proofs.YtjkkkldkimdajaaDoor
open Pw Go
set_option maxRecDepth 100000
set_option linter.unusedSimpArgs false

structure Ats where
  K : Nat → Int
  B : Nat → Bool
  O : Nat → Int
  N : Nat → Nat
  P : Nat → Nat → Int
  V : Nat → Nat → Int
  M : Nat → List UInt8
def atsAV (m : Nat) (A : Ats) : AV := .rof m (fun j => .agg [.int .i64 (A.K j), .bool (A.B j), .int .u64 (A.O j), .rof (A.N j) (fun i => .agg [.int .i64 (A.P j i), .int .i64 (A.V j i)]) false, .str (A.M j)]) false
def checkJ (A : Ats) (j : Nat) : Int := checkE (A.K j) (A.B j) (A.O j) (A.N j) (A.P j) (A.M j)
def matchJ (A : Ats) (l ek x : Int) (j : Nat) : Bool := matchS (A.K j) (A.B j) (A.O j) (A.N j) (A.P j) (A.V j) l ek x
def ckS (A : Ats) : Nat → Int
  | 0 => 0
  | i + 1 => if ckS A i = 0 then checkJ A i else ckS A i
def allE (A : Ats) (m : Nat) (ek : Int) : Int := if ckS A m = 0 then eventE ek else ckS A m
def whS (A : Ats) (l ek x : Int) : Nat → List Int
  | 0 => []
  | i + 1 => if matchJ A l ek x i = true then whS A l ek x i ++ [(i : Int)] else whS A l ek x i
def whN (A : Ats) (l ek x : Int) (i : Nat) : Nat := (whS A l ek x i).length
def whV (A : Ats) (l ek x : Int) (i k : Nat) : Int := (whS A l ek x i).getD k 0
def evRow (l ek x : Int) : Blk := .row 0 3 true (.lst [.agg [.int .u64 l, .int .i64 ek, .int .i64 x]])
def intRow (g n : Nat) (f : Nat → Int) : Blk := .row g 1 true (.fn n fun k => .int .i64 (f k))
def invW1 (m : Nat) (A : Ats) (l ek x : Int) : Inv := ⟨Nat, 20, fun i => ⟨[(0, atsAV m A), (3, .ptr 0 0 0 0), (13, atsAV m A), (14, .int .i64 m), (15, .int .i64 i)], [(0, evRow l ek x)]⟩, fun i => i ≤ m ∧ ckS A i = 0, fun i => m - i⟩
def invW2 (m : Nat) (A : Ats) (l ek x : Int) : Inv := ⟨Nat × Nat, 40, fun p => ⟨[(3, .ptr 0 0 0 0), (10, .sl 30 p.2 0 (whN A l ek x p.1) none), (30, atsAV m A), (31, .int .i64 m), (32, .int .i64 p.1)], [(0, evRow l ek x), (30, intRow p.2 (whN A l ek x p.1) (whV A l ek x p.1))]⟩, fun p => p.1 ≤ m, fun p => m - p.1⟩
def invC (m : Nat) (A : Ats) (l ek x : Int) : Inv := ⟨Nat, 20, fun i => ⟨[(0, atsAV m A), (3, .ptr 0 0 0 0), (5, .int .i64 i)], [(0, evRow l ek x)]⟩, fun i => i ≤ m ∧ ckS A i = 0, fun i => m - i⟩
def atRow (g n : Nat) (A : Ats) : Blk := .row g 5 true (.fn n fun j => .agg [.int .i64 (A.K j), .bool (A.B j), .int .u64 (A.O j), .rof (A.N j) (fun i => .agg [.int .i64 (A.P j i), .int .i64 (A.V j i)]) false, .str (A.M j)])
def invOA (m : Nat) (A : Ats) : Inv := ⟨Nat × Nat, 20, fun p => ⟨[(0, atsAV m A), (3, .sl 0 p.2 0 p.1 none), (4, .int .i64 p.1)], [(0, atRow p.2 p.1 A)]⟩, fun p => p.1 ≤ m, fun p => m - p.1⟩
def invSAs (m : Nat) (A : Ats) : Inv := ⟨Nat, 20, fun i => ⟨[(0, atsAV m A), (1, atsAV m A), (5, .int .i64 i)], []⟩, fun i => i ≤ m, fun i => m - i⟩
def invSI (m : Nat) (f : Nat → Int) : Inv := ⟨Nat, 20, fun i => ⟨[(0, .rof m (fun k => .int .i64 (f k)) false), (1, .rof m (fun k => .int .i64 (f k)) false), (5, .int .i64 i)], []⟩, fun i => i ≤ m, fun i => m - i⟩

theorem whichI_vc (m : Nat) (A : Ats) (l ek x : Int) : (vcFun (mkG Tryd.prog gN (tblOf tblD) (fun f b => if f = 31 then (if b = 0 then some (invW1 m A l ek x) else if b = 2 then some (invW2 m A l ek x) else none) else none) 0) 20 31 [.rof m (fun j => .agg [.int .i64 (A.K j), .bool (A.B j), .int .u64 (A.O j), .rof (A.N j) (fun i => .agg [.int .i64 (A.P j i), .int .i64 (A.V j i)]) false, .str (A.M j)]) false, .agg [.int .u64 l, .int .i64 ek, .int .i64 x]] .nil 0 (retP 3 (.tup [.rof (if allE A m ek = 0 then whN A l ek x m else 0) (fun k => .int .i64 (whV A l ek x m k)) false, .int .i64 (allE A m ek)]))).sat = (
  (∃ (i : Nat),
      (i ≤ m ∧ ckS A i = (0 : Int)) ∧
        ((m = m ∧
              (∀ (i : Nat),
                  i < m →
                    (A.K i = A.K i ∧
                        A.B i = A.B i ∧
                          A.O i = A.O i ∧
                            (A.N i = A.N i ∧
                                (∀ (i_1 : Nat),
                                    i_1 < A.N i →
                                      (A.P i i_1 = A.P i i_1 ∧ A.V i i_1 = A.V i i_1 ∧ True) ∧
                                        [AV.int IntKind.i64 (A.P i i_1), AV.int IntKind.i64 (A.V i i_1)].length = [AV.int IntKind.i64 (A.P i i_1), AV.int IntKind.i64 (A.V i i_1)].length) ∧
                                  (false = true → false = true)) ∧
                              A.M i = A.M i ∧ True) ∧
                      [AV.int IntKind.i64 (A.K i), AV.bool (A.B i), AV.int IntKind.u64 (A.O i), AV.rof (A.N i) (fun (i_1 : Nat) => AV.agg [AV.int IntKind.i64 (A.P i i_1), AV.int IntKind.i64 (A.V i i_1)]) false,
                            AV.str (A.M i)].length =
                        [AV.int IntKind.i64 (A.K i), AV.bool (A.B i), AV.int IntKind.u64 (A.O i), AV.rof (A.N i) (fun (i_1 : Nat) => AV.agg [AV.int IntKind.i64 (A.P i i_1), AV.int IntKind.i64 (A.V i i_1)]) false,
                            AV.str (A.M i)].length) ∧
                (false = true → false = true)) ∧
            ((0 : Nat) = (0 : Nat) ∧ (0 : Nat) = (0 : Nat) ∧ (0 : Nat) = (0 : Nat)) ∧
              (m = m ∧
                  (∀ (i : Nat),
                      i < m →
                        (A.K i = A.K i ∧
                            A.B i = A.B i ∧
                              A.O i = A.O i ∧
                                (A.N i = A.N i ∧
                                    (∀ (i_1 : Nat),
                                        i_1 < A.N i →
                                          (A.P i i_1 = A.P i i_1 ∧ A.V i i_1 = A.V i i_1 ∧ True) ∧
                                            [AV.int IntKind.i64 (A.P i i_1), AV.int IntKind.i64 (A.V i i_1)].length = [AV.int IntKind.i64 (A.P i i_1), AV.int IntKind.i64 (A.V i i_1)].length) ∧
                                      (false = true → false = true)) ∧
                                  A.M i = A.M i ∧ True) ∧
                          [AV.int IntKind.i64 (A.K i), AV.bool (A.B i), AV.int IntKind.u64 (A.O i), AV.rof (A.N i) (fun (i_1 : Nat) => AV.agg [AV.int IntKind.i64 (A.P i i_1), AV.int IntKind.i64 (A.V i i_1)]) false,
                                AV.str (A.M i)].length =
                            [AV.int IntKind.i64 (A.K i), AV.bool (A.B i), AV.int IntKind.u64 (A.O i), AV.rof (A.N i) (fun (i_1 : Nat) => AV.agg [AV.int IntKind.i64 (A.P i i_1), AV.int IntKind.i64 (A.V i i_1)]) false,
                                AV.str (A.M i)].length) ∧
                    (false = true → false = true)) ∧
                (↑m : Int) = (↑m : Int) ∧ (0 : Int) = (↑i : Int) ∧ True) ∧
          ((0 : Nat) = (0 : Nat) ∧
              (true = true → true = true) ∧
                ((l = l ∧ ek = ek ∧ x = x ∧ True) ∧ [AV.int IntKind.u64 l, AV.int IntKind.i64 ek, AV.int IntKind.i64 x].length = [AV.int IntKind.u64 l, AV.int IntKind.i64 ek, AV.int IntKind.i64 x].length) ∧ True) ∧
            True) ∧
    ∀ (i : Nat),
      i ≤ m ∧ ckS A i = (0 : Int) →
        VB (decide ((↑i : Int) < (↑m : Int)))
          (NB (decide ((0 : Int) ≤ (↑i : Int) ∧ (↑i : Int) < (↑m : Int)))
            (NB
              ((condsB (A.N (↑i : Int).toNat) fun (i_1 : Nat) => AV.agg [AV.int IntKind.i64 (A.P (↑i : Int).toNat i_1), AV.int IntKind.i64 (A.V (↑i : Int).toNat i_1)]) &&
                decide ((A.M (↑i : Int).toNat).length ≤ (9223372036854775807 : Nat)))
              (VB (checkE (A.K (↑i : Int).toNat) (A.B (↑i : Int).toNat) (A.O (↑i : Int).toNat) (A.N (↑i : Int).toNat) (fun (i_1 : Nat) => A.5 (↑i : Int).toNat i_1) (A.M (↑i : Int).toNat) != (0 : Int))
                ((if allE A m ek = (0 : Int) then whN A l ek x m else (0 : Nat)) = (0 : Nat) ∧
                  checkE (A.K (↑i : Int).toNat) (A.B (↑i : Int).toNat) (A.O (↑i : Int).toNat) (A.N (↑i : Int).toNat) (fun (i_1 : Nat) => A.5 (↑i : Int).toNat i_1) (A.M (↑i : Int).toNat) = allE A m ek ∧ True)
                (∃ (i' : Nat),
                  (i' ≤ m ∧ ckS A i' = (0 : Int)) ∧
                    (invW1 m A l ek x).μ i' < (invW1 m A l ek x).μ i ∧
                      ((m = m ∧
                            (∀ (i : Nat),
                                i < m →
                                  (A.K i = A.K i ∧
                                      A.B i = A.B i ∧
                                        A.O i = A.O i ∧
                                          (A.N i = A.N i ∧
                                              (∀ (i_1 : Nat),
                                                  i_1 < A.N i →
                                                    (A.P i i_1 = A.P i i_1 ∧ A.V i i_1 = A.V i i_1 ∧ True) ∧
                                                      [AV.int IntKind.i64 (A.P i i_1), AV.int IntKind.i64 (A.V i i_1)].length = [AV.int IntKind.i64 (A.P i i_1), AV.int IntKind.i64 (A.V i i_1)].length) ∧
                                                (false = true → false = true)) ∧
                                            A.M i = A.M i ∧ True) ∧
                                    [AV.int IntKind.i64 (A.K i), AV.bool (A.B i), AV.int IntKind.u64 (A.O i),
                                          AV.rof (A.N i) (fun (i_1 : Nat) => AV.agg [AV.int IntKind.i64 (A.P i i_1), AV.int IntKind.i64 (A.V i i_1)]) false, AV.str (A.M i)].length =
                                      [AV.int IntKind.i64 (A.K i), AV.bool (A.B i), AV.int IntKind.u64 (A.O i),
                                          AV.rof (A.N i) (fun (i_1 : Nat) => AV.agg [AV.int IntKind.i64 (A.P i i_1), AV.int IntKind.i64 (A.V i i_1)]) false, AV.str (A.M i)].length) ∧
                              (false = true → false = true)) ∧
                          ((0 : Nat) = (0 : Nat) ∧ (0 : Nat) = (0 : Nat) ∧ (0 : Nat) = (0 : Nat)) ∧
                            (m = m ∧
                                (∀ (i : Nat),
                                    i < m →
                                      (A.K i = A.K i ∧
                                          A.B i = A.B i ∧
                                            A.O i = A.O i ∧
                                              (A.N i = A.N i ∧
                                                  (∀ (i_1 : Nat),
                                                      i_1 < A.N i →
                                                        (A.P i i_1 = A.P i i_1 ∧ A.V i i_1 = A.V i i_1 ∧ True) ∧
                                                          [AV.int IntKind.i64 (A.P i i_1), AV.int IntKind.i64 (A.V i i_1)].length = [AV.int IntKind.i64 (A.P i i_1), AV.int IntKind.i64 (A.V i i_1)].length) ∧
                                                    (false = true → false = true)) ∧
                                                A.M i = A.M i ∧ True) ∧
                                        [AV.int IntKind.i64 (A.K i), AV.bool (A.B i), AV.int IntKind.u64 (A.O i),
                                              AV.rof (A.N i) (fun (i_1 : Nat) => AV.agg [AV.int IntKind.i64 (A.P i i_1), AV.int IntKind.i64 (A.V i i_1)]) false, AV.str (A.M i)].length =
                                          [AV.int IntKind.i64 (A.K i), AV.bool (A.B i), AV.int IntKind.u64 (A.O i),
                                              AV.rof (A.N i) (fun (i_1 : Nat) => AV.agg [AV.int IntKind.i64 (A.P i i_1), AV.int IntKind.i64 (A.V i i_1)]) false, AV.str (A.M i)].length) ∧
                                  (false = true → false = true)) ∧
                              (↑m : Int) = (↑m : Int) ∧ IntKind.i64.wrap ((↑i : Int) + (1 : Int)) = (↑i' : Int) ∧ True) ∧
                        ((0 : Nat) = (0 : Nat) ∧
                            (true = true → true = true) ∧
                              ((l = l ∧ ek = ek ∧ x = x ∧ True) ∧ [AV.int IntKind.u64 l, AV.int IntKind.i64 ek, AV.int IntKind.i64 x].length = [AV.int IntKind.u64 l, AV.int IntKind.i64 ek, AV.int IntKind.i64 x].length) ∧
                                True) ∧
                          True))))
          (VB (eventE ek != (0 : Int)) ((if allE A m ek = (0 : Int) then whN A l ek x m else (0 : Nat)) = (0 : Nat) ∧ eventE ek = allE A m ek ∧ True)
            ((∃ (i : Nat × Nat),
                i.fst.le m ∧
                  (((0 : Nat) = (0 : Nat) ∧ (0 : Nat) = (0 : Nat) ∧ (0 : Nat) = (0 : Nat)) ∧
                      (whN A l ek x i.fst = (0 : Nat) ∧ i.snd = i.snd ∧ whN A l ek x i.fst = (0 : Nat)) ∧
                        (m = m ∧
                            (∀ (i : Nat),
                                i < m →
                                  (A.K i = A.K i ∧
                                      A.B i = A.B i ∧
                                        A.O i = A.O i ∧
                                          (A.N i = A.N i ∧
                                              (∀ (i_1 : Nat),
                                                  i_1 < A.N i →
                                                    (A.P i i_1 = A.P i i_1 ∧ A.V i i_1 = A.V i i_1 ∧ True) ∧
                                                      [AV.int IntKind.i64 (A.P i i_1), AV.int IntKind.i64 (A.V i i_1)].length = [AV.int IntKind.i64 (A.P i i_1), AV.int IntKind.i64 (A.V i i_1)].length) ∧
                                                (false = true → false = true)) ∧
                                            A.M i = A.M i ∧ True) ∧
                                    [AV.int IntKind.i64 (A.K i), AV.bool (A.B i), AV.int IntKind.u64 (A.O i),
                                          AV.rof (A.N i) (fun (i_1 : Nat) => AV.agg [AV.int IntKind.i64 (A.P i i_1), AV.int IntKind.i64 (A.V i i_1)]) false, AV.str (A.M i)].length =
                                      [AV.int IntKind.i64 (A.K i), AV.bool (A.B i), AV.int IntKind.u64 (A.O i),
                                          AV.rof (A.N i) (fun (i_1 : Nat) => AV.agg [AV.int IntKind.i64 (A.P i i_1), AV.int IntKind.i64 (A.V i i_1)]) false, AV.str (A.M i)].length) ∧
                              (false = true → false = true)) ∧
                          (↑m : Int) = (↑m : Int) ∧ (0 : Int) = (↑i.fst : Int) ∧ True) ∧
                    ((0 : Nat) = (0 : Nat) ∧
                        (true = true → true = true) ∧
                          ((l = l ∧ ek = ek ∧ x = x ∧ True) ∧ [AV.int IntKind.u64 l, AV.int IntKind.i64 ek, AV.int IntKind.i64 x].length = [AV.int IntKind.u64 l, AV.int IntKind.i64 ek, AV.int IntKind.i64 x].length) ∧
                            True) ∧
                      whN A l ek x i.fst = (0 : Nat) ∧ True) ∧
              ∀ (i : Nat × Nat),
                i.fst.le m →
                  VB (decide ((↑i.fst : Int) < (↑m : Int)))
                    (NB (decide ((0 : Int) ≤ (↑i.fst : Int) ∧ (↑i.fst : Int) < (↑m : Int)))
                      (NB
                        (((decide (A.N (↑i.fst : Int).toNat ≤ (1000000 : Nat)) &&
                                condsB (A.N (↑i.fst : Int).toNat) fun (i_1 : Nat) => AV.agg [AV.int IntKind.i64 (A.P (↑i.fst : Int).toNat i_1), AV.int IntKind.i64 (A.V (↑i.fst : Int).toNat i_1)]) &&
                              okAll (A.N (↑i.fst : Int).toNat) fun (i_1 : Nat) => A.5 (↑i.fst : Int).toNat i_1) &&
                            u64B l &&
                          u64B (A.O (↑i.fst : Int).toNat))
                        (VB
                          (matchS (A.K (↑i.fst : Int).toNat) (A.B (↑i.fst : Int).toNat) (A.O (↑i.fst : Int).toNat) (A.N (↑i.fst : Int).toNat) (fun (i_1 : Nat) => A.5 (↑i.fst : Int).toNat i_1)
                            (fun (i_1 : Nat) => A.6 (↑i.fst : Int).toNat i_1) l ek x)
                          (NB (true && decide (i.snd = i.snd) && room (whN A l ek x i.fst + (1 : Nat)) (8 : Nat))
                            (∃ (i' : Nat × Nat),
                              i'.fst.le m ∧
                                (invW2 m A l ek x).μ i' < (invW2 m A l ek x).μ i ∧
                                  (((0 : Nat) = (0 : Nat) ∧ (0 : Nat) = (0 : Nat) ∧ (0 : Nat) = (0 : Nat)) ∧
                                      (i.snd + (1 : Nat) = i'.snd ∧ (0 : Nat) = (0 : Nat) ∧ whN A l ek x i.fst + (1 : Nat) = whN A l ek x i'.fst ∧ (@Eq (Option Nat) none none ∨ @Eq (Option Nat) none none)) ∧
                                        (m = m ∧
                                            (∀ (i : Nat),
                                                i < m →
                                                  (A.K i = A.K i ∧
                                                      A.B i = A.B i ∧
                                                        A.O i = A.O i ∧
                                                          (A.N i = A.N i ∧
                                                              (∀ (i_1 : Nat),
                                                                  i_1 < A.N i →
                                                                    (A.P i i_1 = A.P i i_1 ∧ A.V i i_1 = A.V i i_1 ∧ True) ∧
                                                                      [AV.int IntKind.i64 (A.P i i_1), AV.int IntKind.i64 (A.V i i_1)].length = [AV.int IntKind.i64 (A.P i i_1), AV.int IntKind.i64 (A.V i i_1)].length) ∧
                                                                (false = true → false = true)) ∧
                                                            A.M i = A.M i ∧ True) ∧
                                                    [AV.int IntKind.i64 (A.K i), AV.bool (A.B i), AV.int IntKind.u64 (A.O i),
                                                          AV.rof (A.N i) (fun (i_1 : Nat) => AV.agg [AV.int IntKind.i64 (A.P i i_1), AV.int IntKind.i64 (A.V i i_1)]) false, AV.str (A.M i)].length =
                                                      [AV.int IntKind.i64 (A.K i), AV.bool (A.B i), AV.int IntKind.u64 (A.O i),
                                                          AV.rof (A.N i) (fun (i_1 : Nat) => AV.agg [AV.int IntKind.i64 (A.P i i_1), AV.int IntKind.i64 (A.V i i_1)]) false, AV.str (A.M i)].length) ∧
                                              (false = true → false = true)) ∧
                                          (↑m : Int) = (↑m : Int) ∧ IntKind.i64.wrap ((↑i.fst : Int) + (1 : Int)) = (↑i'.fst : Int) ∧ True) ∧
                                    ((0 : Nat) = (0 : Nat) ∧
                                        (true = true → true = true) ∧
                                          ((l = l ∧ ek = ek ∧ x = x ∧ True) ∧
                                              [AV.int IntKind.u64 l, AV.int IntKind.i64 ek, AV.int IntKind.i64 x].length = [AV.int IntKind.u64 l, AV.int IntKind.i64 ek, AV.int IntKind.i64 x].length) ∧
                                            True) ∧
                                      (i.snd + (1 : Nat) = i'.snd ∧
                                          (true = true → true = true) ∧
                                            whN A l ek x i.fst + (1 : Nat) = whN A l ek x i'.fst ∧
                                              ∀ (i_1 : Nat),
                                                i_1 < whN A l ek x i.fst + (1 : Nat) →
                                                  (if i_1 < whN A l ek x i.fst then AV.int IntKind.i64 (whV A l ek x i.fst ((0 : Nat) + i_1))
                                                        else ((Sq.lst [AV.int IntKind.i64 (↑i.fst : Int)]).sub (0 : Nat) (1 : Nat)).get (i_1 - whN A l ek x i.fst)).sub
                                                      (AV.int IntKind.i64 (whV A l ek x i'.fst i_1)) ∧
                                                    (if i_1 < whN A l ek x i.fst then AV.int IntKind.i64 (whV A l ek x i.fst ((0 : Nat) + i_1))
                                                          else ((Sq.lst [AV.int IntKind.i64 (↑i.fst : Int)]).sub (0 : Nat) (1 : Nat)).get (i_1 - whN A l ek x i.fst)).cells.length =
                                                      [AV.int IntKind.i64 (whV A l ek x i'.fst i_1)].length) ∧
                                        True))
                          (∃ (i' : Nat × Nat),
                            i'.fst.le m ∧
                              (invW2 m A l ek x).μ i' < (invW2 m A l ek x).μ i ∧
                                (((0 : Nat) = (0 : Nat) ∧ (0 : Nat) = (0 : Nat) ∧ (0 : Nat) = (0 : Nat)) ∧
                                    (i.snd = i'.snd ∧ (0 : Nat) = (0 : Nat) ∧ whN A l ek x i.fst = whN A l ek x i'.fst ∧ (@Eq (Option Nat) none none ∨ @Eq (Option Nat) none none)) ∧
                                      (m = m ∧
                                          (∀ (i : Nat),
                                              i < m →
                                                (A.K i = A.K i ∧
                                                    A.B i = A.B i ∧
                                                      A.O i = A.O i ∧
                                                        (A.N i = A.N i ∧
                                                            (∀ (i_1 : Nat),
                                                                i_1 < A.N i →
                                                                  (A.P i i_1 = A.P i i_1 ∧ A.V i i_1 = A.V i i_1 ∧ True) ∧
                                                                    [AV.int IntKind.i64 (A.P i i_1), AV.int IntKind.i64 (A.V i i_1)].length = [AV.int IntKind.i64 (A.P i i_1), AV.int IntKind.i64 (A.V i i_1)].length) ∧
                                                              (false = true → false = true)) ∧
                                                          A.M i = A.M i ∧ True) ∧
                                                  [AV.int IntKind.i64 (A.K i), AV.bool (A.B i), AV.int IntKind.u64 (A.O i),
                                                        AV.rof (A.N i) (fun (i_1 : Nat) => AV.agg [AV.int IntKind.i64 (A.P i i_1), AV.int IntKind.i64 (A.V i i_1)]) false, AV.str (A.M i)].length =
                                                    [AV.int IntKind.i64 (A.K i), AV.bool (A.B i), AV.int IntKind.u64 (A.O i),
                                                        AV.rof (A.N i) (fun (i_1 : Nat) => AV.agg [AV.int IntKind.i64 (A.P i i_1), AV.int IntKind.i64 (A.V i i_1)]) false, AV.str (A.M i)].length) ∧
                                            (false = true → false = true)) ∧
                                        (↑m : Int) = (↑m : Int) ∧ IntKind.i64.wrap ((↑i.fst : Int) + (1 : Int)) = (↑i'.fst : Int) ∧ True) ∧
                                  ((0 : Nat) = (0 : Nat) ∧
                                      (true = true → true = true) ∧
                                        ((l = l ∧ ek = ek ∧ x = x ∧ True) ∧
                                            [AV.int IntKind.u64 l, AV.int IntKind.i64 ek, AV.int IntKind.i64 x].length = [AV.int IntKind.u64 l, AV.int IntKind.i64 ek, AV.int IntKind.i64 x].length) ∧
                                          True) ∧
                                    (i.snd = i'.snd ∧
                                        (true = true → true = true) ∧
                                          whN A l ek x i.fst = whN A l ek x i'.fst ∧
                                            ∀ (i_1 : Nat),
                                              i_1 < whN A l ek x i.fst →
                                                whV A l ek x i.fst i_1 = whV A l ek x i'.fst i_1 ∧ [AV.int IntKind.i64 (whV A l ek x i.fst i_1)].length = [AV.int IntKind.i64 (whV A l ek x i'.fst i_1)].length) ∧
                                      True))))
                    (NB (decide (i.snd = i.snd) && true)
                      (((whN A l ek x i.fst = if allE A m ek = (0 : Int) then whN A l ek x m else (0 : Nat)) ∧
                          (∀ (i_1 : Nat),
                              i_1 < whN A l ek x i.fst →
                                whV A l ek x i.fst ((0 : Nat) + i_1) = whV A l ek x m i_1 ∧ [AV.int IntKind.i64 (whV A l ek x i.fst ((0 : Nat) + i_1))].length = [AV.int IntKind.i64 (whV A l ek x m i_1)].length) ∧
                            (false = true → decide (none = some (whN A l ek x i.fst)) = true)) ∧
                        (0 : Int) = allE A m ek ∧ True))))) := by
  kernel_rfl

theorem checks_vc (m : Nat) (A : Ats) (l ek x : Int) : (vcFun (mkG Tryd.prog gN (tblOf tblD) (fun f b => if f = 58 ∧ b = 0 then some (invC m A l ek x) else none) 0) 20 58 [.rof m (fun j => .agg [.int .i64 (A.K j), .bool (A.B j), .int .u64 (A.O j), .rof (A.N j) (fun i => .agg [.int .i64 (A.P j i), .int .i64 (A.V j i)]) false, .str (A.M j)]) false, .agg [.int .u64 l, .int .i64 ek, .int .i64 x]] .nil 0 (retP 3 (.int .i64 (allE A m ek)))).sat = (
  (∃ (i : Nat),
      (i ≤ m ∧ ckS A i = (0 : Int)) ∧
        ((m = m ∧
              (∀ (i : Nat),
                  i < m →
                    (A.K i = A.K i ∧
                        A.B i = A.B i ∧
                          A.O i = A.O i ∧
                            (A.N i = A.N i ∧
                                (∀ (i_1 : Nat),
                                    i_1 < A.N i →
                                      (A.P i i_1 = A.P i i_1 ∧ A.V i i_1 = A.V i i_1 ∧ True) ∧
                                        [AV.int IntKind.i64 (A.P i i_1), AV.int IntKind.i64 (A.V i i_1)].length = [AV.int IntKind.i64 (A.P i i_1), AV.int IntKind.i64 (A.V i i_1)].length) ∧
                                  (false = true → false = true)) ∧
                              A.M i = A.M i ∧ True) ∧
                      [AV.int IntKind.i64 (A.K i), AV.bool (A.B i), AV.int IntKind.u64 (A.O i), AV.rof (A.N i) (fun (i_1 : Nat) => AV.agg [AV.int IntKind.i64 (A.P i i_1), AV.int IntKind.i64 (A.V i i_1)]) false,
                            AV.str (A.M i)].length =
                        [AV.int IntKind.i64 (A.K i), AV.bool (A.B i), AV.int IntKind.u64 (A.O i), AV.rof (A.N i) (fun (i_1 : Nat) => AV.agg [AV.int IntKind.i64 (A.P i i_1), AV.int IntKind.i64 (A.V i i_1)]) false,
                            AV.str (A.M i)].length) ∧
                (false = true → false = true)) ∧
            ((0 : Nat) = (0 : Nat) ∧ (0 : Nat) = (0 : Nat) ∧ (0 : Nat) = (0 : Nat)) ∧ (0 : Int) = (↑i : Int) ∧ True) ∧
          ((0 : Nat) = (0 : Nat) ∧
              (true = true → true = true) ∧
                ((l = l ∧ ek = ek ∧ x = x ∧ True) ∧ [AV.int IntKind.u64 l, AV.int IntKind.i64 ek, AV.int IntKind.i64 x].length = [AV.int IntKind.u64 l, AV.int IntKind.i64 ek, AV.int IntKind.i64 x].length) ∧ True) ∧
            True) ∧
    ∀ (i : Nat),
      i ≤ m ∧ ckS A i = (0 : Int) →
        VB (decide ((↑i : Int) < (↑m : Int)))
          (NB (decide ((0 : Int) ≤ (↑i : Int) ∧ (↑i : Int) < (↑m : Int)))
            (NB
              ((condsB (A.N (↑i : Int).toNat) fun (i_1 : Nat) => AV.agg [AV.int IntKind.i64 (A.P (↑i : Int).toNat i_1), AV.int IntKind.i64 (A.V (↑i : Int).toNat i_1)]) &&
                decide ((A.M (↑i : Int).toNat).length ≤ (9223372036854775807 : Nat)))
              (VB (checkE (A.K (↑i : Int).toNat) (A.B (↑i : Int).toNat) (A.O (↑i : Int).toNat) (A.N (↑i : Int).toNat) (fun (i_1 : Nat) => A.5 (↑i : Int).toNat i_1) (A.M (↑i : Int).toNat) != (0 : Int))
                (checkE (A.K (↑i : Int).toNat) (A.B (↑i : Int).toNat) (A.O (↑i : Int).toNat) (A.N (↑i : Int).toNat) (fun (i_1 : Nat) => A.5 (↑i : Int).toNat i_1) (A.M (↑i : Int).toNat) = allE A m ek)
                (∃ (i' : Nat),
                  (i' ≤ m ∧ ckS A i' = (0 : Int)) ∧
                    (invC m A l ek x).μ i' < (invC m A l ek x).μ i ∧
                      ((m = m ∧
                            (∀ (i : Nat),
                                i < m →
                                  (A.K i = A.K i ∧
                                      A.B i = A.B i ∧
                                        A.O i = A.O i ∧
                                          (A.N i = A.N i ∧
                                              (∀ (i_1 : Nat),
                                                  i_1 < A.N i →
                                                    (A.P i i_1 = A.P i i_1 ∧ A.V i i_1 = A.V i i_1 ∧ True) ∧
                                                      [AV.int IntKind.i64 (A.P i i_1), AV.int IntKind.i64 (A.V i i_1)].length = [AV.int IntKind.i64 (A.P i i_1), AV.int IntKind.i64 (A.V i i_1)].length) ∧
                                                (false = true → false = true)) ∧
                                            A.M i = A.M i ∧ True) ∧
                                    [AV.int IntKind.i64 (A.K i), AV.bool (A.B i), AV.int IntKind.u64 (A.O i),
                                          AV.rof (A.N i) (fun (i_1 : Nat) => AV.agg [AV.int IntKind.i64 (A.P i i_1), AV.int IntKind.i64 (A.V i i_1)]) false, AV.str (A.M i)].length =
                                      [AV.int IntKind.i64 (A.K i), AV.bool (A.B i), AV.int IntKind.u64 (A.O i),
                                          AV.rof (A.N i) (fun (i_1 : Nat) => AV.agg [AV.int IntKind.i64 (A.P i i_1), AV.int IntKind.i64 (A.V i i_1)]) false, AV.str (A.M i)].length) ∧
                              (false = true → false = true)) ∧
                          ((0 : Nat) = (0 : Nat) ∧ (0 : Nat) = (0 : Nat) ∧ (0 : Nat) = (0 : Nat)) ∧ IntKind.i64.wrap ((↑i : Int) + (1 : Int)) = (↑i' : Int) ∧ True) ∧
                        ((0 : Nat) = (0 : Nat) ∧
                            (true = true → true = true) ∧
                              ((l = l ∧ ek = ek ∧ x = x ∧ True) ∧ [AV.int IntKind.u64 l, AV.int IntKind.i64 ek, AV.int IntKind.i64 x].length = [AV.int IntKind.u64 l, AV.int IntKind.i64 ek, AV.int IntKind.i64 x].length) ∧
                                True) ∧
                          True))))
          (eventE ek = allE A m ek)) := by
  kernel_rfl

theorem ownAtoms_vc (m : Nat) (A : Ats) : (vcFun (mkG Tryd.prog gN (tblOf tblD) (fun f b => if f = 18 ∧ b = 0 then some (invOA m A) else none) 0) 20 18 [.rof m (fun j => .agg [.int .i64 (A.K j), .bool (A.B j), .int .u64 (A.O j), .rof (A.N j) (fun i => .agg [.int .i64 (A.P j i), .int .i64 (A.V j i)]) false, .str (A.M j)]) false] .nil 0 (retP 3 (atsAV m A))).sat = (
  (∃ (i : Nat × Nat),
      i.fst.le m ∧
        ((m = m ∧
              (∀ (i : Nat),
                  i < m →
                    (A.K i = A.K i ∧
                        A.B i = A.B i ∧
                          A.O i = A.O i ∧
                            (A.N i = A.N i ∧
                                (∀ (i_1 : Nat),
                                    i_1 < A.N i →
                                      (A.P i i_1 = A.P i i_1 ∧ A.V i i_1 = A.V i i_1 ∧ True) ∧
                                        [AV.int IntKind.i64 (A.P i i_1), AV.int IntKind.i64 (A.V i i_1)].length = [AV.int IntKind.i64 (A.P i i_1), AV.int IntKind.i64 (A.V i i_1)].length) ∧
                                  (false = true → false = true)) ∧
                              A.M i = A.M i ∧ True) ∧
                      [AV.int IntKind.i64 (A.K i), AV.bool (A.B i), AV.int IntKind.u64 (A.O i), AV.rof (A.N i) (fun (i_1 : Nat) => AV.agg [AV.int IntKind.i64 (A.P i i_1), AV.int IntKind.i64 (A.V i i_1)]) false,
                            AV.str (A.M i)].length =
                        [AV.int IntKind.i64 (A.K i), AV.bool (A.B i), AV.int IntKind.u64 (A.O i), AV.rof (A.N i) (fun (i_1 : Nat) => AV.agg [AV.int IntKind.i64 (A.P i i_1), AV.int IntKind.i64 (A.V i i_1)]) false,
                            AV.str (A.M i)].length) ∧
                (false = true → false = true)) ∧
            ((0 : Nat) = i.snd ∧ (0 : Nat) = (0 : Nat) ∧ (0 : Nat) = i.fst ∧ (some (0 : Nat) = none ∨ @Eq (Option Nat) none none)) ∧ (0 : Int) = (↑i.fst : Int) ∧ True) ∧
          ((0 : Nat) = i.snd ∧ (true = true → true = true) ∧ (0 : Nat) = i.fst ∧ True) ∧ True) ∧
    ∀ (i : Nat × Nat),
      i.fst.le m →
        VB (decide ((↑i.fst : Int) < (↑m : Int)))
          (NB (decide ((0 : Int) ≤ (↑i.fst : Int) ∧ (↑i.fst : Int) < (↑m : Int)))
            (NB
              (decide (A.N (↑i.fst : Int).toNat ≤ (1000000 : Nat)) &&
                condsB (A.N (↑i.fst : Int).toNat) fun (i_1 : Nat) => AV.agg [AV.int IntKind.i64 (A.P (↑i.fst : Int).toNat i_1), AV.int IntKind.i64 (A.V (↑i.fst : Int).toNat i_1)])
              (NB (true && decide (i.snd = i.snd) && room (i.fst + (1 : Nat)) (64 : Nat))
                (∃ (i' : Nat × Nat),
                  i'.fst.le m ∧
                    (invOA m A).μ i' < (invOA m A).μ i ∧
                      ((m = m ∧
                            (∀ (i : Nat),
                                i < m →
                                  (A.K i = A.K i ∧
                                      A.B i = A.B i ∧
                                        A.O i = A.O i ∧
                                          (A.N i = A.N i ∧
                                              (∀ (i_1 : Nat),
                                                  i_1 < A.N i →
                                                    (A.P i i_1 = A.P i i_1 ∧ A.V i i_1 = A.V i i_1 ∧ True) ∧
                                                      [AV.int IntKind.i64 (A.P i i_1), AV.int IntKind.i64 (A.V i i_1)].length = [AV.int IntKind.i64 (A.P i i_1), AV.int IntKind.i64 (A.V i i_1)].length) ∧
                                                (false = true → false = true)) ∧
                                            A.M i = A.M i ∧ True) ∧
                                    [AV.int IntKind.i64 (A.K i), AV.bool (A.B i), AV.int IntKind.u64 (A.O i),
                                          AV.rof (A.N i) (fun (i_1 : Nat) => AV.agg [AV.int IntKind.i64 (A.P i i_1), AV.int IntKind.i64 (A.V i i_1)]) false, AV.str (A.M i)].length =
                                      [AV.int IntKind.i64 (A.K i), AV.bool (A.B i), AV.int IntKind.u64 (A.O i),
                                          AV.rof (A.N i) (fun (i_1 : Nat) => AV.agg [AV.int IntKind.i64 (A.P i i_1), AV.int IntKind.i64 (A.V i i_1)]) false, AV.str (A.M i)].length) ∧
                              (false = true → false = true)) ∧
                          (i.snd + (1 : Nat) = i'.snd ∧ (0 : Nat) = (0 : Nat) ∧ i.fst + (1 : Nat) = i'.fst ∧ (@Eq (Option Nat) none none ∨ @Eq (Option Nat) none none)) ∧
                            IntKind.i64.wrap ((↑i.fst : Int) + (1 : Int)) = (↑i'.fst : Int) ∧ True) ∧
                        (i.snd + (1 : Nat) = i'.snd ∧
                            (true = true → true = true) ∧
                              i.fst + (1 : Nat) = i'.fst ∧
                                ∀ (i_1 : Nat),
                                  i_1 < i.fst + (1 : Nat) →
                                    (if i_1 < i.fst then
                                            AV.agg
                                              [AV.int IntKind.i64 (A.K ((0 : Nat) + i_1)), AV.bool (A.B ((0 : Nat) + i_1)), AV.int IntKind.u64 (A.O ((0 : Nat) + i_1)),
                                                AV.rof (A.N ((0 : Nat) + i_1)) (fun (i : Nat) => AV.agg [AV.int IntKind.i64 (A.P ((0 : Nat) + i_1) i), AV.int IntKind.i64 (A.V ((0 : Nat) + i_1) i)]) false,
                                                AV.str (A.M ((0 : Nat) + i_1))]
                                          else
                                            ((Sq.lst
                                                      [AV.agg
                                                          [AV.int IntKind.i64 (A.K (↑i.fst : Int).toNat), AV.bool (A.B (↑i.fst : Int).toNat), AV.int IntKind.u64 (A.O (↑i.fst : Int).toNat),
                                                            AV.rof (A.N (↑i.fst : Int).toNat)
                                                              (fun (i_2 : Nat) => AV.agg [AV.int IntKind.i64 (A.5 (↑i.fst : Int).toNat i_2), AV.int IntKind.i64 (A.6 (↑i.fst : Int).toNat i_2)]) false,
                                                            AV.str (A.M (↑i.fst : Int).toNat)]]).sub
                                                  (0 : Nat) (1 : Nat)).get
                                              (i_1 - i.fst)).sub
                                        (AV.agg
                                          [AV.int IntKind.i64 (A.K i_1), AV.bool (A.B i_1), AV.int IntKind.u64 (A.O i_1),
                                            AV.rof (A.N i_1) (fun (i : Nat) => AV.agg [AV.int IntKind.i64 (A.P i_1 i), AV.int IntKind.i64 (A.V i_1 i)]) false, AV.str (A.M i_1)]) ∧
                                      (if i_1 < i.fst then
                                              AV.agg
                                                [AV.int IntKind.i64 (A.K ((0 : Nat) + i_1)), AV.bool (A.B ((0 : Nat) + i_1)), AV.int IntKind.u64 (A.O ((0 : Nat) + i_1)),
                                                  AV.rof (A.N ((0 : Nat) + i_1)) (fun (i : Nat) => AV.agg [AV.int IntKind.i64 (A.P ((0 : Nat) + i_1) i), AV.int IntKind.i64 (A.V ((0 : Nat) + i_1) i)]) false,
                                                  AV.str (A.M ((0 : Nat) + i_1))]
                                            else
                                              ((Sq.lst
                                                        [AV.agg
                                                            [AV.int IntKind.i64 (A.K (↑i.fst : Int).toNat), AV.bool (A.B (↑i.fst : Int).toNat), AV.int IntKind.u64 (A.O (↑i.fst : Int).toNat),
                                                              AV.rof (A.N (↑i.fst : Int).toNat)
                                                                (fun (i_2 : Nat) => AV.agg [AV.int IntKind.i64 (A.5 (↑i.fst : Int).toNat i_2), AV.int IntKind.i64 (A.6 (↑i.fst : Int).toNat i_2)]) false,
                                                              AV.str (A.M (↑i.fst : Int).toNat)]]).sub
                                                    (0 : Nat) (1 : Nat)).get
                                                (i_1 - i.fst)).cells.length =
                                        [AV.int IntKind.i64 (A.K i_1), AV.bool (A.B i_1), AV.int IntKind.u64 (A.O i_1),
                                            AV.rof (A.N i_1) (fun (i : Nat) => AV.agg [AV.int IntKind.i64 (A.P i_1 i), AV.int IntKind.i64 (A.V i_1 i)]) false, AV.str (A.M i_1)].length) ∧
                          True))))
          (NB (decide (i.snd = i.snd))
            (i.fst = m ∧
              (∀ (i_1 : Nat),
                  i_1 < i.fst →
                    (A.K ((0 : Nat) + i_1) = A.K i_1 ∧
                        A.B ((0 : Nat) + i_1) = A.B i_1 ∧
                          A.O ((0 : Nat) + i_1) = A.O i_1 ∧
                            (A.N ((0 : Nat) + i_1) = A.N i_1 ∧
                                (∀ (i : Nat),
                                    i < A.N ((0 : Nat) + i_1) →
                                      (A.P ((0 : Nat) + i_1) i = A.P i_1 i ∧ A.V ((0 : Nat) + i_1) i = A.V i_1 i ∧ True) ∧
                                        [AV.int IntKind.i64 (A.P ((0 : Nat) + i_1) i), AV.int IntKind.i64 (A.V ((0 : Nat) + i_1) i)].length = [AV.int IntKind.i64 (A.P i_1 i), AV.int IntKind.i64 (A.V i_1 i)].length) ∧
                                  (false = true → false = true)) ∧
                              A.M ((0 : Nat) + i_1) = A.M i_1 ∧ True) ∧
                      [AV.int IntKind.i64 (A.K ((0 : Nat) + i_1)), AV.bool (A.B ((0 : Nat) + i_1)), AV.int IntKind.u64 (A.O ((0 : Nat) + i_1)),
                            AV.rof (A.N ((0 : Nat) + i_1)) (fun (i : Nat) => AV.agg [AV.int IntKind.i64 (A.P ((0 : Nat) + i_1) i), AV.int IntKind.i64 (A.V ((0 : Nat) + i_1) i)]) false,
                            AV.str (A.M ((0 : Nat) + i_1))].length =
                        [AV.int IntKind.i64 (A.K i_1), AV.bool (A.B i_1), AV.int IntKind.u64 (A.O i_1), AV.rof (A.N i_1) (fun (i : Nat) => AV.agg [AV.int IntKind.i64 (A.P i_1 i), AV.int IntKind.i64 (A.V i_1 i)]) false,
                            AV.str (A.M i_1)].length) ∧
                (false = true → decide (none = some i.fst) = true)))) := by
  kernel_rfl

theorem sameAtoms_vc (m : Nat) (A : Ats) : (vcFun (mkG Tryd.prog gN (tblOf tblD) (fun f b => if f = 29 ∧ b = 0 then some (invSAs m A) else none) 0) 20 29 [.rof m (fun j => .agg [.int .i64 (A.K j), .bool (A.B j), .int .u64 (A.O j), .rof (A.N j) (fun i => .agg [.int .i64 (A.P j i), .int .i64 (A.V j i)]) false, .str (A.M j)]) false, .rof m (fun j => .agg [.int .i64 (A.K j), .bool (A.B j), .int .u64 (A.O j), .rof (A.N j) (fun i => .agg [.int .i64 (A.P j i), .int .i64 (A.V j i)]) false, .str (A.M j)]) false] .nil 0 (retP 3 (.bool true))).sat = (
  VB ((↑m : Int) != (↑m : Int)) (false = true)
    ((∃ (i : Nat),
        i.le m ∧
          ((m = m ∧
                (∀ (i : Nat),
                    i < m →
                      (A.K i = A.K i ∧
                          A.B i = A.B i ∧
                            A.O i = A.O i ∧
                              (A.N i = A.N i ∧
                                  (∀ (i_1 : Nat),
                                      i_1 < A.N i →
                                        (A.P i i_1 = A.P i i_1 ∧ A.V i i_1 = A.V i i_1 ∧ True) ∧
                                          [AV.int IntKind.i64 (A.P i i_1), AV.int IntKind.i64 (A.V i i_1)].length = [AV.int IntKind.i64 (A.P i i_1), AV.int IntKind.i64 (A.V i i_1)].length) ∧
                                    (false = true → false = true)) ∧
                                A.M i = A.M i ∧ True) ∧
                        [AV.int IntKind.i64 (A.K i), AV.bool (A.B i), AV.int IntKind.u64 (A.O i), AV.rof (A.N i) (fun (i_1 : Nat) => AV.agg [AV.int IntKind.i64 (A.P i i_1), AV.int IntKind.i64 (A.V i i_1)]) false,
                              AV.str (A.M i)].length =
                          [AV.int IntKind.i64 (A.K i), AV.bool (A.B i), AV.int IntKind.u64 (A.O i), AV.rof (A.N i) (fun (i_1 : Nat) => AV.agg [AV.int IntKind.i64 (A.P i i_1), AV.int IntKind.i64 (A.V i i_1)]) false,
                              AV.str (A.M i)].length) ∧
                  (false = true → false = true)) ∧
              (m = m ∧
                  (∀ (i : Nat),
                      i < m →
                        (A.K i = A.K i ∧
                            A.B i = A.B i ∧
                              A.O i = A.O i ∧
                                (A.N i = A.N i ∧
                                    (∀ (i_1 : Nat),
                                        i_1 < A.N i →
                                          (A.P i i_1 = A.P i i_1 ∧ A.V i i_1 = A.V i i_1 ∧ True) ∧
                                            [AV.int IntKind.i64 (A.P i i_1), AV.int IntKind.i64 (A.V i i_1)].length = [AV.int IntKind.i64 (A.P i i_1), AV.int IntKind.i64 (A.V i i_1)].length) ∧
                                      (false = true → false = true)) ∧
                                  A.M i = A.M i ∧ True) ∧
                          [AV.int IntKind.i64 (A.K i), AV.bool (A.B i), AV.int IntKind.u64 (A.O i), AV.rof (A.N i) (fun (i_1 : Nat) => AV.agg [AV.int IntKind.i64 (A.P i i_1), AV.int IntKind.i64 (A.V i i_1)]) false,
                                AV.str (A.M i)].length =
                            [AV.int IntKind.i64 (A.K i), AV.bool (A.B i), AV.int IntKind.u64 (A.O i), AV.rof (A.N i) (fun (i_1 : Nat) => AV.agg [AV.int IntKind.i64 (A.P i i_1), AV.int IntKind.i64 (A.V i i_1)]) false,
                                AV.str (A.M i)].length) ∧
                    (false = true → false = true)) ∧
                (0 : Int) = (↑i : Int) ∧ True) ∧
            True) ∧
      ∀ (i : Nat),
        i.le m →
          VB (decide ((↑i : Int) < (↑m : Int)))
            (NB (decide ((0 : Int) ≤ (↑i : Int) ∧ (↑i : Int) < (↑m : Int)))
              (NB (decide ((0 : Int) ≤ (↑i : Int) ∧ (↑i : Int) < (↑m : Int)))
                (NB
                  (((decide (A.N (↑i : Int).toNat ≤ (1000000 : Nat)) &&
                                  condsB (A.N (↑i : Int).toNat) fun (i_1 : Nat) => AV.agg [AV.int IntKind.i64 (A.P (↑i : Int).toNat i_1), AV.int IntKind.i64 (A.V (↑i : Int).toNat i_1)]) &&
                                condsB (A.N (↑i : Int).toNat) fun (i_1 : Nat) => AV.agg [AV.int IntKind.i64 (A.P (↑i : Int).toNat i_1), AV.int IntKind.i64 (A.V (↑i : Int).toNat i_1)]) &&
                              decide (A.K (↑i : Int).toNat = A.K (↑i : Int).toNat) &&
                            decide (A.B (↑i : Int).toNat = A.B (↑i : Int).toNat) &&
                          decide (A.O (↑i : Int).toNat = A.O (↑i : Int).toNat) &&
                        decide (A.M (↑i : Int).toNat = A.M (↑i : Int).toNat) &&
                      decide (A.N (↑i : Int).toNat = A.N (↑i : Int).toNat) &&
                    sameCs (A.N (↑i : Int).toNat) (fun (i_1 : Nat) => AV.agg [AV.int IntKind.i64 (A.P (↑i : Int).toNat i_1), AV.int IntKind.i64 (A.V (↑i : Int).toNat i_1)]) fun (i_1 : Nat) =>
                      AV.agg [AV.int IntKind.i64 (A.P (↑i : Int).toNat i_1), AV.int IntKind.i64 (A.V (↑i : Int).toNat i_1)])
                  (∃ (i' : Nat),
                    i'.le m ∧
                      (invSAs m A).μ i' < (invSAs m A).μ i ∧
                        ((m = m ∧
                              (∀ (i : Nat),
                                  i < m →
                                    (A.K i = A.K i ∧
                                        A.B i = A.B i ∧
                                          A.O i = A.O i ∧
                                            (A.N i = A.N i ∧
                                                (∀ (i_1 : Nat),
                                                    i_1 < A.N i →
                                                      (A.P i i_1 = A.P i i_1 ∧ A.V i i_1 = A.V i i_1 ∧ True) ∧
                                                        [AV.int IntKind.i64 (A.P i i_1), AV.int IntKind.i64 (A.V i i_1)].length = [AV.int IntKind.i64 (A.P i i_1), AV.int IntKind.i64 (A.V i i_1)].length) ∧
                                                  (false = true → false = true)) ∧
                                              A.M i = A.M i ∧ True) ∧
                                      [AV.int IntKind.i64 (A.K i), AV.bool (A.B i), AV.int IntKind.u64 (A.O i),
                                            AV.rof (A.N i) (fun (i_1 : Nat) => AV.agg [AV.int IntKind.i64 (A.P i i_1), AV.int IntKind.i64 (A.V i i_1)]) false, AV.str (A.M i)].length =
                                        [AV.int IntKind.i64 (A.K i), AV.bool (A.B i), AV.int IntKind.u64 (A.O i),
                                            AV.rof (A.N i) (fun (i_1 : Nat) => AV.agg [AV.int IntKind.i64 (A.P i i_1), AV.int IntKind.i64 (A.V i i_1)]) false, AV.str (A.M i)].length) ∧
                                (false = true → false = true)) ∧
                            (m = m ∧
                                (∀ (i : Nat),
                                    i < m →
                                      (A.K i = A.K i ∧
                                          A.B i = A.B i ∧
                                            A.O i = A.O i ∧
                                              (A.N i = A.N i ∧
                                                  (∀ (i_1 : Nat),
                                                      i_1 < A.N i →
                                                        (A.P i i_1 = A.P i i_1 ∧ A.V i i_1 = A.V i i_1 ∧ True) ∧
                                                          [AV.int IntKind.i64 (A.P i i_1), AV.int IntKind.i64 (A.V i i_1)].length = [AV.int IntKind.i64 (A.P i i_1), AV.int IntKind.i64 (A.V i i_1)].length) ∧
                                                    (false = true → false = true)) ∧
                                                A.M i = A.M i ∧ True) ∧
                                        [AV.int IntKind.i64 (A.K i), AV.bool (A.B i), AV.int IntKind.u64 (A.O i),
                                              AV.rof (A.N i) (fun (i_1 : Nat) => AV.agg [AV.int IntKind.i64 (A.P i i_1), AV.int IntKind.i64 (A.V i i_1)]) false, AV.str (A.M i)].length =
                                          [AV.int IntKind.i64 (A.K i), AV.bool (A.B i), AV.int IntKind.u64 (A.O i),
                                              AV.rof (A.N i) (fun (i_1 : Nat) => AV.agg [AV.int IntKind.i64 (A.P i i_1), AV.int IntKind.i64 (A.V i i_1)]) false, AV.str (A.M i)].length) ∧
                                  (false = true → false = true)) ∧
                              IntKind.i64.wrap ((↑i : Int) + (1 : Int)) = (↑i' : Int) ∧ True) ∧
                          True))))
            (true = true))) := by
  kernel_rfl

theorem ownInts_vc (m : Nat) (f : Nat → Int) : (vcFun (mkG Tryd.prog gN (tblOf tblD) (fun _ _ => none) 0) 20 30 [.rof m (fun k => .int .i64 (f k)) false] .nil 0 (retP 3 (.rof m (fun k => .int .i64 (f k)) false))).sat = (
  NB (true && room ((0 : Nat) + m) (8 : Nat) && true && (m != (0 : Nat) || true))
    ((0 : Nat) + m = m ∧
      (∀ (i : Nat), i < (0 : Nat) + m → f ((0 : Nat) + i) = f i ∧ [AV.int IntKind.i64 (f ((0 : Nat) + i))].length = [AV.int IntKind.i64 (f i)].length) ∧ (false = true → decide (none = some ((0 : Nat) + m)) = true))) := by
  kernel_rfl

theorem sameInts_vc (m : Nat) (f : Nat → Int) : (vcFun (mkG Tryd.prog gN (tblOf tblD) (fun g b => if g = 35 ∧ b = 0 then some (invSI m f) else none) 0) 20 35 [.rof m (fun k => .int .i64 (f k)) false, .rof m (fun k => .int .i64 (f k)) false] .nil 0 (retP 3 (.bool true))).sat = (
  VB ((↑m : Int) != (↑m : Int)) (false = true)
    ((∃ (i : Nat),
        i.le m ∧
          ((m = m ∧ (∀ (i : Nat), i < m → f i = f i ∧ [AV.int IntKind.i64 (f i)].length = [AV.int IntKind.i64 (f i)].length) ∧ (false = true → false = true)) ∧
              (m = m ∧ (∀ (i : Nat), i < m → f i = f i ∧ [AV.int IntKind.i64 (f i)].length = [AV.int IntKind.i64 (f i)].length) ∧ (false = true → false = true)) ∧ (0 : Int) = (↑i : Int) ∧ True) ∧
            True) ∧
      ∀ (i : Nat),
        i.le m →
          VB (decide ((↑i : Int) < (↑m : Int)))
            (NB (decide ((0 : Int) ≤ (↑i : Int) ∧ (↑i : Int) < (↑m : Int)))
              (NB (decide ((0 : Int) ≤ (↑i : Int) ∧ (↑i : Int) < (↑m : Int)))
                (VB (f (↑i : Int).toNat != f (↑i : Int).toNat) (false = true)
                  (∃ (i' : Nat),
                    i'.le m ∧
                      (invSI m f).μ i' < (invSI m f).μ i ∧
                        ((m = m ∧ (∀ (i : Nat), i < m → f i = f i ∧ [AV.int IntKind.i64 (f i)].length = [AV.int IntKind.i64 (f i)].length) ∧ (false = true → false = true)) ∧
                            (m = m ∧ (∀ (i : Nat), i < m → f i = f i ∧ [AV.int IntKind.i64 (f i)].length = [AV.int IntKind.i64 (f i)].length) ∧ (false = true → false = true)) ∧
                              IntKind.i64.wrap ((↑i : Int) + (1 : Int)) = (↑i' : Int) ∧ True) ∧
                          True))))
            (true = true))) := by
  kernel_rfl

end Go.Proofs.YtjkkkldkimdajaaDoor
namespace Go.Proofs.YtjkkkldkimdajaaDoor
open Pw Go
set_option maxRecDepth 100000
set_option linter.unusedSimpArgs false

theorem ckS_succ {A : Ats} {i : Nat} (h : ckS A i = 0) : ckS A (i + 1) = checkJ A i := by simp [ckS, h]
theorem ckS_stay {A : Ats} {i : Nat} (h : ckS A i ≠ 0) : ∀ d, ckS A (i + d) = ckS A i
  | 0 => rfl
  | d + 1 => by
    have := ckS_stay h d
    show ckS A (i + d + 1) = _
    simp only [ckS]
    rw [this, if_neg h]
theorem all_stop {A : Ats} {i m : Nat} {ek : Int} (hi : i < m) (h : ckS A i = 0) (hc : checkJ A i ≠ 0) : allE A m ek = checkJ A i := by
  have h1 := ckS_succ h
  have h2 := ckS_stay (A := A) (i := i + 1) (by rw [h1]; exact hc) (m - (i + 1))
  rw [show i + 1 + (m - (i + 1)) = m by omega, h1] at h2
  rw [allE, if_neg (by rw [h2]; exact hc), h2]
theorem ck_all {A : Ats} : ∀ {m : Nat}, ckS A m = 0 → ∀ j, j < m → checkJ A j = 0
  | 0, _, j, hj => by omega
  | m + 1, h, j, hj => by
    have h0 : ckS A m = 0 := by
      refine Classical.byContradiction fun hne => ?_
      have := ckS_stay hne 1
      rw [h] at this
      exact hne this.symm
    rcases Nat.lt_or_ge j m with h' | h'
    · exact ck_all h0 j h'
    · obtain rfl : j = m := by omega
      rw [← ckS_succ h0]; exact h
theorem whN_succ (A : Ats) (l ek x : Int) (i : Nat) : whN A l ek x (i + 1) = if matchJ A l ek x i = true then whN A l ek x i + 1 else whN A l ek x i := by
  simp only [whN, whS]
  split <;> simp
theorem whV_succ {A : Ats} {l ek x : Int} {i k : Nat} (h : matchJ A l ek x i = true) : whV A l ek x (i + 1) k = if k < whN A l ek x i then whV A l ek x i k else if k = whN A l ek x i then (i : Int) else 0 := by
  have hl : (whS A l ek x i).length = whN A l ek x i := rfl
  have e : whV A l ek x (i + 1) k = (whS A l ek x i ++ [(i : Int)]).getD k 0 := by simp only [whV, whS, if_pos h]
  rw [e, List.getD_eq_getElem?_getD]
  by_cases h1 : k < whN A l ek x i
  · rw [if_pos h1, List.getElem?_append_left (by omega)]
    simp only [whV, List.getD_eq_getElem?_getD]
  · rw [if_neg h1, List.getElem?_append_right (by omega)]
    by_cases h2 : k = whN A l ek x i
    · rw [if_pos h2, show k - (whS A l ek x i).length = 0 by omega]
      rfl
    · rw [if_neg h2, List.getElem?_eq_none (by simp; omega)]
      rfl
theorem whV_skip {A : Ats} {l ek x : Int} {i : Nat} (h : matchJ A l ek x i = false) : whN A l ek x (i + 1) = whN A l ek x i ∧ ∀ k, whV A l ek x (i + 1) k = whV A l ek x i k := by
  simp [whN, whV, whS, h]
theorem whN_le (A : Ats) (l ek x : Int) : ∀ i, whN A l ek x i ≤ i
  | 0 => Nat.le_refl _
  | i + 1 => by
    have := whN_le A l ek x i
    rw [whN_succ]
    split <;> omega
def atsOK (m : Nat) (A : Ats) : Prop := ∀ j, j < m → (A.M j).length ≤ 9223372036854775807 ∧ u64B (A.O j) = true

theorem whichI_pure (m : Nat) (A : Ats) (l ek x : Int) (hm : m ≤ 1000000) (hA : atsOK m A) (hl : u64B l = true) : PureC Tryd.prog gN 31 [atsAV m A, .agg (evL l ek x)]
    (.tup [.rof (if allE A m ek = 0 then whN A l ek x m else 0) (fun k => .int .i64 (whV A l ek x m k)) false, .int .i64 (allE A m ek)]) := by
  refine pure_vcG mix tblD_ok ((whichI_vc m A l ek x).mpr ?_)
  have hc : ∀ i, checkE (A.K i) (A.B i) (A.O i) (A.N i) (fun i_1 => A.P i i_1) (A.M i) = checkJ A i := fun i => rfl
  have hma : ∀ i, matchS (A.K i) (A.B i) (A.O i) (A.N i) (fun i_1 => A.P i i_1) (fun i_1 => A.V i i_1) l ek x = matchJ A l ek x i := fun i => rfl
  simp only [EqI, imp_self, true_and, and_true, implies_true, Int.toNat_natCast, List.length_cons, List.length_nil, condsB_agg, hc, hma, hl, decide_true, Bool.and_self, NB_t, or_self, or_true, true_or, Nat.zero_add, Bool.true_and, Bool.and_true]
  refine ⟨⟨0, by simp [ckS]⟩, fun i hi => ?_⟩
  obtain ⟨hi1, hi2⟩ := hi
  refine VB_intro (fun hlt => ?_) (fun hlt => ?_)
  · have hlt' : i < m := by have := of_decide_eq_true hlt; omega
    refine NB_intro (decide_eq_true (by omega)) (NB_intro (decide_eq_true (hA i hlt').1) (VB_intro (fun hb => ?_) (fun hb => ?_)))
    · have hb' : checkJ A i ≠ 0 := by simpa using hb
      have := all_stop (ek := ek) hlt' hi2 hb'
      rw [this, if_neg hb']
      exact ⟨rfl, rfl⟩
    · have hb' : checkJ A i = 0 := by simpa using hb
      exact ⟨i + 1, ⟨by omega, by rw [ckS_succ hi2, hb']⟩, by simp only [invW1]; omega, by rw [wrap_i64_id (by omega) (by omega)]; omega⟩
  · have hie : i = m := by have := of_decide_eq_false hlt; omega
    subst hie
    have hall := ck_all hi2
    have hE : allE A i ek = eventE ek := by rw [allE, if_pos hi2]
    rw [hE]
    refine VB_intro (fun hb => ?_) (fun hb => ?_)
    · have hb' : eventE ek ≠ 0 := by simpa using hb
      rw [if_neg hb']
      exact ⟨rfl, rfl⟩
    · have hb' : eventE ek = 0 := by simpa using hb
      rw [if_pos hb', hb']
      refine ⟨⟨(0, 0), by simp, by simp [whN, whS]⟩, fun p hp => ?_⟩
      obtain ⟨q, g⟩ := p
      simp only at hp ⊢
      replace hp : q ≤ i := hp
      have hle := whN_le A l ek x q
      refine VB_intro (fun hq => ?_) (fun hq => ?_)
      · have hq' : q < i := by have := of_decide_eq_true hq; omega
        obtain ⟨c1, c2, _⟩ := check_zero (hall q hq')
        have e1 : okAll (A.N q) (fun i_1 => A.P q i_1) = true := c2
        refine NB_intro (decide_eq_true (by omega)) (NB_intro (by rw [decide_eq_true (show A.N q ≤ 1000000 by omega), e1, (hA q hq').2]; rfl) (VB_intro (fun hmt => ?_) (fun hmt => ?_)))
        · refine NB_intro (by simp only [room]; exact decide_eq_true (by omega)) ?_
          have hN : whN A l ek x (q + 1) = whN A l ek x q + 1 := by rw [whN_succ, if_pos hmt]
          refine ⟨(q + 1, g + 1), by show q + 1 ≤ i; omega, by simp only [invW2]; omega, ⟨⟨rfl, hN.symm⟩, by rw [wrap_i64_id (by omega) (by omega)]; simp⟩, rfl, hN.symm, fun k hk => ?_⟩
          have hV := whV_succ (k := k) hmt
          simp only
          by_cases hk1 : k < whN A l ek x q
          · rw [if_pos hk1, hV, if_pos hk1]
            exact ⟨(sub_int _ _).2 rfl, rfl⟩
          · rw [if_neg hk1, show k - whN A l ek x q = 0 by omega, one_get, hV, if_neg hk1, if_pos (by omega)]
            exact ⟨(sub_int _ _).2 rfl, rfl⟩
        · obtain ⟨s1, s2⟩ := whV_skip hmt
          refine ⟨(q + 1, g), by show q + 1 ≤ i; omega, by simp only [invW2]; omega, ⟨⟨rfl, s1.symm⟩, by rw [wrap_i64_id (by omega) (by omega)]; simp⟩, rfl, s1.symm, fun k hk => (s2 k).symm⟩
      · have hqe : q = i := by have := of_decide_eq_false hq; omega
        subst hqe
        simp
theorem checks_pure (m : Nat) (A : Ats) (l ek x : Int) (hm : m ≤ 1000000) (hA : atsOK m A) : PureC Tryd.prog gN 58 [atsAV m A, .agg (evL l ek x)] (.int .i64 (allE A m ek)) := by
  refine pure_vcG mix tblD_ok ((checks_vc m A l ek x).mpr ?_)
  have hc : ∀ i, checkE (A.K i) (A.B i) (A.O i) (A.N i) (fun i_1 => A.P i i_1) (A.M i) = checkJ A i := fun i => rfl
  simp only [EqI, imp_self, true_and, and_true, implies_true, Int.toNat_natCast, List.length_cons, List.length_nil, condsB_agg, hc, decide_true, Bool.and_self, NB_t, or_self, or_true, true_or, Nat.zero_add, Bool.true_and, Bool.and_true]
  refine ⟨⟨0, by simp [ckS]⟩, fun i hi => ?_⟩
  obtain ⟨hi1, hi2⟩ := hi
  refine VB_intro (fun hlt => ?_) (fun hlt => ?_)
  · have hlt' : i < m := by have := of_decide_eq_true hlt; omega
    refine NB_intro (decide_eq_true (by omega)) (NB_intro (decide_eq_true (hA i hlt').1) (VB_intro (fun hb => ?_) (fun hb => ?_)))
    · exact (all_stop hlt' hi2 (by simpa using hb)).symm
    · have hb' : checkJ A i = 0 := by simpa using hb
      exact ⟨i + 1, ⟨by omega, by rw [ckS_succ hi2, hb']⟩, by simp only [invC]; omega, by rw [wrap_i64_id (by omega) (by omega)]; omega⟩
  · have hie : i = m := by have := of_decide_eq_false hlt; omega
    subst hie
    rw [allE, if_pos hi2]
theorem ownInts_pure (m : Nat) (f : Nat → Int) (hm : m ≤ 1000000) : PureC Tryd.prog gN 30 [.rof m (fun k => .int .i64 (f k)) false] (.rof m (fun k => .int .i64 (f k)) false) := by
  refine pure_vcG mix tblD_ok ((ownInts_vc m f).mpr ?_)
  have hroom : room m 8 = true := by simp only [room]; exact decide_eq_true (by omega)
  simp [hroom, NB]
theorem sameInts_pure (m : Nat) (f : Nat → Int) (hm : m ≤ 1000000) : PureC Tryd.prog gN 35 [.rof m (fun k => .int .i64 (f k)) false, .rof m (fun k => .int .i64 (f k)) false] (.bool true) := by
  refine pure_vcG mix tblD_ok ((sameInts_vc m f).mpr ?_)
  simp only [EqI, imp_self, true_and, and_true, implies_true, Int.toNat_natCast, List.length_cons, List.length_nil, bne_self_eq_false, beq_self_eq_true, Bool.not_true, Bool.or_self, VB_t, VB_f, Bool.and_self]
  refine ⟨⟨0, by simp⟩, fun i hi => ?_⟩
  replace hi : i ≤ m := hi
  refine VB_intro (fun h => ?_) (fun _ => trivial)
  have hlt : i < m := by have := of_decide_eq_true h; omega
  refine NB_intro (decide_eq_true (by omega)) (NB_intro (decide_eq_true (by omega)) ?_)
  exact ⟨i + 1, by show i + 1 ≤ m; omega, by simp only [invSI]; omega, by rw [wrap_i64_id (by omega) (by omega)]; omega⟩
theorem sameCs_rfl {n : Nat} {f : Nat → AV} : sameCs n f f = true := by simp [sameCs]
theorem sameAtoms_pure (m : Nat) (A : Ats) (hm : m ≤ 1000000) (hA : ∀ j, j < m → A.N j ≤ 1000000) : PureC Tryd.prog gN 29 [atsAV m A, atsAV m A] (.bool true) := by
  refine pure_vcG mix tblD_ok ((sameAtoms_vc m A).mpr ?_)
  simp only [EqI, imp_self, true_and, and_true, implies_true, Int.toNat_natCast, List.length_cons, List.length_nil, condsB_agg, sameCs_rfl, bne_self_eq_false, beq_self_eq_true, decide_true, Bool.not_true, Bool.or_self, VB_t, VB_f, Bool.and_self, Bool.and_true]
  refine ⟨⟨0, by simp⟩, fun i hi => ?_⟩
  replace hi : i ≤ m := hi
  refine VB_intro (fun h => ?_) (fun _ => trivial)
  have hlt : i < m := by have := of_decide_eq_true h; omega
  refine NB_intro (decide_eq_true (by omega)) (NB_intro (decide_eq_true (by omega)) (NB_intro (decide_eq_true (hA i hlt)) ?_))
  exact ⟨i + 1, by show i + 1 ≤ m; omega, by simp only [invSAs]; omega, by rw [wrap_i64_id (by omega) (by omega)]; omega⟩
theorem ownAtoms_pure (m : Nat) (A : Ats) (hm : m ≤ 1000000) (hA : ∀ j, j < m → A.N j ≤ 1000000) : PureC Tryd.prog gN 18 [atsAV m A] (atsAV m A) := by
  refine pure_vcG mix tblD_ok ((ownAtoms_vc m A).mpr ?_)
  simp only [EqI, imp_self, true_and, and_true, implies_true, Int.toNat_natCast, List.length_cons, List.length_nil, condsB_agg, decide_true, Bool.and_self, NB_t, or_self, or_true, true_or, Nat.zero_add, Bool.true_and, Bool.and_true]
  refine ⟨⟨(0, 0), by simp⟩, fun p hp => ?_⟩
  obtain ⟨q, g⟩ := p
  simp only at hp ⊢
  replace hp : q ≤ m := hp
  refine VB_intro (fun hq => ?_) (fun hq => ?_)
  · have hq' : q < m := by have := of_decide_eq_true hq; omega
    refine NB_intro (decide_eq_true (by omega)) (NB_intro (decide_eq_true (hA q hq')) (NB_intro (by simp only [room]; exact decide_eq_true (by omega)) ?_))
    refine ⟨(q + 1, g + 1), by show q + 1 ≤ m; omega, by simp only [invOA]; omega, ⟨⟨rfl, rfl⟩, by rw [wrap_i64_id (by omega) (by omega)]; simp⟩, rfl, rfl, fun k hk => ?_⟩
    by_cases hk1 : k < q
    · rw [if_pos hk1]
      exact ⟨⟨rfl, rfl, rfl, ⟨rfl, fun i hi => ⟨⟨rfl, rfl, trivial⟩, rfl⟩, by simp⟩, rfl, trivial⟩, rfl⟩
    · obtain rfl : k = q := by omega
      rw [if_neg hk1, Nat.sub_self, one_get]
      exact ⟨⟨rfl, rfl, rfl, ⟨rfl, fun i hi => ⟨⟨rfl, rfl, trivial⟩, rfl⟩, by simp⟩, rfl, trivial⟩, rfl⟩
  · have hqe : q = m := by have := of_decide_eq_false hq; omega
    subst hqe
    simp
end Go.Proofs.YtjkkkldkimdajaaDoor
namespace Go.Proofs.YtjkkkldkimdajaaDoor
open Pw Go
set_option maxRecDepth 100000
set_option linter.unusedSimpArgs false

def aK : AV → Int
  | .agg [.int _ k, _, _, _, _] => k
  | _ => 0
def aB : AV → Bool
  | .agg [_, .bool b, _, _, _] => b
  | _ => false
def aO : AV → Int
  | .agg [_, _, .int _ b, _, _] => b
  | _ => 0
def aN : AV → Nat
  | .agg [_, _, _, .rof n _ _, _] => n
  | _ => 0
def aF : AV → Nat → AV
  | .agg [_, _, _, .rof _ f _, _], i => f i
  | _, _ => .undef
def aM : AV → List UInt8
  | .agg [_, _, _, _, .str s] => s
  | _ => []
def isAtom : AV → Bool
  | .agg [.int .i64 _, .bool _, .int .u64 _, .rof n f _, .str _] => condsB n f
  | _ => false
def atsB (m : Nat) (f : Nat → AV) : Bool := (List.range m).all fun j => isAtom (f j)
def atsOf (f : Nat → AV) : Ats := ⟨fun j => aK (f j), fun j => aB (f j), fun j => aO (f j), fun j => aN (f j), fun j i => opOf (aF (f j) i), fun j i => valOf (aF (f j) i), fun j => aM (f j)⟩
theorem ats_sub {m : Nat} {f : Nat → AV} {ex : Bool} (h : atsB m f = true) : (AV.rof m f ex).sub (atsAV m (atsOf f)) := by
  refine ⟨rfl, fun j hj => ?_, by simp⟩
  have := List.all_eq_true.1 h j (by simpa using hj)
  show (f j).sub (.agg [.int .i64 (aK (f j)), .bool (aB (f j)), .int .u64 (aO (f j)), .rof (aN (f j)) (fun i => .agg [.int .i64 (opOf (aF (f j) i)), .int .i64 (valOf (aF (f j) i))]) false, .str (aM (f j))]) ∧ (f j).cells.length = 5
  generalize f j = x at this
  unfold isAtom at this
  split at this
  · exact ⟨⟨rfl, rfl, rfl, rof_cond_sub this, rfl, trivial⟩, rfl⟩
  · cases this
theorem atsOf_at (A : Ats) : atsOf (fun j => .agg [.int .i64 (A.K j), .bool (A.B j), .int .u64 (A.O j), .rof (A.N j) (fun i => .agg [.int .i64 (A.P j i), .int .i64 (A.V j i)]) false, .str (A.M j)]) = A := rfl
theorem atsB_at (m : Nat) (A : Ats) : atsB m (fun j => .agg [.int .i64 (A.K j), .bool (A.B j), .int .u64 (A.O j), .rof (A.N j) (fun i => .agg [.int .i64 (A.P j i), .int .i64 (A.V j i)]) false, .str (A.M j)]) = true := by
  simp [atsB, isAtom, condsB_agg]
def okAts (m : Nat) (A : Ats) : Bool := (List.range m).all fun j => nmB (A.M j) && u64B (A.O j)
def smAts (m : Nat) (A : Ats) : Bool := (List.range m).all fun j => decide (A.N j ≤ 1000000)
theorem okAts_iff {m : Nat} {A : Ats} : okAts m A = true ↔ atsOK m A := by simp [okAts, atsOK, nmB]
theorem smAts_iff {m : Nat} {A : Ats} : smAts m A = true ↔ ∀ j, j < m → A.N j ≤ 1000000 := by simp [smAts]
open Classical in
noncomputable def eqAts (A B : Ats) : Bool := decide (A = B)
theorem eqAts_self (A : Ats) : eqAts A A = true := by simp [eqAts]
theorem eqAts_eq {A B : Ats} (h : eqAts A B = true) : A = B := by simpa [eqAts] using h
def iOf : AV → Int
  | .int _ n => n
  | _ => 0
def isI : AV → Bool
  | .int .i64 _ => true
  | _ => false
def intsB (n : Nat) (f : Nat → AV) : Bool := (List.range n).all fun k => isI (f k)
theorem ints_sub {n : Nat} {f : Nat → AV} {ex : Bool} (h : intsB n f = true) : (AV.rof n f ex).sub (.rof n (fun k => .int .i64 (iOf (f k))) false) := by
  refine ⟨rfl, fun j hj => ?_, by simp⟩
  have := List.all_eq_true.1 h j (by simpa using hj)
  show (f j).sub (.int .i64 (iOf (f j))) ∧ (f j).cells.length = 1
  generalize f j = x at this
  unfold isI at this
  split at this
  · exact ⟨rfl, rfl⟩
  · cases this
theorem intsB_at (n : Nat) (f : Nat → Int) : intsB n (fun k => .int .i64 (f k)) = true := by simp [intsB, isI]
theorem iOf_at (k : IntKind) (n : Int) : iOf (.int k n) = n := rfl
open Classical in
noncomputable def eqFn (f g : Nat → Int) : Bool := decide (f = g)
theorem eqFn_self (f : Nat → Int) : eqFn f f = true := by simp [eqFn]
theorem eqFn_eq {f g : Nat → Int} (h : eqFn f g = true) : f = g := by simpa [eqFn] using h

def WhAV (A : Ats) (m : Nat) (l ek x : Int) : AV := .tup [.rof (if allE A m ek = 0 then whN A l ek x m else 0) (fun k => .int .i64 (whV A l ek x m k)) false, .int .i64 (allE A m ek)]
def cWhich : Ctr
  | [.rof m f _, .agg [.int .u64 l, .int .i64 ek, .int .i64 x]] => some (decide (m ≤ 1000000) && atsB m f && okAts m (atsOf f) && u64B l, WhAV (atsOf f) m l ek x)
  | _ => none
def cChecks : Ctr
  | [.rof m f _, .agg [.int .u64 _, .int .i64 ek, .int .i64 _]] => some (decide (m ≤ 1000000) && atsB m f && okAts m (atsOf f), .int .i64 (allE (atsOf f) m ek))
  | _ => none
def cOwnAtoms : Ctr
  | [.rof m f _] => some (decide (m ≤ 1000000) && atsB m f && smAts m (atsOf f), atsAV m (atsOf f))
  | _ => none
noncomputable def cSameAtoms : Ctr
  | [.rof m f _, .rof m' g _] => some (decide (m ≤ 1000000) && decide (m = m') && atsB m f && atsB m' g && smAts m (atsOf f) && eqAts (atsOf f) (atsOf g), .bool true)
  | _ => none
def cOwnInts : Ctr
  | [.rof n f _] => some (decide (n ≤ 1000000) && intsB n f, .rof n (fun k => .int .i64 (iOf (f k))) false)
  | _ => none
noncomputable def cSameInts : Ctr
  | [.rof n f _, .rof n' g _] => some (decide (n ≤ 1000000) && decide (n = n') && intsB n f && intsB n' g && eqFn (fun k => iOf (f k)) (fun k => iOf (g k)), .bool true)
  | _ => none
theorem whichI_ok : PureG Tryd.prog gN 31 cWhich := by
  intro args nd v he hnd
  unfold cWhich at he
  split at he <;> cases he
  simp only [Bool.and_eq_true, decide_eq_true_eq] at hnd
  exact args2 (ats_sub hnd.1.1.2) (ev_sub _ _ _) (whichI_pure _ _ _ _ _ hnd.1.1.1 (okAts_iff.1 hnd.1.2) hnd.2)
theorem checks_ok : PureG Tryd.prog gN 58 cChecks := by
  intro args nd v he hnd
  unfold cChecks at he
  split at he <;> cases he
  simp only [Bool.and_eq_true, decide_eq_true_eq] at hnd
  exact args2 (ats_sub hnd.1.2) (ev_sub _ _ _) (checks_pure _ _ _ _ _ hnd.1.1 (okAts_iff.1 hnd.2))
theorem ownAtoms_ok : PureG Tryd.prog gN 18 cOwnAtoms := by
  intro args nd v he hnd
  unfold cOwnAtoms at he
  split at he <;> cases he
  simp only [Bool.and_eq_true, decide_eq_true_eq] at hnd
  exact args1 (ats_sub hnd.1.2) (ownAtoms_pure _ _ hnd.1.1 (smAts_iff.1 hnd.2))
theorem sameAtoms_ok : PureG Tryd.prog gN 29 cSameAtoms := by
  intro args nd v he hnd
  unfold cSameAtoms at he
  split at he <;> cases he
  simp only [Bool.and_eq_true, decide_eq_true_eq] at hnd
  obtain ⟨⟨⟨⟨⟨h1, rfl⟩, h3⟩, h4⟩, h5⟩, h6⟩ := hnd
  have := ats_sub (ex := false) h4
  rw [← eqAts_eq h6] at this
  exact args2 (ats_sub h3) (by rename_i m f ex g ex'; exact (eqAts_eq h6) ▸ ats_sub h4) (sameAtoms_pure _ _ h1 (smAts_iff.1 h5))
theorem ownInts_ok : PureG Tryd.prog gN 30 cOwnInts := by
  intro args nd v he hnd
  unfold cOwnInts at he
  split at he <;> cases he
  simp only [Bool.and_eq_true, decide_eq_true_eq] at hnd
  exact args1 (ints_sub hnd.2) (ownInts_pure _ _ hnd.1)
theorem sameInts_ok : PureG Tryd.prog gN 35 cSameInts := by
  intro args nd v he hnd
  unfold cSameInts at he
  split at he <;> cases he
  simp only [Bool.and_eq_true, decide_eq_true_eq] at hnd
  obtain ⟨⟨⟨⟨h1, rfl⟩, h3⟩, h4⟩, h5⟩ := hnd
  rename_i n f ex g ex'
  have e := eqFn_eq h5
  have h6 := ints_sub (ex := ex') h4
  have e' : (fun k => AV.int .i64 (iOf (g k))) = fun k => AV.int .i64 (iOf (f k)) := by funext k; rw [show iOf (g k) = iOf (f k) from (congrFun e k).symm]
  rw [e'] at h6
  exact args2 (ints_sub h3) h6 (sameInts_pure _ _ h1)
noncomputable def tblE : List (Nat × Ctr) := (31, cWhich) :: (58, cChecks) :: (18, cOwnAtoms) :: (29, cSameAtoms) :: (30, cOwnInts) :: (35, cSameInts) :: tblD
theorem tblE_ok : TblOK Tryd.prog gN (tblOf tblE) := tblG_cons whichI_ok (tblG_cons checks_ok (tblG_cons ownAtoms_ok (tblG_cons sameAtoms_ok (tblG_cons ownInts_ok (tblG_cons sameInts_ok tblD_ok)))))

/-! ### Some of them -/
def erS (m : Nat) (w : Nat → Int) : Nat → Int
  | 0 => 0
  | i + 1 => if erS m w i = 0 then (if w i < 0 ∨ w i ≥ m then 2 else 0) else erS m w i
def anS (A : Ats) (w : Nat → Int) (l ek x : Int) : Nat → Bool
  | 0 => false
  | i + 1 => anS A w l ek x i || matchJ A l ek x (w i).toNat
def anyE (A : Ats) (m : Nat) (w : Nat → Int) (c : Nat) (ek : Int) : Int := if allE A m ek = 0 then erS m w c else allE A m ek
def anyB (A : Ats) (m : Nat) (w : Nat → Int) (c : Nat) (l ek x : Int) : Bool := decide (allE A m ek = 0) && decide (erS m w c = 0) && anS A w l ek x c
end Go.Proofs.YtjkkkldkimdajaaDoor
