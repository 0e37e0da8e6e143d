/- FLOW CLASSES 1: which classes an atom sees: conditions of the codes. -/
import Derived.Test.YtamcloifhjafcaaDoorRows
import Derived.Test.YtamcloifhjafcaaDoorPwG5
import Derived.KernelRfl
namespace Go.Proofs.YtamcloifhjafcaaDoor
open Pw Go
set_option maxRecDepth 100000
set_option linter.unusedSimpArgs false

theorem mix : Tryd.prog.follows .mixedOrders = true := by kernel_rfl
def gN : Nat → AV := strsG 0 [[99, 111, 117, 110, 116], [115, 117, 109], [109, 105, 110], [109, 97, 120], [102, 105, 114, 115, 116], [108, 97, 115, 116]]
structure Cls where
  L : Nat → Int
  S : Nat → Int
  R : Nat → Int
def clsAV (n : Nat) (C : Cls) : AV := .rof n (fun j => .agg [.int .u64 (C.L j), .int .i64 (C.S j), .int .i64 (C.R j)]) false
def inB (C : Cls) (x : Int) (j : Nat) : Bool := andNotI .u64 (C.L j) x == 0
def seS (C : Cls) (x : Int) : Nat → List Int
  | 0 => []
  | i + 1 => if inB C x i = true then seS C x i ++ [(i : Int)] else seS C x i
def seN (C : Cls) (x : Int) (i : Nat) : Nat := (seS C x i).length
def seV (C : Cls) (x : Int) (i k : Nat) : Int := (seS C x i).getD k 0
def intRow (g n : Nat) (f : Nat → Int) : Blk := .row g 1 true (.fn n fun k => .int .i64 (f k))
def invCI (n : Nat) (C : Cls) (x : Int) : Inv := ⟨Nat × Nat, 40, fun p => ⟨[(0, clsAV n C), (1, .fn (.func 63) [] [.ptr 0 0 0 0]), (5, .sl 30 p.2 0 (seN C x p.1) none), (8, clsAV n C), (9, .int .i64 n), (10, .int .i64 p.1)], [(0, .row 0 1 true (.lst [.int .u64 x])), (30, intRow p.2 (seN C x p.1) (seV C x p.1))]⟩, fun p => p.1 ≤ n, fun p => n - p.1⟩
def invCR (n : Nat) (C : Cls) (x : Int) : Inv := ⟨Nat × Nat, 40, fun p => ⟨[(0, clsAV n C), (1, .int .u64 x), (6, .sl 30 p.2 0 (seN C x p.1) none), (7, .int .i64 p.1)], [(30, intRow p.2 (seN C x p.1) (seV C x p.1))]⟩, fun p => p.1 ≤ n, fun p => n - p.1⟩

def invSI (m : Nat) (f : Nat → Int) : Inv := ⟨Nat, 20, fun i => ⟨[(0, .rof m (fun k => .int .i64 (f k)) false), (1, .rof m (fun k => .int .i64 (f k)) false), (5, .int .i64 i)], []⟩, fun i => i ≤ m, fun i => m - i⟩

theorem sameInts_vc (m : Nat) (f : Nat → Int) : (vcFun (mkG Tryd.prog gN (tblOf []) (fun g b => if g = 31 ∧ b = 0 then some (invSI m f) else none) 0) 20 31 [.rof m (fun k => .int .i64 (f k)) false, .rof m (fun k => .int .i64 (f k)) false] .nil 0 (retP 3 (.bool true))).sat = (
  VB ((↑m : Int) != (↑m : Int)) (false = true)
    ((∃ (i : Nat),
        i.le m ∧
          ((m = m ∧ (∀ (i : Nat), i < m → f i = f i ∧ [AV.int IntKind.i64 (f i)].length = [AV.int IntKind.i64 (f i)].length) ∧ (false = true → false = true)) ∧
              (m = m ∧ (∀ (i : Nat), i < m → f i = f i ∧ [AV.int IntKind.i64 (f i)].length = [AV.int IntKind.i64 (f i)].length) ∧ (false = true → false = true)) ∧ (0 : Int) = (↑i : Int) ∧ True) ∧
            True) ∧
      ∀ (i : Nat),
        i.le m →
          VB (decide ((↑i : Int) < (↑m : Int)))
            (NB (decide ((0 : Int) ≤ (↑i : Int) ∧ (↑i : Int) < (↑m : Int)))
              (NB (decide ((0 : Int) ≤ (↑i : Int) ∧ (↑i : Int) < (↑m : Int)))
                (VB (f (↑i : Int).toNat != f (↑i : Int).toNat) (false = true)
                  (∃ (i' : Nat),
                    i'.le m ∧
                      (invSI m f).μ i' < (invSI m f).μ i ∧
                        ((m = m ∧ (∀ (i : Nat), i < m → f i = f i ∧ [AV.int IntKind.i64 (f i)].length = [AV.int IntKind.i64 (f i)].length) ∧ (false = true → false = true)) ∧
                            (m = m ∧ (∀ (i : Nat), i < m → f i = f i ∧ [AV.int IntKind.i64 (f i)].length = [AV.int IntKind.i64 (f i)].length) ∧ (false = true → false = true)) ∧
                              IntKind.i64.wrap ((↑i : Int) + (1 : Int)) = (↑i' : Int) ∧ True) ∧
                          True))))
            (true = true))) := by
  kernel_rfl

theorem seesI_vc (n : Nat) (C : Cls) (x : Int) : (vcFun (mkG Tryd.prog gN (tblOf []) (fun f b => if f = 62 ∧ b = 0 then some (invCI n C x) else none) 0) 20 27 [.rof n (fun j => .agg [.int .u64 (C.L j), .int .i64 (C.S j), .int .i64 (C.R j)]) false, .int .u64 x] .nil 0 (retP 3 (.tup [.rof (if 8 < n then 0 else seN C x n) (fun k => .int .i64 (seV C x n k)) false, .int .i64 (if 8 < n then 6 else 0)]))).sat = (
  VB (decide ((↑n : Int) > (8 : Int))) ((if (8 : Nat) < n then (0 : Nat) else seN C x n) = (0 : Nat) ∧ ((6 : Int) = if (8 : Nat) < n then (6 : Int) else (0 : Int)) ∧ True)
    ((∃ (i : Nat × Nat),
        i.fst.le n ∧
          ((n = n ∧
                (∀ (i : Nat),
                    i < n →
                      (C.L i = C.L i ∧ C.S i = C.S i ∧ C.R i = C.R i ∧ True) ∧
                        [AV.int IntKind.u64 (C.L i), AV.int IntKind.i64 (C.S i), AV.int IntKind.i64 (C.R i)].length = [AV.int IntKind.u64 (C.L i), AV.int IntKind.i64 (C.S i), AV.int IntKind.i64 (C.R i)].length) ∧
                  (false = true → false = true)) ∧
              (Fn.func (63 : Nat) = Fn.func (63 : FuncId) ∧ True ∧ ((0 : Nat) = (0 : Nat) ∧ (0 : Nat) = (0 : Nat) ∧ (0 : Nat) = (0 : Nat)) ∧ True) ∧
                (seN C x i.fst = (0 : Nat) ∧ i.snd = i.snd ∧ seN C x i.fst = (0 : Nat)) ∧
                  (n = n ∧
                      (∀ (i : Nat),
                          i < n →
                            (C.L i = C.L i ∧ C.S i = C.S i ∧ C.R i = C.R i ∧ True) ∧
                              [AV.int IntKind.u64 (C.L i), AV.int IntKind.i64 (C.S i), AV.int IntKind.i64 (C.R i)].length = [AV.int IntKind.u64 (C.L i), AV.int IntKind.i64 (C.S i), AV.int IntKind.i64 (C.R i)].length) ∧
                        (false = true → false = true)) ∧
                    (↑n : Int) = (↑n : Int) ∧ (0 : Int) = (↑i.fst : Int) ∧ True) ∧
            ((0 : Nat) = (0 : Nat) ∧ (true = true → true = true) ∧ (x = x ∧ [AV.int IntKind.u64 x].length = [AV.int IntKind.u64 x].length) ∧ True) ∧ seN C x i.fst = (0 : Nat) ∧ True) ∧
      ∀ (i : Nat × Nat),
        i.fst.le n →
          VB (decide ((↑i.fst : Int) < (↑n : Int)))
            (NB (decide ((0 : Int) ≤ (↑i.fst : Int) ∧ (↑i.fst : Int) < (↑n : Int)))
              (VB (andNotI IntKind.u64 (C.L (↑i.fst : Int).toNat) x == (0 : Int))
                (NB (true && decide (i.snd = i.snd) && room (seN C x i.fst + (1 : Nat)) (8 : Nat))
                  (∃ (i' : Nat × Nat),
                    i'.fst.le n ∧
                      (invCI n C x).μ i' < (invCI n C x).μ i ∧
                        ((n = n ∧
                              (∀ (i : Nat),
                                  i < n →
                                    (C.L i = C.L i ∧ C.S i = C.S i ∧ C.R i = C.R i ∧ True) ∧
                                      [AV.int IntKind.u64 (C.L i), AV.int IntKind.i64 (C.S i), AV.int IntKind.i64 (C.R i)].length =
                                        [AV.int IntKind.u64 (C.L i), AV.int IntKind.i64 (C.S i), AV.int IntKind.i64 (C.R i)].length) ∧
                                (false = true → false = true)) ∧
                            (Fn.func (63 : FuncId) = Fn.func (63 : FuncId) ∧ True ∧ ((0 : Nat) = (0 : Nat) ∧ (0 : Nat) = (0 : Nat) ∧ (0 : Nat) = (0 : Nat)) ∧ True) ∧
                              (i.snd + (1 : Nat) = i'.snd ∧ (0 : Nat) = (0 : Nat) ∧ seN C x i.fst + (1 : Nat) = seN C x i'.fst ∧ (@Eq (Option Nat) none none ∨ @Eq (Option Nat) none none)) ∧
                                (n = n ∧
                                    (∀ (i : Nat),
                                        i < n →
                                          (C.L i = C.L i ∧ C.S i = C.S i ∧ C.R i = C.R i ∧ True) ∧
                                            [AV.int IntKind.u64 (C.L i), AV.int IntKind.i64 (C.S i), AV.int IntKind.i64 (C.R i)].length =
                                              [AV.int IntKind.u64 (C.L i), AV.int IntKind.i64 (C.S i), AV.int IntKind.i64 (C.R i)].length) ∧
                                      (false = true → false = true)) ∧
                                  (↑n : Int) = (↑n : Int) ∧ IntKind.i64.wrap ((↑i.fst : Int) + (1 : Int)) = (↑i'.fst : Int) ∧ True) ∧
                          ((0 : Nat) = (0 : Nat) ∧ (true = true → true = true) ∧ (x = x ∧ [AV.int IntKind.u64 x].length = [AV.int IntKind.u64 x].length) ∧ True) ∧
                            (i.snd + (1 : Nat) = i'.snd ∧
                                (true = true → true = true) ∧
                                  seN C x i.fst + (1 : Nat) = seN C x i'.fst ∧
                                    ∀ (i_1 : Nat),
                                      i_1 < seN C x i.fst + (1 : Nat) →
                                        (if i_1 < seN C x i.fst then AV.int IntKind.i64 (seV C x i.fst ((0 : Nat) + i_1))
                                              else ((Sq.lst [AV.int IntKind.i64 (↑i.fst : Int)]).sub (0 : Nat) (1 : Nat)).get (i_1 - seN C x i.fst)).sub
                                            (AV.int IntKind.i64 (seV C x i'.fst i_1)) ∧
                                          (if i_1 < seN C x i.fst then AV.int IntKind.i64 (seV C x i.fst ((0 : Nat) + i_1))
                                                else ((Sq.lst [AV.int IntKind.i64 (↑i.fst : Int)]).sub (0 : Nat) (1 : Nat)).get (i_1 - seN C x i.fst)).cells.length =
                                            [AV.int IntKind.i64 (seV C x i'.fst i_1)].length) ∧
                              True))
                (∃ (i' : Nat × Nat),
                  i'.fst.le n ∧
                    (invCI n C x).μ i' < (invCI n C x).μ i ∧
                      ((n = n ∧
                            (∀ (i : Nat),
                                i < n →
                                  (C.L i = C.L i ∧ C.S i = C.S i ∧ C.R i = C.R i ∧ True) ∧
                                    [AV.int IntKind.u64 (C.L i), AV.int IntKind.i64 (C.S i), AV.int IntKind.i64 (C.R i)].length =
                                      [AV.int IntKind.u64 (C.L i), AV.int IntKind.i64 (C.S i), AV.int IntKind.i64 (C.R i)].length) ∧
                              (false = true → false = true)) ∧
                          (Fn.func (63 : FuncId) = Fn.func (63 : FuncId) ∧ True ∧ ((0 : Nat) = (0 : Nat) ∧ (0 : Nat) = (0 : Nat) ∧ (0 : Nat) = (0 : Nat)) ∧ True) ∧
                            (i.snd = i'.snd ∧ (0 : Nat) = (0 : Nat) ∧ seN C x i.fst = seN C x i'.fst ∧ (@Eq (Option Nat) none none ∨ @Eq (Option Nat) none none)) ∧
                              (n = n ∧
                                  (∀ (i : Nat),
                                      i < n →
                                        (C.L i = C.L i ∧ C.S i = C.S i ∧ C.R i = C.R i ∧ True) ∧
                                          [AV.int IntKind.u64 (C.L i), AV.int IntKind.i64 (C.S i), AV.int IntKind.i64 (C.R i)].length =
                                            [AV.int IntKind.u64 (C.L i), AV.int IntKind.i64 (C.S i), AV.int IntKind.i64 (C.R i)].length) ∧
                                    (false = true → false = true)) ∧
                                (↑n : Int) = (↑n : Int) ∧ IntKind.i64.wrap ((↑i.fst : Int) + (1 : Int)) = (↑i'.fst : Int) ∧ True) ∧
                        ((0 : Nat) = (0 : Nat) ∧ (true = true → true = true) ∧ (x = x ∧ [AV.int IntKind.u64 x].length = [AV.int IntKind.u64 x].length) ∧ True) ∧
                          (i.snd = i'.snd ∧
                              (true = true → true = true) ∧
                                seN C x i.fst = seN C x i'.fst ∧
                                  ∀ (i_1 : Nat), i_1 < seN C x i.fst → seV C x i.fst i_1 = seV C x i'.fst i_1 ∧ [AV.int IntKind.i64 (seV C x i.fst i_1)].length = [AV.int IntKind.i64 (seV C x i'.fst i_1)].length) ∧
                            True)))
            (NB (decide (i.snd = i.snd) && true)
              (((seN C x i.fst = if (8 : Nat) < n then (0 : Nat) else seN C x n) ∧
                  (∀ (i_1 : Nat), i_1 < seN C x i.fst → seV C x i.fst ((0 : Nat) + i_1) = seV C x n i_1 ∧ [AV.int IntKind.i64 (seV C x i.fst ((0 : Nat) + i_1))].length = [AV.int IntKind.i64 (seV C x n i_1)].length) ∧
                    (false = true → decide (none = some (seN C x i.fst)) = true)) ∧
                ((0 : Int) = if (8 : Nat) < n then (6 : Int) else (0 : Int)) ∧ True)))) := by
  kernel_rfl

theorem seesR_vc (n : Nat) (C : Cls) (x : Int) : (vcFun (mkG Tryd.prog gN (tblOf []) (fun f b => if f = 28 ∧ b = 0 then some (invCR n C x) else none) 0) 20 28 [.rof n (fun j => .agg [.int .u64 (C.L j), .int .i64 (C.S j), .int .i64 (C.R j)]) false, .int .u64 x] .nil 0 (retP 3 (.tup [.rof (if 8 < n then 0 else seN C x n) (fun k => .int .i64 (seV C x n k)) false, .int .i64 (if 8 < n then 6 else 0)]))).sat = (
  VB (decide ((↑n : Int) > (8 : Int))) ((if (8 : Nat) < n then (0 : Nat) else seN C x n) = (0 : Nat) ∧ ((6 : Int) = if (8 : Nat) < n then (6 : Int) else (0 : Int)) ∧ True)
    ((∃ (i : Nat × Nat),
        i.fst.le n ∧
          ((n = n ∧
                (∀ (i : Nat),
                    i < n →
                      (C.L i = C.L i ∧ C.S i = C.S i ∧ C.R i = C.R i ∧ True) ∧
                        [AV.int IntKind.u64 (C.L i), AV.int IntKind.i64 (C.S i), AV.int IntKind.i64 (C.R i)].length = [AV.int IntKind.u64 (C.L i), AV.int IntKind.i64 (C.S i), AV.int IntKind.i64 (C.R i)].length) ∧
                  (false = true → false = true)) ∧
              x = x ∧ (seN C x i.fst = (0 : Nat) ∧ i.snd = i.snd ∧ seN C x i.fst = (0 : Nat)) ∧ (0 : Int) = (↑i.fst : Int) ∧ True) ∧
            seN C x i.fst = (0 : Nat) ∧ True) ∧
      ∀ (i : Nat × Nat),
        i.fst.le n →
          VB (decide ((↑i.fst : Int) < (↑n : Int)))
            (NB (decide ((0 : Int) ≤ (↑i.fst : Int) ∧ (↑i.fst : Int) < (↑n : Int)))
              (VB (andNotI IntKind.u64 (C.L (↑i.fst : Int).toNat) x == (0 : Int))
                (NB (true && decide (i.snd = i.snd) && room (seN C x i.fst + (1 : Nat)) (8 : Nat))
                  (∃ (i' : Nat × Nat),
                    i'.fst.le n ∧
                      (invCR n C x).μ i' < (invCR n C x).μ i ∧
                        ((n = n ∧
                              (∀ (i : Nat),
                                  i < n →
                                    (C.L i = C.L i ∧ C.S i = C.S i ∧ C.R i = C.R i ∧ True) ∧
                                      [AV.int IntKind.u64 (C.L i), AV.int IntKind.i64 (C.S i), AV.int IntKind.i64 (C.R i)].length =
                                        [AV.int IntKind.u64 (C.L i), AV.int IntKind.i64 (C.S i), AV.int IntKind.i64 (C.R i)].length) ∧
                                (false = true → false = true)) ∧
                            x = x ∧
                              (i.snd + (1 : Nat) = i'.snd ∧ (0 : Nat) = (0 : Nat) ∧ seN C x i.fst + (1 : Nat) = seN C x i'.fst ∧ (@Eq (Option Nat) none none ∨ @Eq (Option Nat) none none)) ∧
                                IntKind.i64.wrap ((↑i.fst : Int) + (1 : Int)) = (↑i'.fst : Int) ∧ True) ∧
                          (i.snd + (1 : Nat) = i'.snd ∧
                              (true = true → true = true) ∧
                                seN C x i.fst + (1 : Nat) = seN C x i'.fst ∧
                                  ∀ (i_1 : Nat),
                                    i_1 < seN C x i.fst + (1 : Nat) →
                                      (if i_1 < seN C x i.fst then AV.int IntKind.i64 (seV C x i.fst ((0 : Nat) + i_1))
                                            else ((Sq.lst [AV.int IntKind.i64 (↑i.fst : Int)]).sub (0 : Nat) (1 : Nat)).get (i_1 - seN C x i.fst)).sub
                                          (AV.int IntKind.i64 (seV C x i'.fst i_1)) ∧
                                        (if i_1 < seN C x i.fst then AV.int IntKind.i64 (seV C x i.fst ((0 : Nat) + i_1))
                                              else ((Sq.lst [AV.int IntKind.i64 (↑i.fst : Int)]).sub (0 : Nat) (1 : Nat)).get (i_1 - seN C x i.fst)).cells.length =
                                          [AV.int IntKind.i64 (seV C x i'.fst i_1)].length) ∧
                            True))
                (∃ (i' : Nat × Nat),
                  i'.fst.le n ∧
                    (invCR n C x).μ i' < (invCR n C x).μ i ∧
                      ((n = n ∧
                            (∀ (i : Nat),
                                i < n →
                                  (C.L i = C.L i ∧ C.S i = C.S i ∧ C.R i = C.R i ∧ True) ∧
                                    [AV.int IntKind.u64 (C.L i), AV.int IntKind.i64 (C.S i), AV.int IntKind.i64 (C.R i)].length =
                                      [AV.int IntKind.u64 (C.L i), AV.int IntKind.i64 (C.S i), AV.int IntKind.i64 (C.R i)].length) ∧
                              (false = true → false = true)) ∧
                          x = x ∧
                            (i.snd = i'.snd ∧ (0 : Nat) = (0 : Nat) ∧ seN C x i.fst = seN C x i'.fst ∧ (@Eq (Option Nat) none none ∨ @Eq (Option Nat) none none)) ∧
                              IntKind.i64.wrap ((↑i.fst : Int) + (1 : Int)) = (↑i'.fst : Int) ∧ True) ∧
                        (i.snd = i'.snd ∧
                            (true = true → true = true) ∧
                              seN C x i.fst = seN C x i'.fst ∧
                                ∀ (i_1 : Nat), i_1 < seN C x i.fst → seV C x i.fst i_1 = seV C x i'.fst i_1 ∧ [AV.int IntKind.i64 (seV C x i.fst i_1)].length = [AV.int IntKind.i64 (seV C x i'.fst i_1)].length) ∧
                          True)))
            (NB (decide (i.snd = i.snd) && true)
              (((seN C x i.fst = if (8 : Nat) < n then (0 : Nat) else seN C x n) ∧
                  (∀ (i_1 : Nat), i_1 < seN C x i.fst → seV C x i.fst ((0 : Nat) + i_1) = seV C x n i_1 ∧ [AV.int IntKind.i64 (seV C x i.fst ((0 : Nat) + i_1))].length = [AV.int IntKind.i64 (seV C x n i_1)].length) ∧
                    (false = true → decide (none = some (seN C x i.fst)) = true)) ∧
                ((0 : Int) = if (8 : Nat) < n then (6 : Int) else (0 : Int)) ∧ True)))) := by
  kernel_rfl

end Go.Proofs.YtamcloifhjafcaaDoor
