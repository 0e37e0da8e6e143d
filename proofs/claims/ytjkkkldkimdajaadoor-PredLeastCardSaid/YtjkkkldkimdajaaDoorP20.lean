/- PRED 20: the law of least solutions, its code. -/
import Derived.Test.YtjkkkldkimdajaaDoorP19
namespace Go.Proofs.YtjkkkldkimdajaaDoor
open Pw Go
set_option maxRecDepth 100000
set_option linter.unusedSimpArgs false

def opNum (f : Nat → Int) (i : Nat) : Int := 1 + f i % 6
def invPL (n m : Nat) (f v : Nat → Int) (x : Int) : Inv := ⟨Nat × Nat, 10, fun p => ⟨[(0, .rof n (fun i => .int .i64 (f i)) false), (1, .rof m (fun i => .int .i64 (v i)) false), (2, .int .i64 x), (7, .bool true), (8, .sl 0 p.2 0 p.1 none), (9, .int .i64 p.1)],
  [(0, .row p.2 2 true (.fn p.1 (fun i => .agg [.int .i64 (opNum f i), .int .i64 (v i)])))]⟩, fun p => p.1 ≤ n ∧ p.1 ≤ m ∧ p.1 ≤ 8, fun p => 8 - p.1⟩

theorem predLeast_vc (n m : Nat) (f v : Nat → Int) (x : Int) : (vcFun (mkE Tryd.prog (tblOf tbl7) fun g b => if g = 8 ∧ b = 0 then some (invPL n m f v x) else none) 20 8 [.rof n (fun i => .int .i64 (f i)) false, .rof m (fun i => .int .i64 (v i)) false, .int .i64 x] .nil 0 (isBool true)).sat = (
  (∃ (i : Nat × Nat),
      (i.fst ≤ n ∧ i.fst ≤ m ∧ i.fst ≤ (8 : Nat)) ∧
        ((n = n ∧ (∀ (i : Nat), i < n → f i = f i ∧ [AV.int IntKind.i64 (f i)].length = [AV.int IntKind.i64 (f i)].length) ∧ (false = true → false = true)) ∧
            (m = m ∧ (∀ (i : Nat), i < m → v i = v i ∧ [AV.int IntKind.i64 (v i)].length = [AV.int IntKind.i64 (v i)].length) ∧ (false = true → false = true)) ∧
              x = x ∧ true = true ∧ (i.fst = (0 : Nat) ∧ i.snd = i.snd ∧ i.fst = (0 : Nat)) ∧ (0 : Int) = (↑i.fst : Int) ∧ True) ∧
          i.fst = (0 : Nat) ∧ True) ∧
    ∀ (i : Nat × Nat),
      i.fst ≤ n ∧ i.fst ≤ m ∧ i.fst ≤ (8 : Nat) →
        VB (decide ((↑i.fst : Int) < (↑n : Int)) && decide ((↑i.fst : Int) < (↑m : Int)) && decide ((↑i.fst : Int) < (8 : Int)))
          (NB (decide ((0 : Int) ≤ (↑i.fst : Int) ∧ (↑i.fst : Int) < (↑n : Int)))
            (NB (decide ((0 : Int) ≤ (↑i.fst : Int) ∧ (↑i.fst : Int) < (↑m : Int)))
              (NB (true && decide (i.snd = i.snd) && room (i.fst + (1 : Nat)) (16 : Nat))
                (∃ (i' : Nat × Nat),
                  (i'.fst ≤ n ∧ i'.fst ≤ m ∧ i'.fst ≤ (8 : Nat)) ∧
                    (invPL n m f v x).μ i' < (invPL n m f v x).μ i ∧
                      ((n = n ∧ (∀ (i : Nat), i < n → f i = f i ∧ [AV.int IntKind.i64 (f i)].length = [AV.int IntKind.i64 (f i)].length) ∧ (false = true → false = true)) ∧
                          (m = m ∧ (∀ (i : Nat), i < m → v i = v i ∧ [AV.int IntKind.i64 (v i)].length = [AV.int IntKind.i64 (v i)].length) ∧ (false = true → false = true)) ∧
                            x = x ∧
                              true = true ∧
                                (i.snd + (1 : Nat) = i'.snd ∧ (0 : Nat) = (0 : Nat) ∧ i.fst + (1 : Nat) = i'.fst ∧ (@Eq (Option Nat) none none ∨ @Eq (Option Nat) none none)) ∧
                                  IntKind.i64.wrap ((↑i.fst : Int) + (1 : Int)) = (↑i'.fst : Int) ∧ True) ∧
                        (i.snd + (1 : Nat) = i'.snd ∧
                            (true = true → true = true) ∧
                              i.fst + (1 : Nat) = i'.fst ∧
                                ∀ (i_1 : Nat),
                                  i_1 < i.fst + (1 : Nat) →
                                    (if i_1 < i.fst then AV.agg [AV.int IntKind.i64 (opNum f ((0 : Nat) + i_1)), AV.int IntKind.i64 (v ((0 : Nat) + i_1))]
                                          else
                                            ((Sq.lst [AV.agg [AV.int IntKind.i64 ((1 : Int) + f (↑i.fst : Int).toNat % (6 : Int)), AV.int IntKind.i64 (v (↑i.fst : Int).toNat)]]).sub (0 : Nat) (1 : Nat)).get
                                              (i_1 - i.fst)).sub
                                        (AV.agg [AV.int IntKind.i64 (opNum f i_1), AV.int IntKind.i64 (v i_1)]) ∧
                                      (if i_1 < i.fst then AV.agg [AV.int IntKind.i64 (opNum f ((0 : Nat) + i_1)), AV.int IntKind.i64 (v ((0 : Nat) + i_1))]
                                            else
                                              ((Sq.lst [AV.agg [AV.int IntKind.i64 ((1 : Int) + f (↑i.fst : Int).toNat % (6 : Int)), AV.int IntKind.i64 (v (↑i.fst : Int).toNat)]]).sub (0 : Nat) (1 : Nat)).get
                                                (i_1 - i.fst)).cells.length =
                                        [AV.int IntKind.i64 (opNum f i_1), AV.int IntKind.i64 (v i_1)].length) ∧
                          True))))
          (NB
            (((decide (i.fst ≤ (1000000 : Nat)) && condsB i.fst fun (k : Nat) => AV.agg [AV.int IntKind.i64 (opNum f ((0 : Nat) + k)), AV.int IntKind.i64 (v ((0 : Nat) + k))]) &&
                rngAll i.fst fun (i : Nat) => valOf (AV.agg [AV.int IntKind.i64 (opNum f ((0 : Nat) + i)), AV.int IntKind.i64 (v ((0 : Nat) + i))])) &&
              (decide (i.snd = i.snd) && true))
            (NB ((decide (i.fst ≤ (1000000 : Nat)) && condsB i.fst fun (k : Nat) => AV.agg [AV.int IntKind.i64 (opNum f ((0 : Nat) + k)), AV.int IntKind.i64 (v ((0 : Nat) + k))]) && (decide (i.snd = i.snd) && true))
              (VB
                ((chkS i.fst fun (i : Nat) => opOf (AV.agg [AV.int IntKind.i64 (opNum f ((0 : Nat) + i)), AV.int IntKind.i64 (v ((0 : Nat) + i))])) != (0 : Int) ||
                  (LeastE i.fst (fun (i : Nat) => opOf (AV.agg [AV.int IntKind.i64 (opNum f ((0 : Nat) + i)), AV.int IntKind.i64 (v ((0 : Nat) + i))])) fun (i : Nat) =>
                        valOf (AV.agg [AV.int IntKind.i64 (opNum f ((0 : Nat) + i)), AV.int IntKind.i64 (v ((0 : Nat) + i))])) !=
                      (0 : Int) &&
                    (LeastE i.fst (fun (i : Nat) => opOf (AV.agg [AV.int IntKind.i64 (opNum f ((0 : Nat) + i)), AV.int IntKind.i64 (v ((0 : Nat) + i))])) fun (i : Nat) =>
                        valOf (AV.agg [AV.int IntKind.i64 (opNum f ((0 : Nat) + i)), AV.int IntKind.i64 (v ((0 : Nat) + i))])) !=
                      (7 : Int))
                (false = true)
                (VB
                  ((LeastE i.fst (fun (i : Nat) => opOf (AV.agg [AV.int IntKind.i64 (opNum f ((0 : Nat) + i)), AV.int IntKind.i64 (v ((0 : Nat) + i))])) fun (i : Nat) =>
                      valOf (AV.agg [AV.int IntKind.i64 (opNum f ((0 : Nat) + i)), AV.int IntKind.i64 (v ((0 : Nat) + i))])) ==
                    (7 : Int))
                  (((true &&
                        !AllS i.fst (fun (i : Nat) => opOf (AV.agg [AV.int IntKind.i64 (opNum f ((0 : Nat) + i)), AV.int IntKind.i64 (v ((0 : Nat) + i))]))
                            (fun (i : Nat) => valOf (AV.agg [AV.int IntKind.i64 (opNum f ((0 : Nat) + i)), AV.int IntKind.i64 (v ((0 : Nat) + i))])) x) ==
                      true) =
                    true)
                  (NB ((decide (i.fst ≤ (1000000 : Nat)) && condsB i.fst fun (k : Nat) => AV.agg [AV.int IntKind.i64 (opNum f ((0 : Nat) + k)), AV.int IntKind.i64 (v ((0 : Nat) + k))]) && (decide (i.snd = i.snd) && true))
                    (((true && (chkS i.fst fun (i : Nat) => opOf (AV.agg [AV.int IntKind.i64 (opNum f ((0 : Nat) + i)), AV.int IntKind.i64 (v ((0 : Nat) + i))])) == (0 : Int) &&
                            AllS i.fst (fun (i : Nat) => opOf (AV.agg [AV.int IntKind.i64 (opNum f ((0 : Nat) + i)), AV.int IntKind.i64 (v ((0 : Nat) + i))]))
                              (fun (i : Nat) => valOf (AV.agg [AV.int IntKind.i64 (opNum f ((0 : Nat) + i)), AV.int IntKind.i64 (v ((0 : Nat) + i))]))
                              (LeastS i.fst (fun (i : Nat) => opOf (AV.agg [AV.int IntKind.i64 (opNum f ((0 : Nat) + i)), AV.int IntKind.i64 (v ((0 : Nat) + i))])) fun (i : Nat) =>
                                valOf (AV.agg [AV.int IntKind.i64 (opNum f ((0 : Nat) + i)), AV.int IntKind.i64 (v ((0 : Nat) + i))])) &&
                          (!AllS i.fst (fun (i : Nat) => opOf (AV.agg [AV.int IntKind.i64 (opNum f ((0 : Nat) + i)), AV.int IntKind.i64 (v ((0 : Nat) + i))]))
                                (fun (i : Nat) => valOf (AV.agg [AV.int IntKind.i64 (opNum f ((0 : Nat) + i)), AV.int IntKind.i64 (v ((0 : Nat) + i))])) x ||
                            decide
                              (x ≥
                                LeastS i.fst (fun (i : Nat) => opOf (AV.agg [AV.int IntKind.i64 (opNum f ((0 : Nat) + i)), AV.int IntKind.i64 (v ((0 : Nat) + i))])) fun (i : Nat) =>
                                  valOf (AV.agg [AV.int IntKind.i64 (opNum f ((0 : Nat) + i)), AV.int IntKind.i64 (v ((0 : Nat) + i))])))) ==
                        true) =
                      true))))))) := by
  kernel_rfl

end Go.Proofs.YtjkkkldkimdajaaDoor
