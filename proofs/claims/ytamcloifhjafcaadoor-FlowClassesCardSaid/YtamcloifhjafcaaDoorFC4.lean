/- FLOW CLASSES 4: the law: conditions of the code. -/
import Derived.Test.YtamcloifhjafcaaDoorFC3
namespace Go.Proofs.YtamcloifhjafcaaDoor
open Pw Go
set_option maxRecDepth 100000
set_option linter.unusedSimpArgs false

noncomputable def EL : Env := mkG Tryd.prog gN (tblOf tblC) (fun _ _ => none) 0

theorem law_vc (k o : Int) (b : Bool) (m : Nat) (F : Nat → AV) (s : List UInt8) (n : Nat) (C : Cls) (x : Int) : (vcFun (mkG Tryd.prog gN (tblOf tblC) (fun _ _ => none) 0) 20 5 [.agg [.int .i64 k, .bool b, .int .u64 o, .rof m F false, .str s], .rof n (fun j => .agg [.int .u64 (C.L j), .int .i64 (C.S j), .int .i64 (C.R j)]) false, .int .u64 x] .nil 0 (isBool true)).sat = (
  VB (decide ((↑m : Int) > (20 : Int)) || decide ((↑n : Int) > (12 : Int))) (true = true)
    (NB (decide (n ≤ (1000000 : Nat)) && clsB n fun (j : Nat) => AV.agg [AV.int IntKind.u64 (C.L j), AV.int IntKind.i64 (C.S j), AV.int IntKind.i64 (C.R j)])
      (NB (decide (n ≤ (1000000 : Nat)) && clsB n fun (j : Nat) => AV.agg [AV.int IntKind.u64 (C.L j), AV.int IntKind.i64 (C.S j), AV.int IntKind.i64 (C.R j)])
        (VB b
          (VB b
            (NB
              (impB (isW true (o == o))
                (((decide ((if (8 : Nat) < n then (0 : Nat) else seN (clsOf fun (j : Nat) => AV.agg [AV.int IntKind.u64 (C.L j), AV.int IntKind.i64 (C.S j), AV.int IntKind.i64 (C.R j)]) x n) ≤ (1000000 : Nat)) &&
                        decide
                          ((if (8 : Nat) < n then (0 : Nat) else seN (clsOf fun (j : Nat) => AV.agg [AV.int IntKind.u64 (C.L j), AV.int IntKind.i64 (C.S j), AV.int IntKind.i64 (C.R j)]) x n) =
                            if (8 : Nat) < n then (0 : Nat) else seN (clsOf fun (j : Nat) => AV.agg [AV.int IntKind.u64 (C.L j), AV.int IntKind.i64 (C.S j), AV.int IntKind.i64 (C.R j)]) x n) &&
                      intsB (if (8 : Nat) < n then (0 : Nat) else seN (clsOf fun (j : Nat) => AV.agg [AV.int IntKind.u64 (C.L j), AV.int IntKind.i64 (C.S j), AV.int IntKind.i64 (C.R j)]) x n) fun (k : Nat) =>
                        AV.int IntKind.i64 (seV (clsOf fun (j : Nat) => AV.agg [AV.int IntKind.u64 (C.L j), AV.int IntKind.i64 (C.S j), AV.int IntKind.i64 (C.R j)]) x n k)) &&
                    intsB (if (8 : Nat) < n then (0 : Nat) else seN (clsOf fun (j : Nat) => AV.agg [AV.int IntKind.u64 (C.L j), AV.int IntKind.i64 (C.S j), AV.int IntKind.i64 (C.R j)]) x n) fun (k : Nat) =>
                      AV.int IntKind.i64 (seV (clsOf fun (j : Nat) => AV.agg [AV.int IntKind.u64 (C.L j), AV.int IntKind.i64 (C.S j), AV.int IntKind.i64 (C.R j)]) x n k)) &&
                  eqFn (fun (k : Nat) => iOf (AV.int IntKind.i64 (seV (clsOf fun (j : Nat) => AV.agg [AV.int IntKind.u64 (C.L j), AV.int IntKind.i64 (C.S j), AV.int IntKind.i64 (C.R j)]) x n k))) fun (k : Nat) =>
                    iOf (AV.int IntKind.i64 (seV (clsOf fun (j : Nat) => AV.agg [AV.int IntKind.u64 (C.L j), AV.int IntKind.i64 (C.S j), AV.int IntKind.i64 (C.R j)]) x n k))))
              ((((o == o && true && (if (8 : Nat) < n then (6 : Int) else (0 : Int)) == if (8 : Nat) < n then (6 : Int) else (0 : Int)) && true) == true) = true))
            (NB
              (impB (isW true (o == x))
                (((decide ((if (8 : Nat) < n then (0 : Nat) else seN (clsOf fun (j : Nat) => AV.agg [AV.int IntKind.u64 (C.L j), AV.int IntKind.i64 (C.S j), AV.int IntKind.i64 (C.R j)]) x n) ≤ (1000000 : Nat)) &&
                        decide
                          ((if (8 : Nat) < n then (0 : Nat) else seN (clsOf fun (j : Nat) => AV.agg [AV.int IntKind.u64 (C.L j), AV.int IntKind.i64 (C.S j), AV.int IntKind.i64 (C.R j)]) x n) =
                            if (8 : Nat) < n then (0 : Nat) else seN (clsOf fun (j : Nat) => AV.agg [AV.int IntKind.u64 (C.L j), AV.int IntKind.i64 (C.S j), AV.int IntKind.i64 (C.R j)]) x n) &&
                      intsB (if (8 : Nat) < n then (0 : Nat) else seN (clsOf fun (j : Nat) => AV.agg [AV.int IntKind.u64 (C.L j), AV.int IntKind.i64 (C.S j), AV.int IntKind.i64 (C.R j)]) x n) fun (k : Nat) =>
                        AV.int IntKind.i64 (seV (clsOf fun (j : Nat) => AV.agg [AV.int IntKind.u64 (C.L j), AV.int IntKind.i64 (C.S j), AV.int IntKind.i64 (C.R j)]) x n k)) &&
                    intsB (if (8 : Nat) < n then (0 : Nat) else seN (clsOf fun (j : Nat) => AV.agg [AV.int IntKind.u64 (C.L j), AV.int IntKind.i64 (C.S j), AV.int IntKind.i64 (C.R j)]) x n) fun (k : Nat) =>
                      AV.int IntKind.i64 (seV (clsOf fun (j : Nat) => AV.agg [AV.int IntKind.u64 (C.L j), AV.int IntKind.i64 (C.S j), AV.int IntKind.i64 (C.R j)]) x n k)) &&
                  eqFn (fun (k : Nat) => iOf (AV.int IntKind.i64 (seV (clsOf fun (j : Nat) => AV.agg [AV.int IntKind.u64 (C.L j), AV.int IntKind.i64 (C.S j), AV.int IntKind.i64 (C.R j)]) x n k))) fun (k : Nat) =>
                    iOf (AV.int IntKind.i64 (seV (clsOf fun (j : Nat) => AV.agg [AV.int IntKind.u64 (C.L j), AV.int IntKind.i64 (C.S j), AV.int IntKind.i64 (C.R j)]) x n k))))
              ((((o == x && true && (if (8 : Nat) < n then (6 : Int) else (0 : Int)) == if (8 : Nat) < n then (6 : Int) else (0 : Int)) && true) == true) = true)))
          (VB b
            (NB
              (impB (isW true (x == o))
                (((decide ((if (8 : Nat) < n then (0 : Nat) else seN (clsOf fun (j : Nat) => AV.agg [AV.int IntKind.u64 (C.L j), AV.int IntKind.i64 (C.S j), AV.int IntKind.i64 (C.R j)]) x n) ≤ (1000000 : Nat)) &&
                        decide
                          ((if (8 : Nat) < n then (0 : Nat) else seN (clsOf fun (j : Nat) => AV.agg [AV.int IntKind.u64 (C.L j), AV.int IntKind.i64 (C.S j), AV.int IntKind.i64 (C.R j)]) x n) =
                            if (8 : Nat) < n then (0 : Nat) else seN (clsOf fun (j : Nat) => AV.agg [AV.int IntKind.u64 (C.L j), AV.int IntKind.i64 (C.S j), AV.int IntKind.i64 (C.R j)]) x n) &&
                      intsB (if (8 : Nat) < n then (0 : Nat) else seN (clsOf fun (j : Nat) => AV.agg [AV.int IntKind.u64 (C.L j), AV.int IntKind.i64 (C.S j), AV.int IntKind.i64 (C.R j)]) x n) fun (k : Nat) =>
                        AV.int IntKind.i64 (seV (clsOf fun (j : Nat) => AV.agg [AV.int IntKind.u64 (C.L j), AV.int IntKind.i64 (C.S j), AV.int IntKind.i64 (C.R j)]) x n k)) &&
                    intsB (if (8 : Nat) < n then (0 : Nat) else seN (clsOf fun (j : Nat) => AV.agg [AV.int IntKind.u64 (C.L j), AV.int IntKind.i64 (C.S j), AV.int IntKind.i64 (C.R j)]) x n) fun (k : Nat) =>
                      AV.int IntKind.i64 (seV (clsOf fun (j : Nat) => AV.agg [AV.int IntKind.u64 (C.L j), AV.int IntKind.i64 (C.S j), AV.int IntKind.i64 (C.R j)]) x n k)) &&
                  eqFn (fun (k : Nat) => iOf (AV.int IntKind.i64 (seV (clsOf fun (j : Nat) => AV.agg [AV.int IntKind.u64 (C.L j), AV.int IntKind.i64 (C.S j), AV.int IntKind.i64 (C.R j)]) x n k))) fun (k : Nat) =>
                    iOf (AV.int IntKind.i64 (seV (clsOf fun (j : Nat) => AV.agg [AV.int IntKind.u64 (C.L j), AV.int IntKind.i64 (C.S j), AV.int IntKind.i64 (C.R j)]) x n k))))
              ((((x == o && true && (if (8 : Nat) < n then (6 : Int) else (0 : Int)) == if (8 : Nat) < n then (6 : Int) else (0 : Int)) && true) == true) = true))
            (NB
              (impB (isW true (x == x))
                (((decide ((if (8 : Nat) < n then (0 : Nat) else seN (clsOf fun (j : Nat) => AV.agg [AV.int IntKind.u64 (C.L j), AV.int IntKind.i64 (C.S j), AV.int IntKind.i64 (C.R j)]) x n) ≤ (1000000 : Nat)) &&
                        decide
                          ((if (8 : Nat) < n then (0 : Nat) else seN (clsOf fun (j : Nat) => AV.agg [AV.int IntKind.u64 (C.L j), AV.int IntKind.i64 (C.S j), AV.int IntKind.i64 (C.R j)]) x n) =
                            if (8 : Nat) < n then (0 : Nat) else seN (clsOf fun (j : Nat) => AV.agg [AV.int IntKind.u64 (C.L j), AV.int IntKind.i64 (C.S j), AV.int IntKind.i64 (C.R j)]) x n) &&
                      intsB (if (8 : Nat) < n then (0 : Nat) else seN (clsOf fun (j : Nat) => AV.agg [AV.int IntKind.u64 (C.L j), AV.int IntKind.i64 (C.S j), AV.int IntKind.i64 (C.R j)]) x n) fun (k : Nat) =>
                        AV.int IntKind.i64 (seV (clsOf fun (j : Nat) => AV.agg [AV.int IntKind.u64 (C.L j), AV.int IntKind.i64 (C.S j), AV.int IntKind.i64 (C.R j)]) x n k)) &&
                    intsB (if (8 : Nat) < n then (0 : Nat) else seN (clsOf fun (j : Nat) => AV.agg [AV.int IntKind.u64 (C.L j), AV.int IntKind.i64 (C.S j), AV.int IntKind.i64 (C.R j)]) x n) fun (k : Nat) =>
                      AV.int IntKind.i64 (seV (clsOf fun (j : Nat) => AV.agg [AV.int IntKind.u64 (C.L j), AV.int IntKind.i64 (C.S j), AV.int IntKind.i64 (C.R j)]) x n k)) &&
                  eqFn (fun (k : Nat) => iOf (AV.int IntKind.i64 (seV (clsOf fun (j : Nat) => AV.agg [AV.int IntKind.u64 (C.L j), AV.int IntKind.i64 (C.S j), AV.int IntKind.i64 (C.R j)]) x n k))) fun (k : Nat) =>
                    iOf (AV.int IntKind.i64 (seV (clsOf fun (j : Nat) => AV.agg [AV.int IntKind.u64 (C.L j), AV.int IntKind.i64 (C.S j), AV.int IntKind.i64 (C.R j)]) x n k))))
              ((((x == x && true && (if (8 : Nat) < n then (6 : Int) else (0 : Int)) == if (8 : Nat) < n then (6 : Int) else (0 : Int)) && true) == true) = true))))))) := by
  kernel_rfl

end Go.Proofs.YtamcloifhjafcaaDoor
