/- PRED 10: least solutions, conditions of both codes. -/
import Derived.Test.YtjkkkldkimdajaaDoorP9
namespace Go.Proofs.YtjkkkldkimdajaaDoor
open Pw Go
set_option maxRecDepth 100000
set_option linter.unusedSimpArgs false

def boxI (n : Int) : Blk := .row 0 1 true (.lst [.int .i64 n])
def boxC (n : Nat) (o v : Nat → Int) : Blk := .row 0 1 true (.lst [condsAV n o v])
def invL1 (n : Nat) (o v : Nat → Int) : Inv := ⟨Nat, 10, fun i => ⟨[(1, .ptr 0 0 0 0), (4, .ptr 1 0 0 0), (8, condsAV n o v), (9, .int .i64 n), (10, .int .i64 i)], [(0, boxC n o v), (1, boxI (lowB o v i))]⟩,
  fun i => i ≤ n ∧ lowB o v i ≤ highI, fun i => n - i⟩
def invL2 (n : Nat) (o v : Nat → Int) : Inv := ⟨Nat, 30, fun i => ⟨[(1, .ptr 0 0 0 0), (4, .ptr 1 0 0 0), (7, .fn (.func 59) [] [.ptr 0 0 0 0, .ptr 1 0 0 0]), (37, .int .i64 (n + 1)), (38, .int .i64 i)], [(0, boxC n o v), (1, boxI (lowB o v n + i))]⟩,
  fun i => i ≤ n + 1 ∧ lowB o v n + i ≤ highI ∧ ∀ j : Nat, j < i → allS n o v (lowB o v n + j) = false, fun i => n + 1 - i⟩

def trL (v : Nat → Int) : Nat → List Int
  | 0 => [lowI]
  | i + 1 => trL v i ++ (v i :: if v i < highI then [v i + 1] else [])
def trV (v : Nat → Int) (i k : Nat) : Int := (trL v i).getD k 0
def trN (v : Nat → Int) (i : Nat) : Nat := (trL v i).length
def bstF (n : Nat) (o v : Nat → Int) : Nat → Bool
  | 0 => false
  | i + 1 => bstF n o v i || allS n o v (trV v n i)
def bstV (n : Nat) (o v : Nat → Int) : Nat → Int
  | 0 => 0
  | i + 1 => if allS n o v (trV v n i) = true ∧ (bstF n o v i = false ∨ trV v n i < bstV n o v i) then trV v n i else bstV n o v i
def rowT (g n : Nat) (f : Nat → Int) : Blk := .row g 1 true (.fn n fun k => .int .i64 (f k))
def invR1 (n : Nat) (o v : Nat → Int) : Inv := ⟨Nat × Nat, 10, fun p => ⟨[(0, condsAV n o v), (4, .sl 0 p.2 0 (trN v p.1) none), (5, .int .i64 p.1)], [(0, rowT p.2 (trN v p.1) (trV v p.1))]⟩,
  fun p => p.1 ≤ n, fun p => n - p.1⟩
def invR2 (n : Nat) (o v : Nat → Int) : Inv := ⟨Nat × Nat, 30, fun p => ⟨[(0, condsAV n o v), (4, .sl 0 p.2 0 (trN v n) none), (6, .int .i64 (bstV n o v p.1)), (7, .bool (bstF n o v p.1)), (8, .int .i64 p.1)], [(0, rowT p.2 (trN v n) (trV v n))]⟩,
  fun p => p.1 ≤ trN v n, fun p => trN v n - p.1⟩

theorem leastI_vc (n : Nat) (o v : Nat → Int) (r : Int) (q : Bool) : (vcFun (mkE Tryd.prog (tblOf tbl3) fun f b => if f = 48 then (if b = 0 then some (invL1 n o v) else if b = 3 then some (invL2 n o v) else none) else none) 20 48 [.rof n (fun i => .agg [.int .i64 (o i), .int .i64 (v i)]) false] .nil 0 (retP 3 (.tup [.int .i64 r, .bool q]))).sat = (
  (∃ (i : Nat),
      (i ≤ n ∧ lowB o v i ≤ highI) ∧
        (((0 : Nat) = (0 : Nat) ∧ (0 : Nat) = (0 : Nat) ∧ (0 : Nat) = (0 : Nat)) ∧
            ((0 : Nat) = (0 : Nat) ∧ (0 : Nat) = (0 : Nat) ∧ (0 : Nat) = (0 : Nat)) ∧
              (n = n ∧
                  (∀ (i : Nat), i < n → (o i = o i ∧ v i = v i ∧ True) ∧ [AV.int IntKind.i64 (o i), AV.int IntKind.i64 (v i)].length = [AV.int IntKind.i64 (o i), AV.int IntKind.i64 (v i)].length) ∧
                    (false = true → false = true)) ∧
                (↑n : Int) = (↑n : Int) ∧ (0 : Int) = (↑i : Int) ∧ True) ∧
          ((0 : Nat) = (0 : Nat) ∧
              (true = true → true = true) ∧
                ((n = n ∧
                      (∀ (i : Nat), i < n → (o i = o i ∧ v i = v i ∧ True) ∧ [AV.int IntKind.i64 (o i), AV.int IntKind.i64 (v i)].length = [AV.int IntKind.i64 (o i), AV.int IntKind.i64 (v i)].length) ∧
                        (false = true → false = true)) ∧
                    [AV.rof n (fun (i : Nat) => AV.agg [AV.int IntKind.i64 (o i), AV.int IntKind.i64 (v i)]) false].length = [condsAV n o v].length) ∧
                  True) ∧
            ((0 : Nat) = (0 : Nat) ∧ (true = true → true = true) ∧ ((-9223372036854775808 : Int) = lowB o v i ∧ [AV.int IntKind.i64 (-9223372036854775808 : Int)].length = [AV.int IntKind.i64 (lowB o v i)].length) ∧ True) ∧
              True) ∧
    ∀ (i : Nat),
      i ≤ n ∧ lowB o v i ≤ highI →
        VB (decide ((↑i : Int) < (↑n : Int)))
          (NB (decide ((0 : Int) ≤ (↑i : Int) ∧ (↑i : Int) < (↑n : Int)))
            (VB (o (↑i : Int).toNat == (1 : Int))
              (VB (o (↑i : Int).toNat == (1 : Int))
                (∃ (i' : Nat),
                  (i' ≤ n ∧ lowB o v i' ≤ highI) ∧
                    (invL1 n o v).μ i' < (invL1 n o v).μ i ∧
                      (((0 : Nat) = (0 : Nat) ∧ (0 : Nat) = (0 : Nat) ∧ (0 : Nat) = (0 : Nat)) ∧
                          ((0 : Nat) = (0 : Nat) ∧ (0 : Nat) = (0 : Nat) ∧ (0 : Nat) = (0 : Nat)) ∧
                            (n = n ∧
                                (∀ (i : Nat), i < n → (o i = o i ∧ v i = v i ∧ True) ∧ [AV.int IntKind.i64 (o i), AV.int IntKind.i64 (v i)].length = [AV.int IntKind.i64 (o i), AV.int IntKind.i64 (v i)].length) ∧
                                  (false = true → false = true)) ∧
                              (↑n : Int) = (↑n : Int) ∧ IntKind.i64.wrap ((↑i : Int) + (1 : Int)) = (↑i' : Int) ∧ True) ∧
                        ((0 : Nat) = (0 : Nat) ∧
                            (true = true → true = true) ∧
                              ((n = n ∧
                                    (∀ (i : Nat), i < n → (o i = o i ∧ v i = v i ∧ True) ∧ [AV.int IntKind.i64 (o i), AV.int IntKind.i64 (v i)].length = [AV.int IntKind.i64 (o i), AV.int IntKind.i64 (v i)].length) ∧
                                      (false = true → false = true)) ∧
                                  [condsAV n o v].length = [condsAV n o v].length) ∧
                                True) ∧
                          ((0 : Nat) = (0 : Nat) ∧
                              (true = true → true = true) ∧
                                (maxI (lowB o v i) (v (↑i : Int).toNat) = lowB o v i' ∧ [AV.int IntKind.i64 (maxI (lowB o v i) (v (↑i : Int).toNat))].length = [AV.int IntKind.i64 (lowB o v i')].length) ∧ True) ∧
                            True)
                (VB (o (↑i : Int).toNat == (5 : Int))
                  (VB (v (↑i : Int).toNat == (9223372036854775807 : Int)) ((0 : Int) = r ∧ false = q ∧ True)
                    (∃ (i' : Nat),
                      (i' ≤ n ∧ lowB o v i' ≤ highI) ∧
                        (invL1 n o v).μ i' < (invL1 n o v).μ i ∧
                          (((0 : Nat) = (0 : Nat) ∧ (0 : Nat) = (0 : Nat) ∧ (0 : Nat) = (0 : Nat)) ∧
                              ((0 : Nat) = (0 : Nat) ∧ (0 : Nat) = (0 : Nat) ∧ (0 : Nat) = (0 : Nat)) ∧
                                (n = n ∧
                                    (∀ (i : Nat), i < n → (o i = o i ∧ v i = v i ∧ True) ∧ [AV.int IntKind.i64 (o i), AV.int IntKind.i64 (v i)].length = [AV.int IntKind.i64 (o i), AV.int IntKind.i64 (v i)].length) ∧
                                      (false = true → false = true)) ∧
                                  (↑n : Int) = (↑n : Int) ∧ IntKind.i64.wrap ((↑i : Int) + (1 : Int)) = (↑i' : Int) ∧ True) ∧
                            ((0 : Nat) = (0 : Nat) ∧
                                (true = true → true = true) ∧
                                  ((n = n ∧
                                        (∀ (i : Nat), i < n → (o i = o i ∧ v i = v i ∧ True) ∧ [AV.int IntKind.i64 (o i), AV.int IntKind.i64 (v i)].length = [AV.int IntKind.i64 (o i), AV.int IntKind.i64 (v i)].length) ∧
                                          (false = true → false = true)) ∧
                                      [condsAV n o v].length = [condsAV n o v].length) ∧
                                    True) ∧
                              ((0 : Nat) = (0 : Nat) ∧
                                  (true = true → true = true) ∧
                                    (maxI (lowB o v i) (IntKind.i64.wrap (v (↑i : Int).toNat + (1 : Int))) = lowB o v i' ∧
                                        [AV.int IntKind.i64 (maxI (lowB o v i) (IntKind.i64.wrap (v (↑i : Int).toNat + (1 : Int))))].length = [AV.int IntKind.i64 (lowB o v i')].length) ∧
                                      True) ∧
                                True))
                  (∃ (i' : Nat),
                    (i' ≤ n ∧ lowB o v i' ≤ highI) ∧
                      (invL1 n o v).μ i' < (invL1 n o v).μ i ∧
                        (((0 : Nat) = (0 : Nat) ∧ (0 : Nat) = (0 : Nat) ∧ (0 : Nat) = (0 : Nat)) ∧
                            ((0 : Nat) = (0 : Nat) ∧ (0 : Nat) = (0 : Nat) ∧ (0 : Nat) = (0 : Nat)) ∧
                              (n = n ∧
                                  (∀ (i : Nat), i < n → (o i = o i ∧ v i = v i ∧ True) ∧ [AV.int IntKind.i64 (o i), AV.int IntKind.i64 (v i)].length = [AV.int IntKind.i64 (o i), AV.int IntKind.i64 (v i)].length) ∧
                                    (false = true → false = true)) ∧
                                (↑n : Int) = (↑n : Int) ∧ IntKind.i64.wrap ((↑i : Int) + (1 : Int)) = (↑i' : Int) ∧ True) ∧
                          ((0 : Nat) = (0 : Nat) ∧
                              (true = true → true = true) ∧
                                ((n = n ∧
                                      (∀ (i : Nat), i < n → (o i = o i ∧ v i = v i ∧ True) ∧ [AV.int IntKind.i64 (o i), AV.int IntKind.i64 (v i)].length = [AV.int IntKind.i64 (o i), AV.int IntKind.i64 (v i)].length) ∧
                                        (false = true → false = true)) ∧
                                    [condsAV n o v].length = [condsAV n o v].length) ∧
                                  True) ∧
                            ((0 : Nat) = (0 : Nat) ∧ (true = true → true = true) ∧ (lowB o v i = lowB o v i' ∧ [AV.int IntKind.i64 (lowB o v i)].length = [AV.int IntKind.i64 (lowB o v i')].length) ∧ True) ∧ True)))
              (VB (o (↑i : Int).toNat == (6 : Int))
                (∃ (i' : Nat),
                  (i' ≤ n ∧ lowB o v i' ≤ highI) ∧
                    (invL1 n o v).μ i' < (invL1 n o v).μ i ∧
                      (((0 : Nat) = (0 : Nat) ∧ (0 : Nat) = (0 : Nat) ∧ (0 : Nat) = (0 : Nat)) ∧
                          ((0 : Nat) = (0 : Nat) ∧ (0 : Nat) = (0 : Nat) ∧ (0 : Nat) = (0 : Nat)) ∧
                            (n = n ∧
                                (∀ (i : Nat), i < n → (o i = o i ∧ v i = v i ∧ True) ∧ [AV.int IntKind.i64 (o i), AV.int IntKind.i64 (v i)].length = [AV.int IntKind.i64 (o i), AV.int IntKind.i64 (v i)].length) ∧
                                  (false = true → false = true)) ∧
                              (↑n : Int) = (↑n : Int) ∧ IntKind.i64.wrap ((↑i : Int) + (1 : Int)) = (↑i' : Int) ∧ True) ∧
                        ((0 : Nat) = (0 : Nat) ∧
                            (true = true → true = true) ∧
                              ((n = n ∧
                                    (∀ (i : Nat), i < n → (o i = o i ∧ v i = v i ∧ True) ∧ [AV.int IntKind.i64 (o i), AV.int IntKind.i64 (v i)].length = [AV.int IntKind.i64 (o i), AV.int IntKind.i64 (v i)].length) ∧
                                      (false = true → false = true)) ∧
                                  [condsAV n o v].length = [condsAV n o v].length) ∧
                                True) ∧
                          ((0 : Nat) = (0 : Nat) ∧
                              (true = true → true = true) ∧
                                (maxI (lowB o v i) (v (↑i : Int).toNat) = lowB o v i' ∧ [AV.int IntKind.i64 (maxI (lowB o v i) (v (↑i : Int).toNat))].length = [AV.int IntKind.i64 (lowB o v i')].length) ∧ True) ∧
                            True)
                (VB (o (↑i : Int).toNat == (5 : Int))
                  (VB (v (↑i : Int).toNat == (9223372036854775807 : Int)) ((0 : Int) = r ∧ false = q ∧ True)
                    (∃ (i' : Nat),
                      (i' ≤ n ∧ lowB o v i' ≤ highI) ∧
                        (invL1 n o v).μ i' < (invL1 n o v).μ i ∧
                          (((0 : Nat) = (0 : Nat) ∧ (0 : Nat) = (0 : Nat) ∧ (0 : Nat) = (0 : Nat)) ∧
                              ((0 : Nat) = (0 : Nat) ∧ (0 : Nat) = (0 : Nat) ∧ (0 : Nat) = (0 : Nat)) ∧
                                (n = n ∧
                                    (∀ (i : Nat), i < n → (o i = o i ∧ v i = v i ∧ True) ∧ [AV.int IntKind.i64 (o i), AV.int IntKind.i64 (v i)].length = [AV.int IntKind.i64 (o i), AV.int IntKind.i64 (v i)].length) ∧
                                      (false = true → false = true)) ∧
                                  (↑n : Int) = (↑n : Int) ∧ IntKind.i64.wrap ((↑i : Int) + (1 : Int)) = (↑i' : Int) ∧ True) ∧
                            ((0 : Nat) = (0 : Nat) ∧
                                (true = true → true = true) ∧
                                  ((n = n ∧
                                        (∀ (i : Nat), i < n → (o i = o i ∧ v i = v i ∧ True) ∧ [AV.int IntKind.i64 (o i), AV.int IntKind.i64 (v i)].length = [AV.int IntKind.i64 (o i), AV.int IntKind.i64 (v i)].length) ∧
                                          (false = true → false = true)) ∧
                                      [condsAV n o v].length = [condsAV n o v].length) ∧
                                    True) ∧
                              ((0 : Nat) = (0 : Nat) ∧
                                  (true = true → true = true) ∧
                                    (maxI (lowB o v i) (IntKind.i64.wrap (v (↑i : Int).toNat + (1 : Int))) = lowB o v i' ∧
                                        [AV.int IntKind.i64 (maxI (lowB o v i) (IntKind.i64.wrap (v (↑i : Int).toNat + (1 : Int))))].length = [AV.int IntKind.i64 (lowB o v i')].length) ∧
                                      True) ∧
                                True))
                  (∃ (i' : Nat),
                    (i' ≤ n ∧ lowB o v i' ≤ highI) ∧
                      (invL1 n o v).μ i' < (invL1 n o v).μ i ∧
                        (((0 : Nat) = (0 : Nat) ∧ (0 : Nat) = (0 : Nat) ∧ (0 : Nat) = (0 : Nat)) ∧
                            ((0 : Nat) = (0 : Nat) ∧ (0 : Nat) = (0 : Nat) ∧ (0 : Nat) = (0 : Nat)) ∧
                              (n = n ∧
                                  (∀ (i : Nat), i < n → (o i = o i ∧ v i = v i ∧ True) ∧ [AV.int IntKind.i64 (o i), AV.int IntKind.i64 (v i)].length = [AV.int IntKind.i64 (o i), AV.int IntKind.i64 (v i)].length) ∧
                                    (false = true → false = true)) ∧
                                (↑n : Int) = (↑n : Int) ∧ IntKind.i64.wrap ((↑i : Int) + (1 : Int)) = (↑i' : Int) ∧ True) ∧
                          ((0 : Nat) = (0 : Nat) ∧
                              (true = true → true = true) ∧
                                ((n = n ∧
                                      (∀ (i : Nat), i < n → (o i = o i ∧ v i = v i ∧ True) ∧ [AV.int IntKind.i64 (o i), AV.int IntKind.i64 (v i)].length = [AV.int IntKind.i64 (o i), AV.int IntKind.i64 (v i)].length) ∧
                                        (false = true → false = true)) ∧
                                    [condsAV n o v].length = [condsAV n o v].length) ∧
                                  True) ∧
                            ((0 : Nat) = (0 : Nat) ∧ (true = true → true = true) ∧ (lowB o v i = lowB o v i' ∧ [AV.int IntKind.i64 (lowB o v i)].length = [AV.int IntKind.i64 (lowB o v i')].length) ∧ True) ∧ True)))))
          ((∃ (i_1 : Nat),
              (i_1 ≤ n + (1 : Nat) ∧ lowB o v n + (↑i_1 : Int) ≤ highI ∧ ∀ (j : Nat), j < i_1 → allS n o v (lowB o v n + (↑j : Int)) = false) ∧
                (((0 : Nat) = (0 : Nat) ∧ (0 : Nat) = (0 : Nat) ∧ (0 : Nat) = (0 : Nat)) ∧
                    ((0 : Nat) = (0 : Nat) ∧ (0 : Nat) = (0 : Nat) ∧ (0 : Nat) = (0 : Nat)) ∧
                      (Fn.func (59 : Nat) = Fn.func (59 : FuncId) ∧
                          True ∧ ((0 : Nat) = (0 : Nat) ∧ (0 : Nat) = (0 : Nat) ∧ (0 : Nat) = (0 : Nat)) ∧ ((0 : Nat) = (0 : Nat) ∧ (0 : Nat) = (0 : Nat) ∧ (0 : Nat) = (0 : Nat)) ∧ True) ∧
                        IntKind.i64.wrap ((↑n : Int) + (1 : Int)) = (↑n : Int) + (1 : Int) ∧ (0 : Int) = (↑i_1 : Int) ∧ True) ∧
                  ((0 : Nat) = (0 : Nat) ∧
                      (true = true → true = true) ∧
                        ((n = n ∧
                              (∀ (i : Nat), i < n → (o i = o i ∧ v i = v i ∧ True) ∧ [AV.int IntKind.i64 (o i), AV.int IntKind.i64 (v i)].length = [AV.int IntKind.i64 (o i), AV.int IntKind.i64 (v i)].length) ∧
                                (false = true → false = true)) ∧
                            [condsAV n o v].length = [condsAV n o v].length) ∧
                          True) ∧
                    ((0 : Nat) = (0 : Nat) ∧
                        (true = true → true = true) ∧ (lowB o v i = lowB o v n + (↑i_1 : Int) ∧ [AV.int IntKind.i64 (lowB o v i)].length = [AV.int IntKind.i64 (lowB o v n + (↑i_1 : Int))].length) ∧ True) ∧
                      True) ∧
            ∀ (i : Nat),
              (i ≤ n + (1 : Nat) ∧ lowB o v n + (↑i : Int) ≤ highI ∧ ∀ (j : Nat), j < i → allS n o v (lowB o v n + (↑j : Int)) = false) →
                VB (decide ((↑i : Int) < (↑n : Int) + (1 : Int)))
                  (NB
                    ((decide (n ≤ (1000000 : Nat)) && condsB n fun (i : Nat) => AV.agg [AV.int IntKind.i64 (o i), AV.int IntKind.i64 (v i)]) &&
                      okAll n fun (i : Nat) => opOf (AV.agg [AV.int IntKind.i64 (o i), AV.int IntKind.i64 (v i)]))
                    (VB
                      (allS n (fun (i : Nat) => opOf (AV.agg [AV.int IntKind.i64 (o i), AV.int IntKind.i64 (v i)])) (fun (i : Nat) => valOf (AV.agg [AV.int IntKind.i64 (o i), AV.int IntKind.i64 (v i)]))
                        (lowB o v n + (↑i : Int)))
                      (lowB o v n + (↑i : Int) = r ∧ true = q ∧ True)
                      (VB (lowB o v n + (↑i : Int) == (9223372036854775807 : Int)) ((0 : Int) = r ∧ false = q ∧ True)
                        (∃ (i' : Nat),
                          (i' ≤ n + (1 : Nat) ∧ lowB o v n + (↑i' : Int) ≤ highI ∧ ∀ (j : Nat), j < i' → allS n o v (lowB o v n + (↑j : Int)) = false) ∧
                            (invL2 n o v).μ i' < (invL2 n o v).μ i ∧
                              (((0 : Nat) = (0 : Nat) ∧ (0 : Nat) = (0 : Nat) ∧ (0 : Nat) = (0 : Nat)) ∧
                                  ((0 : Nat) = (0 : Nat) ∧ (0 : Nat) = (0 : Nat) ∧ (0 : Nat) = (0 : Nat)) ∧
                                    (Fn.func (59 : FuncId) = Fn.func (59 : FuncId) ∧
                                        True ∧ ((0 : Nat) = (0 : Nat) ∧ (0 : Nat) = (0 : Nat) ∧ (0 : Nat) = (0 : Nat)) ∧ ((0 : Nat) = (0 : Nat) ∧ (0 : Nat) = (0 : Nat) ∧ (0 : Nat) = (0 : Nat)) ∧ True) ∧
                                      (↑n : Int) + (1 : Int) = (↑n : Int) + (1 : Int) ∧ IntKind.i64.wrap ((↑i : Int) + (1 : Int)) = (↑i' : Int) ∧ True) ∧
                                ((0 : Nat) = (0 : Nat) ∧
                                    (true = true → true = true) ∧
                                      ((n = n ∧
                                            (∀ (i : Nat),
                                                i < n → (o i = o i ∧ v i = v i ∧ True) ∧ [AV.int IntKind.i64 (o i), AV.int IntKind.i64 (v i)].length = [AV.int IntKind.i64 (o i), AV.int IntKind.i64 (v i)].length) ∧
                                              (false = true → false = true)) ∧
                                          [condsAV n o v].length = [condsAV n o v].length) ∧
                                        True) ∧
                                  ((0 : Nat) = (0 : Nat) ∧
                                      (true = true → true = true) ∧
                                        (IntKind.i64.wrap (lowB o v n + (↑i : Int) + (1 : Int)) = lowB o v n + (↑i' : Int) ∧
                                            [AV.int IntKind.i64 (IntKind.i64.wrap (lowB o v n + (↑i : Int) + (1 : Int)))].length = [AV.int IntKind.i64 (lowB o v n + (↑i' : Int))].length) ∧
                                          True) ∧
                                    True))))
                  ((0 : Int) = r ∧ false = q ∧ True))) := by
  kernel_rfl

theorem leastR_vc (n : Nat) (o v : Nat → Int) (r : Int) (q : Bool) : (vcFun (mkE Tryd.prog (tblOf tbl3) fun f b => if f = 49 then (if b = 0 then some (invR1 n o v) else if b = 2 then some (invR2 n o v) else none) else none) 20 49 [.rof n (fun i => .agg [.int .i64 (o i), .int .i64 (v i)]) false] .nil 0 (retP 3 (.tup [.int .i64 r, .bool q]))).sat = (
  (∃ (i : Nat × Nat),
      i.fst.le n ∧
        ((n = n ∧
              (∀ (i : Nat), i < n → (o i = o i ∧ v i = v i ∧ True) ∧ [AV.int IntKind.i64 (o i), AV.int IntKind.i64 (v i)].length = [AV.int IntKind.i64 (o i), AV.int IntKind.i64 (v i)].length) ∧
                (false = true → false = true)) ∧
            ((0 : Nat) = i.snd ∧ (0 : Nat) = (0 : Nat) ∧ (1 : Nat) = trN v i.fst ∧ (some (1 : Nat) = none ∨ @Eq (Option Nat) none none)) ∧ (0 : Int) = (↑i.fst : Int) ∧ True) ∧
          ((0 : Nat) = i.snd ∧
              (true = true → true = true) ∧
                [AV.int IntKind.i64 (-9223372036854775808 : Int)].length = trN v i.fst ∧
                  ((-9223372036854775808 : Int) = trV v i.fst (0 : Nat) ∧ [AV.int IntKind.i64 (-9223372036854775808 : Int)].length = [AV.int IntKind.i64 (trV v i.fst (0 : Nat))].length) ∧ True) ∧
            True) ∧
    ∀ (i : Nat × Nat),
      i.fst.le n →
        VB (decide ((↑i.fst : Int) < (↑n : Int)))
          (NB (decide ((0 : Int) ≤ (↑i.fst : Int) ∧ (↑i.fst : Int) < (↑n : Int)))
            (NB (true && decide (i.snd = i.snd) && room (trN v i.fst + (1 : Nat)) (8 : Nat))
              (NB (decide ((0 : Int) ≤ (↑i.fst : Int) ∧ (↑i.fst : Int) < (↑n : Int)))
                (VB (decide (v (↑i.fst : Int).toNat < (9223372036854775807 : Int)))
                  (NB (decide ((0 : Int) ≤ (↑i.fst : Int) ∧ (↑i.fst : Int) < (↑n : Int)))
                    (NB (true && decide (i.snd + (1 : Nat) = i.snd + (1 : Nat)) && room (trN v i.fst + (1 : Nat) + (1 : Nat)) (8 : Nat))
                      (∃ (i' : Nat × Nat),
                        i'.fst.le n ∧
                          (invR1 n o v).μ i' < (invR1 n o v).μ i ∧
                            ((n = n ∧
                                  (∀ (i : Nat), i < n → (o i = o i ∧ v i = v i ∧ True) ∧ [AV.int IntKind.i64 (o i), AV.int IntKind.i64 (v i)].length = [AV.int IntKind.i64 (o i), AV.int IntKind.i64 (v i)].length) ∧
                                    (false = true → false = true)) ∧
                                (i.snd + (1 : Nat) + (1 : Nat) = i'.snd ∧ (0 : Nat) = (0 : Nat) ∧ trN v i.fst + (1 : Nat) + (1 : Nat) = trN v i'.fst ∧ (@Eq (Option Nat) none none ∨ @Eq (Option Nat) none none)) ∧
                                  IntKind.i64.wrap ((↑i.fst : Int) + (1 : Int)) = (↑i'.fst : Int) ∧ True) ∧
                              (i.snd + (1 : Nat) + (1 : Nat) = i'.snd ∧
                                  (true = true → true = true) ∧
                                    trN v i.fst + (1 : Nat) + (1 : Nat) = trN v i'.fst ∧
                                      ∀ (i_1 : Nat),
                                        i_1 < trN v i.fst + (1 : Nat) + (1 : Nat) →
                                          (if i_1 < trN v i.fst + (1 : Nat) then
                                                  if (0 : Nat) + i_1 < trN v i.fst then AV.int IntKind.i64 (trV v i.fst ((0 : Nat) + ((0 : Nat) + i_1)))
                                                  else ((Sq.lst [AV.int IntKind.i64 (v (↑i.fst : Int).toNat)]).sub (0 : Nat) (1 : Nat)).get ((0 : Nat) + i_1 - trN v i.fst)
                                                else ((Sq.lst [AV.int IntKind.i64 (IntKind.i64.wrap (v (↑i.fst : Int).toNat + (1 : Int)))]).sub (0 : Nat) (1 : Nat)).get (i_1 - (trN v i.fst + (1 : Nat)))).sub
                                              (AV.int IntKind.i64 (trV v i'.fst i_1)) ∧
                                            (if i_1 < trN v i.fst + (1 : Nat) then
                                                    if (0 : Nat) + i_1 < trN v i.fst then AV.int IntKind.i64 (trV v i.fst ((0 : Nat) + ((0 : Nat) + i_1)))
                                                    else ((Sq.lst [AV.int IntKind.i64 (v (↑i.fst : Int).toNat)]).sub (0 : Nat) (1 : Nat)).get ((0 : Nat) + i_1 - trN v i.fst)
                                                  else ((Sq.lst [AV.int IntKind.i64 (IntKind.i64.wrap (v (↑i.fst : Int).toNat + (1 : Int)))]).sub (0 : Nat) (1 : Nat)).get (i_1 - (trN v i.fst + (1 : Nat)))).cells.length =
                                              [AV.int IntKind.i64 (trV v i'.fst i_1)].length) ∧
                                True)))
                  (∃ (i' : Nat × Nat),
                    i'.fst.le n ∧
                      (invR1 n o v).μ i' < (invR1 n o v).μ i ∧
                        ((n = n ∧
                              (∀ (i : Nat), i < n → (o i = o i ∧ v i = v i ∧ True) ∧ [AV.int IntKind.i64 (o i), AV.int IntKind.i64 (v i)].length = [AV.int IntKind.i64 (o i), AV.int IntKind.i64 (v i)].length) ∧
                                (false = true → false = true)) ∧
                            (i.snd + (1 : Nat) = i'.snd ∧ (0 : Nat) = (0 : Nat) ∧ trN v i.fst + (1 : Nat) = trN v i'.fst ∧ (@Eq (Option Nat) none none ∨ @Eq (Option Nat) none none)) ∧
                              IntKind.i64.wrap ((↑i.fst : Int) + (1 : Int)) = (↑i'.fst : Int) ∧ True) ∧
                          (i.snd + (1 : Nat) = i'.snd ∧
                              (true = true → true = true) ∧
                                trN v i.fst + (1 : Nat) = trN v i'.fst ∧
                                  ∀ (i_1 : Nat),
                                    i_1 < trN v i.fst + (1 : Nat) →
                                      (if i_1 < trN v i.fst then AV.int IntKind.i64 (trV v i.fst ((0 : Nat) + i_1))
                                            else ((Sq.lst [AV.int IntKind.i64 (v (↑i.fst : Int).toNat)]).sub (0 : Nat) (1 : Nat)).get (i_1 - trN v i.fst)).sub
                                          (AV.int IntKind.i64 (trV v i'.fst i_1)) ∧
                                        (if i_1 < trN v i.fst then AV.int IntKind.i64 (trV v i.fst ((0 : Nat) + i_1))
                                              else ((Sq.lst [AV.int IntKind.i64 (v (↑i.fst : Int).toNat)]).sub (0 : Nat) (1 : Nat)).get (i_1 - trN v i.fst)).cells.length =
                                          [AV.int IntKind.i64 (trV v i'.fst i_1)].length) ∧
                            True)))))
          ((∃ (i_1 : Nat × Nat),
              i_1.fst.le (trN v n) ∧
                ((n = n ∧
                      (∀ (i : Nat), i < n → (o i = o i ∧ v i = v i ∧ True) ∧ [AV.int IntKind.i64 (o i), AV.int IntKind.i64 (v i)].length = [AV.int IntKind.i64 (o i), AV.int IntKind.i64 (v i)].length) ∧
                        (false = true → false = true)) ∧
                    (i.snd = i_1.snd ∧ (0 : Nat) = (0 : Nat) ∧ trN v i.fst = trN v n ∧ (@Eq (Option Nat) none none ∨ @Eq (Option Nat) none none)) ∧
                      (0 : Int) = bstV n o v i_1.fst ∧ false = bstF n o v i_1.fst ∧ (0 : Int) = (↑i_1.fst : Int) ∧ True) ∧
                  (i.snd = i_1.snd ∧
                      (true = true → true = true) ∧
                        trN v i.fst = trN v n ∧ ∀ (i_2 : Nat), i_2 < trN v i.fst → trV v i.fst i_2 = trV v n i_2 ∧ [AV.int IntKind.i64 (trV v i.fst i_2)].length = [AV.int IntKind.i64 (trV v n i_2)].length) ∧
                    True) ∧
            ∀ (i : Nat × Nat),
              i.fst.le (trN v n) →
                VB (decide ((↑i.fst : Int) < (↑(trN v n) : Int)))
                  (NB (decide (i.snd = i.snd) && decide ((0 : Int) ≤ (↑i.fst : Int) ∧ (↑i.fst : Int) < (↑(trN v n) : Int)))
                    (NB (decide (i.snd = i.snd))
                      (NB
                        ((decide (n ≤ (1000000 : Nat)) && condsB n fun (i : Nat) => AV.agg [AV.int IntKind.i64 (o i), AV.int IntKind.i64 (v i)]) &&
                          okAll n fun (i : Nat) => opOf (AV.agg [AV.int IntKind.i64 (o i), AV.int IntKind.i64 (v i)]))
                        (NB
                          (impB
                            (isW true
                                (allS n (fun (i : Nat) => opOf (AV.agg [AV.int IntKind.i64 (o i), AV.int IntKind.i64 (v i)])) (fun (i : Nat) => valOf (AV.agg [AV.int IntKind.i64 (o i), AV.int IntKind.i64 (v i)]))
                                  (trV v n ((0 : Nat) + (↑i.fst : Int).toNat))) &&
                              isW false !bstF n o v i.fst)
                            (decide (i.snd = i.snd) && decide ((0 : Int) ≤ (↑i.fst : Int) ∧ (↑i.fst : Int) < (↑(trN v n) : Int))))
                          (NB
                            (impB
                              (isW true
                                  (allS n (fun (i : Nat) => opOf (AV.agg [AV.int IntKind.i64 (o i), AV.int IntKind.i64 (v i)])) (fun (i : Nat) => valOf (AV.agg [AV.int IntKind.i64 (o i), AV.int IntKind.i64 (v i)]))
                                    (trV v n ((0 : Nat) + (↑i.fst : Int).toNat))) &&
                                isW false !bstF n o v i.fst)
                              (decide (i.snd = i.snd)))
                            (VB
                              (allS n (fun (i : Nat) => opOf (AV.agg [AV.int IntKind.i64 (o i), AV.int IntKind.i64 (v i)])) (fun (i : Nat) => valOf (AV.agg [AV.int IntKind.i64 (o i), AV.int IntKind.i64 (v i)]))
                                  (trV v n ((0 : Nat) + (↑i.fst : Int).toNat)) &&
                                (!bstF n o v i.fst || decide (trV v n ((0 : Nat) + (↑i.fst : Int).toNat) < bstV n o v i.fst)))
                              (NB (decide (i.snd = i.snd) && decide ((0 : Int) ≤ (↑i.fst : Int) ∧ (↑i.fst : Int) < (↑(trN v n) : Int)))
                                (NB (decide (i.snd = i.snd))
                                  (∃ (i' : Nat × Nat),
                                    i'.fst.le (trN v n) ∧
                                      (invR2 n o v).μ i' < (invR2 n o v).μ i ∧
                                        ((n = n ∧
                                              (∀ (i : Nat),
                                                  i < n → (o i = o i ∧ v i = v i ∧ True) ∧ [AV.int IntKind.i64 (o i), AV.int IntKind.i64 (v i)].length = [AV.int IntKind.i64 (o i), AV.int IntKind.i64 (v i)].length) ∧
                                                (false = true → false = true)) ∧
                                            (i.snd = i'.snd ∧ (0 : Nat) = (0 : Nat) ∧ trN v n = trN v n ∧ (@Eq (Option Nat) none none ∨ @Eq (Option Nat) none none)) ∧
                                              trV v n ((0 : Nat) + (↑i.fst : Int).toNat) = bstV n o v i'.fst ∧ true = bstF n o v i'.fst ∧ IntKind.i64.wrap ((↑i.fst : Int) + (1 : Int)) = (↑i'.fst : Int) ∧ True) ∧
                                          (i.snd = i'.snd ∧
                                              (true = true → true = true) ∧
                                                trN v n = trN v n ∧ ∀ (i : Nat), i < trN v n → trV v n i = trV v n i ∧ [AV.int IntKind.i64 (trV v n i)].length = [AV.int IntKind.i64 (trV v n i)].length) ∧
                                            True)))
                              (∃ (i' : Nat × Nat),
                                i'.fst.le (trN v n) ∧
                                  (invR2 n o v).μ i' < (invR2 n o v).μ i ∧
                                    ((n = n ∧
                                          (∀ (i : Nat), i < n → (o i = o i ∧ v i = v i ∧ True) ∧ [AV.int IntKind.i64 (o i), AV.int IntKind.i64 (v i)].length = [AV.int IntKind.i64 (o i), AV.int IntKind.i64 (v i)].length) ∧
                                            (false = true → false = true)) ∧
                                        (i.snd = i'.snd ∧ (0 : Nat) = (0 : Nat) ∧ trN v n = trN v n ∧ (@Eq (Option Nat) none none ∨ @Eq (Option Nat) none none)) ∧
                                          bstV n o v i.fst = bstV n o v i'.fst ∧ bstF n o v i.fst = bstF n o v i'.fst ∧ IntKind.i64.wrap ((↑i.fst : Int) + (1 : Int)) = (↑i'.fst : Int) ∧ True) ∧
                                      (i.snd = i'.snd ∧
                                          (true = true → true = true) ∧
                                            trN v n = trN v n ∧ ∀ (i : Nat), i < trN v n → trV v n i = trV v n i ∧ [AV.int IntKind.i64 (trV v n i)].length = [AV.int IntKind.i64 (trV v n i)].length) ∧
                                        True)))))))
                  (bstV n o v i.fst = r ∧ bstF n o v i.fst = q ∧ True))) := by
  kernel_rfl

end Go.Proofs.YtjkkkldkimdajaaDoor
