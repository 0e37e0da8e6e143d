/- PRED 15: the law of conditions, its code. -/
import Derived.Test.YtjkkkldkimdajaaDoorP14
namespace Go.Proofs.YtjkkkldkimdajaaDoor
open Pw Go
set_option maxRecDepth 100000
set_option linter.unusedSimpArgs false

def condRow (n : Nat) (o v : Nat → Int) : Blk := .row 0 2 true (.fn n (fun i => .agg [.int .i64 (o i), .int .i64 (v i)]))
def invPC (n : Nat) (o v : Nat → Int) (x : Int) : Inv := ⟨Nat, 10, fun i => ⟨[(0, condsAV n o v), (1, .int .i64 x), (5, .sl 1 0 0 n none), (14, .int .i64 i)], [(1, condRow n o v)]⟩, fun i => i ≤ n, fun i => n - i⟩

theorem predConds_vc (n : Nat) (o v : Nat → Int) (x : Int) : (vcFun (mkE Tryd.prog (tblOf tbl5) fun f b => if f = 3 ∧ b = 0 then some (invPC n o v x) else none) 20 3 [.rof n (fun i => .agg [.int .i64 (o i), .int .i64 (v i)]) false, .int .i64 x] .nil 0 (isBool true)).sat = (
  VB (decide ((↑n : Int) > (12 : Int))) (true = true)
    (NB (true && room ((0 : Nat) + n) (16 : Nat) && true && (n != (0 : Nat) || true))
      (NB (decide ((0 : Nat) + n ≤ (1000000 : Nat)) && condsB ((0 : Nat) + n) fun (k : Nat) => AV.agg [AV.int IntKind.i64 (o ((0 : Nat) + k)), AV.int IntKind.i64 (v ((0 : Nat) + k))])
        (NB (decide (n ≤ (1000000 : Nat)) && condsB n fun (i : Nat) => AV.agg [AV.int IntKind.i64 (o i), AV.int IntKind.i64 (v i)])
          (NB
            ((decide ((0 : Nat) + n ≤ (1000000 : Nat)) && condsB ((0 : Nat) + n) fun (k : Nat) => AV.agg [AV.int IntKind.i64 (o ((0 : Nat) + k)), AV.int IntKind.i64 (v ((0 : Nat) + k))]) &&
              rngAll ((0 : Nat) + n) fun (i : Nat) => valOf (AV.agg [AV.int IntKind.i64 (o ((0 : Nat) + i)), AV.int IntKind.i64 (v ((0 : Nat) + i))]))
            (NB
              ((decide (n ≤ (1000000 : Nat)) && condsB n fun (i : Nat) => AV.agg [AV.int IntKind.i64 (o i), AV.int IntKind.i64 (v i)]) &&
                rngAll n fun (i : Nat) => valOf (AV.agg [AV.int IntKind.i64 (o i), AV.int IntKind.i64 (v i)]))
              (VB
                (((!AllS ((0 : Nat) + n) (fun (i : Nat) => opOf (AV.agg [AV.int IntKind.i64 (o ((0 : Nat) + i)), AV.int IntKind.i64 (v ((0 : Nat) + i))]))
                            (fun (i : Nat) => valOf (AV.agg [AV.int IntKind.i64 (o ((0 : Nat) + i)), AV.int IntKind.i64 (v ((0 : Nat) + i))])) x ==
                          AllS n (fun (i : Nat) => opOf (AV.agg [AV.int IntKind.i64 (o i), AV.int IntKind.i64 (v i)])) (fun (i : Nat) => valOf (AV.agg [AV.int IntKind.i64 (o i), AV.int IntKind.i64 (v i)])) x ||
                      (chkS ((0 : Nat) + n) fun (i : Nat) => opOf (AV.agg [AV.int IntKind.i64 (o ((0 : Nat) + i)), AV.int IntKind.i64 (v ((0 : Nat) + i))])) !=
                        chkS n fun (i : Nat) => opOf (AV.agg [AV.int IntKind.i64 (o i), AV.int IntKind.i64 (v i)])) ||
                    (LeastS ((0 : Nat) + n) (fun (i : Nat) => opOf (AV.agg [AV.int IntKind.i64 (o ((0 : Nat) + i)), AV.int IntKind.i64 (v ((0 : Nat) + i))])) fun (i : Nat) =>
                        valOf (AV.agg [AV.int IntKind.i64 (o ((0 : Nat) + i)), AV.int IntKind.i64 (v ((0 : Nat) + i))])) !=
                      LeastS n (fun (i : Nat) => opOf (AV.agg [AV.int IntKind.i64 (o i), AV.int IntKind.i64 (v i)])) fun (i : Nat) => valOf (AV.agg [AV.int IntKind.i64 (o i), AV.int IntKind.i64 (v i)])) ||
                  (LeastE ((0 : Nat) + n) (fun (i : Nat) => opOf (AV.agg [AV.int IntKind.i64 (o ((0 : Nat) + i)), AV.int IntKind.i64 (v ((0 : Nat) + i))])) fun (i : Nat) =>
                      valOf (AV.agg [AV.int IntKind.i64 (o ((0 : Nat) + i)), AV.int IntKind.i64 (v ((0 : Nat) + i))])) !=
                    LeastE n (fun (i : Nat) => opOf (AV.agg [AV.int IntKind.i64 (o i), AV.int IntKind.i64 (v i)])) fun (i : Nat) => valOf (AV.agg [AV.int IntKind.i64 (o i), AV.int IntKind.i64 (v i)]))
                (false = true)
                ((∃ (i : Nat),
                    i.le n ∧
                      ((n = n ∧
                            (∀ (i : Nat), i < n → (o i = o i ∧ v i = v i ∧ True) ∧ [AV.int IntKind.i64 (o i), AV.int IntKind.i64 (v i)].length = [AV.int IntKind.i64 (o i), AV.int IntKind.i64 (v i)].length) ∧
                              (false = true → false = true)) ∧
                          x = x ∧ ((0 : Nat) = (0 : Nat) ∧ (0 : Nat) = (0 : Nat) ∧ (0 : Nat) + n = n ∧ (@Eq (Option Nat) none none ∨ @Eq (Option Nat) none none)) ∧ (0 : Int) = (↑i : Int) ∧ True) ∧
                        ((0 : Nat) = (0 : Nat) ∧
                            (true = true → true = true) ∧
                              n = n ∧ ∀ (i : Nat), i < n → (o i = o i ∧ v i = v i ∧ True) ∧ [AV.int IntKind.i64 (o i), AV.int IntKind.i64 (v i)].length = [AV.int IntKind.i64 (o i), AV.int IntKind.i64 (v i)].length) ∧
                          True) ∧
                  ∀ (i : Nat),
                    i.le n →
                      VB (decide ((↑i : Int) < (↑n : Int)))
                        (NB (decide ((0 : Int) ≤ (↑i : Int) ∧ (↑i : Int) < (↑n : Int)))
                          (NB (decide ((0 : Int) ≤ (↑i : Int) ∧ (↑i : Int) < (↑n : Int)))
                            (NB
                              (impB (isW false (!condS (o (↑i : Int).toNat) (v (↑i : Int).toNat) x == condS (o (↑i : Int).toNat) (v (↑i : Int).toNat) x || condE (o (↑i : Int).toNat) != condE (o (↑i : Int).toNat)))
                                (true && decide ((0 : Int) ≤ (↑i : Int) ∧ (↑i : Int) < (↑n : Int))))
                              (NB
                                (impB (isW false (!condS (o (↑i : Int).toNat) (v (↑i : Int).toNat) x == condS (o (↑i : Int).toNat) (v (↑i : Int).toNat) x || condE (o (↑i : Int).toNat) != condE (o (↑i : Int).toNat)))
                                  (decide ((0 : Int) ≤ (↑i : Int) ∧ (↑i : Int) < (↑n : Int))))
                                (VB
                                  (!condS (o (↑i : Int).toNat) (v (↑i : Int).toNat) x == condS (o (↑i : Int).toNat) (v (↑i : Int).toNat) x || condE (o (↑i : Int).toNat) != condE (o (↑i : Int).toNat) ||
                                    !(o ((0 : Nat) + (↑i : Int).toNat) == o (↑i : Int).toNat && (v ((0 : Nat) + (↑i : Int).toNat) == v (↑i : Int).toNat && true)))
                                  (false = true)
                                  (∃ (i' : Nat),
                                    i'.le n ∧
                                      (invPC n o v x).μ i' < (invPC n o v x).μ i ∧
                                        ((n = n ∧
                                              (∀ (i : Nat),
                                                  i < n → (o i = o i ∧ v i = v i ∧ True) ∧ [AV.int IntKind.i64 (o i), AV.int IntKind.i64 (v i)].length = [AV.int IntKind.i64 (o i), AV.int IntKind.i64 (v i)].length) ∧
                                                (false = true → false = true)) ∧
                                            x = x ∧
                                              ((0 : Nat) = (0 : Nat) ∧ (0 : Nat) = (0 : Nat) ∧ n = n ∧ (@Eq (Option Nat) none none ∨ @Eq (Option Nat) none none)) ∧
                                                IntKind.i64.wrap ((↑i : Int) + (1 : Int)) = (↑i' : Int) ∧ True) ∧
                                          ((0 : Nat) = (0 : Nat) ∧
                                              (true = true → true = true) ∧
                                                n = n ∧
                                                  ∀ (i : Nat),
                                                    i < n → (o i = o i ∧ v i = v i ∧ True) ∧ [AV.int IntKind.i64 (o i), AV.int IntKind.i64 (v i)].length = [AV.int IntKind.i64 (o i), AV.int IntKind.i64 (v i)].length) ∧
                                            True))))))
                        (true = true))))))))) := by
  kernel_rfl

end Go.Proofs.YtjkkkldkimdajaaDoor
