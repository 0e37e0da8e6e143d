/- WIRE 4: digits, their code. -/
import Derived.Test.YtfgedkmopgkonaaW3
namespace Go.Proofs.Ytfgedkmopgkonaa
open Pw Go
set_option maxRecDepth 100000

def digRow (n : Int) (k i : Nat) : Nat → AV := fun p => .int .u8 (if k ≤ p + i then (((digS n k).getD p 0).toNat : Int) else 0)
def invDig (kd : IntKind) (n m : Int) (k : Nat) : Inv := ⟨Nat, 1, fun i => ⟨[(0, .int kd n), (1, .int .i64 m), (5, .sl 0 0 0 k (some k)), (10, .int .i64 m), (11, .int .i64 i)], [(0, .row 0 1 true (.fn k (digRow n k i)))]⟩, fun i => i ≤ k, fun i => k - i⟩
def invDigR (n : Int) (k : Nat) : Inv := ⟨Nat, 20, fun i => ⟨[(0, .int .u64 (n / 256 ^ i)), (1, .int .i64 k), (5, .str (digS n i)), (6, .int .i64 i)], []⟩, fun i => i ≤ k, fun i => k - i⟩

theorem digU_vc (n m : Int) : (vcFun (mkE Try.prog (tblOf []) fun f b => if f = 50 ∧ b = 0 then some (invDig .u64 n m m.toNat) else none) 20 50 [.int .u64 n, .int .i64 m] .nil 0 (retP 3 (.str (digS n m.toNat)))).sat = (
  NB (decide (0 ≤ m ∧ m = m ∧ m * 1 ≤ 140737488355328 ∧ m ≤ 9223372036854775807))
    ((∃ (i : Nat),
        i.le m.toNat ∧
          (n = n ∧ m = m ∧ (0 = 0 ∧ 0 = 0 ∧ m.toNat = m.toNat ∧ (some m.toNat = some m.toNat ∨ some m.toNat = none)) ∧ (↑m.toNat : Int) = m ∧ 0 = (↑i : Int) ∧ True) ∧
            (0 = 0 ∧
                (true = true → true = true) ∧
                  m.toNat = m.toNat ∧ ∀ (i_1 : Nat), i_1 < m.toNat → (0 = if m.toNat ≤ i_1 + i then (↑((digS n m.toNat).getD i_1 0).toNat : Int) else 0) ∧ [AV.int IntKind.u8 0].length = [digRow n m.toNat i i_1].length) ∧
              True) ∧
      ∀ (i : Nat),
        i.le m.toNat →
          VB (decide ((↑i : Int) < m))
            (NB (decide (0 ≤ IntKind.i64.wrap (8 * (↑i : Int))))
              (NB (decide (0 = 0) && decide (0 ≤ IntKind.i64.wrap (IntKind.i64.wrap (m - 1) - (↑i : Int)) ∧ IntKind.i64.wrap (IntKind.i64.wrap (m - 1) - (↑i : Int)) < (↑m.toNat : Int)))
                (∃ (i' : Nat),
                  i'.le m.toNat ∧
                    (invDig IntKind.u64 n m m.toNat).μ i' < (invDig IntKind.u64 n m m.toNat).μ i ∧
                      (n = n ∧ m = m ∧ (0 = 0 ∧ 0 = 0 ∧ m.toNat = m.toNat ∧ (some m.toNat = some m.toNat ∨ some m.toNat = none)) ∧ m = m ∧ IntKind.i64.wrap ((↑i : Int) + 1) = (↑i' : Int) ∧ True) ∧
                        (0 = 0 ∧
                            (true = true → true = true) ∧
                              m.toNat = m.toNat ∧
                                ∀ (i_1 : Nat),
                                  i_1 < m.toNat →
                                    (if i_1 = 0 + (IntKind.i64.wrap (IntKind.i64.wrap (m - 1) - (↑i : Int))).toNat then AV.int IntKind.u8 (IntKind.u8.wrap (shrI IntKind.u64 n (IntKind.i64.wrap (8 * (↑i : Int)))))
                                          else AV.int IntKind.u8 (if m.toNat ≤ i_1 + i then (↑((digS n m.toNat).getD i_1 0).toNat : Int) else 0)).sub
                                        (AV.int IntKind.u8 (if m.toNat ≤ i_1 + i' then (↑((digS n m.toNat).getD i_1 0).toNat : Int) else 0)) ∧
                                      (if i_1 = 0 + (IntKind.i64.wrap (IntKind.i64.wrap (m - 1) - (↑i : Int))).toNat then AV.int IntKind.u8 (IntKind.u8.wrap (shrI IntKind.u64 n (IntKind.i64.wrap (8 * (↑i : Int)))))
                                            else digRow n m.toNat i i_1).cells.length =
                                        [digRow n m.toNat i' i_1].length) ∧
                          True)))
            ((∀ (i_1 : Nat), i_1 < m.toNat → isU8 (digRow n m.toNat i (0 + i_1)) = true) ∧ List.map (fun (i_1 : Nat) => byteAV (digRow n m.toNat i (0 + i_1))) (List.range m.toNat) = digS n m.toNat))) := by
  kernel_rfl

theorem digI_vc (n m : Int) : (vcFun (mkE Try.prog (tblOf []) fun f b => if f = 55 ∧ b = 0 then some (invDig .i64 n m m.toNat) else none) 20 55 [.int .i64 n, .int .i64 m] .nil 0 (retP 3 (.str (digS n m.toNat)))).sat = (
  NB (decide (0 ≤ m ∧ m = m ∧ m * 1 ≤ 140737488355328 ∧ m ≤ 9223372036854775807))
    ((∃ (i : Nat),
        i.le m.toNat ∧
          (n = n ∧ m = m ∧ (0 = 0 ∧ 0 = 0 ∧ m.toNat = m.toNat ∧ (some m.toNat = some m.toNat ∨ some m.toNat = none)) ∧ (↑m.toNat : Int) = m ∧ 0 = (↑i : Int) ∧ True) ∧
            (0 = 0 ∧
                (true = true → true = true) ∧
                  m.toNat = m.toNat ∧ ∀ (i_1 : Nat), i_1 < m.toNat → (0 = if m.toNat ≤ i_1 + i then (↑((digS n m.toNat).getD i_1 0).toNat : Int) else 0) ∧ [AV.int IntKind.u8 0].length = [digRow n m.toNat i i_1].length) ∧
              True) ∧
      ∀ (i : Nat),
        i.le m.toNat →
          VB (decide ((↑i : Int) < m))
            (NB (decide (0 ≤ IntKind.i64.wrap (8 * (↑i : Int))))
              (NB (decide (0 = 0) && decide (0 ≤ IntKind.i64.wrap (IntKind.i64.wrap (m - 1) - (↑i : Int)) ∧ IntKind.i64.wrap (IntKind.i64.wrap (m - 1) - (↑i : Int)) < (↑m.toNat : Int)))
                (∃ (i' : Nat),
                  i'.le m.toNat ∧
                    (invDig IntKind.i64 n m m.toNat).μ i' < (invDig IntKind.i64 n m m.toNat).μ i ∧
                      (n = n ∧ m = m ∧ (0 = 0 ∧ 0 = 0 ∧ m.toNat = m.toNat ∧ (some m.toNat = some m.toNat ∨ some m.toNat = none)) ∧ m = m ∧ IntKind.i64.wrap ((↑i : Int) + 1) = (↑i' : Int) ∧ True) ∧
                        (0 = 0 ∧
                            (true = true → true = true) ∧
                              m.toNat = m.toNat ∧
                                ∀ (i_1 : Nat),
                                  i_1 < m.toNat →
                                    (if i_1 = 0 + (IntKind.i64.wrap (IntKind.i64.wrap (m - 1) - (↑i : Int))).toNat then AV.int IntKind.u8 (IntKind.u8.wrap (shrI IntKind.i64 n (IntKind.i64.wrap (8 * (↑i : Int)))))
                                          else AV.int IntKind.u8 (if m.toNat ≤ i_1 + i then (↑((digS n m.toNat).getD i_1 0).toNat : Int) else 0)).sub
                                        (AV.int IntKind.u8 (if m.toNat ≤ i_1 + i' then (↑((digS n m.toNat).getD i_1 0).toNat : Int) else 0)) ∧
                                      (if i_1 = 0 + (IntKind.i64.wrap (IntKind.i64.wrap (m - 1) - (↑i : Int))).toNat then AV.int IntKind.u8 (IntKind.u8.wrap (shrI IntKind.i64 n (IntKind.i64.wrap (8 * (↑i : Int)))))
                                            else digRow n m.toNat i i_1).cells.length =
                                        [digRow n m.toNat i' i_1].length) ∧
                          True)))
            ((∀ (i_1 : Nat), i_1 < m.toNat → isU8 (digRow n m.toNat i (0 + i_1)) = true) ∧ List.map (fun (i_1 : Nat) => byteAV (digRow n m.toNat i (0 + i_1))) (List.range m.toNat) = digS n m.toNat))) := by
  kernel_rfl

theorem digR_vc (n : Int) (k : Nat) : (vcFun (mkE Try.prog (tblOf []) fun f b => if f = 53 ∧ b = 0 then some (invDigR n k) else none) 20 53 [.int .u64 n, .int .i64 k] .nil 0 (retP 3 (.str (digS n k)))).sat = (
  (∃ (i : Nat), i.le k ∧ (n = n / 256 ^ i ∧ (↑k : Int) = (↑k : Int) ∧ [] = digS n i ∧ 0 = (↑i : Int) ∧ True) ∧ True) ∧
    ∀ (i : Nat),
      i.le k →
        VB (decide ((↑i : Int) < (↑k : Int)))
          (NB (decide ((↑(List.map byteAV (List.take 1 (List.drop 0 [AV.int IntKind.u8 (IntKind.u8.wrap ((n / 256 ^ i).tmod 256))]))).length : Int) + (↑(digS n i).length : Int) ≤ 9223372036854775807))
            (∃ (i' : Nat),
              i'.le k ∧
                (invDigR n k).μ i' < (invDigR n k).μ i ∧
                  (IntKind.u64.wrap ((n / 256 ^ i).tdiv 256) = n / 256 ^ i' ∧
                      (↑k : Int) = (↑k : Int) ∧
                        List.map byteAV (List.take 1 (List.drop 0 [AV.int IntKind.u8 (IntKind.u8.wrap ((n / 256 ^ i).tmod 256))])) ++ digS n i = digS n i' ∧ IntKind.i64.wrap ((↑i : Int) + 1) = (↑i' : Int) ∧ True) ∧
                    True))
          (digS n i = digS n k)) := by
  kernel_rfl

end Go.Proofs.Ytfgedkmopgkonaa
