/- WIRE 2: numbers and digits, their code. -/
import Derived.Test.YtfgedkmopgkonaaRows
import Derived.Test.YtfgedkmopgkonaaW1
namespace Go.Proofs.Ytfgedkmopgkonaa
open Pw Go
set_option maxRecDepth 100000

def invNum (k : IntKind) (s : List UInt8) : Inv := ⟨Nat, 1, fun i => ⟨[(3, .int k (k.wrap (numS (s.take i)))), (7, .rof s.length (fun i => .int .u8 ((s.getD i 0).toNat)) false), (8, .int .i64 s.length), (9, .int .i64 i)], []⟩, fun i => i ≤ s.length, fun i => s.length - i⟩
def invNumR (s : List UInt8) : Inv := ⟨Nat, 1, fun i => ⟨[(0, .str s), (3, .int .u64 (numS (s.take i))), (4, .int .i64 i)], []⟩, fun i => i ≤ s.length, fun i => s.length - i⟩

theorem numU_vc (s : List UInt8) : (vcFun (mkE Try.prog (tblOf []) fun f b => if f = 60 ∧ b = 0 then some (invNum .u64 s) else none) 20 60 [.str s] .nil 0 (retP 3 (.int .u64 (numS s)))).sat = (
  NB (decide (s.length ≤ 9223372036854775807))
    ((∃ (i : Nat),
        i.le s.length ∧
          (0 = IntKind.u64.wrap (numS (List.take i s)) ∧
              (s.length = s.length ∧
                  (∀ (i : Nat), i < s.length → (↑(s.getD i 0).toNat : Int) = (↑(s.getD i 0).toNat : Int) ∧ [AV.int IntKind.u8 (↑(s.getD i 0).toNat : Int)].length = [AV.int IntKind.u8 (↑(s.getD i 0).toNat : Int)].length) ∧
                    (false = true → false = true)) ∧
                (↑s.length : Int) = (↑s.length : Int) ∧ 0 = (↑i : Int) ∧ True) ∧
            True) ∧
      ∀ (i : Nat),
        i.le s.length →
          VB (decide ((↑i : Int) < (↑s.length : Int)))
            (NB (decide (0 ≤ (↑i : Int) ∧ (↑i : Int) < (↑s.length : Int)))
              (∃ (i' : Nat),
                i'.le s.length ∧
                  (invNum IntKind.u64 s).μ i' < (invNum IntKind.u64 s).μ i ∧
                    (orI IntKind.u64 (shlI IntKind.u64 (IntKind.u64.wrap (numS (List.take i s))) 8) (IntKind.u64.wrap (↑(s.getD (↑i : Int).toNat 0).toNat : Int)) = IntKind.u64.wrap (numS (List.take i' s)) ∧
                        (s.length = s.length ∧
                            (∀ (i : Nat),
                                i < s.length → (↑(s.getD i 0).toNat : Int) = (↑(s.getD i 0).toNat : Int) ∧ [AV.int IntKind.u8 (↑(s.getD i 0).toNat : Int)].length = [AV.int IntKind.u8 (↑(s.getD i 0).toNat : Int)].length) ∧
                              (false = true → false = true)) ∧
                          (↑s.length : Int) = (↑s.length : Int) ∧ IntKind.i64.wrap ((↑i : Int) + 1) = (↑i' : Int) ∧ True) ∧
                      True))
            (IntKind.u64.wrap (numS (List.take i s)) = numS s))) := by
  kernel_rfl

theorem numI_vc (s : List UInt8) : (vcFun (mkE Try.prog (tblOf []) fun f b => if f = 64 ∧ b = 0 then some (invNum .i64 s) else none) 20 64 [.str s] .nil 0 (retP 3 (.int .i64 (IntKind.i64.wrap (numS s))))).sat = (
  NB (decide (s.length ≤ 9223372036854775807))
    ((∃ (i : Nat),
        i.le s.length ∧
          (0 = IntKind.i64.wrap (numS (List.take i s)) ∧
              (s.length = s.length ∧
                  (∀ (i : Nat), i < s.length → (↑(s.getD i 0).toNat : Int) = (↑(s.getD i 0).toNat : Int) ∧ [AV.int IntKind.u8 (↑(s.getD i 0).toNat : Int)].length = [AV.int IntKind.u8 (↑(s.getD i 0).toNat : Int)].length) ∧
                    (false = true → false = true)) ∧
                (↑s.length : Int) = (↑s.length : Int) ∧ 0 = (↑i : Int) ∧ True) ∧
            True) ∧
      ∀ (i : Nat),
        i.le s.length →
          VB (decide ((↑i : Int) < (↑s.length : Int)))
            (NB (decide (0 ≤ (↑i : Int) ∧ (↑i : Int) < (↑s.length : Int)))
              (∃ (i' : Nat),
                i'.le s.length ∧
                  (invNum IntKind.i64 s).μ i' < (invNum IntKind.i64 s).μ i ∧
                    (orI IntKind.i64 (shlI IntKind.i64 (IntKind.i64.wrap (numS (List.take i s))) 8) (IntKind.i64.wrap (↑(s.getD (↑i : Int).toNat 0).toNat : Int)) = IntKind.i64.wrap (numS (List.take i' s)) ∧
                        (s.length = s.length ∧
                            (∀ (i : Nat),
                                i < s.length → (↑(s.getD i 0).toNat : Int) = (↑(s.getD i 0).toNat : Int) ∧ [AV.int IntKind.u8 (↑(s.getD i 0).toNat : Int)].length = [AV.int IntKind.u8 (↑(s.getD i 0).toNat : Int)].length) ∧
                              (false = true → false = true)) ∧
                          (↑s.length : Int) = (↑s.length : Int) ∧ IntKind.i64.wrap ((↑i : Int) + 1) = (↑i' : Int) ∧ True) ∧
                      True))
            (IntKind.i64.wrap (numS (List.take i s)) = IntKind.i64.wrap (numS s)))) := by
  kernel_rfl

theorem numR_vc (s : List UInt8) : (vcFun (mkE Try.prog (tblOf []) fun f b => if f = 52 ∧ b = 0 then some (invNumR s) else none) 20 52 [.str s] .nil 0 (retP 3 (.int .u64 (numS s)))).sat = (
  (∃ (i : Nat), i.le s.length ∧ (s = s ∧ 0 = numS (List.take i s) ∧ 0 = (↑i : Int) ∧ True) ∧ True) ∧
    ∀ (i : Nat),
      i.le s.length →
        VB (decide ((↑i : Int) < (↑s.length : Int)))
          (NB (decide (0 ≤ (↑i : Int) ∧ (↑i : Int) < (↑s.length : Int)))
            (∃ (i' : Nat),
              i'.le s.length ∧
                (invNumR s).μ i' < (invNumR s).μ i ∧
                  (s = s ∧
                      IntKind.u64.wrap (IntKind.u64.wrap (256 * numS (List.take i s)) + IntKind.u64.wrap (↑(s.getD (↑i : Int).toNat 0).toNat : Int)) = numS (List.take i' s) ∧
                        IntKind.i64.wrap ((↑i : Int) + 1) = (↑i' : Int) ∧ True) ∧
                    True))
          (numS (List.take i s) = numS s)) := by
  kernel_rfl

end Go.Proofs.Ytfgedkmopgkonaa
