/- PRED 32: Matches, Empty, Sample; atoms copied and compared: conditions of the codes. -/
import Derived.Test.YtjkkkldkimdajaaDoorP27
namespace Go.Proofs.YtjkkkldkimdajaaDoor
open Pw Go
set_option maxRecDepth 100000
set_option linter.unusedSimpArgs false

def cellA (k : Int) (bd : Bool) (bo : Int) (n : Nat) (o v : Nat → Int) (nm : List UInt8) : Blk := .row 0 5 true (.lst [.agg (atomL k bd bo n o v nm)])
def invSA (a1 a2 : Int × Bool × Int × List UInt8) (n : Nat) (o v : Nat → Int) (o' v' : Nat → Int) : Inv := ⟨Nat, 30, fun i => ⟨[(2, .ptr 0 0 0 0), (3, .ptr 1 0 0 0), (5, .int .i64 i)], [(0, cellA a1.1 a1.2.1 a1.2.2.1 n o v a1.2.2.2), (1, cellA a2.1 a2.2.1 a2.2.2.1 n o' v' a2.2.2.2)]⟩, fun i => i ≤ n, fun i => n - i⟩

theorem matchesI_vc (k : Int) (bd : Bool) (bo : Int) (n : Nat) (o v : Nat → Int) (nm : List UInt8) (l ek x : Int) (r : Bool) (e : Int) : (vcFun (mkG Tryd.prog gN (tblOf tblC) (fun _ _ => none) 0) 20 19 [.agg [.int .i64 k, .bool bd, .int .u64 bo, .rof n (fun i => .agg [.int .i64 (o i), .int .i64 (v i)]) false, .str nm], .agg [.int .u64 l, .int .i64 ek, .int .i64 x]] .nil 0 (retP 3 (.tup [.bool r, .int .i64 e]))).sat = (
  NB ((condsB n fun (i : Nat) => AV.agg [AV.int IntKind.i64 (o i), AV.int IntKind.i64 (v i)]) && decide (nm.length ≤ (9223372036854775807 : Nat)))
    (VB (checkE k bd bo n (fun (i : Nat) => opOf (AV.agg [AV.int IntKind.i64 (o i), AV.int IntKind.i64 (v i)])) nm != (0 : Int))
      (false = r ∧ checkE k bd bo n (fun (i : Nat) => opOf (AV.agg [AV.int IntKind.i64 (o i), AV.int IntKind.i64 (v i)])) nm = e ∧ True)
      (VB (eventE ek != (0 : Int)) (false = r ∧ eventE ek = e ∧ True)
        (NB
          (((decide (n ≤ (1000000 : Nat)) && condsB n fun (i : Nat) => AV.agg [AV.int IntKind.i64 (o i), AV.int IntKind.i64 (v i)]) &&
                okAll n fun (i : Nat) => opOf (AV.agg [AV.int IntKind.i64 (o i), AV.int IntKind.i64 (v i)])) &&
              u64B l &&
            u64B bo)
          (matchS k bd bo n (fun (i : Nat) => opOf (AV.agg [AV.int IntKind.i64 (o i), AV.int IntKind.i64 (v i)])) (fun (i : Nat) => valOf (AV.agg [AV.int IntKind.i64 (o i), AV.int IntKind.i64 (v i)])) l ek x = r ∧
            (0 : Int) = e ∧ True))))) := by
  kernel_rfl

theorem matchesR_vc (k : Int) (bd : Bool) (bo : Int) (n : Nat) (o v : Nat → Int) (nm : List UInt8) (l ek x : Int) (r : Bool) (e : Int) : (vcFun (mkG Tryd.prog gN (tblOf tblC) (fun _ _ => none) 0) 20 20 [.agg [.int .i64 k, .bool bd, .int .u64 bo, .rof n (fun i => .agg [.int .i64 (o i), .int .i64 (v i)]) false, .str nm], .agg [.int .u64 l, .int .i64 ek, .int .i64 x]] .nil 0 (retP 3 (.tup [.bool r, .int .i64 e]))).sat = (
  NB ((condsB n fun (i : Nat) => AV.agg [AV.int IntKind.i64 (o i), AV.int IntKind.i64 (v i)]) && decide (nm.length ≤ (9223372036854775807 : Nat)))
    (VB (checkE k bd bo n (fun (i : Nat) => opOf (AV.agg [AV.int IntKind.i64 (o i), AV.int IntKind.i64 (v i)])) nm == (0 : Int))
      (VB (eventE ek != (0 : Int)) (false = r ∧ eventE ek = e ∧ True)
        (NB
          (((decide (n ≤ (1000000 : Nat)) && condsB n fun (i : Nat) => AV.agg [AV.int IntKind.i64 (o i), AV.int IntKind.i64 (v i)]) &&
                okAll n fun (i : Nat) => opOf (AV.agg [AV.int IntKind.i64 (o i), AV.int IntKind.i64 (v i)])) &&
              u64B l &&
            u64B bo)
          (matchS k bd bo n (fun (i : Nat) => opOf (AV.agg [AV.int IntKind.i64 (o i), AV.int IntKind.i64 (v i)])) (fun (i : Nat) => valOf (AV.agg [AV.int IntKind.i64 (o i), AV.int IntKind.i64 (v i)])) l ek x = r ∧
            (0 : Int) = e ∧ True)))
      (VB (checkE k bd bo n (fun (i : Nat) => opOf (AV.agg [AV.int IntKind.i64 (o i), AV.int IntKind.i64 (v i)])) nm != (0 : Int))
        (false = r ∧ checkE k bd bo n (fun (i : Nat) => opOf (AV.agg [AV.int IntKind.i64 (o i), AV.int IntKind.i64 (v i)])) nm = e ∧ True)
        (NB
          (((decide (n ≤ (1000000 : Nat)) && condsB n fun (i : Nat) => AV.agg [AV.int IntKind.i64 (o i), AV.int IntKind.i64 (v i)]) &&
                okAll n fun (i : Nat) => opOf (AV.agg [AV.int IntKind.i64 (o i), AV.int IntKind.i64 (v i)])) &&
              u64B l &&
            u64B bo)
          (matchS k bd bo n (fun (i : Nat) => opOf (AV.agg [AV.int IntKind.i64 (o i), AV.int IntKind.i64 (v i)])) (fun (i : Nat) => valOf (AV.agg [AV.int IntKind.i64 (o i), AV.int IntKind.i64 (v i)])) l ek x = r ∧
            (0 : Int) = e ∧ True))))) := by
  kernel_rfl

theorem emptyI_vc (k : Int) (bd : Bool) (bo : Int) (n : Nat) (o v : Nat → Int) (nm : List UInt8) (r : Bool) (e : Int) : (vcFun (mkG Tryd.prog gN (tblOf tblC) (fun _ _ => none) 0) 20 21 [.agg [.int .i64 k, .bool bd, .int .u64 bo, .rof n (fun i => .agg [.int .i64 (o i), .int .i64 (v i)]) false, .str nm]] .nil 0 (retP 3 (.tup [.bool r, .int .i64 e]))).sat = (
  NB ((condsB n fun (i : Nat) => AV.agg [AV.int IntKind.i64 (o i), AV.int IntKind.i64 (v i)]) && decide (nm.length ≤ (9223372036854775807 : Nat)))
    (VB (checkE k bd bo n (fun (i : Nat) => opOf (AV.agg [AV.int IntKind.i64 (o i), AV.int IntKind.i64 (v i)])) nm != (0 : Int))
      (false = r ∧ checkE k bd bo n (fun (i : Nat) => opOf (AV.agg [AV.int IntKind.i64 (o i), AV.int IntKind.i64 (v i)])) nm = e ∧ True)
      (NB
        (((decide (n ≤ (1000000 : Nat)) && condsB n fun (i : Nat) => AV.agg [AV.int IntKind.i64 (o i), AV.int IntKind.i64 (v i)]) &&
            okAll n fun (i : Nat) => opOf (AV.agg [AV.int IntKind.i64 (o i), AV.int IntKind.i64 (v i)])) &&
          rngAll n fun (i : Nat) => valOf (AV.agg [AV.int IntKind.i64 (o i), AV.int IntKind.i64 (v i)]))
        ((!lstB n (fun (i : Nat) => opOf (AV.agg [AV.int IntKind.i64 (o i), AV.int IntKind.i64 (v i)])) fun (i : Nat) => valOf (AV.agg [AV.int IntKind.i64 (o i), AV.int IntKind.i64 (v i)])) = r ∧ (0 : Int) = e ∧ True)))) := by
  kernel_rfl

theorem emptyR_vc (k : Int) (bd : Bool) (bo : Int) (n : Nat) (o v : Nat → Int) (nm : List UInt8) (r : Bool) (e : Int) : (vcFun (mkG Tryd.prog gN (tblOf tblC) (fun _ _ => none) 0) 20 22 [.agg [.int .i64 k, .bool bd, .int .u64 bo, .rof n (fun i => .agg [.int .i64 (o i), .int .i64 (v i)]) false, .str nm]] .nil 0 (retP 3 (.tup [.bool r, .int .i64 e]))).sat = (
  NB ((condsB n fun (i : Nat) => AV.agg [AV.int IntKind.i64 (o i), AV.int IntKind.i64 (v i)]) && decide (nm.length ≤ (9223372036854775807 : Nat)))
    (VB (checkE k bd bo n (fun (i : Nat) => opOf (AV.agg [AV.int IntKind.i64 (o i), AV.int IntKind.i64 (v i)])) nm != (0 : Int))
      (false = r ∧ checkE k bd bo n (fun (i : Nat) => opOf (AV.agg [AV.int IntKind.i64 (o i), AV.int IntKind.i64 (v i)])) nm = e ∧ True)
      (NB
        (((decide (n ≤ (1000000 : Nat)) && condsB n fun (i : Nat) => AV.agg [AV.int IntKind.i64 (o i), AV.int IntKind.i64 (v i)]) &&
            okAll n fun (i : Nat) => opOf (AV.agg [AV.int IntKind.i64 (o i), AV.int IntKind.i64 (v i)])) &&
          rngAll n fun (i : Nat) => valOf (AV.agg [AV.int IntKind.i64 (o i), AV.int IntKind.i64 (v i)]))
        ((!lstB n (fun (i : Nat) => opOf (AV.agg [AV.int IntKind.i64 (o i), AV.int IntKind.i64 (v i)])) fun (i : Nat) => valOf (AV.agg [AV.int IntKind.i64 (o i), AV.int IntKind.i64 (v i)])) = r ∧ (0 : Int) = e ∧ True)))) := by
  kernel_rfl

theorem sampleI_vc (k : Int) (bd : Bool) (bo : Int) (n : Nat) (o v : Nat → Int) (nm : List UInt8) (l ek x e : Int) : (vcFun (mkG Tryd.prog gN (tblOf tblC) (fun _ _ => none) 0) 20 23 [.agg [.int .i64 k, .bool bd, .int .u64 bo, .rof n (fun i => .agg [.int .i64 (o i), .int .i64 (v i)]) false, .str nm]] .nil 0 (retP 3 (.tup [.agg [.int .u64 l, .int .i64 ek, .int .i64 x], .int .i64 e]))).sat = (
  NB ((condsB n fun (i : Nat) => AV.agg [AV.int IntKind.i64 (o i), AV.int IntKind.i64 (v i)]) && decide (nm.length ≤ (9223372036854775807 : Nat)))
    (VB (checkE k bd bo n (fun (i : Nat) => opOf (AV.agg [AV.int IntKind.i64 (o i), AV.int IntKind.i64 (v i)])) nm != (0 : Int))
      (((0 : Int) = l ∧ (0 : Int) = ek ∧ (0 : Int) = x ∧ True) ∧ checkE k bd bo n (fun (i : Nat) => opOf (AV.agg [AV.int IntKind.i64 (o i), AV.int IntKind.i64 (v i)])) nm = e ∧ True)
      (NB
        (((decide (n ≤ (1000000 : Nat)) && condsB n fun (i : Nat) => AV.agg [AV.int IntKind.i64 (o i), AV.int IntKind.i64 (v i)]) &&
            okAll n fun (i : Nat) => opOf (AV.agg [AV.int IntKind.i64 (o i), AV.int IntKind.i64 (v i)])) &&
          rngAll n fun (i : Nat) => valOf (AV.agg [AV.int IntKind.i64 (o i), AV.int IntKind.i64 (v i)]))
        (VB (!lstB n (fun (i : Nat) => opOf (AV.agg [AV.int IntKind.i64 (o i), AV.int IntKind.i64 (v i)])) fun (i : Nat) => valOf (AV.agg [AV.int IntKind.i64 (o i), AV.int IntKind.i64 (v i)]))
          (((0 : Int) = l ∧ (0 : Int) = ek ∧ (0 : Int) = x ∧ True) ∧ (7 : Int) = e ∧ True)
          ((bo = l ∧
              k = ek ∧ (lstV n (fun (i : Nat) => opOf (AV.agg [AV.int IntKind.i64 (o i), AV.int IntKind.i64 (v i)])) fun (i : Nat) => valOf (AV.agg [AV.int IntKind.i64 (o i), AV.int IntKind.i64 (v i)])) = x ∧ True) ∧
            (0 : Int) = e ∧ True))))) := by
  kernel_rfl

theorem sampleR_vc (k : Int) (bd : Bool) (bo : Int) (n : Nat) (o v : Nat → Int) (nm : List UInt8) (l ek x e : Int) : (vcFun (mkG Tryd.prog gN (tblOf tblC) (fun _ _ => none) 0) 20 24 [.agg [.int .i64 k, .bool bd, .int .u64 bo, .rof n (fun i => .agg [.int .i64 (o i), .int .i64 (v i)]) false, .str nm]] .nil 0 (retP 3 (.tup [.agg [.int .u64 l, .int .i64 ek, .int .i64 x], .int .i64 e]))).sat = (
  NB ((condsB n fun (i : Nat) => AV.agg [AV.int IntKind.i64 (o i), AV.int IntKind.i64 (v i)]) && decide (nm.length ≤ (9223372036854775807 : Nat)))
    (VB (checkE k bd bo n (fun (i : Nat) => opOf (AV.agg [AV.int IntKind.i64 (o i), AV.int IntKind.i64 (v i)])) nm != (0 : Int))
      (((0 : Int) = l ∧ (0 : Int) = ek ∧ (0 : Int) = x ∧ True) ∧ checkE k bd bo n (fun (i : Nat) => opOf (AV.agg [AV.int IntKind.i64 (o i), AV.int IntKind.i64 (v i)])) nm = e ∧ True)
      (NB
        (((decide (n ≤ (1000000 : Nat)) && condsB n fun (i : Nat) => AV.agg [AV.int IntKind.i64 (o i), AV.int IntKind.i64 (v i)]) &&
            okAll n fun (i : Nat) => opOf (AV.agg [AV.int IntKind.i64 (o i), AV.int IntKind.i64 (v i)])) &&
          rngAll n fun (i : Nat) => valOf (AV.agg [AV.int IntKind.i64 (o i), AV.int IntKind.i64 (v i)]))
        (VB (!lstB n (fun (i : Nat) => opOf (AV.agg [AV.int IntKind.i64 (o i), AV.int IntKind.i64 (v i)])) fun (i : Nat) => valOf (AV.agg [AV.int IntKind.i64 (o i), AV.int IntKind.i64 (v i)]))
          (((0 : Int) = l ∧ (0 : Int) = ek ∧ (0 : Int) = x ∧ True) ∧ (7 : Int) = e ∧ True)
          ((bo = l ∧
              k = ek ∧ (lstV n (fun (i : Nat) => opOf (AV.agg [AV.int IntKind.i64 (o i), AV.int IntKind.i64 (v i)])) fun (i : Nat) => valOf (AV.agg [AV.int IntKind.i64 (o i), AV.int IntKind.i64 (v i)])) = x ∧ True) ∧
            (0 : Int) = e ∧ True))))) := by
  kernel_rfl

theorem ownAtom_vc (k : Int) (bd : Bool) (bo : Int) (n : Nat) (o v : Nat → Int) (nm : List UInt8) : (vcFun (mkG Tryd.prog gN (tblOf tblC) (fun _ _ => none) 0) 20 52 [.agg [.int .i64 k, .bool bd, .int .u64 bo, .rof n (fun i => .agg [.int .i64 (o i), .int .i64 (v i)]) false, .str nm]] .nil 0 (retP 3 (.agg [.int .i64 k, .bool bd, .int .u64 bo, .rof n (fun i => .agg [.int .i64 (o i), .int .i64 (v i)]) false, .str nm]))).sat = (
  NB (true && room ((0 : Nat) + n) (16 : Nat) && true && (n != (0 : Nat) || true))
    (k = k ∧
      bd = bd ∧
        bo = bo ∧
          ((0 : Nat) + n = n ∧
              (∀ (i : Nat),
                  i < (0 : Nat) + n →
                    (o ((0 : Nat) + i) = o i ∧ v ((0 : Nat) + i) = v i ∧ True) ∧
                      [AV.int IntKind.i64 (o ((0 : Nat) + i)), AV.int IntKind.i64 (v ((0 : Nat) + i))].length = [AV.int IntKind.i64 (o i), AV.int IntKind.i64 (v i)].length) ∧
                (false = true → decide (none = some ((0 : Nat) + n)) = true)) ∧
            nm = nm ∧ True)) := by
  kernel_rfl

theorem sameAtom_vc (k : Int) (bd : Bool) (bo : Int) (n : Nat) (o v : Nat → Int) (nm : List UInt8) : (vcFun (mkG Tryd.prog gN (tblOf tblC) (fun f b => if f = 57 ∧ b = 0 then some (invSA (k, bd, bo, nm) (k, bd, bo, nm) n o v o v) else none) 0) 20 57 [.agg [.int .i64 k, .bool bd, .int .u64 bo, .rof n (fun i => .agg [.int .i64 (o i), .int .i64 (v i)]) false, .str nm], .agg [.int .i64 k, .bool bd, .int .u64 bo, .rof n (fun i => .agg [.int .i64 (o i), .int .i64 (v i)]) false, .str nm]] .nil 0 (retP 3 (.bool true))).sat = (
  VB (k != k || !bd == bd || bo != bo || !nm == nm || (↑n : Int) != (↑n : Int)) (false = true)
    ((∃ (i : Nat),
        i.le n ∧
          (((0 : Nat) = (0 : Nat) ∧ (0 : Nat) = (0 : Nat) ∧ (0 : Nat) = (0 : Nat)) ∧ ((0 : Nat) = (0 : Nat) ∧ (0 : Nat) = (0 : Nat) ∧ (0 : Nat) = (0 : Nat)) ∧ (0 : Int) = (↑i : Int) ∧ True) ∧
            ((0 : Nat) = (0 : Nat) ∧
                (true = true → true = true) ∧
                  ((k = k ∧
                        bd = (bd, bo, nm).fst ∧
                          bo = (bd, bo, nm).snd.fst ∧
                            (n = n ∧
                                (∀ (i : Nat), i < n → (o i = o i ∧ v i = v i ∧ True) ∧ [AV.int IntKind.i64 (o i), AV.int IntKind.i64 (v i)].length = [AV.int IntKind.i64 (o i), AV.int IntKind.i64 (v i)].length) ∧
                                  (false = true → false = true)) ∧
                              nm = (bd, bo, nm).snd.snd ∧ True) ∧
                      [AV.int IntKind.i64 k, AV.bool bd, AV.int IntKind.u64 bo, AV.rof n (fun (i : Nat) => AV.agg [AV.int IntKind.i64 (o i), AV.int IntKind.i64 (v i)]) false, AV.str nm].length =
                        [AV.int IntKind.i64 k, AV.bool (bd, bo, nm).fst, AV.int IntKind.u64 (bd, bo, nm).snd.fst, condsAV n o v, AV.str (bd, bo, nm).snd.snd].length) ∧
                    True) ∧
              ((0 : Nat) = (0 : Nat) ∧
                  (true = true → true = true) ∧
                    ((k = k ∧
                          bd = (bd, bo, nm).fst ∧
                            bo = (bd, bo, nm).snd.fst ∧
                              (n = n ∧
                                  (∀ (i : Nat), i < n → (o i = o i ∧ v i = v i ∧ True) ∧ [AV.int IntKind.i64 (o i), AV.int IntKind.i64 (v i)].length = [AV.int IntKind.i64 (o i), AV.int IntKind.i64 (v i)].length) ∧
                                    (false = true → false = true)) ∧
                                nm = (bd, bo, nm).snd.snd ∧ True) ∧
                        [AV.int IntKind.i64 k, AV.bool bd, AV.int IntKind.u64 bo, AV.rof n (fun (i : Nat) => AV.agg [AV.int IntKind.i64 (o i), AV.int IntKind.i64 (v i)]) false, AV.str nm].length =
                          [AV.int IntKind.i64 k, AV.bool (bd, bo, nm).fst, AV.int IntKind.u64 (bd, bo, nm).snd.fst, condsAV n o v, AV.str (bd, bo, nm).snd.snd].length) ∧
                      True) ∧
                True) ∧
      ∀ (i : Nat),
        i.le n →
          VB (decide ((↑i : Int) < (↑n : Int)))
            (NB (decide ((0 : Int) ≤ (↑i : Int) ∧ (↑i : Int) < (↑n : Int)))
              (NB (decide ((0 : Int) ≤ (↑i : Int) ∧ (↑i : Int) < (↑n : Int)))
                (VB (!(o (↑i : Int).toNat == o (↑i : Int).toNat && (v (↑i : Int).toNat == v (↑i : Int).toNat && true))) (false = true)
                  (∃ (i' : Nat),
                    i'.le n ∧
                      (invSA (k, bd, bo, nm) (k, bd, bo, nm) n o v o v).μ i' < (invSA (k, bd, bo, nm) (k, bd, bo, nm) n o v o v).μ i ∧
                        (((0 : Nat) = (0 : Nat) ∧ (0 : Nat) = (0 : Nat) ∧ (0 : Nat) = (0 : Nat)) ∧
                            ((0 : Nat) = (0 : Nat) ∧ (0 : Nat) = (0 : Nat) ∧ (0 : Nat) = (0 : Nat)) ∧ IntKind.i64.wrap ((↑i : Int) + (1 : Int)) = (↑i' : Int) ∧ True) ∧
                          ((0 : Nat) = (0 : Nat) ∧
                              (true = true → true = true) ∧
                                ((k = k ∧
                                      (bd, bo, nm).fst = (bd, bo, nm).fst ∧
                                        (bd, bo, nm).snd.fst = (bd, bo, nm).snd.fst ∧
                                          (n = n ∧
                                              (∀ (i : Nat),
                                                  i < n → (o i = o i ∧ v i = v i ∧ True) ∧ [AV.int IntKind.i64 (o i), AV.int IntKind.i64 (v i)].length = [AV.int IntKind.i64 (o i), AV.int IntKind.i64 (v i)].length) ∧
                                                (false = true → false = true)) ∧
                                            (bd, bo, nm).snd.snd = (bd, bo, nm).snd.snd ∧ True) ∧
                                    [AV.int IntKind.i64 k, AV.bool (bd, bo, nm).fst, AV.int IntKind.u64 (bd, bo, nm).snd.fst, condsAV n o v, AV.str (bd, bo, nm).snd.snd].length =
                                      [AV.int IntKind.i64 k, AV.bool (bd, bo, nm).fst, AV.int IntKind.u64 (bd, bo, nm).snd.fst, condsAV n o v, AV.str (bd, bo, nm).snd.snd].length) ∧
                                  True) ∧
                            ((0 : Nat) = (0 : Nat) ∧
                                (true = true → true = true) ∧
                                  ((k = k ∧
                                        (bd, bo, nm).fst = (bd, bo, nm).fst ∧
                                          (bd, bo, nm).snd.fst = (bd, bo, nm).snd.fst ∧
                                            (n = n ∧
                                                (∀ (i : Nat),
                                                    i < n → (o i = o i ∧ v i = v i ∧ True) ∧ [AV.int IntKind.i64 (o i), AV.int IntKind.i64 (v i)].length = [AV.int IntKind.i64 (o i), AV.int IntKind.i64 (v i)].length) ∧
                                                  (false = true → false = true)) ∧
                                              (bd, bo, nm).snd.snd = (bd, bo, nm).snd.snd ∧ True) ∧
                                      [AV.int IntKind.i64 k, AV.bool (bd, bo, nm).fst, AV.int IntKind.u64 (bd, bo, nm).snd.fst, condsAV n o v, AV.str (bd, bo, nm).snd.snd].length =
                                        [AV.int IntKind.i64 k, AV.bool (bd, bo, nm).fst, AV.int IntKind.u64 (bd, bo, nm).snd.fst, condsAV n o v, AV.str (bd, bo, nm).snd.snd].length) ∧
                                    True) ∧
                              True))))
            (true = true))) := by
  kernel_rfl

end Go.Proofs.YtjkkkldkimdajaaDoor
namespace Go.Proofs.YtjkkkldkimdajaaDoor
open Pw Go
set_option maxRecDepth 100000
set_option linter.unusedSimpArgs false

def MatB (k : Int) (bd : Bool) (bo : Int) (n : Nat) (o v : Nat → Int) (nm : List UInt8) (l ek x : Int) : Bool := decide (checkE k bd bo n o nm = 0) && decide (eventE ek = 0) && matchS k bd bo n o v l ek x
def MatE (k : Int) (bd : Bool) (bo : Int) (n : Nat) (o : Nat → Int) (nm : List UInt8) (ek : Int) : Int := if checkE k bd bo n o nm = 0 then eventE ek else checkE k bd bo n o nm
noncomputable def EmpB (k : Int) (bd : Bool) (bo : Int) (n : Nat) (o v : Nat → Int) (nm : List UInt8) : Bool := decide (checkE k bd bo n o nm = 0) && !lstB n o v
noncomputable def SamOk (k : Int) (bd : Bool) (bo : Int) (n : Nat) (o v : Nat → Int) (nm : List UInt8) : Bool := decide (checkE k bd bo n o nm = 0) && lstB n o v
noncomputable def SamE (k : Int) (bd : Bool) (bo : Int) (n : Nat) (o v : Nat → Int) (nm : List UInt8) : Int := if checkE k bd bo n o nm = 0 then (if lstB n o v = true then 0 else 7) else checkE k bd bo n o nm
noncomputable def SamL (k : Int) (bd : Bool) (bo : Int) (n : Nat) (o v : Nat → Int) (nm : List UInt8) : Int := if SamOk k bd bo n o v nm = true then bo else 0
noncomputable def SamK (k : Int) (bd : Bool) (bo : Int) (n : Nat) (o v : Nat → Int) (nm : List UInt8) : Int := if SamOk k bd bo n o v nm = true then k else 0
noncomputable def SamX (k : Int) (bd : Bool) (bo : Int) (n : Nat) (o v : Nat → Int) (nm : List UInt8) : Int := if SamOk k bd bo n o v nm = true then lstV n o v else 0

section
variable (k : Int) (bd : Bool) (bo : Int) (n : Nat) (o v : Nat → Int) (nm : List UInt8) (l ek x : Int)
theorem mat_fin (hc : checkE k bd bo n o nm = 0) (hl : u64B l = true) (hb : u64B bo = true) :
    VB (eventE ek != 0) (false = MatB k bd bo n o v nm l ek x ∧ eventE ek = MatE k bd bo n o nm ek ∧ True)
      (NB (((decide (n ≤ 1000000) && true) && okAll n (fun i => o i)) && u64B l && u64B bo) (matchS k bd bo n (fun i => o i) (fun i => v i) l ek x = MatB k bd bo n o v nm l ek x ∧ (0 : Int) = MatE k bd bo n o nm ek ∧ True)) := by
  refine VB_intro (fun h => ?_) (fun h => ?_)
  · have h' : eventE ek ≠ 0 := by simpa using h
    simp [MatB, MatE, hc, h']
  · have h' : eventE ek = 0 := by simpa using h
    obtain ⟨c1, c2, _⟩ := check_zero hc
    refine NB_intro ?_ ?_
    · have e1 : okAll n (fun i => o i) = true := c2
      rw [decide_eq_true (show n ≤ 1000000 by omega), e1, hl, hb]; rfl
    · simp [MatB, MatE, hc, h']
theorem matchesI_pure (hm : nm.length ≤ 9223372036854775807) (hl : u64B l = true) (hb : u64B bo = true) : PureC Tryd.prog gN 19 [.agg (atomL k bd bo n o v nm), .agg (evL l ek x)] (.tup [.bool (MatB k bd bo n o v nm l ek x), .int .i64 (MatE k bd bo n o nm ek)]) := by
  refine pure_vcG mix tblC_ok ((matchesI_vc k bd bo n o v nm l ek x _ _).mpr ?_)
  simp only [EqI, opOf_agg, valOf_agg, condsB_agg, hm, decide_true, Bool.and_self, NB_t]
  refine VB_intro (fun h => ?_) (fun h => ?_)
  · have h' : checkE k bd bo n o nm ≠ 0 := by simpa using h
    simp [MatB, MatE, h']
  · exact mat_fin k bd bo n o v nm l ek x (by simpa using h) hl hb
theorem matchesR_pure (hm : nm.length ≤ 9223372036854775807) (hl : u64B l = true) (hb : u64B bo = true) : PureC Tryd.prog gN 20 [.agg (atomL k bd bo n o v nm), .agg (evL l ek x)] (.tup [.bool (MatB k bd bo n o v nm l ek x), .int .i64 (MatE k bd bo n o nm ek)]) := by
  refine pure_vcG mix tblC_ok ((matchesR_vc k bd bo n o v nm l ek x _ _).mpr ?_)
  simp only [EqI, opOf_agg, valOf_agg, condsB_agg, hm, decide_true, Bool.and_self, NB_t]
  refine VB_intro (fun h => ?_) (fun h => ?_)
  · exact mat_fin k bd bo n o v nm l ek x (by simpa using h) hl hb
  · have h' : checkE k bd bo n o nm ≠ 0 := by simpa using h
    refine VB_intro (fun _ => ?_) (fun h2 => ?_)
    · simp [MatB, MatE, h']
    · exact absurd (by simpa using h2) h'
theorem emp_fin (hv : rngAll n v = true) : VB (checkE k bd bo n (fun i => o i) nm != 0) (false = EmpB k bd bo n o v nm ∧ True ∧ True)
    (NB (((decide (n ≤ 1000000) && true) && okAll n (fun i => o i)) && rngAll n (fun i => v i)) ((!lstB n (fun i => o i) (fun i => v i)) = EmpB k bd bo n o v nm ∧ (0 : Int) = checkE k bd bo n o nm ∧ True)) := by
  refine VB_intro (fun h => ?_) (fun h => ?_)
  · have h' : checkE k bd bo n o nm ≠ 0 := by simpa using h
    simp [EmpB, h']
  · have h' : checkE k bd bo n o nm = 0 := by simpa using h
    obtain ⟨c1, c2, _⟩ := check_zero h'
    refine NB_intro ?_ ?_
    · have e1 : okAll n (fun i => o i) = true := c2
      have e2 : rngAll n (fun i => v i) = true := hv
      rw [decide_eq_true (show n ≤ 1000000 by omega), e1, e2]; rfl
    · simp [EmpB, h']
theorem emptyI_pure (hm : nm.length ≤ 9223372036854775807) (hv : rngAll n v = true) : PureC Tryd.prog gN 21 [.agg (atomL k bd bo n o v nm)] (.tup [.bool (EmpB k bd bo n o v nm), .int .i64 (checkE k bd bo n o nm)]) := by
  refine pure_vcG mix tblC_ok ((emptyI_vc k bd bo n o v nm _ _).mpr ?_)
  simp only [EqI, opOf_agg, valOf_agg, condsB_agg, hm, decide_true, Bool.and_self, NB_t]
  exact emp_fin k bd bo n o v nm hv
theorem emptyR_pure (hm : nm.length ≤ 9223372036854775807) (hv : rngAll n v = true) : PureC Tryd.prog gN 22 [.agg (atomL k bd bo n o v nm)] (.tup [.bool (EmpB k bd bo n o v nm), .int .i64 (checkE k bd bo n o nm)]) := by
  refine pure_vcG mix tblC_ok ((emptyR_vc k bd bo n o v nm _ _).mpr ?_)
  simp only [EqI, opOf_agg, valOf_agg, condsB_agg, hm, decide_true, Bool.and_self, NB_t]
  exact emp_fin k bd bo n o v nm hv
theorem sam_fin (hv : rngAll n v = true) : VB (checkE k bd bo n (fun i => o i) nm != 0) (((0 : Int) = SamL k bd bo n o v nm ∧ (0 : Int) = SamK k bd bo n o v nm ∧ (0 : Int) = SamX k bd bo n o v nm ∧ True) ∧ checkE k bd bo n (fun i => o i) nm = SamE k bd bo n o v nm ∧ True)
    (NB (((decide (n ≤ 1000000) && true) && okAll n (fun i => o i)) && rngAll n (fun i => v i)) (VB (!lstB n (fun i => o i) (fun i => v i)) (((0 : Int) = SamL k bd bo n o v nm ∧ (0 : Int) = SamK k bd bo n o v nm ∧ (0 : Int) = SamX k bd bo n o v nm ∧ True) ∧ (7 : Int) = SamE k bd bo n o v nm ∧ True)
      ((bo = SamL k bd bo n o v nm ∧ k = SamK k bd bo n o v nm ∧ lstV n (fun i => o i) (fun i => v i) = SamX k bd bo n o v nm ∧ True) ∧ (0 : Int) = SamE k bd bo n o v nm ∧ True))) := by
  refine VB_intro (fun h => ?_) (fun h => ?_)
  · have h' : checkE k bd bo n o nm ≠ 0 := by simpa using h
    simp [SamL, SamK, SamX, SamE, SamOk, h']
  · have h' : checkE k bd bo n o nm = 0 := by simpa using h
    obtain ⟨c1, c2, _⟩ := check_zero h'
    refine NB_intro ?_ (VB_intro (fun hb => ?_) (fun hb => ?_))
    · have e1 : okAll n (fun i => o i) = true := c2
      have e2 : rngAll n (fun i => v i) = true := hv
      rw [decide_eq_true (show n ≤ 1000000 by omega), e1, e2]; rfl
    · have hb' : lstB n o v = false := (Bool.not_eq_true' _).mp hb
      simp [SamL, SamK, SamX, SamE, SamOk, h', hb']
    · have hb' : lstB n o v = true := (Bool.not_eq_false' _).mp hb
      simp [SamL, SamK, SamX, SamE, SamOk, h', hb']
theorem sampleI_pure (hm : nm.length ≤ 9223372036854775807) (hv : rngAll n v = true) : PureC Tryd.prog gN 23 [.agg (atomL k bd bo n o v nm)] (.tup [.agg [.int .u64 (SamL k bd bo n o v nm), .int .i64 (SamK k bd bo n o v nm), .int .i64 (SamX k bd bo n o v nm)], .int .i64 (SamE k bd bo n o v nm)]) := by
  refine pure_vcG mix tblC_ok ((sampleI_vc k bd bo n o v nm _ _ _ _).mpr ?_)
  simp only [EqI, opOf_agg, valOf_agg, condsB_agg, hm, decide_true, Bool.and_self, NB_t]
  exact sam_fin k bd bo n o v nm hv
theorem sampleR_pure (hm : nm.length ≤ 9223372036854775807) (hv : rngAll n v = true) : PureC Tryd.prog gN 24 [.agg (atomL k bd bo n o v nm)] (.tup [.agg [.int .u64 (SamL k bd bo n o v nm), .int .i64 (SamK k bd bo n o v nm), .int .i64 (SamX k bd bo n o v nm)], .int .i64 (SamE k bd bo n o v nm)]) := by
  refine pure_vcG mix tblC_ok ((sampleR_vc k bd bo n o v nm _ _ _ _).mpr ?_)
  simp only [EqI, opOf_agg, valOf_agg, condsB_agg, hm, decide_true, Bool.and_self, NB_t]
  exact sam_fin k bd bo n o v nm hv
end
theorem ownAtom_pure (k : Int) (bd : Bool) (bo : Int) (n : Nat) (o v : Nat → Int) (nm : List UInt8) (hn : n ≤ 1000000) : PureC Tryd.prog gN 52 [.agg (atomL k bd bo n o v nm)] (.agg (atomL k bd bo n o v nm)) := by
  refine pure_vcG mix tblC_ok ((ownAtom_vc k bd bo n o v nm).mpr ?_)
  have hroom : room n 16 = true := by simp only [room]; exact decide_eq_true (by omega)
  simp [hroom, NB]
theorem sameAtom_pure (k : Int) (bd : Bool) (bo : Int) (n : Nat) (o v : Nat → Int) (nm : List UInt8) (hn : n ≤ 1000000) : PureC Tryd.prog gN 57 [.agg (atomL k bd bo n o v nm), .agg (atomL k bd bo n o v nm)] (.bool true) := by
  refine pure_vcG mix tblC_ok ((sameAtom_vc k bd bo n o v nm).mpr ?_)
  simp only [EqI, imp_self, true_and, and_true, implies_true, Int.toNat_natCast, List.length_cons, List.length_nil, bne_self_eq_false, beq_self_eq_true, Bool.not_true, Bool.or_self, VB_t, VB_f, Bool.and_self]
  refine ⟨⟨0, by simp⟩, fun i hi => ?_⟩
  replace hi : i ≤ n := hi
  refine VB_intro (fun h => ?_) (fun _ => trivial)
  have hlt : i < n := by have := of_decide_eq_true h; omega
  refine NB_intro (decide_eq_true (by omega)) (NB_intro (decide_eq_true (by omega)) ?_)
  exact ⟨i + 1, by show i + 1 ≤ n; omega, by simp only [invSA]; omega, by rw [wrap_i64_id (by omega) (by omega)]; omega⟩
end Go.Proofs.YtjkkkldkimdajaaDoor
namespace Go.Proofs.YtjkkkldkimdajaaDoor
open Pw Go
set_option maxRecDepth 100000
set_option linter.unusedSimpArgs false

def nmB (nm : List UInt8) : Bool := decide (nm.length ≤ 9223372036854775807)
def cMatches : Ctr
  | [.agg [.int .i64 k, .bool bd, .int .u64 bo, .rof n f _, .str nm], .agg [.int .u64 l, .int .i64 ek, .int .i64 x]] =>
    some (condsB n f && nmB nm && u64B l && u64B bo, .tup [.bool (MatB k bd bo n (fun i => opOf (f i)) (fun i => valOf (f i)) nm l ek x), .int .i64 (MatE k bd bo n (fun i => opOf (f i)) nm ek)])
  | _ => none
noncomputable def cEmpty : Ctr
  | [.agg [.int .i64 k, .bool bd, .int .u64 bo, .rof n f _, .str nm]] =>
    some (condsB n f && nmB nm && rngAll n (fun i => valOf (f i)), .tup [.bool (EmpB k bd bo n (fun i => opOf (f i)) (fun i => valOf (f i)) nm), .int .i64 (checkE k bd bo n (fun i => opOf (f i)) nm)])
  | _ => none
noncomputable def cSample : Ctr
  | [.agg [.int .i64 k, .bool bd, .int .u64 bo, .rof n f _, .str nm]] =>
    some (condsB n f && nmB nm && rngAll n (fun i => valOf (f i)), .tup [.agg [.int .u64 (SamL k bd bo n (fun i => opOf (f i)) (fun i => valOf (f i)) nm), .int .i64 (SamK k bd bo n (fun i => opOf (f i)) (fun i => valOf (f i)) nm), .int .i64 (SamX k bd bo n (fun i => opOf (f i)) (fun i => valOf (f i)) nm)], .int .i64 (SamE k bd bo n (fun i => opOf (f i)) (fun i => valOf (f i)) nm)])
  | _ => none
def cOwnAtom : Ctr
  | [.agg [.int .i64 k, .bool bd, .int .u64 bo, .rof n f _, .str nm]] => some (decide (n ≤ 1000000) && condsB n f, .agg [.int .i64 k, .bool bd, .int .u64 bo, condsAV n (fun i => opOf (f i)) (fun i => valOf (f i)), .str nm])
  | _ => none
def sameCs (n : Nat) (f g : Nat → AV) : Bool := (List.range n).all fun i => decide (opOf (f i) = opOf (g i)) && decide (valOf (f i) = valOf (g i))
def cSameAtom : Ctr
  | [.agg [.int .i64 k, .bool bd, .int .u64 bo, .rof n f _, .str nm], .agg [.int .i64 k', .bool bd', .int .u64 bo', .rof n' f' _, .str nm']] =>
    some (decide (n ≤ 1000000) && condsB n f && condsB n' f' && decide (k = k') && decide (bd = bd') && decide (bo = bo') && decide (nm = nm') && decide (n = n') && sameCs n f f', .bool true)
  | _ => none
theorem args1 {g : Nat} {gl : Nat → AV} {x y v : AV} (hs : x.sub y) (h : PureC Tryd.prog gl g [y] v) : PureC Tryd.prog gl g [x] v := by
  refine PureC.args (args' := [y]) rfl ?_ h
  intro i hi
  match i, hi with
  | 0, _ => exact hs
theorem args2 {g : Nat} {gl : Nat → AV} {x y x' y' v : AV} (hs : x.sub y) (hs' : x'.sub y') (h : PureC Tryd.prog gl g [y, y'] v) : PureC Tryd.prog gl g [x, x'] v := by
  refine PureC.args (args' := [y, y']) rfl ?_ h
  intro i hi
  match i, hi with
  | 0, _ => exact hs
  | 1, _ => exact hs'
theorem ev_sub (l ek x : Int) : (AV.agg [.int .u64 l, .int .i64 ek, .int .i64 x]).sub (.agg (evL l ek x)) := ⟨rfl, rfl, rfl, trivial⟩
theorem matches_of {g : Nat} (h : ∀ (k : Int) (bd : Bool) (bo : Int) (n : Nat) (o v : Nat → Int) (nm : List UInt8) (l ek x : Int), nm.length ≤ 9223372036854775807 → u64B l = true → u64B bo = true → PureC Tryd.prog gN g [.agg (atomL k bd bo n o v nm), .agg (evL l ek x)] (.tup [.bool (MatB k bd bo n o v nm l ek x), .int .i64 (MatE k bd bo n o nm ek)])) : PureG Tryd.prog gN g cMatches := by
  intro args nd v he hnd
  unfold cMatches at he
  split at he <;> cases he
  simp only [Bool.and_eq_true, nmB, decide_eq_true_eq] at hnd
  exact args2 (atom_sub hnd.1.1.1) (ev_sub _ _ _) (h _ _ _ _ _ _ _ _ _ _ hnd.1.1.2 hnd.1.2 hnd.2)
theorem empty_of {g : Nat} (h : ∀ (k : Int) (bd : Bool) (bo : Int) (n : Nat) (o v : Nat → Int) (nm : List UInt8), nm.length ≤ 9223372036854775807 → rngAll n v = true → PureC Tryd.prog gN g [.agg (atomL k bd bo n o v nm)] (.tup [.bool (EmpB k bd bo n o v nm), .int .i64 (checkE k bd bo n o nm)])) : PureG Tryd.prog gN g cEmpty := by
  intro args nd v he hnd
  unfold cEmpty at he
  split at he <;> cases he
  simp only [Bool.and_eq_true, nmB, decide_eq_true_eq] at hnd
  exact args1 (atom_sub hnd.1.1) (h _ _ _ _ _ _ _ hnd.1.2 hnd.2)
theorem sample_of {g : Nat} (h : ∀ (k : Int) (bd : Bool) (bo : Int) (n : Nat) (o v : Nat → Int) (nm : List UInt8), nm.length ≤ 9223372036854775807 → rngAll n v = true → PureC Tryd.prog gN g [.agg (atomL k bd bo n o v nm)] (.tup [.agg [.int .u64 (SamL k bd bo n o v nm), .int .i64 (SamK k bd bo n o v nm), .int .i64 (SamX k bd bo n o v nm)], .int .i64 (SamE k bd bo n o v nm)])) : PureG Tryd.prog gN g cSample := by
  intro args nd v he hnd
  unfold cSample at he
  split at he <;> cases he
  simp only [Bool.and_eq_true, nmB, decide_eq_true_eq] at hnd
  exact args1 (atom_sub hnd.1.1) (h _ _ _ _ _ _ _ hnd.1.2 hnd.2)
theorem ownAtom_ok : PureG Tryd.prog gN 52 cOwnAtom := by
  intro args nd v he hnd
  unfold cOwnAtom at he
  split at he <;> cases he
  simp only [Bool.and_eq_true, decide_eq_true_eq] at hnd
  exact args1 (atom_sub hnd.2) (ownAtom_pure _ _ _ _ _ _ _ hnd.1)
theorem rof_cond_sub2 {n : Nat} {f g : Nat → AV} {ex : Bool} (h : condsB n g = true) (hs : sameCs n f g = true) : (AV.rof n g ex).sub (condsAV n (fun i => opOf (f i)) (fun i => valOf (f i))) := by
  obtain ⟨-, h2, -⟩ := rof_cond_sub (n := n) (f := g) (ex := ex) h
  refine ⟨rfl, fun i hi => ?_, by simp⟩
  obtain ⟨a1, a2⟩ := h2 i hi
  have := List.all_eq_true.1 hs i (by simpa using hi)
  simp only [Bool.and_eq_true, decide_eq_true_eq] at this
  show (g i).sub (.agg [.int .i64 (opOf (f i)), .int .i64 (valOf (f i))]) ∧ _
  rw [this.1, this.2]
  exact ⟨a1, a2⟩
theorem sameAtom_ok : PureG Tryd.prog gN 57 cSameAtom := by
  intro args nd v he hnd
  unfold cSameAtom at he
  split at he <;> cases he
  simp only [Bool.and_eq_true, decide_eq_true_eq] at hnd
  obtain ⟨⟨⟨⟨⟨⟨⟨⟨h1, h2⟩, h3⟩, rfl⟩, rfl⟩, rfl⟩, rfl⟩, rfl⟩, h9⟩ := hnd
  rename_i k bd bo n f ex nm f' ex'
  exact args2 (y' := .agg (atomL k bd bo n (fun i => opOf (f i)) (fun i => valOf (f i)) nm)) (atom_sub h2) ⟨rfl, rfl, rfl, rof_cond_sub2 h3 h9, rfl, trivial⟩ (sameAtom_pure _ _ _ _ _ _ _ h1)
noncomputable def tblD : List (Nat × Ctr) := (19, cMatches) :: (20, cMatches) :: (21, cEmpty) :: (22, cEmpty) :: (23, cSample) :: (24, cSample) ::
  (52, cOwnAtom) :: (57, cSameAtom) :: (10, cAwake) :: (6, cAwake) :: tblC
theorem tblD_ok : TblOK Tryd.prog gN (tblOf tblD) :=
  tblG_cons (matches_of fun k bd bo n o v nm l ek x h => matchesI_pure k bd bo n o v nm l ek x h) (tblG_cons (matches_of fun k bd bo n o v nm l ek x h => matchesR_pure k bd bo n o v nm l ek x h)
  (tblG_cons (empty_of fun k bd bo n o v nm h => emptyI_pure k bd bo n o v nm h) (tblG_cons (empty_of fun k bd bo n o v nm h => emptyR_pure k bd bo n o v nm h)
  (tblG_cons (sample_of fun k bd bo n o v nm h => sampleI_pure k bd bo n o v nm h) (tblG_cons (sample_of fun k bd bo n o v nm h => sampleR_pure k bd bo n o v nm h)
  (tblG_cons ownAtom_ok (tblG_cons sameAtom_ok (tblG_cons awake_ok.up (tblG_cons known_ok.up tblC_ok)))))))))
end Go.Proofs.YtjkkkldkimdajaaDoor
