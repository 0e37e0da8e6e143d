/- PRED 36: the law of atoms answers true. -/
import Derived.Test.YtjkkkldkimdajaaDoorP35
namespace Go.Proofs.YtjkkkldkimdajaaDoor
open Pw Go
set_option maxRecDepth 100000
set_option linter.unusedSimpArgs false

theorem sameCs_self (n : Nat) (f : Nat → AV) : sameCs n f f = true := by simp [sameCs]
theorem predAtoms_sat (k : Int) (bd : Bool) (bo : Int) (n : Nat) (o v : Nat → Int) (nm : List UInt8) (l ek x : Int) (hv : ∀ i, i < n → lowI ≤ v i ∧ v i ≤ highI) (hl : u64B l = true) (hb : u64B bo = true) :
    (vcFun (mkG Tryd.prog gN (tblOf tblD) (fun _ _ => none) 4) 20 4 [.agg [.int .i64 k, .bool bd, .int .u64 bo, .rof n (fun i => .agg [.int .i64 (o i), .int .i64 (v i)]) false, .str nm], .agg [.int .u64 l, .int .i64 ek, .int .i64 x]] .nil 0 (isBool true)).sat := by
  refine (predAtoms_vc k bd bo n o v nm l ek x).mpr ?_
  refine VB_intro (fun h => rfl) (fun h => ?_)
  have h' := (Bool.not_eq_false' _).mp h
  simp only [Bool.and_eq_true, decide_eq_true_eq] at h'
  have hn : n ≤ 1000000 := by omega
  have hm : nm.length ≤ 9223372036854775807 := by omega
  have hr : rngAll n (fun i => v i) = true := rngAll_iff.2 hv
  have hnm : nmB nm = true := decide_eq_true hm
  simp only [EqI, condsB_agg, hn, hm, hr, hnm, hl, hb, sameCs_self, decide_true, beq_self_eq_true, Bool.and_self, isW_t, VB_t, NB_t, and_self]
end Go.Proofs.YtjkkkldkimdajaaDoor
