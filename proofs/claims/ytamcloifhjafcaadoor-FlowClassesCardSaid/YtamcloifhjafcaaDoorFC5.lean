/- FLOW CLASSES 5: the law answers true. -/
import Derived.Test.YtamcloifhjafcaaDoorFC4
namespace Go.Proofs.YtamcloifhjafcaaDoor
open Pw Go
set_option maxRecDepth 100000
set_option linter.unusedSimpArgs false

theorem law_sat (k o : Int) (b : Bool) (m : Nat) (F : Nat → AV) (s : List UInt8) (n : Nat) (C : Cls) (x : Int) :
    (vcFun EL 20 5 [.agg [.int .i64 k, .bool b, .int .u64 o, .rof m F false, .str s], .rof n (fun j => .agg [.int .u64 (C.L j), .int .i64 (C.S j), .int .i64 (C.R j)]) false, .int .u64 x] .nil 0 (isBool true)).sat := by
  refine (law_vc k o b m F s n C x).mpr ?_
  refine VB_intro (fun _ => rfl) (fun h => ?_)
  simp only [Bool.or_eq_false_iff, decide_eq_false_iff_not] at h
  have hn : n ≤ 1000000 := by omega
  have hle := seN_le C x n
  have hw : (if 8 < n then 0 else seN C x n) ≤ 1000000 := by split <;> omega
  simp only [clsOf_at]
  cases b <;> simp [VB_t, VB_f, NB_t, clsB_at, intsB_at, iOf_at, eqFn_self, hn, hw, isW_t] <;> exact NB_intro rfl trivial
end Go.Proofs.YtamcloifhjafcaaDoor
