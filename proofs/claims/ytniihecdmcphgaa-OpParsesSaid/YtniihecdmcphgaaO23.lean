/- OP 23: the document's Bytes: contract. -/
import Derived.Test.YtniihecdmcphgaaO22
import Derived.Test.YtniihecdmcphgaaOS
namespace Go.Proofs.Ytniihecdmcphgaa
open Pw Go
set_option maxRecDepth 100000
set_option linter.unusedSimpArgs false
def cBytesR : Ctr
 | [.agg [.int .i64 k, .int .i64 t, .int .u64 l, .str x, .int .i64 n, .int .i64 m, .int .u64 il, .int .u64 id]] =>
  some (rgB ⟨k, t, l, x, n, m, il, id⟩ && decide (x.length ≤ 9000000000000000000), .tup [.str (opBytes ⟨k, t, l, x, n, m, il, id⟩).1, .int .i64 (opBytes ⟨k, t, l, x, n, m, il, id⟩).2])
 | _ => none
theorem digS_one {k : Int} (h : 1 ≤ k ∧ k ≤ 8) : List.map byteAV [AV.int IntKind.u8 (IntKind.u8.wrap k)] = digS k 1 := by
 rcases kinds8 h with rfl | rfl | rfl | rfl | rfl | rfl | rfl | rfl <;> rfl
theorem bytesR_ok : PureF Try.prog 31 cBytesR := by
 intro args nd v h hnd
 unfold cBytesR at h
 split at h <;> cases h
 rename_i k t l x n m il id
 simp only [Bool.and_eq_true, decide_eq_true_eq] at hnd
 have hR := RgN.of hnd.1
 have hx := hnd.2
 refine pure_vcF mix tblQ_ok ((bytesR_vc k t l n m il id x _ _).mpr ?_)
 rw [opBytes_all hR]
 have h1 := hR.l; have h2 := hR.il; have h3 := hR.id
 dsimp only at h1 h2 h3
 by_cases hc : opChk ⟨k, t, l, x, n, m, il, id⟩ = 0
 ·have hk := opChk_k hc
  dsimp only at hk
  rw [digS_one hk]
  have hw : IntKind.u64.wrap (x.length : Int) = x.length := wrap_u64_id (by omega) (by omega)
  have g8 : Int.toNat 8 = 8 := rfl
  have g2 : Int.toNat 2 = 2 := rfl
  have hxx : (x.length : Int) ≤ 9000000000000000000 := by omega
  rcases kinds8 hk with rfl | rfl | rfl | rfl | rfl | rfl | rfl | rfl <;>
  ·simp [hc, VB_iff, NB_iff, enc, fieldsOf, encF, hide_eq, digS_length, wrap_u64_lo, h1, h2, h3, hw, g8, g2] <;> omega
 ·have : opChk ⟨k, t, l, x, n, m, il, id⟩ ≠ 0 := hc
  simp [this, VB_iff]
end Go.Proofs.Ytniihecdmcphgaa
