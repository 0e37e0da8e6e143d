/- OP 15: OpBack, in Lean. -/
import Derived.Test.YtniihecdmcphgaaO14
import Derived.Test.YtniihecdmcphgaaOS
import Derived.Test.YtniihecdmcphgaaPwG5
namespace Go.Proofs.Ytniihecdmcphgaa
open Pw Go
set_option maxRecDepth 100000
set_option linter.unusedSimpArgs false

theorem need_of {o : Opr} (h : OkN o) : needOp o = true := by
  have := h.x1
  exact decide_eq_true ⟨by omega, h.l0, h.l1, h.a0, h.a1, h.b0, h.b1⟩
theorem right_N {k t l n m il id : Int} {x : List UInt8} (ht : -9223372036854775808 ≤ t ∧ t ≤ 9223372036854775807) (hn : -9223372036854775808 ≤ n ∧ n ≤ 9223372036854775807) (hm : -9223372036854775808 ≤ m ∧ m ≤ 9223372036854775807)
    (hl : 0 ≤ l ∧ l ≤ 18446744073709551615) (ha : 0 ≤ il ∧ il ≤ 18446744073709551615) (hb : 0 ≤ id ∧ id ≤ 18446744073709551615) : OkN (opRight ⟨k, t, l, x, n, m, il, id⟩) ∧ opChk (opRight ⟨k, t, l, x, n, m, il, id⟩) = 0 ∧ (enc (opRight ⟨k, t, l, x, n, m, il, id⟩)).length ≤ 9223372036854775807 := by
  have hN : OkN (opRight ⟨k, t, l, x, n, m, il, id⟩) := ⟨ht.1, ht.2, hn.1, hn.2, hm.1, hm.2, hl.1, hl.2, ha.1, ha.2, hb.1, hb.2, by show (x.take 100).length ≤ 1000; rw [List.length_take]; omega⟩
  refine ⟨hN, ?_, ?_⟩
  · unfold opChk opRight
    dsimp only
    rw [if_neg (by omega), if_neg (by rw [List.length_take]; omega)]
  · have h1 := flat_len hN (fieldsOf (opRight ⟨k, t, l, x, n, m, il, id⟩).k)
    have h2 := fields_len (opRight ⟨k, t, l, x, n, m, il, id⟩).k
    unfold enc
    rw [List.length_append, digS_length]
    omega
theorem back_sat (k t l n m il id : Int) (x s : List UInt8) (hk : -9223372036854775808 ≤ k ∧ k ≤ 9223372036854775807) (ht : -9223372036854775808 ≤ t ∧ t ≤ 9223372036854775807) (hn : -9223372036854775808 ≤ n ∧ n ≤ 9223372036854775807)
    (hm : -9223372036854775808 ≤ m ∧ m ≤ 9223372036854775807) (hl : 0 ≤ l ∧ l ≤ 18446744073709551615) (ha : 0 ≤ il ∧ il ≤ 18446744073709551615) (hb : 0 ≤ id ∧ id ≤ 18446744073709551615) :
    (vcFun EB 20 3 [.agg [.int .i64 k, .int .i64 t, .int .u64 l, .str x, .int .i64 n, .int .i64 m, .int .u64 il, .int .u64 id], .str s] .nil 0 (isBool true)).sat := by
  refine (back_vc k t l n m il id x s).mpr ?_
  obtain ⟨hN, hC, hL⟩ := right_N (k := k) (x := x) ht hn hm hl ha hb
  generalize opRight ⟨k, t, l, x, n, m, il, id⟩ = o at *
  obtain ⟨e1, e2, e3, e4⟩ := enc_cl hC
  obtain ⟨e5, e6⟩ := e4 hN
  have b1 := opBytes_ok hN hC
  have b2 := opBytes_ok e5 e6
  have c1 := opClean_ok hC
  have p1 := opParse_enc hN hC
  rw [e1] at b2
  refine VB_iff.2 ⟨fun _ => rfl, fun hs => NB_iff.2 ⟨decide_eq_true hk, NB_iff.2 ⟨need_of hN, NB_iff.2 ⟨need_of hN, ?_⟩⟩⟩⟩
  have hs := of_decide_eq_false hs
  simp only [b1, c1, p1, b2, e3, e6, need_of e5, hL, decide_true, NB_iff, true_and, VB_iff]
  refine ⟨by simp, fun _ => ⟨decide_eq_true (by omega), fun _ => trivial, fun hp => ?_⟩⟩
  have hp : (opParse s).2.1 = 0 := by simpa using hp
  obtain ⟨q1, q2, q3, q4⟩ := opParse_ok hp
  have b3 := opBytes_ok q1 q2
  have c3 := opClean_ok q2
  rw [q4] at b3
  rw [q3] at c3
  refine ⟨need_of q1, need_of q1, ?_⟩
  simp [b3, c3]
end Go.Proofs.Ytniihecdmcphgaa
