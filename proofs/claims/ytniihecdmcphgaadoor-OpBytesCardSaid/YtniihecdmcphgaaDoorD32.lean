/- OPBYTES 32: OpBytes, its code. -/
import Derived.Test.YtniihecdmcphgaaDoorD31
namespace Go.Proofs.YtniihecdmcphgaaDoor
open Pw Go
set_option maxRecDepth 100000
set_option linter.unusedSimpArgs false

noncomputable def EZ : Env := mkG Tryd.prog gK (tblOf tblZ) (fun _ _ => none) 4

theorem bytesL_vc (k t l n m il id : Int) (x s : List UInt8) : (vcFun EZ 20 3 [.agg [.int .i64 k, .int .i64 t, .int .u64 l, .str x, .int .i64 n, .int .i64 m, .int .u64 il, .int .u64 id], .str s] .nil 0 (isBool true)).sat = (
  VB (decide ((↑x.length : Int) > (1100 : Int)) || decide ((↑s.length : Int) > (40 : Int))) (true = true)
    (NB (needOp (Opr.mk k t l x n m il id))
      (NB (rgB (Opr.mk k t l x n m il id) && decide (x.length ≤ (9000000000000000000 : Nat)))
        (NB (needOp (Opr.mk k t l x n m il id))
          (NB (needOp (Opr.mk k t l x n m il id))
            (VB
              (opChk (Opr.mk k t l x n m il id) != opChk (Opr.mk k t l x n m il id) || !(opBytes (Opr.mk k t l x n m il id)).fst == (opBytes (Opr.mk k t l x n m il id)).fst ||
                      (opBytes (Opr.mk k t l x n m il id)).snd != (opBytes (Opr.mk k t l x n m il id)).snd ||
                    !((opClean (Opr.mk k t l x n m il id)).fst.k == (opClean (Opr.mk k t l x n m il id)).fst.k &&
                        ((opClean (Opr.mk k t l x n m il id)).fst.t == (opClean (Opr.mk k t l x n m il id)).fst.t &&
                          ((opClean (Opr.mk k t l x n m il id)).fst.l == (opClean (Opr.mk k t l x n m il id)).fst.l &&
                            ((opClean (Opr.mk k t l x n m il id)).fst.x == (opClean (Opr.mk k t l x n m il id)).fst.x &&
                              ((opClean (Opr.mk k t l x n m il id)).fst.n == (opClean (Opr.mk k t l x n m il id)).fst.n &&
                                ((opClean (Opr.mk k t l x n m il id)).fst.m == (opClean (Opr.mk k t l x n m il id)).fst.m &&
                                  ((opClean (Opr.mk k t l x n m il id)).fst.il == (opClean (Opr.mk k t l x n m il id)).fst.il &&
                                    ((opClean (Opr.mk k t l x n m il id)).fst.id == (opClean (Opr.mk k t l x n m il id)).fst.id && true)))))))) ||
                  (opClean (Opr.mk k t l x n m il id)).snd != (opClean (Opr.mk k t l x n m il id)).snd ||
                opTo (Opr.mk k t l x n m il id) != opTo (Opr.mk k t l x n m il id))
              (false = true)
              (NB (decide (s.length ≤ (9223372036854775807 : Nat)))
                (NB (decide (s.length ≤ (9223372036854775807 : Nat)))
                  ((((nameS k).fst == (nameS k).fst && (nameS k).snd == (nameS k).snd && (kindS s).fst == (kindS s).fst && (kindS s).snd == (kindS s).snd && true) == true) = true))))))))) := by
  kernel_rfl

end Go.Proofs.YtniihecdmcphgaaDoor
namespace Go.Proofs.YtniihecdmcphgaaDoor
open Pw Go
set_option maxRecDepth 100000
set_option linter.unusedSimpArgs false

theorem bytesL_sat (k t l n m il id : Int) (x s : List UInt8) (ht : -9223372036854775808 ≤ t ∧ t ≤ 9223372036854775807) (hn : -9223372036854775808 ≤ n ∧ n ≤ 9223372036854775807)
    (hm : -9223372036854775808 ≤ m ∧ m ≤ 9223372036854775807) (hl : 0 ≤ l ∧ l ≤ 18446744073709551615) (ha : 0 ≤ il ∧ il ≤ 18446744073709551615) (hb : 0 ≤ id ∧ id ≤ 18446744073709551615) :
    (vcFun EZ 20 3 [.agg [.int .i64 k, .int .i64 t, .int .u64 l, .str x, .int .i64 n, .int .i64 m, .int .u64 il, .int .u64 id], .str s] .nil 0 (isBool true)).sat := by
  refine (bytesL_vc k t l n m il id x s).mpr (VB_iff.2 ⟨fun _ => rfl, fun h => ?_⟩)
  simp only [Bool.or_eq_false_iff, decide_eq_false_iff_not] at h
  have hR : RgN ⟨k, t, l, x, n, m, il, id⟩ := ⟨ht, hn, hm, hl, ha, hb⟩
  have h1 : needOp ⟨k, t, l, x, n, m, il, id⟩ = true := decide_eq_true ⟨by show x.length ≤ _; omega, hl.1, hl.2, ha.1, ha.2, hb.1, hb.2⟩
  have h2 : decide (x.length ≤ 9000000000000000000) = true := decide_eq_true (by omega)
  have h3 : decide (s.length ≤ 9223372036854775807) = true := decide_eq_true (by omega)
  simp only [NB_iff, VB_iff, h1, h2, h3, hR.b, Bool.and_true, true_and]
  simp
end Go.Proofs.YtniihecdmcphgaaDoor
