/- OP 14: OpBack, its code. -/
import Derived.Test.YtniihecdmcphgaaO13
namespace Go.Proofs.Ytniihecdmcphgaa
open Pw Go
set_option maxRecDepth 100000
set_option linter.unusedSimpArgs false

theorem back_vc (k t l n m il id : Int) (x s : List UInt8) : (vcFun EB 20 3 [.agg [.int .i64 k, .int .i64 t, .int .u64 l, .str x, .int .i64 n, .int .i64 m, .int .u64 il, .int .u64 id], .str s] .nil 0 (isBool true)).sat = (
  VB (decide ((↑s.length : Int) > (200 : Int))) (true = true)
    (NB (decide ((-9223372036854775808 : Int) ≤ k ∧ k ≤ (9223372036854775807 : Int)))
      (NB (needOp (opRight (Opr.mk k t l x n m il id)))
        (NB (needOp (opRight (Opr.mk k t l x n m il id)))
          (NB (decide ((opBytes (opRight (Opr.mk k t l x n m il id))).fst.length ≤ (9223372036854775807 : Nat)))
            (NB (needOp (opClean (opRight (Opr.mk k t l x n m il id))).fst)
              (VB
                ((opClean (opRight (Opr.mk k t l x n m il id))).snd != (0 : Int) || (opBytes (opRight (Opr.mk k t l x n m il id))).snd != (0 : Int) ||
                            !((opParse (opBytes (opRight (Opr.mk k t l x n m il id))).fst).snd.fst == (0 : Int) && ((opParse (opBytes (opRight (Opr.mk k t l x n m il id))).fst).snd.snd == (0 : Int) && true)) ||
                          (opBytes (opClean (opRight (Opr.mk k t l x n m il id))).fst).snd != (0 : Int) ||
                        !((opParse (opBytes (opRight (Opr.mk k t l x n m il id))).fst).fst.k == (opClean (opRight (Opr.mk k t l x n m il id))).fst.k &&
                            ((opParse (opBytes (opRight (Opr.mk k t l x n m il id))).fst).fst.t == (opClean (opRight (Opr.mk k t l x n m il id))).fst.t &&
                              ((opParse (opBytes (opRight (Opr.mk k t l x n m il id))).fst).fst.l == (opClean (opRight (Opr.mk k t l x n m il id))).fst.l &&
                                ((opParse (opBytes (opRight (Opr.mk k t l x n m il id))).fst).fst.x == (opClean (opRight (Opr.mk k t l x n m il id))).fst.x &&
                                  ((opParse (opBytes (opRight (Opr.mk k t l x n m il id))).fst).fst.n == (opClean (opRight (Opr.mk k t l x n m il id))).fst.n &&
                                    ((opParse (opBytes (opRight (Opr.mk k t l x n m il id))).fst).fst.m == (opClean (opRight (Opr.mk k t l x n m il id))).fst.m &&
                                      ((opParse (opBytes (opRight (Opr.mk k t l x n m il id))).fst).fst.il == (opClean (opRight (Opr.mk k t l x n m il id))).fst.il &&
                                        ((opParse (opBytes (opRight (Opr.mk k t l x n m il id))).fst).fst.id == (opClean (opRight (Opr.mk k t l x n m il id))).fst.id && true)))))))) ||
                      !(opBytes (opClean (opRight (Opr.mk k t l x n m il id))).fst).fst == (opBytes (opRight (Opr.mk k t l x n m il id))).fst ||
                    opTo (opRight (Opr.mk k t l x n m il id)) != opTo (opClean (opRight (Opr.mk k t l x n m il id))).fst ||
                  opChk (opClean (opRight (Opr.mk k t l x n m il id))).fst != (0 : Int))
                (false = true)
                (NB (decide (s.length ≤ (9223372036854775807 : Nat)))
                  (VB ((opParse s).snd.fst != (0 : Int)) (true = true)
                    (NB (needOp (opParse s).fst)
                      (NB (needOp (opParse s).fst)
                        ((((opBytes (opParse s).fst).snd == (0 : Int) && (opBytes (opParse s).fst).fst == s && (opClean (opParse s).fst).snd == (0 : Int) &&
                                ((opClean (opParse s).fst).fst.k == (opParse s).fst.k &&
                                  ((opClean (opParse s).fst).fst.t == (opParse s).fst.t &&
                                    ((opClean (opParse s).fst).fst.l == (opParse s).fst.l &&
                                      ((opClean (opParse s).fst).fst.x == (opParse s).fst.x &&
                                        ((opClean (opParse s).fst).fst.n == (opParse s).fst.n &&
                                          ((opClean (opParse s).fst).fst.m == (opParse s).fst.m &&
                                            ((opClean (opParse s).fst).fst.il == (opParse s).fst.il && ((opClean (opParse s).fst).fst.id == (opParse s).fst.id && true)))))))) &&
                              true) ==
                            true) =
                          true)))))))))))) := by
  kernel_rfl

end Go.Proofs.Ytniihecdmcphgaa
