/- OP 42: OpParts, its code. -/
import Derived.Test.YtniihecdmcphgaaO25
import Derived.Test.YtniihecdmcphgaaO39
namespace Go.Proofs.Ytniihecdmcphgaa
open Pw Go
set_option maxRecDepth 100000
set_option linter.unusedSimpArgs false

noncomputable def tblPR : List (Nat × Ctr) := (16, cList) :: (18, cSame) :: tblP
theorem tblPR_ok : TblOK Try.prog (fun _ => .undef) (tblOf tblPR) := tbl_cons listI_ok (tbl_cons same_ok tblP_ok)
def rgt (g : Nat → Opr) (i : Nat) : Opr := opRight (g i)
def cln (g : Nat → Opr) (i : Nat) : Opr := (opClean (opRight (g i))).1
def invPR (n : Nat) (g : Nat → Opr) (x : Int) : Inv := ⟨Nat × Nat × Nat, 50, fun p => ⟨[(0, opsAV n g), (1, .int .i64 x), (5, .sl 40 p.2.1 0 p.1 none), (6, .sl 41 p.2.2 0 p.1 none), (7, .int .i64 p.1)],
  [(40, .row p.2.1 8 true (.fn p.1 (fun q => (rgt g q).av))), (41, .row p.2.2 8 true (.fn p.1 (fun q => (cln g q).av)))]⟩, fun p => p.1 ≤ n ∧ p.1 ≤ 20, fun p => 20 - p.1⟩
noncomputable def EQ' (n : Nat) (g : Nat → Opr) (x : Int) : Env := mkF Try.prog (tblOf tblPR) (fun f b => if f = 8 ∧ b = 0 then some (invPR n g x) else none) 8
theorem parts_vc (n : Nat) (g : Nat → Opr) (x : Int) : (vcFun (EQ' n g x) 20 8 [opsAV n g, .int .i64 x] .nil 0 (isBool true)).sat = (
  (∃ (i : Nat × Nat × Nat),
      (i.fst ≤ n ∧ i.fst ≤ (20 : Nat)) ∧
        ((n = n ∧
              (∀ (i : Nat),
                  i < n →
                    ((g i).k = (g i).k ∧ (g i).t = (g i).t ∧ (g i).l = (g i).l ∧ (g i).x = (g i).x ∧ (g i).n = (g i).n ∧ (g i).m = (g i).m ∧ (g i).il = (g i).il ∧ (g i).id = (g i).id ∧ True) ∧
                      [AV.int IntKind.i64 (g i).k, AV.int IntKind.i64 (g i).t, AV.int IntKind.u64 (g i).l, AV.str (g i).x, AV.int IntKind.i64 (g i).n, AV.int IntKind.i64 (g i).m, AV.int IntKind.u64 (g i).il,
                            AV.int IntKind.u64 (g i).id].length =
                        [AV.int IntKind.i64 (g i).k, AV.int IntKind.i64 (g i).t, AV.int IntKind.u64 (g i).l, AV.str (g i).x, AV.int IntKind.i64 (g i).n, AV.int IntKind.i64 (g i).m, AV.int IntKind.u64 (g i).il,
                            AV.int IntKind.u64 (g i).id].length) ∧
                (false = true → false = true)) ∧
            x = x ∧ (i.fst = (0 : Nat) ∧ i.snd.fst = i.snd.fst ∧ i.fst = (0 : Nat)) ∧ (i.fst = (0 : Nat) ∧ i.snd.snd = i.snd.snd ∧ i.fst = (0 : Nat)) ∧ (0 : Int) = (↑i.fst : Int) ∧ True) ∧
          i.fst = (0 : Nat) ∧ i.fst = (0 : Nat) ∧ True) ∧
    ∀ (i : Nat × Nat × Nat),
      i.fst ≤ n ∧ i.fst ≤ (20 : Nat) →
        VB (decide ((↑i.fst : Int) < (↑n : Int)) && decide ((↑i.fst : Int) < (20 : Int)))
          (NB (decide ((0 : Int) ≤ (↑i.fst : Int) ∧ (↑i.fst : Int) < (↑n : Int)))
            (NB (decide ((-9223372036854775808 : Int) ≤ (g (↑i.fst : Int).toNat).k ∧ (g (↑i.fst : Int).toNat).k ≤ (9223372036854775807 : Int)))
              (NB (needOp (opRight (g (↑i.fst : Int).toNat)))
                (VB ((opClean (opRight (g (↑i.fst : Int).toNat))).snd != (0 : Int)) (false = true)
                  (NB (true && decide (i.snd.fst = i.snd.fst) && room (i.fst + (1 : Nat)) (72 : Nat))
                      (NB (true && decide (i.snd.snd = i.snd.snd) && room (i.fst + (1 : Nat)) (72 : Nat))
                        (∃ (i' : Nat × Nat × Nat),
                          (i'.fst ≤ n ∧ i'.fst ≤ (20 : Nat)) ∧
                            (invPR n g x).μ i' < (invPR n g x).μ i ∧
                              ((n = n ∧
                                    (∀ (i : Nat),
                                        i < n →
                                          ((g i).k = (g i).k ∧ (g i).t = (g i).t ∧ (g i).l = (g i).l ∧ (g i).x = (g i).x ∧ (g i).n = (g i).n ∧ (g i).m = (g i).m ∧ (g i).il = (g i).il ∧ (g i).id = (g i).id ∧ True) ∧
                                            [AV.int IntKind.i64 (g i).k, AV.int IntKind.i64 (g i).t, AV.int IntKind.u64 (g i).l, AV.str (g i).x, AV.int IntKind.i64 (g i).n, AV.int IntKind.i64 (g i).m,
                                                  AV.int IntKind.u64 (g i).il, AV.int IntKind.u64 (g i).id].length =
                                              [AV.int IntKind.i64 (g i).k, AV.int IntKind.i64 (g i).t, AV.int IntKind.u64 (g i).l, AV.str (g i).x, AV.int IntKind.i64 (g i).n, AV.int IntKind.i64 (g i).m,
                                                  AV.int IntKind.u64 (g i).il, AV.int IntKind.u64 (g i).id].length) ∧
                                      (false = true → false = true)) ∧
                                  x = x ∧
                                    (i.snd.fst + (1 : Nat) = i'.snd.fst ∧ (0 : Nat) = (0 : Nat) ∧ i.fst + (1 : Nat) = i'.fst ∧ (@Eq (Option Nat) none none ∨ @Eq (Option Nat) none none)) ∧
                                      (i.snd.snd + (1 : Nat) = i'.snd.snd ∧ (0 : Nat) = (0 : Nat) ∧ i.fst + (1 : Nat) = i'.fst ∧ (@Eq (Option Nat) none none ∨ @Eq (Option Nat) none none)) ∧
                                        IntKind.i64.wrap ((↑i.fst : Int) + (1 : Int)) = (↑i'.fst : Int) ∧ True) ∧
                                (i.snd.fst + (1 : Nat) = i'.snd.fst ∧
                                    (true = true → true = true) ∧
                                      i.fst + (1 : Nat) = i'.fst ∧
                                        ∀ (i_1 : Nat),
                                          i_1 < i.fst + (1 : Nat) →
                                            (if i_1 < i.fst then
                                                    AV.agg
                                                      [AV.int IntKind.i64 ((1 : Int) + (g ((0 : Nat) + i_1)).k % (8 : Int)), AV.int IntKind.i64 (g ((0 : Nat) + i_1)).t, AV.int IntKind.u64 (g ((0 : Nat) + i_1)).l,
                                                        AV.str (List.take (100 : Nat) (g ((0 : Nat) + i_1)).x), AV.int IntKind.i64 (g ((0 : Nat) + i_1)).n, AV.int IntKind.i64 (g ((0 : Nat) + i_1)).m,
                                                        AV.int IntKind.u64 (g ((0 : Nat) + i_1)).il, AV.int IntKind.u64 (g ((0 : Nat) + i_1)).id]
                                                  else
                                                    ((Sq.lst
                                                              [AV.agg
                                                                  [AV.int IntKind.i64 ((1 : Int) + (g (↑i.fst : Int).toNat).k % (8 : Int)), AV.int IntKind.i64 (g (↑i.fst : Int).toNat).t,
                                                                    AV.int IntKind.u64 (g (↑i.fst : Int).toNat).l, AV.str (List.take (100 : Nat) (g (↑i.fst : Int).toNat).x), AV.int IntKind.i64 (g (↑i.fst : Int).toNat).n,
                                                                    AV.int IntKind.i64 (g (↑i.fst : Int).toNat).m, AV.int IntKind.u64 (g (↑i.fst : Int).toNat).il, AV.int IntKind.u64 (g (↑i.fst : Int).toNat).id]]).sub
                                                          (0 : Nat) (1 : Nat)).get
                                                      (i_1 - i.fst)).sub
                                                (AV.agg
                                                  [AV.int IntKind.i64 ((1 : Int) + (g i_1).k % (8 : Int)), AV.int IntKind.i64 (g i_1).t, AV.int IntKind.u64 (g i_1).l, AV.str (List.take (100 : Nat) (g i_1).x),
                                                    AV.int IntKind.i64 (g i_1).n, AV.int IntKind.i64 (g i_1).m, AV.int IntKind.u64 (g i_1).il, AV.int IntKind.u64 (g i_1).id]) ∧
                                              (if i_1 < i.fst then (rgt g ((0 : Nat) + i_1)).av
                                                    else
                                                      ((Sq.lst
                                                                [AV.agg
                                                                    [AV.int IntKind.i64 ((1 : Int) + (g (↑i.fst : Int).toNat).k % (8 : Int)), AV.int IntKind.i64 (g (↑i.fst : Int).toNat).t,
                                                                      AV.int IntKind.u64 (g (↑i.fst : Int).toNat).l, AV.str (List.take (100 : Nat) (g (↑i.fst : Int).toNat).x), AV.int IntKind.i64 (g (↑i.fst : Int).toNat).n,
                                                                      AV.int IntKind.i64 (g (↑i.fst : Int).toNat).m, AV.int IntKind.u64 (g (↑i.fst : Int).toNat).il, AV.int IntKind.u64 (g (↑i.fst : Int).toNat).id]]).sub
                                                            (0 : Nat) (1 : Nat)).get
                                                        (i_1 - i.fst)).cells.length =
                                                [AV.int IntKind.i64 ((1 : Int) + (g i_1).k % (8 : Int)), AV.int IntKind.i64 (g i_1).t, AV.int IntKind.u64 (g i_1).l, AV.str (List.take (100 : Nat) (g i_1).x),
                                                    AV.int IntKind.i64 (g i_1).n, AV.int IntKind.i64 (g i_1).m, AV.int IntKind.u64 (g i_1).il, AV.int IntKind.u64 (g i_1).id].length) ∧
                                  (i.snd.snd + (1 : Nat) = i'.snd.snd ∧
                                      (true = true → true = true) ∧
                                        i.fst + (1 : Nat) = i'.fst ∧
                                          ∀ (i_1 : Nat),
                                            i_1 < i.fst + (1 : Nat) →
                                              (if i_1 < i.fst then
                                                      AV.agg
                                                        [AV.int IntKind.i64 (cln g ((0 : Nat) + i_1)).k, AV.int IntKind.i64 (cln g ((0 : Nat) + i_1)).t, AV.int IntKind.u64 (cln g ((0 : Nat) + i_1)).l,
                                                          AV.str (cln g ((0 : Nat) + i_1)).x, AV.int IntKind.i64 (cln g ((0 : Nat) + i_1)).n, AV.int IntKind.i64 (cln g ((0 : Nat) + i_1)).m,
                                                          AV.int IntKind.u64 (cln g ((0 : Nat) + i_1)).il, AV.int IntKind.u64 (cln g ((0 : Nat) + i_1)).id]
                                                    else
                                                      ((Sq.lst
                                                                [AV.agg
                                                                    [AV.int IntKind.i64 (opClean (opRight (g (↑i.fst : Int).toNat))).fst.k, AV.int IntKind.i64 (opClean (opRight (g (↑i.fst : Int).toNat))).fst.t,
                                                                      AV.int IntKind.u64 (opClean (opRight (g (↑i.fst : Int).toNat))).fst.l, AV.str (opClean (opRight (g (↑i.fst : Int).toNat))).fst.x,
                                                                      AV.int IntKind.i64 (opClean (opRight (g (↑i.fst : Int).toNat))).fst.n, AV.int IntKind.i64 (opClean (opRight (g (↑i.fst : Int).toNat))).fst.m,
                                                                      AV.int IntKind.u64 (opClean (opRight (g (↑i.fst : Int).toNat))).fst.il, AV.int IntKind.u64 (opClean (opRight (g (↑i.fst : Int).toNat))).fst.id]]).sub
                                                            (0 : Nat) (1 : Nat)).get
                                                        (i_1 - i.fst)).sub
                                                  (AV.agg
                                                    [AV.int IntKind.i64 (cln g i_1).k, AV.int IntKind.i64 (cln g i_1).t, AV.int IntKind.u64 (cln g i_1).l, AV.str (cln g i_1).x, AV.int IntKind.i64 (cln g i_1).n,
                                                      AV.int IntKind.i64 (cln g i_1).m, AV.int IntKind.u64 (cln g i_1).il, AV.int IntKind.u64 (cln g i_1).id]) ∧
                                                (if i_1 < i.fst then (cln g ((0 : Nat) + i_1)).av
                                                      else
                                                        ((Sq.lst
                                                                  [AV.agg
                                                                      [AV.int IntKind.i64 (opClean (opRight (g (↑i.fst : Int).toNat))).fst.k, AV.int IntKind.i64 (opClean (opRight (g (↑i.fst : Int).toNat))).fst.t,
                                                                        AV.int IntKind.u64 (opClean (opRight (g (↑i.fst : Int).toNat))).fst.l, AV.str (opClean (opRight (g (↑i.fst : Int).toNat))).fst.x,
                                                                        AV.int IntKind.i64 (opClean (opRight (g (↑i.fst : Int).toNat))).fst.n, AV.int IntKind.i64 (opClean (opRight (g (↑i.fst : Int).toNat))).fst.m,
                                                                        AV.int IntKind.u64 (opClean (opRight (g (↑i.fst : Int).toNat))).fst.il, AV.int IntKind.u64 (opClean (opRight (g (↑i.fst : Int).toNat))).fst.id]]).sub
                                                              (0 : Nat) (1 : Nat)).get
                                                          (i_1 - i.fst)).cells.length =
                                                  [AV.int IntKind.i64 (cln g i_1).k, AV.int IntKind.i64 (cln g i_1).t, AV.int IntKind.u64 (cln g i_1).l, AV.str (cln g i_1).x, AV.int IntKind.i64 (cln g i_1).n,
                                                      AV.int IntKind.i64 (cln g i_1).m, AV.int IntKind.u64 (cln g i_1).il, AV.int IntKind.u64 (cln g i_1).id].length) ∧
                                    True)) ∧
                    NB (true && decide (i.snd.fst = i.snd.fst) && room (i.fst + (1 : Nat)) (72 : Nat))
                        (NB (true && decide (i.snd.snd = i.snd.snd) && room (i.fst + (1 : Nat)) (72 : Nat))
                          (∃ (i' : Nat × Nat × Nat),
                            (i'.fst ≤ n ∧ i'.fst ≤ (20 : Nat)) ∧
                              (invPR n g x).μ i' < (invPR n g x).μ i ∧
                                ((n = n ∧
                                      (∀ (i : Nat),
                                          i < n →
                                            ((g i).k = (g i).k ∧ (g i).t = (g i).t ∧ (g i).l = (g i).l ∧ (g i).x = (g i).x ∧ (g i).n = (g i).n ∧ (g i).m = (g i).m ∧ (g i).il = (g i).il ∧ (g i).id = (g i).id ∧ True) ∧
                                              [AV.int IntKind.i64 (g i).k, AV.int IntKind.i64 (g i).t, AV.int IntKind.u64 (g i).l, AV.str (g i).x, AV.int IntKind.i64 (g i).n, AV.int IntKind.i64 (g i).m,
                                                    AV.int IntKind.u64 (g i).il, AV.int IntKind.u64 (g i).id].length =
                                                [AV.int IntKind.i64 (g i).k, AV.int IntKind.i64 (g i).t, AV.int IntKind.u64 (g i).l, AV.str (g i).x, AV.int IntKind.i64 (g i).n, AV.int IntKind.i64 (g i).m,
                                                    AV.int IntKind.u64 (g i).il, AV.int IntKind.u64 (g i).id].length) ∧
                                        (false = true → false = true)) ∧
                                    x = x ∧
                                      (i.snd.fst + (1 : Nat) = i'.snd.fst ∧ (0 : Nat) = (0 : Nat) ∧ i.fst + (1 : Nat) = i'.fst ∧ (@Eq (Option Nat) none none ∨ @Eq (Option Nat) none none)) ∧
                                        (i.snd.snd + (1 : Nat) = i'.snd.snd ∧ (0 : Nat) = (0 : Nat) ∧ i.fst + (1 : Nat) = i'.fst ∧ (@Eq (Option Nat) none none ∨ @Eq (Option Nat) none none)) ∧
                                          IntKind.i64.wrap ((↑i.fst : Int) + (1 : Int)) = (↑i'.fst : Int) ∧ True) ∧
                                  (i.snd.fst + (1 : Nat) = i'.snd.fst ∧
                                      (true = true → true = true) ∧
                                        i.fst + (1 : Nat) = i'.fst ∧
                                          ∀ (i_1 : Nat),
                                            i_1 < i.fst + (1 : Nat) →
                                              (if i_1 < i.fst then
                                                      AV.agg
                                                        [AV.int IntKind.i64 ((1 : Int) + (g ((0 : Nat) + i_1)).k % (8 : Int)), AV.int IntKind.i64 (g ((0 : Nat) + i_1)).t, AV.int IntKind.u64 (g ((0 : Nat) + i_1)).l,
                                                          AV.str (List.take (100 : Nat) (g ((0 : Nat) + i_1)).x), AV.int IntKind.i64 (g ((0 : Nat) + i_1)).n, AV.int IntKind.i64 (g ((0 : Nat) + i_1)).m,
                                                          AV.int IntKind.u64 (g ((0 : Nat) + i_1)).il, AV.int IntKind.u64 (g ((0 : Nat) + i_1)).id]
                                                    else
                                                      ((Sq.lst
                                                                [AV.agg
                                                                    [AV.int IntKind.i64 ((1 : Int) + (g (↑i.fst : Int).toNat).k % (8 : Int)), AV.int IntKind.i64 (g (↑i.fst : Int).toNat).t,
                                                                      AV.int IntKind.u64 (g (↑i.fst : Int).toNat).l, AV.str (List.take (100 : Nat) (g (↑i.fst : Int).toNat).x), AV.int IntKind.i64 (g (↑i.fst : Int).toNat).n,
                                                                      AV.int IntKind.i64 (g (↑i.fst : Int).toNat).m, AV.int IntKind.u64 (g (↑i.fst : Int).toNat).il, AV.int IntKind.u64 (g (↑i.fst : Int).toNat).id]]).sub
                                                            (0 : Nat) (1 : Nat)).get
                                                        (i_1 - i.fst)).sub
                                                  (AV.agg
                                                    [AV.int IntKind.i64 ((1 : Int) + (g i_1).k % (8 : Int)), AV.int IntKind.i64 (g i_1).t, AV.int IntKind.u64 (g i_1).l, AV.str (List.take (100 : Nat) (g i_1).x),
                                                      AV.int IntKind.i64 (g i_1).n, AV.int IntKind.i64 (g i_1).m, AV.int IntKind.u64 (g i_1).il, AV.int IntKind.u64 (g i_1).id]) ∧
                                                (if i_1 < i.fst then (rgt g ((0 : Nat) + i_1)).av
                                                      else
                                                        ((Sq.lst
                                                                  [AV.agg
                                                                      [AV.int IntKind.i64 ((1 : Int) + (g (↑i.fst : Int).toNat).k % (8 : Int)), AV.int IntKind.i64 (g (↑i.fst : Int).toNat).t,
                                                                        AV.int IntKind.u64 (g (↑i.fst : Int).toNat).l, AV.str (List.take (100 : Nat) (g (↑i.fst : Int).toNat).x),
                                                                        AV.int IntKind.i64 (g (↑i.fst : Int).toNat).n, AV.int IntKind.i64 (g (↑i.fst : Int).toNat).m, AV.int IntKind.u64 (g (↑i.fst : Int).toNat).il,
                                                                        AV.int IntKind.u64 (g (↑i.fst : Int).toNat).id]]).sub
                                                              (0 : Nat) (1 : Nat)).get
                                                          (i_1 - i.fst)).cells.length =
                                                  [AV.int IntKind.i64 ((1 : Int) + (g i_1).k % (8 : Int)), AV.int IntKind.i64 (g i_1).t, AV.int IntKind.u64 (g i_1).l, AV.str (List.take (100 : Nat) (g i_1).x),
                                                      AV.int IntKind.i64 (g i_1).n, AV.int IntKind.i64 (g i_1).m, AV.int IntKind.u64 (g i_1).il, AV.int IntKind.u64 (g i_1).id].length) ∧
                                    (i.snd.snd + (1 : Nat) = i'.snd.snd ∧
                                        (true = true → true = true) ∧
                                          i.fst + (1 : Nat) = i'.fst ∧
                                            ∀ (i_1 : Nat),
                                              i_1 < i.fst + (1 : Nat) →
                                                (if i_1 < i.fst then
                                                        AV.agg
                                                          [AV.int IntKind.i64 (cln g ((0 : Nat) + i_1)).k, AV.int IntKind.i64 (cln g ((0 : Nat) + i_1)).t, AV.int IntKind.u64 (cln g ((0 : Nat) + i_1)).l,
                                                            AV.str (cln g ((0 : Nat) + i_1)).x, AV.int IntKind.i64 (cln g ((0 : Nat) + i_1)).n, AV.int IntKind.i64 (cln g ((0 : Nat) + i_1)).m,
                                                            AV.int IntKind.u64 (cln g ((0 : Nat) + i_1)).il, AV.int IntKind.u64 (cln g ((0 : Nat) + i_1)).id]
                                                      else
                                                        ((Sq.lst
                                                                  [AV.agg
                                                                      [AV.int IntKind.i64 (opClean (opRight (g (↑i.fst : Int).toNat))).fst.k, AV.int IntKind.i64 (opClean (opRight (g (↑i.fst : Int).toNat))).fst.t,
                                                                        AV.int IntKind.u64 (opClean (opRight (g (↑i.fst : Int).toNat))).fst.l, AV.str (opClean (opRight (g (↑i.fst : Int).toNat))).fst.x,
                                                                        AV.int IntKind.i64 (opClean (opRight (g (↑i.fst : Int).toNat))).fst.n, AV.int IntKind.i64 (opClean (opRight (g (↑i.fst : Int).toNat))).fst.m,
                                                                        AV.int IntKind.u64 (opClean (opRight (g (↑i.fst : Int).toNat))).fst.il, AV.int IntKind.u64 (opClean (opRight (g (↑i.fst : Int).toNat))).fst.id]]).sub
                                                              (0 : Nat) (1 : Nat)).get
                                                          (i_1 - i.fst)).sub
                                                    (AV.agg
                                                      [AV.int IntKind.i64 (cln g i_1).k, AV.int IntKind.i64 (cln g i_1).t, AV.int IntKind.u64 (cln g i_1).l, AV.str (cln g i_1).x, AV.int IntKind.i64 (cln g i_1).n,
                                                        AV.int IntKind.i64 (cln g i_1).m, AV.int IntKind.u64 (cln g i_1).il, AV.int IntKind.u64 (cln g i_1).id]) ∧
                                                  (if i_1 < i.fst then (cln g ((0 : Nat) + i_1)).av
                                                        else
                                                          ((Sq.lst
                                                                    [AV.agg
                                                                        [AV.int IntKind.i64 (opClean (opRight (g (↑i.fst : Int).toNat))).fst.k, AV.int IntKind.i64 (opClean (opRight (g (↑i.fst : Int).toNat))).fst.t,
                                                                          AV.int IntKind.u64 (opClean (opRight (g (↑i.fst : Int).toNat))).fst.l, AV.str (opClean (opRight (g (↑i.fst : Int).toNat))).fst.x,
                                                                          AV.int IntKind.i64 (opClean (opRight (g (↑i.fst : Int).toNat))).fst.n, AV.int IntKind.i64 (opClean (opRight (g (↑i.fst : Int).toNat))).fst.m,
                                                                          AV.int IntKind.u64 (opClean (opRight (g (↑i.fst : Int).toNat))).fst.il,
                                                                          AV.int IntKind.u64 (opClean (opRight (g (↑i.fst : Int).toNat))).fst.id]]).sub
                                                                (0 : Nat) (1 : Nat)).get
                                                            (i_1 - i.fst)).cells.length =
                                                    [AV.int IntKind.i64 (cln g i_1).k, AV.int IntKind.i64 (cln g i_1).t, AV.int IntKind.u64 (cln g i_1).l, AV.str (cln g i_1).x, AV.int IntKind.i64 (cln g i_1).n,
                                                        AV.int IntKind.i64 (cln g i_1).m, AV.int IntKind.u64 (cln g i_1).il, AV.int IntKind.u64 (cln g i_1).id].length) ∧
                                      True)) ∧
                      NB (true && decide (i.snd.fst = i.snd.fst) && room (i.fst + (1 : Nat)) (72 : Nat))
                        (NB (true && decide (i.snd.snd = i.snd.snd) && room (i.fst + (1 : Nat)) (72 : Nat))
                          (∃ (i' : Nat × Nat × Nat),
                            (i'.fst ≤ n ∧ i'.fst ≤ (20 : Nat)) ∧
                              (invPR n g x).μ i' < (invPR n g x).μ i ∧
                                ((n = n ∧
                                      (∀ (i : Nat),
                                          i < n →
                                            ((g i).k = (g i).k ∧ (g i).t = (g i).t ∧ (g i).l = (g i).l ∧ (g i).x = (g i).x ∧ (g i).n = (g i).n ∧ (g i).m = (g i).m ∧ (g i).il = (g i).il ∧ (g i).id = (g i).id ∧ True) ∧
                                              [AV.int IntKind.i64 (g i).k, AV.int IntKind.i64 (g i).t, AV.int IntKind.u64 (g i).l, AV.str (g i).x, AV.int IntKind.i64 (g i).n, AV.int IntKind.i64 (g i).m,
                                                    AV.int IntKind.u64 (g i).il, AV.int IntKind.u64 (g i).id].length =
                                                [AV.int IntKind.i64 (g i).k, AV.int IntKind.i64 (g i).t, AV.int IntKind.u64 (g i).l, AV.str (g i).x, AV.int IntKind.i64 (g i).n, AV.int IntKind.i64 (g i).m,
                                                    AV.int IntKind.u64 (g i).il, AV.int IntKind.u64 (g i).id].length) ∧
                                        (false = true → false = true)) ∧
                                    x = x ∧
                                      (i.snd.fst + (1 : Nat) = i'.snd.fst ∧ (0 : Nat) = (0 : Nat) ∧ i.fst + (1 : Nat) = i'.fst ∧ (@Eq (Option Nat) none none ∨ @Eq (Option Nat) none none)) ∧
                                        (i.snd.snd + (1 : Nat) = i'.snd.snd ∧ (0 : Nat) = (0 : Nat) ∧ i.fst + (1 : Nat) = i'.fst ∧ (@Eq (Option Nat) none none ∨ @Eq (Option Nat) none none)) ∧
                                          IntKind.i64.wrap ((↑i.fst : Int) + (1 : Int)) = (↑i'.fst : Int) ∧ True) ∧
                                  (i.snd.fst + (1 : Nat) = i'.snd.fst ∧
                                      (true = true → true = true) ∧
                                        i.fst + (1 : Nat) = i'.fst ∧
                                          ∀ (i_1 : Nat),
                                            i_1 < i.fst + (1 : Nat) →
                                              (if i_1 < i.fst then
                                                      AV.agg
                                                        [AV.int IntKind.i64 ((1 : Int) + (g ((0 : Nat) + i_1)).k % (8 : Int)), AV.int IntKind.i64 (g ((0 : Nat) + i_1)).t, AV.int IntKind.u64 (g ((0 : Nat) + i_1)).l,
                                                          AV.str (List.take (100 : Nat) (g ((0 : Nat) + i_1)).x), AV.int IntKind.i64 (g ((0 : Nat) + i_1)).n, AV.int IntKind.i64 (g ((0 : Nat) + i_1)).m,
                                                          AV.int IntKind.u64 (g ((0 : Nat) + i_1)).il, AV.int IntKind.u64 (g ((0 : Nat) + i_1)).id]
                                                    else
                                                      ((Sq.lst
                                                                [AV.agg
                                                                    [AV.int IntKind.i64 ((1 : Int) + (g (↑i.fst : Int).toNat).k % (8 : Int)), AV.int IntKind.i64 (g (↑i.fst : Int).toNat).t,
                                                                      AV.int IntKind.u64 (g (↑i.fst : Int).toNat).l, AV.str (List.take (100 : Nat) (g (↑i.fst : Int).toNat).x), AV.int IntKind.i64 (g (↑i.fst : Int).toNat).n,
                                                                      AV.int IntKind.i64 (g (↑i.fst : Int).toNat).m, AV.int IntKind.u64 (g (↑i.fst : Int).toNat).il, AV.int IntKind.u64 (g (↑i.fst : Int).toNat).id]]).sub
                                                            (0 : Nat) (1 : Nat)).get
                                                        (i_1 - i.fst)).sub
                                                  (AV.agg
                                                    [AV.int IntKind.i64 ((1 : Int) + (g i_1).k % (8 : Int)), AV.int IntKind.i64 (g i_1).t, AV.int IntKind.u64 (g i_1).l, AV.str (List.take (100 : Nat) (g i_1).x),
                                                      AV.int IntKind.i64 (g i_1).n, AV.int IntKind.i64 (g i_1).m, AV.int IntKind.u64 (g i_1).il, AV.int IntKind.u64 (g i_1).id]) ∧
                                                (if i_1 < i.fst then (rgt g ((0 : Nat) + i_1)).av
                                                      else
                                                        ((Sq.lst
                                                                  [AV.agg
                                                                      [AV.int IntKind.i64 ((1 : Int) + (g (↑i.fst : Int).toNat).k % (8 : Int)), AV.int IntKind.i64 (g (↑i.fst : Int).toNat).t,
                                                                        AV.int IntKind.u64 (g (↑i.fst : Int).toNat).l, AV.str (List.take (100 : Nat) (g (↑i.fst : Int).toNat).x),
                                                                        AV.int IntKind.i64 (g (↑i.fst : Int).toNat).n, AV.int IntKind.i64 (g (↑i.fst : Int).toNat).m, AV.int IntKind.u64 (g (↑i.fst : Int).toNat).il,
                                                                        AV.int IntKind.u64 (g (↑i.fst : Int).toNat).id]]).sub
                                                              (0 : Nat) (1 : Nat)).get
                                                          (i_1 - i.fst)).cells.length =
                                                  [AV.int IntKind.i64 ((1 : Int) + (g i_1).k % (8 : Int)), AV.int IntKind.i64 (g i_1).t, AV.int IntKind.u64 (g i_1).l, AV.str (List.take (100 : Nat) (g i_1).x),
                                                      AV.int IntKind.i64 (g i_1).n, AV.int IntKind.i64 (g i_1).m, AV.int IntKind.u64 (g i_1).il, AV.int IntKind.u64 (g i_1).id].length) ∧
                                    (i.snd.snd + (1 : Nat) = i'.snd.snd ∧
                                        (true = true → true = true) ∧
                                          i.fst + (1 : Nat) = i'.fst ∧
                                            ∀ (i_1 : Nat),
                                              i_1 < i.fst + (1 : Nat) →
                                                (if i_1 < i.fst then
                                                        AV.agg
                                                          [AV.int IntKind.i64 (cln g ((0 : Nat) + i_1)).k, AV.int IntKind.i64 (cln g ((0 : Nat) + i_1)).t, AV.int IntKind.u64 (cln g ((0 : Nat) + i_1)).l,
                                                            AV.str (cln g ((0 : Nat) + i_1)).x, AV.int IntKind.i64 (cln g ((0 : Nat) + i_1)).n, AV.int IntKind.i64 (cln g ((0 : Nat) + i_1)).m,
                                                            AV.int IntKind.u64 (cln g ((0 : Nat) + i_1)).il, AV.int IntKind.u64 (cln g ((0 : Nat) + i_1)).id]
                                                      else
                                                        ((Sq.lst
                                                                  [AV.agg
                                                                      [AV.int IntKind.i64 (opClean (opRight (g (↑i.fst : Int).toNat))).fst.k, AV.int IntKind.i64 (opClean (opRight (g (↑i.fst : Int).toNat))).fst.t,
                                                                        AV.int IntKind.u64 (opClean (opRight (g (↑i.fst : Int).toNat))).fst.l, AV.str (opClean (opRight (g (↑i.fst : Int).toNat))).fst.x,
                                                                        AV.int IntKind.i64 (opClean (opRight (g (↑i.fst : Int).toNat))).fst.n, AV.int IntKind.i64 (opClean (opRight (g (↑i.fst : Int).toNat))).fst.m,
                                                                        AV.int IntKind.u64 (opClean (opRight (g (↑i.fst : Int).toNat))).fst.il, AV.int IntKind.u64 (opClean (opRight (g (↑i.fst : Int).toNat))).fst.id]]).sub
                                                              (0 : Nat) (1 : Nat)).get
                                                          (i_1 - i.fst)).sub
                                                    (AV.agg
                                                      [AV.int IntKind.i64 (cln g i_1).k, AV.int IntKind.i64 (cln g i_1).t, AV.int IntKind.u64 (cln g i_1).l, AV.str (cln g i_1).x, AV.int IntKind.i64 (cln g i_1).n,
                                                        AV.int IntKind.i64 (cln g i_1).m, AV.int IntKind.u64 (cln g i_1).il, AV.int IntKind.u64 (cln g i_1).id]) ∧
                                                  (if i_1 < i.fst then (cln g ((0 : Nat) + i_1)).av
                                                        else
                                                          ((Sq.lst
                                                                    [AV.agg
                                                                        [AV.int IntKind.i64 (opClean (opRight (g (↑i.fst : Int).toNat))).fst.k, AV.int IntKind.i64 (opClean (opRight (g (↑i.fst : Int).toNat))).fst.t,
                                                                          AV.int IntKind.u64 (opClean (opRight (g (↑i.fst : Int).toNat))).fst.l, AV.str (opClean (opRight (g (↑i.fst : Int).toNat))).fst.x,
                                                                          AV.int IntKind.i64 (opClean (opRight (g (↑i.fst : Int).toNat))).fst.n, AV.int IntKind.i64 (opClean (opRight (g (↑i.fst : Int).toNat))).fst.m,
                                                                          AV.int IntKind.u64 (opClean (opRight (g (↑i.fst : Int).toNat))).fst.il,
                                                                          AV.int IntKind.u64 (opClean (opRight (g (↑i.fst : Int).toNat))).fst.id]]).sub
                                                                (0 : Nat) (1 : Nat)).get
                                                            (i_1 - i.fst)).cells.length =
                                                    [AV.int IntKind.i64 (cln g i_1).k, AV.int IntKind.i64 (cln g i_1).t, AV.int IntKind.u64 (cln g i_1).l, AV.str (cln g i_1).x, AV.int IntKind.i64 (cln g i_1).n,
                                                        AV.int IntKind.i64 (cln g i_1).m, AV.int IntKind.u64 (cln g i_1).il, AV.int IntKind.u64 (cln g i_1).id].length) ∧
                                      True)))))))
          (NB (decide ((-9223372036854775808 : Int) ≤ x ∧ x ≤ (9223372036854775807 : Int) ∧ IntKind.i64.wrap ((↑i.fst : Int) + (1 : Int)) ≤ (9223372036854775807 : Int)))
            (NB ((decide (i.fst ≤ (1000000 : Nat)) && opsOK i.fst fun (k : Nat) => (rgt g ((0 : Nat) + k)).av) && (decide (i.snd.fst = i.snd.fst) && true))
              (NB
                (decide (i.snd.fst = i.snd.fst) &&
                  decide ((0 : Int) ≤ (0 : Int) ∧ (0 : Int) ≤ modI x (IntKind.i64.wrap ((↑i.fst : Int) + (1 : Int))) ∧ modI x (IntKind.i64.wrap ((↑i.fst : Int) + (1 : Int))) ≤ (↑i.fst : Int)))
                (NB
                  ((decide ((modI x (IntKind.i64.wrap ((↑i.fst : Int) + (1 : Int)))).toNat - Int.toNat (0 : Int) ≤ (1000000 : Nat)) &&
                      opsOK ((modI x (IntKind.i64.wrap ((↑i.fst : Int) + (1 : Int)))).toNat - Int.toNat (0 : Int)) fun (k : Nat) => (rgt g ((0 : Nat) + Int.toNat (0 : Int) + k)).av) &&
                    (decide (i.snd.fst = i.snd.fst) && true))
                  (NB
                    (decide (i.snd.fst = i.snd.fst) &&
                      decide ((0 : Int) ≤ modI x (IntKind.i64.wrap ((↑i.fst : Int) + (1 : Int))) ∧ modI x (IntKind.i64.wrap ((↑i.fst : Int) + (1 : Int))) ≤ (↑i.fst : Int) ∧ (↑i.fst : Int) ≤ (↑i.fst : Int)))
                    (NB
                      ((decide ((↑i.fst : Int).toNat - (modI x (IntKind.i64.wrap ((↑i.fst : Int) + (1 : Int)))).toNat ≤ (1000000 : Nat)) &&
                          opsOK ((↑i.fst : Int).toNat - (modI x (IntKind.i64.wrap ((↑i.fst : Int) + (1 : Int)))).toNat) fun (k : Nat) =>
                            (rgt g ((0 : Nat) + (modI x (IntKind.i64.wrap ((↑i.fst : Int) + (1 : Int)))).toNat + k)).av) &&
                        (decide (i.snd.fst = i.snd.fst) && true))
                      (NB (decide ((listS i.fst fun (i : Nat) => toOpr (rgt g ((0 : Nat) + i)).av).fst.length ≤ (9223372036854775807 : Nat)))
                        (NB
                          (impB
                            (isW true
                              ((listS i.fst fun (i : Nat) => toOpr (rgt g ((0 : Nat) + i)).av).snd == (0 : Int) &&
                                  (listS ((modI x (IntKind.i64.wrap ((↑i.fst : Int) + (1 : Int)))).toNat - Int.toNat (0 : Int)) fun (i : Nat) => toOpr (rgt g ((0 : Nat) + Int.toNat (0 : Int) + i)).av).snd == (0 : Int) &&
                                (listS ((↑i.fst : Int).toNat - (modI x (IntKind.i64.wrap ((↑i.fst : Int) + (1 : Int)))).toNat) fun (i_1 : Nat) =>
                                      toOpr (rgt g ((0 : Nat) + (modI x (IntKind.i64.wrap ((↑i.fst : Int) + (1 : Int)))).toNat + i_1)).av).snd ==
                                  (0 : Int)))
                            (decide
                              ((↑(listS ((modI x (IntKind.i64.wrap ((↑i.fst : Int) + (1 : Int)))).toNat - Int.toNat (0 : Int)) fun (i : Nat) => toOpr (rgt g ((0 : Nat) + Int.toNat (0 : Int) + i)).av).fst.length : Int) +
                                  (↑(listS ((↑i.fst : Int).toNat - (modI x (IntKind.i64.wrap ((↑i.fst : Int) + (1 : Int)))).toNat) fun (i_1 : Nat) =>
                                            toOpr (rgt g ((0 : Nat) + (modI x (IntKind.i64.wrap ((↑i.fst : Int) + (1 : Int)))).toNat + i_1)).av).fst.length :
                                    Int) ≤
                                (9223372036854775807 : Int))))
                          (NB
                            (impB
                              (isW true
                                ((listS i.fst fun (i : Nat) => toOpr (rgt g ((0 : Nat) + i)).av).snd == (0 : Int) &&
                                      (listS ((modI x (IntKind.i64.wrap ((↑i.fst : Int) + (1 : Int)))).toNat - Int.toNat (0 : Int)) fun (i : Nat) => toOpr (rgt g ((0 : Nat) + Int.toNat (0 : Int) + i)).av).snd ==
                                        (0 : Int) &&
                                    (listS ((↑i.fst : Int).toNat - (modI x (IntKind.i64.wrap ((↑i.fst : Int) + (1 : Int)))).toNat) fun (i_1 : Nat) =>
                                          toOpr (rgt g ((0 : Nat) + (modI x (IntKind.i64.wrap ((↑i.fst : Int) + (1 : Int)))).toNat + i_1)).av).snd ==
                                      (0 : Int) &&
                                  (listS i.fst fun (i : Nat) => toOpr (rgt g ((0 : Nat) + i)).av).fst ==
                                    (listS ((modI x (IntKind.i64.wrap ((↑i.fst : Int) + (1 : Int)))).toNat - Int.toNat (0 : Int)) fun (i : Nat) => toOpr (rgt g ((0 : Nat) + Int.toNat (0 : Int) + i)).av).fst ++
                                      (listS ((↑i.fst : Int).toNat - (modI x (IntKind.i64.wrap ((↑i.fst : Int) + (1 : Int)))).toNat) fun (i_1 : Nat) =>
                                          toOpr (rgt g ((0 : Nat) + (modI x (IntKind.i64.wrap ((↑i.fst : Int) + (1 : Int)))).toNat + i_1)).av).fst))
                              (((decide ((plS (listS i.fst fun (i : Nat) => toOpr (rgt g ((0 : Nat) + i)).av).fst).fst ≤ (1000000 : Nat)) && decide (i.fst ≤ (1000000 : Nat)) &&
                                    opsB (plS (listS i.fst fun (i : Nat) => toOpr (rgt g ((0 : Nat) + i)).av).fst).fst fun (i_1 : Nat) => (oAt (listS i.fst fun (i : Nat) => toOpr (rgt g ((0 : Nat) + i)).av).fst i_1).av) &&
                                  opsB i.fst fun (k : Nat) => (cln g ((0 : Nat) + k)).av) &&
                                (true && (decide (i.snd.snd = i.snd.snd) && true))))
                            (((((listS i.fst fun (i : Nat) => toOpr (rgt g ((0 : Nat) + i)).av).snd == (0 : Int) &&
                                            (listS ((modI x (IntKind.i64.wrap ((↑i.fst : Int) + (1 : Int)))).toNat - Int.toNat (0 : Int)) fun (i : Nat) => toOpr (rgt g ((0 : Nat) + Int.toNat (0 : Int) + i)).av).snd ==
                                              (0 : Int) &&
                                          (listS ((↑i.fst : Int).toNat - (modI x (IntKind.i64.wrap ((↑i.fst : Int) + (1 : Int)))).toNat) fun (i_1 : Nat) =>
                                                toOpr (rgt g ((0 : Nat) + (modI x (IntKind.i64.wrap ((↑i.fst : Int) + (1 : Int)))).toNat + i_1)).av).snd ==
                                            (0 : Int) &&
                                        (listS i.fst fun (i : Nat) => toOpr (rgt g ((0 : Nat) + i)).av).fst ==
                                          (listS ((modI x (IntKind.i64.wrap ((↑i.fst : Int) + (1 : Int)))).toNat - Int.toNat (0 : Int)) fun (i : Nat) => toOpr (rgt g ((0 : Nat) + Int.toNat (0 : Int) + i)).av).fst ++
                                            (listS ((↑i.fst : Int).toNat - (modI x (IntKind.i64.wrap ((↑i.fst : Int) + (1 : Int)))).toNat) fun (i_1 : Nat) =>
                                                toOpr (rgt g ((0 : Nat) + (modI x (IntKind.i64.wrap ((↑i.fst : Int) + (1 : Int)))).toNat + i_1)).av).fst &&
                                      sameO (plS (listS i.fst fun (i : Nat) => toOpr (rgt g ((0 : Nat) + i)).av).fst).fst i.fst
                                        (fun (i_1 : Nat) => toOpr (oAt (listS i.fst fun (i : Nat) => toOpr (rgt g ((0 : Nat) + i)).av).fst i_1).av) fun (i : Nat) => toOpr (cln g ((0 : Nat) + i)).av) &&
                                    ((plS (listS i.fst fun (i : Nat) => toOpr (rgt g ((0 : Nat) + i)).av).fst).snd.fst == (0 : Int) &&
                                      ((plS (listS i.fst fun (i : Nat) => toOpr (rgt g ((0 : Nat) + i)).av).fst).snd.snd == (0 : Int) && true)) &&
                                  true) ==
                                true) =
                              true))))))))))) := by
  kernel_rfl

end Go.Proofs.Ytniihecdmcphgaa
namespace Go.Proofs.Ytniihecdmcphgaa
open Pw Go
set_option maxRecDepth 100000
set_option linter.unusedSimpArgs false

theorem encF_len1 {o : Opr} (h : o.x.length ≤ 100) (f : Fld) : (encF o f).length ≤ 102 := by
  cases f <;> simp only [encF, List.length_append, digS_length] <;> omega
theorem flat_len1 {o : Opr} (h : o.x.length ≤ 100) : ∀ fs : List Fld, (fs.flatMap (encF o)).length ≤ 102 * fs.length
  | [] => by simp
  | f :: fs => by
    have h1 := encF_len1 h f
    have h2 := flat_len1 h fs
    rw [List.flatMap_cons, List.length_append, List.length_cons]
    omega
theorem enc_len1 {o : Opr} (h : o.x.length ≤ 100) : (enc o).length ≤ 307 := by
  have h1 := flat_len1 h (fieldsOf o.k)
  have h2 := fields_len o.k
  unfold enc
  rw [List.length_append, digS_length]
  omega
structure PR (o : Opr) : Prop where
  N : OkN o
  c : opChk o = 0
  r : RgN o
  e : (enc o).length ≤ 307
  x : o.x.length ≤ 100
theorem right_PR {o : Opr} (h : RgN o) : PR (opRight o) := by
  obtain ⟨a, b, _⟩ := right_ofN (k := o.k) (x := o.x) h.t h.n h.m h.l h.il h.id
  have hx : (opRight o).x.length ≤ 100 := by show (o.x.take 100).length ≤ 100; rw [List.length_take]; omega
  exact ⟨a, b, ⟨h.t, h.n, h.m, h.l, h.il, h.id⟩, enc_len1 hx, hx⟩
theorem PR.b {o : Opr} (h : PR o) : (opBytes o).1 = enc o := by rw [opBytes_ok h.N h.c]
theorem catS_split (A : Nat → Opr) (j : Nat) : ∀ d, catS A (j + d) = catS A j ++ catS (fun i => A (j + i)) d
  | 0 => by simp [catS]
  | d + 1 => by
    show catS A (j + d) ++ (opBytes (A (j + d))).1 = _
    rw [catS_split A j d, List.append_assoc]
    rfl
theorem catS_len1 {A : Nat → Opr} {n : Nat} (h : ∀ j, j < n → PR (A j)) : ∀ j, j ≤ n → (catS A j).length ≤ 307 * j
  | 0, _ => by simp [catS]
  | j + 1, hj => by
    have h1 := catS_len1 h j (by omega)
    have h2 := (h j (by omega)).e
    show (catS A j ++ (opBytes (A j)).1).length ≤ _
    rw [(h j (by omega)).b, List.length_append]
    omega
theorem cat_at {A : Nat → Opr} {n : Nat} (h : ∀ j, j < n → PR (A j)) : ∀ j, j ≤ n → oOff (catS A n) j = (catS A j).length
  | 0, _ => rfl
  | j + 1, hj => by
    have ih := cat_at h j (by omega)
    have hP := h j (by omega)
    show (opNext (catS A n) (oOff (catS A n) j)).2.at_ = _
    obtain ⟨d, rfl⟩ : ∃ d, n = j + 1 + d := ⟨n - (j + 1), by omega⟩
    rw [ih, catS_split A (j + 1) d]
    show (opNext ((catS A j ++ (opBytes (A j)).1) ++ _) _).2.at_ = (((catS A j ++ (opBytes (A j)).1).length : Nat) : Int)
    rw [hP.b, List.append_assoc, opNext_ok hP.N hP.c]
theorem cat_next {A : Nat → Opr} {n : Nat} (h : ∀ j, j < n → PR (A j)) {j : Nat} (hj : j < n) : oAt (catS A n) j = opCl (A j) ∧ oErr (catS A n) j = 0 := by
  have hP := h j hj
  unfold oAt oErr
  rw [cat_at h j (by omega)]
  obtain ⟨d, rfl⟩ : ∃ d, n = j + 1 + d := ⟨n - (j + 1), by omega⟩
  rw [catS_split A (j + 1) d]
  show (opNext ((catS A j ++ (opBytes (A j)).1) ++ _) _).1 = _ ∧ (opNext ((catS A j ++ (opBytes (A j)).1) ++ _) _).2.err = _
  rw [hP.b, List.append_assoc, opNext_ok hP.N hP.c]
  exact ⟨rfl, rfl⟩
theorem cat_go {A : Nat → Opr} {n : Nat} (h : ∀ j, j < n → PR (A j)) (hn : n ≤ 20) : ∀ f j, j ≤ n → n - j < f → plGo (catS A n) f j = (n, 0, 0)
  | 0, j, _, hf => by omega
  | f + 1, j, hj, hf => by
    rw [plGo, cat_at h j hj]
    by_cases e : j = n
    · subst e
      rw [if_neg (by omega)]
    · have h1 := cat_at h (j + 1) (by omega)
      have h2 := enc_pos (o := A j)
      obtain ⟨d, hd⟩ : ∃ d, n = j + 1 + d := ⟨n - (j + 1), by omega⟩
      have h3 : (catS A j).length < (catS A n).length := by
        rw [hd, catS_split A (j + 1) d]
        show _ < ((catS A j ++ (opBytes (A j)).1) ++ _).length
        rw [(h j (by omega)).b, List.length_append, List.length_append]
        omega
      rw [if_pos (by omega), if_neg (by omega), if_neg (by rw [(cat_next h (by omega : j < n)).2]; simp)]
      exact cat_go h hn f (j + 1) (by omega) (by omega)
theorem cat_pl {A : Nat → Opr} {n : Nat} (h : ∀ j, j < n → PR (A j)) (hn : n ≤ 20) : plS (catS A n) = (n, 0, 0) := by
  have := catS_len1 h n (Nat.le_refl _)
  unfold plS
  rw [if_neg (by omega), cat_go h hn 401 0 (by omega) (by omega)]
theorem cat_list {A : Nat → Opr} {n : Nat} (h : ∀ j, j < n → PR (A j)) (hn : n ≤ 20) : listS n A = (catS A n, 0) := by
  have := catS_len1 h n (Nat.le_refl _)
  rw [listS_all (by omega) (fun j hj => (h j hj).c), if_neg (by omega)]
theorem toOpr_av (o : Opr) : toOpr o.av = o := rfl
theorem opsOK_av {n : Nat} {A : Nat → Opr} (h : ∀ j, j < n → PR (A j)) : (opsOK n fun i => (A i).av) = true := by
  simp only [opsOK, okOpr, List.all_eq_true, List.mem_range, Bool.and_eq_true, decide_eq_true_eq]
  exact fun i hi => ⟨⟨rfl, (h i hi).r.b⟩, Nat.le_trans (h i hi).x (by decide)⟩
theorem opsB_av (n : Nat) (A : Nat → Opr) : (opsB n fun i => (A i).av) = true := by
  simp only [opsB, List.all_eq_true, List.mem_range]
  exact fun i _ => rfl
theorem sameO_of {n : Nat} {A B : Nat → Opr} (h : ∀ j, j < n → A j = B j) : sameO n n A B = true := by
  simp only [sameO, beq_self_eq_true, Bool.true_and, List.all_eq_true, List.mem_range]
  exact fun i hi => eqO_iff.2 (h i hi)
theorem parts_sat (n : Nat) (g : Nat → Opr) (x : Int) (hg : ∀ i, i < n → RgN (g i)) (hk : ∀ i, i < n → -9223372036854775808 ≤ (g i).k ∧ (g i).k ≤ 9223372036854775807) (hx : -9223372036854775808 ≤ x ∧ x ≤ 9223372036854775807) :
    (vcFun (EQ' n g x) 20 8 [opsAV n g, .int .i64 x] .nil 0 (isBool true)).sat := by
  refine (parts_vc n g x).mpr ?_
  refine ⟨⟨(0, 0, 0), ⟨by show 0 ≤ n; omega, by show 0 ≤ 20; omega⟩, ⟨⟨rfl, fun i _ => ⟨⟨rfl, rfl, rfl, rfl, rfl, rfl, rfl, rfl, trivial⟩, rfl⟩, fun h => h⟩, rfl, ⟨rfl, rfl, rfl⟩, ⟨rfl, rfl, rfl⟩, rfl, trivial⟩, rfl, rfl, trivial⟩, fun i hi => ?_⟩
  obtain ⟨i, g1, g2⟩ := i
  have h1 : i ≤ n := hi.1
  have h2 : i ≤ 20 := hi.2
  have hA : ∀ j, j < n → PR (rgt g j) := fun j hj => right_PR (hg j hj)
  refine VB_intro (fun h => ?_) (fun h => ?_)
  · simp only [Bool.and_eq_true, decide_eq_true_eq] at h
    have hn : i < n := by omega
    have hP := hA i hn
    have hc : (opClean (opRight (g i))).2 = 0 := by
      have := opClean_ok hP.c
      show (opClean (rgt g i)).2 = 0
      rw [this]
    refine NB_intro (decide_eq_true (by show (0 : Int) ≤ (i : Int) ∧ (i : Int) < n; omega)) (NB_intro (decide_eq_true (hk i hn)) (NB_intro (need_ofN hP.N) (VB_intro (fun h => ?_) (fun _ => ?_))))
    · have h' : ((opClean (opRight (g i))).2 != 0) = true := h
      rw [hc] at h'
      cases h'
    · have hw : IntKind.i64.wrap ((i : Int) + 1) = ((i + 1 : Nat) : Int) := by rw [wrap_i64]; omega
      have hr : room (i + 1) 72 = true := by simp [room]; omega
      have hr1 : (true && decide (g1 = g1) && room (i + 1) 72) = true := by simp [hr]
      have hr2 : (true && decide (g2 = g2) && room (i + 1) 72) = true := by simp [hr]
      refine ⟨NB_intro hr1 (NB_intro hr2 ?_), NB_intro hr1 (NB_intro hr2 ?_), NB_intro hr1 (NB_intro hr2 ?_)⟩ <;>
      refine ⟨(i + 1, g1 + 1, g2 + 1), ⟨by show i + 1 ≤ n; omega, by show i + 1 ≤ 20; omega⟩, by show 20 - (i + 1) < 20 - i; omega,
        ⟨⟨rfl, fun i _ => ⟨⟨rfl, rfl, rfl, rfl, rfl, rfl, rfl, rfl, trivial⟩, rfl⟩, fun h => h⟩, rfl, ⟨rfl, rfl, rfl, .inl rfl⟩, ⟨rfl, rfl, rfl, .inl rfl⟩, hw, trivial⟩,
        ⟨rfl, fun h => h, rfl, fun q hq => ?_⟩, ⟨rfl, fun h => h, rfl, fun q hq => ?_⟩, trivial⟩ <;>
      · by_cases hqj : q < i
        · simp only [if_pos hqj, Nat.zero_add]
          exact ⟨⟨rfl, rfl, rfl, rfl, rfl, rfl, rfl, rfl, trivial⟩, rfl⟩
        · have hq : q < i + 1 := hq
          have e : q = i := by omega
          subst e
          simp only [if_neg hqj, Nat.sub_self]
          exact ⟨⟨rfl, rfl, rfl, rfl, rfl, rfl, rfl, rfl, trivial⟩, rfl⟩
  · have hn : i = n ∨ i = 20 := by
      simp only [Bool.and_eq_false_iff, decide_eq_false_iff_not] at h
      omega
    have hw : IntKind.i64.wrap ((i : Int) + 1) = ((i + 1 : Nat) : Int) := by rw [wrap_i64]; omega
    obtain ⟨K, hK, hKl⟩ : ∃ K : Nat, modI x ((i + 1 : Nat) : Int) = (K : Int) ∧ K ≤ i := by
      have h1 := Int.emod_nonneg x (by omega : ((i + 1 : Nat) : Int) ≠ 0)
      have h2 := Int.emod_lt_of_pos x (by omega : (0 : Int) < ((i + 1 : Nat) : Int))
      refine ⟨(x % ((i + 1 : Nat) : Int)).toNat, ?_, by omega⟩
      unfold modI
      rw [if_neg (by omega)]
      omega
    have e0 : Int.toNat 0 = 0 := rfl
    have hA1 : ∀ j, j < i → PR (rgt g j) := fun j hj => hA j (by omega)
    have hA2 : ∀ j, j < K → PR (rgt g j) := fun j hj => hA j (by omega)
    have hA3 : ∀ j, j < i - K → PR (rgt g (K + j)) := fun j hj => hA (K + j) (by omega)
    have hl := catS_len1 hA1 i (Nat.le_refl _)
    have hs : catS (rgt g) i = catS (rgt g) K ++ catS (fun j => rgt g (K + j)) (i - K) := by
      have := catS_split (rgt g) K (i - K)
      rwa [show K + (i - K) = i by omega] at this
    have hsl := congrArg List.length hs
    rw [List.length_append] at hsl
    simp only [hw, hK, e0, Int.toNat_natCast, Nat.zero_add, Nat.add_zero, Nat.sub_zero, toOpr_av, cat_list hA1 h2, cat_list hA2 (by omega), cat_list hA3 (by omega), cat_pl hA1 h2, opsOK_av hA1, opsOK_av hA2, opsOK_av hA3]
    have hsame : sameO i i (fun j => oAt (catS (rgt g) i) j) (fun j => cln g j) = true := sameO_of fun j hj => by
      rw [(cat_next hA1 hj).1]
      exact (congrArg Prod.fst (opClean_ok (hA1 j hj).c)).symm
    have hB1 : (opsB i fun j => (oAt (catS (rgt g) i) j).av) = true := opsB_av _ _
    have hB2 : (opsB i fun j => (cln g j).av) = true := opsB_av _ _
    rw [hsame, hB1, hB2, ← hs]
    have d1 : decide (i ≤ 1000000) = true := decide_eq_true (by omega)
    have d2 : decide (K ≤ 1000000) = true := decide_eq_true (by omega)
    have d3 : decide (i - K ≤ 1000000) = true := decide_eq_true (by omega)
    simp only [d1, d2, d3]
    have d4 : decide (((catS (rgt g) K).length : Int) + ((catS (fun j => rgt g (K + j)) (i - K)).length : Int) ≤ 9223372036854775807) = true := decide_eq_true (by omega)
    refine NB_intro (decide_eq_true ⟨hx.1, hx.2, by omega⟩) (NB_intro rfl (NB_intro (by simp; omega) (NB_intro rfl (NB_intro (by simp; omega) (NB_intro rfl (NB_intro (decide_eq_true (by omega)) (NB_intro (by rw [d4]; rfl) (NB_intro (by simp [impB, isW]) (by simp)))))))))
end Go.Proofs.Ytniihecdmcphgaa
