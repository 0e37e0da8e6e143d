/- OP 27: OpLists, its code. -/
import Derived.Test.YtniihecdmcphgaaO25
namespace Go.Proofs.Ytniihecdmcphgaa
open Pw Go
set_option maxRecDepth 100000
set_option linter.unusedSimpArgs false

noncomputable def tblM : List (Nat × Ctr) := [(9, cAwake), (16, cList), (17, cList), (18, cSame)]
theorem tblM_ok : TblOK Try.prog (fun _ => .undef) (tblOf tblM) := tbl_cons awake_ok (tbl_cons listI_ok (tbl_cons listR_ok (tbl_cons same_ok (tbl_nil _))))
def invM (n : Nat) (g : Nat → Opr) : Inv := ⟨Nat, 1, fun i => ⟨[(0, opsAV n g), (3, .int .i64 i)], []⟩, fun i => i ≤ n ∧ ∀ j, j < i → (g j).x.length ≤ 1100, fun i => n - i⟩
noncomputable def EM (n : Nat) (g : Nat → Opr) : Env := mkE Try.prog (tblOf tblM) fun f b => if f = 4 ∧ b = 0 then some (invM n g) else none

theorem lists_vc (n : Nat) (g : Nat → Opr) : (vcFun (EM n g) 20 4 [.rof n (fun i => .agg [.int .i64 (g i).k, .int .i64 (g i).t, .int .u64 (g i).l, .str (g i).x, .int .i64 (g i).n, .int .i64 (g i).m, .int .u64 (g i).il, .int .u64 (g i).id]) false] .nil 0 (isBool true)).sat = (
  VB (decide ((↑n : Int) > (30 : Int)) && decide ((↑n : Int) ≤ (400 : Int)) || decide ((↑n : Int) > (403 : Int))) (true = true)
    ((∃ (i : Nat),
        (i ≤ n ∧ ∀ (j : Nat), j < i → (g j).x.length ≤ (1100 : Nat)) ∧
          ((n = n ∧
                (∀ (i : Nat),
                    i < n →
                      ((g i).k = (g i).k ∧ (g i).t = (g i).t ∧ (g i).l = (g i).l ∧ (g i).x = (g i).x ∧ (g i).n = (g i).n ∧ (g i).m = (g i).m ∧ (g i).il = (g i).il ∧ (g i).id = (g i).id ∧ True) ∧
                        [AV.int IntKind.i64 (g i).k, AV.int IntKind.i64 (g i).t, AV.int IntKind.u64 (g i).l, AV.str (g i).x, AV.int IntKind.i64 (g i).n, AV.int IntKind.i64 (g i).m, AV.int IntKind.u64 (g i).il,
                              AV.int IntKind.u64 (g i).id].length =
                          [AV.int IntKind.i64 (g i).k, AV.int IntKind.i64 (g i).t, AV.int IntKind.u64 (g i).l, AV.str (g i).x, AV.int IntKind.i64 (g i).n, AV.int IntKind.i64 (g i).m, AV.int IntKind.u64 (g i).il,
                              AV.int IntKind.u64 (g i).id].length) ∧
                  (false = true → false = true)) ∧
              (0 : Int) = (↑i : Int) ∧ True) ∧
            True) ∧
      ∀ (i : Nat),
        (i ≤ n ∧ ∀ (j : Nat), j < i → (g j).x.length ≤ (1100 : Nat)) →
          VB (decide ((↑i : Int) < (↑n : Int)))
            (NB (decide ((0 : Int) ≤ (↑i : Int) ∧ (↑i : Int) < (↑n : Int)))
              (VB (decide ((↑(g (↑i : Int).toNat).x.length : Int) > (1100 : Int))) (true = true)
                (∃ (i' : Nat),
                  (i' ≤ n ∧ ∀ (j : Nat), j < i' → (g j).x.length ≤ (1100 : Nat)) ∧
                    (invM n g).μ i' < (invM n g).μ i ∧
                      ((n = n ∧
                            (∀ (i : Nat),
                                i < n →
                                  ((g i).k = (g i).k ∧ (g i).t = (g i).t ∧ (g i).l = (g i).l ∧ (g i).x = (g i).x ∧ (g i).n = (g i).n ∧ (g i).m = (g i).m ∧ (g i).il = (g i).il ∧ (g i).id = (g i).id ∧ True) ∧
                                    [AV.int IntKind.i64 (g i).k, AV.int IntKind.i64 (g i).t, AV.int IntKind.u64 (g i).l, AV.str (g i).x, AV.int IntKind.i64 (g i).n, AV.int IntKind.i64 (g i).m, AV.int IntKind.u64 (g i).il,
                                          AV.int IntKind.u64 (g i).id].length =
                                      [AV.int IntKind.i64 (g i).k, AV.int IntKind.i64 (g i).t, AV.int IntKind.u64 (g i).l, AV.str (g i).x, AV.int IntKind.i64 (g i).n, AV.int IntKind.i64 (g i).m,
                                          AV.int IntKind.u64 (g i).il, AV.int IntKind.u64 (g i).id].length) ∧
                              (false = true → false = true)) ∧
                          IntKind.i64.wrap ((↑i : Int) + (1 : Int)) = (↑i' : Int) ∧ True) ∧
                        True)))
            (NB (true && room ((0 : Nat) + n) (72 : Nat) && true && (n != (0 : Nat) || true))
              (NB
                ((decide ((0 : Nat) + n ≤ (1000000 : Nat)) &&
                    opsOK ((0 : Nat) + n) fun (k : Nat) =>
                      AV.agg
                        [AV.int IntKind.i64 (g ((0 : Nat) + k)).k, AV.int IntKind.i64 (g ((0 : Nat) + k)).t, AV.int IntKind.u64 (g ((0 : Nat) + k)).l, AV.str (g ((0 : Nat) + k)).x, AV.int IntKind.i64 (g ((0 : Nat) + k)).n,
                          AV.int IntKind.i64 (g ((0 : Nat) + k)).m, AV.int IntKind.u64 (g ((0 : Nat) + k)).il, AV.int IntKind.u64 (g ((0 : Nat) + k)).id]) &&
                  true)
                (NB
                  (decide (n ≤ (1000000 : Nat)) &&
                    opsOK n fun (i : Nat) =>
                      AV.agg
                        [AV.int IntKind.i64 (g i).k, AV.int IntKind.i64 (g i).t, AV.int IntKind.u64 (g i).l, AV.str (g i).x, AV.int IntKind.i64 (g i).n, AV.int IntKind.i64 (g i).m, AV.int IntKind.u64 (g i).il,
                          AV.int IntKind.u64 (g i).id])
                  (NB
                    (impB
                      (isW true
                        ((listS ((0 : Nat) + n) fun (i : Nat) =>
                                toOpr
                                  (AV.agg
                                    [AV.int IntKind.i64 (g ((0 : Nat) + i)).k, AV.int IntKind.i64 (g ((0 : Nat) + i)).t, AV.int IntKind.u64 (g ((0 : Nat) + i)).l, AV.str (g ((0 : Nat) + i)).x,
                                      AV.int IntKind.i64 (g ((0 : Nat) + i)).n, AV.int IntKind.i64 (g ((0 : Nat) + i)).m, AV.int IntKind.u64 (g ((0 : Nat) + i)).il, AV.int IntKind.u64 (g ((0 : Nat) + i)).id])).fst ==
                            (listS n fun (i : Nat) =>
                                toOpr
                                  (AV.agg
                                    [AV.int IntKind.i64 (g i).k, AV.int IntKind.i64 (g i).t, AV.int IntKind.u64 (g i).l, AV.str (g i).x, AV.int IntKind.i64 (g i).n, AV.int IntKind.i64 (g i).m, AV.int IntKind.u64 (g i).il,
                                      AV.int IntKind.u64 (g i).id])).fst &&
                          (listS ((0 : Nat) + n) fun (i : Nat) =>
                                toOpr
                                  (AV.agg
                                    [AV.int IntKind.i64 (g ((0 : Nat) + i)).k, AV.int IntKind.i64 (g ((0 : Nat) + i)).t, AV.int IntKind.u64 (g ((0 : Nat) + i)).l, AV.str (g ((0 : Nat) + i)).x,
                                      AV.int IntKind.i64 (g ((0 : Nat) + i)).n, AV.int IntKind.i64 (g ((0 : Nat) + i)).m, AV.int IntKind.u64 (g ((0 : Nat) + i)).il, AV.int IntKind.u64 (g ((0 : Nat) + i)).id])).snd ==
                            (listS n fun (i : Nat) =>
                                toOpr
                                  (AV.agg
                                    [AV.int IntKind.i64 (g i).k, AV.int IntKind.i64 (g i).t, AV.int IntKind.u64 (g i).l, AV.str (g i).x, AV.int IntKind.i64 (g i).n, AV.int IntKind.i64 (g i).m, AV.int IntKind.u64 (g i).il,
                                      AV.int IntKind.u64 (g i).id])).snd))
                      (((decide ((0 : Nat) + n ≤ (1000000 : Nat)) && decide (n ≤ (1000000 : Nat)) &&
                            opsB ((0 : Nat) + n) fun (k : Nat) =>
                              AV.agg
                                [AV.int IntKind.i64 (g ((0 : Nat) + k)).k, AV.int IntKind.i64 (g ((0 : Nat) + k)).t, AV.int IntKind.u64 (g ((0 : Nat) + k)).l, AV.str (g ((0 : Nat) + k)).x,
                                  AV.int IntKind.i64 (g ((0 : Nat) + k)).n, AV.int IntKind.i64 (g ((0 : Nat) + k)).m, AV.int IntKind.u64 (g ((0 : Nat) + k)).il, AV.int IntKind.u64 (g ((0 : Nat) + k)).id]) &&
                          opsB n fun (i : Nat) =>
                            AV.agg
                              [AV.int IntKind.i64 (g i).k, AV.int IntKind.i64 (g i).t, AV.int IntKind.u64 (g i).l, AV.str (g i).x, AV.int IntKind.i64 (g i).n, AV.int IntKind.i64 (g i).m, AV.int IntKind.u64 (g i).il,
                                AV.int IntKind.u64 (g i).id]) &&
                        true))
                    (((((listS ((0 : Nat) + n) fun (i : Nat) =>
                                    toOpr
                                      (AV.agg
                                        [AV.int IntKind.i64 (g ((0 : Nat) + i)).k, AV.int IntKind.i64 (g ((0 : Nat) + i)).t, AV.int IntKind.u64 (g ((0 : Nat) + i)).l, AV.str (g ((0 : Nat) + i)).x,
                                          AV.int IntKind.i64 (g ((0 : Nat) + i)).n, AV.int IntKind.i64 (g ((0 : Nat) + i)).m, AV.int IntKind.u64 (g ((0 : Nat) + i)).il, AV.int IntKind.u64 (g ((0 : Nat) + i)).id])).fst ==
                                (listS n fun (i : Nat) =>
                                    toOpr
                                      (AV.agg
                                        [AV.int IntKind.i64 (g i).k, AV.int IntKind.i64 (g i).t, AV.int IntKind.u64 (g i).l, AV.str (g i).x, AV.int IntKind.i64 (g i).n, AV.int IntKind.i64 (g i).m,
                                          AV.int IntKind.u64 (g i).il, AV.int IntKind.u64 (g i).id])).fst &&
                              (listS ((0 : Nat) + n) fun (i : Nat) =>
                                    toOpr
                                      (AV.agg
                                        [AV.int IntKind.i64 (g ((0 : Nat) + i)).k, AV.int IntKind.i64 (g ((0 : Nat) + i)).t, AV.int IntKind.u64 (g ((0 : Nat) + i)).l, AV.str (g ((0 : Nat) + i)).x,
                                          AV.int IntKind.i64 (g ((0 : Nat) + i)).n, AV.int IntKind.i64 (g ((0 : Nat) + i)).m, AV.int IntKind.u64 (g ((0 : Nat) + i)).il, AV.int IntKind.u64 (g ((0 : Nat) + i)).id])).snd ==
                                (listS n fun (i : Nat) =>
                                    toOpr
                                      (AV.agg
                                        [AV.int IntKind.i64 (g i).k, AV.int IntKind.i64 (g i).t, AV.int IntKind.u64 (g i).l, AV.str (g i).x, AV.int IntKind.i64 (g i).n, AV.int IntKind.i64 (g i).m,
                                          AV.int IntKind.u64 (g i).il, AV.int IntKind.u64 (g i).id])).snd &&
                            sameO ((0 : Nat) + n) n
                              (fun (i : Nat) =>
                                toOpr
                                  (AV.agg
                                    [AV.int IntKind.i64 (g ((0 : Nat) + i)).k, AV.int IntKind.i64 (g ((0 : Nat) + i)).t, AV.int IntKind.u64 (g ((0 : Nat) + i)).l, AV.str (g ((0 : Nat) + i)).x,
                                      AV.int IntKind.i64 (g ((0 : Nat) + i)).n, AV.int IntKind.i64 (g ((0 : Nat) + i)).m, AV.int IntKind.u64 (g ((0 : Nat) + i)).il, AV.int IntKind.u64 (g ((0 : Nat) + i)).id]))
                              fun (i : Nat) =>
                              toOpr
                                (AV.agg
                                  [AV.int IntKind.i64 (g i).k, AV.int IntKind.i64 (g i).t, AV.int IntKind.u64 (g i).l, AV.str (g i).x, AV.int IntKind.i64 (g i).n, AV.int IntKind.i64 (g i).m, AV.int IntKind.u64 (g i).il,
                                    AV.int IntKind.u64 (g i).id])) &&
                          true) ==
                        true) =
                      true))))))) := by
  kernel_rfl

end Go.Proofs.Ytniihecdmcphgaa
