/- OP 24: lists of operations, their code. -/
import Derived.Test.YtniihecdmcphgaaO23
namespace Go.Proofs.Ytniihecdmcphgaa
open Pw Go
set_option maxRecDepth 100000
set_option linter.unusedSimpArgs false

def opsAV (n : Nat) (g : Nat → Opr) : AV := .rof n (fun i => .agg [.int .i64 (g i).k, .int .i64 (g i).t, .int .u64 (g i).l, .str (g i).x, .int .i64 (g i).n, .int .i64 (g i).m, .int .u64 (g i).il, .int .u64 (g i).id]) false
def catS (g : Nat → Opr) : Nat → List UInt8
  | 0 => []
  | i + 1 => catS g i ++ (opBytes (g i)).1
noncomputable def tblL : List (Nat × Ctr) := [(15, cCheck), (12, cBytes), (30, cCheck), (31, cBytesR)]
theorem tblL_ok : TblOK Try.prog (fun _ => .undef) (tblOf tblL) := tbl_cons check_ok (tbl_cons bytes_ok (tbl_cons checkR_ok (tbl_cons bytesR_ok (tbl_nil _))))
def invL0 (n : Nat) (g : Nat → Opr) : Inv := ⟨Nat, 1, fun i => ⟨[(0, opsAV n g), (15, opsAV n g), (16, .int .i64 n), (17, .int .i64 i)], []⟩, fun i => i ≤ n ∧ ∀ j, j < i → opChk (g j) = 0, fun i => n - i⟩
def invL2 (n : Nat) (g : Nat → Opr) : Inv := ⟨Nat, 1, fun i => ⟨[(7, .str (catS g i)), (27, opsAV n g), (28, .int .i64 n), (29, .int .i64 i)], []⟩, fun i => i ≤ n ∧ (∀ j, j < n → opChk (g j) = 0) ∧ (catS g i).length ≤ 20000, fun i => n - i⟩
def invR0 (n : Nat) (g : Nat → Opr) : Inv := ⟨Nat, 1, fun i => ⟨[(0, opsAV n g), (4, .str []), (5, .int .i64 i)], []⟩, fun i => i ≤ n ∧ ∀ j, j < i → opChk (g j) = 0, fun i => n - i⟩
def invR2 (n : Nat) (g : Nat → Opr) : Inv := ⟨Nat, 1, fun i => ⟨[(0, opsAV n g), (4, .str (catS g i)), (7, .int .i64 i)], []⟩, fun i => i ≤ n ∧ (∀ j, j < n → opChk (g j) = 0) ∧ (catS g i).length ≤ 3300 * i, fun i => n - i⟩
def invSame (n m : Nat) (g h : Nat → Opr) : Inv := ⟨Nat, 1, fun i => ⟨[(0, opsAV n g), (1, opsAV m h), (5, .int .i64 i)], []⟩, fun i => i ≤ n ∧ n = m ∧ ∀ j, j < i → g j = h j, fun i => n - i⟩

theorem listI_vc (n : Nat) (g : Nat → Opr) (s : List UInt8) (e : Int) : (vcFun (mkE Try.prog (tblOf tblL) fun f b => if f = 16 then (if b = 0 then some (invL0 n g) else if b = 2 then some (invL2 n g) else none) else none) 20 16 [.rof n (fun i => .agg [.int .i64 (g i).k, .int .i64 (g i).t, .int .u64 (g i).l, .str (g i).x, .int .i64 (g i).n, .int .i64 (g i).m, .int .u64 (g i).il, .int .u64 (g i).id]) false] .nil 0 (retP 3 (.tup [.str s, .int .i64 e]))).sat = (
  VB (decide ((↑n : Int) > (400 : Int))) ([] = s ∧ (4 : Int) = e ∧ True)
    ((∃ (i : Nat),
        (i ≤ n ∧ ∀ (j : Nat), j < i → opChk (g j) = (0 : Int)) ∧
          ((n = n ∧
                (∀ (i : Nat),
                    i < n →
                      ((g i).k = (g i).k ∧ (g i).t = (g i).t ∧ (g i).l = (g i).l ∧ (g i).x = (g i).x ∧ (g i).n = (g i).n ∧ (g i).m = (g i).m ∧ (g i).il = (g i).il ∧ (g i).id = (g i).id ∧ True) ∧
                        [AV.int IntKind.i64 (g i).k, AV.int IntKind.i64 (g i).t, AV.int IntKind.u64 (g i).l, AV.str (g i).x, AV.int IntKind.i64 (g i).n, AV.int IntKind.i64 (g i).m, AV.int IntKind.u64 (g i).il,
                              AV.int IntKind.u64 (g i).id].length =
                          [AV.int IntKind.i64 (g i).k, AV.int IntKind.i64 (g i).t, AV.int IntKind.u64 (g i).l, AV.str (g i).x, AV.int IntKind.i64 (g i).n, AV.int IntKind.i64 (g i).m, AV.int IntKind.u64 (g i).il,
                              AV.int IntKind.u64 (g i).id].length) ∧
                  (false = true → false = true)) ∧
              (n = n ∧
                  (∀ (i : Nat),
                      i < n →
                        ((g i).k = (g i).k ∧ (g i).t = (g i).t ∧ (g i).l = (g i).l ∧ (g i).x = (g i).x ∧ (g i).n = (g i).n ∧ (g i).m = (g i).m ∧ (g i).il = (g i).il ∧ (g i).id = (g i).id ∧ True) ∧
                          [AV.int IntKind.i64 (g i).k, AV.int IntKind.i64 (g i).t, AV.int IntKind.u64 (g i).l, AV.str (g i).x, AV.int IntKind.i64 (g i).n, AV.int IntKind.i64 (g i).m, AV.int IntKind.u64 (g i).il,
                                AV.int IntKind.u64 (g i).id].length =
                            [AV.int IntKind.i64 (g i).k, AV.int IntKind.i64 (g i).t, AV.int IntKind.u64 (g i).l, AV.str (g i).x, AV.int IntKind.i64 (g i).n, AV.int IntKind.i64 (g i).m, AV.int IntKind.u64 (g i).il,
                                AV.int IntKind.u64 (g i).id].length) ∧
                    (false = true → false = true)) ∧
                (↑n : Int) = (↑n : Int) ∧ (0 : Int) = (↑i : Int) ∧ True) ∧
            True) ∧
      ∀ (i : Nat),
        (i ≤ n ∧ ∀ (j : Nat), j < i → opChk (g j) = (0 : Int)) →
          VB (decide ((↑i : Int) < (↑n : Int)))
            (NB (decide ((0 : Int) ≤ (↑i : Int) ∧ (↑i : Int) < (↑n : Int)))
              (VB (opChk (g (↑i : Int).toNat) != (0 : Int)) ([] = s ∧ opChk (g (↑i : Int).toNat) = e ∧ True)
                (∃ (i' : Nat),
                  (i' ≤ n ∧ ∀ (j : Nat), j < i' → opChk (g j) = (0 : Int)) ∧
                    (invL0 n g).μ i' < (invL0 n g).μ i ∧
                      ((n = n ∧
                            (∀ (i : Nat),
                                i < n →
                                  ((g i).k = (g i).k ∧ (g i).t = (g i).t ∧ (g i).l = (g i).l ∧ (g i).x = (g i).x ∧ (g i).n = (g i).n ∧ (g i).m = (g i).m ∧ (g i).il = (g i).il ∧ (g i).id = (g i).id ∧ True) ∧
                                    [AV.int IntKind.i64 (g i).k, AV.int IntKind.i64 (g i).t, AV.int IntKind.u64 (g i).l, AV.str (g i).x, AV.int IntKind.i64 (g i).n, AV.int IntKind.i64 (g i).m, AV.int IntKind.u64 (g i).il,
                                          AV.int IntKind.u64 (g i).id].length =
                                      [AV.int IntKind.i64 (g i).k, AV.int IntKind.i64 (g i).t, AV.int IntKind.u64 (g i).l, AV.str (g i).x, AV.int IntKind.i64 (g i).n, AV.int IntKind.i64 (g i).m,
                                          AV.int IntKind.u64 (g i).il, AV.int IntKind.u64 (g i).id].length) ∧
                              (false = true → false = true)) ∧
                          (n = n ∧
                              (∀ (i : Nat),
                                  i < n →
                                    ((g i).k = (g i).k ∧ (g i).t = (g i).t ∧ (g i).l = (g i).l ∧ (g i).x = (g i).x ∧ (g i).n = (g i).n ∧ (g i).m = (g i).m ∧ (g i).il = (g i).il ∧ (g i).id = (g i).id ∧ True) ∧
                                      [AV.int IntKind.i64 (g i).k, AV.int IntKind.i64 (g i).t, AV.int IntKind.u64 (g i).l, AV.str (g i).x, AV.int IntKind.i64 (g i).n, AV.int IntKind.i64 (g i).m,
                                            AV.int IntKind.u64 (g i).il, AV.int IntKind.u64 (g i).id].length =
                                        [AV.int IntKind.i64 (g i).k, AV.int IntKind.i64 (g i).t, AV.int IntKind.u64 (g i).l, AV.str (g i).x, AV.int IntKind.i64 (g i).n, AV.int IntKind.i64 (g i).m,
                                            AV.int IntKind.u64 (g i).il, AV.int IntKind.u64 (g i).id].length) ∧
                                (false = true → false = true)) ∧
                            (↑n : Int) = (↑n : Int) ∧ IntKind.i64.wrap ((↑i : Int) + (1 : Int)) = (↑i' : Int) ∧ True) ∧
                        True)))
            ((∃ (i : Nat),
                (i ≤ n ∧ (∀ (j : Nat), j < n → opChk (g j) = (0 : Int)) ∧ (catS g i).length ≤ (20000 : Nat)) ∧
                  ([] = catS g i ∧
                      (n = n ∧
                          (∀ (i : Nat),
                              i < n →
                                ((g i).k = (g i).k ∧ (g i).t = (g i).t ∧ (g i).l = (g i).l ∧ (g i).x = (g i).x ∧ (g i).n = (g i).n ∧ (g i).m = (g i).m ∧ (g i).il = (g i).il ∧ (g i).id = (g i).id ∧ True) ∧
                                  [AV.int IntKind.i64 (g i).k, AV.int IntKind.i64 (g i).t, AV.int IntKind.u64 (g i).l, AV.str (g i).x, AV.int IntKind.i64 (g i).n, AV.int IntKind.i64 (g i).m, AV.int IntKind.u64 (g i).il,
                                        AV.int IntKind.u64 (g i).id].length =
                                    [AV.int IntKind.i64 (g i).k, AV.int IntKind.i64 (g i).t, AV.int IntKind.u64 (g i).l, AV.str (g i).x, AV.int IntKind.i64 (g i).n, AV.int IntKind.i64 (g i).m, AV.int IntKind.u64 (g i).il,
                                        AV.int IntKind.u64 (g i).id].length) ∧
                            (false = true → false = true)) ∧
                        (↑n : Int) = (↑n : Int) ∧ (0 : Int) = (↑i : Int) ∧ True) ∧
                    True) ∧
              ∀ (i : Nat),
                i ≤ n ∧ (∀ (j : Nat), j < n → opChk (g j) = (0 : Int)) ∧ (catS g i).length ≤ (20000 : Nat) →
                  VB (decide ((↑i : Int) < (↑n : Int)))
                    (NB (decide ((0 : Int) ≤ (↑i : Int) ∧ (↑i : Int) < (↑n : Int)))
                      (NB (needOp (g (↑i : Int).toNat))
                        (NB (decide ((↑(catS g i).length : Int) + (↑(opBytes (g (↑i : Int).toNat)).fst.length : Int) ≤ (9223372036854775807 : Int)))
                          (VB (decide ((↑(catS g i ++ (opBytes (g (↑i : Int).toNat)).fst).length : Int) > (20000 : Int))) ([] = s ∧ (4 : Int) = e ∧ True)
                            (∃ (i' : Nat),
                              (i' ≤ n ∧ (∀ (j : Nat), j < n → opChk (g j) = (0 : Int)) ∧ (catS g i').length ≤ (20000 : Nat)) ∧
                                (invL2 n g).μ i' < (invL2 n g).μ i ∧
                                  (catS g i ++ (opBytes (g (↑i : Int).toNat)).fst = catS g i' ∧
                                      (n = n ∧
                                          (∀ (i : Nat),
                                              i < n →
                                                ((g i).k = (g i).k ∧ (g i).t = (g i).t ∧ (g i).l = (g i).l ∧ (g i).x = (g i).x ∧ (g i).n = (g i).n ∧ (g i).m = (g i).m ∧ (g i).il = (g i).il ∧ (g i).id = (g i).id ∧ True) ∧
                                                  [AV.int IntKind.i64 (g i).k, AV.int IntKind.i64 (g i).t, AV.int IntKind.u64 (g i).l, AV.str (g i).x, AV.int IntKind.i64 (g i).n, AV.int IntKind.i64 (g i).m,
                                                        AV.int IntKind.u64 (g i).il, AV.int IntKind.u64 (g i).id].length =
                                                    [AV.int IntKind.i64 (g i).k, AV.int IntKind.i64 (g i).t, AV.int IntKind.u64 (g i).l, AV.str (g i).x, AV.int IntKind.i64 (g i).n, AV.int IntKind.i64 (g i).m,
                                                        AV.int IntKind.u64 (g i).il, AV.int IntKind.u64 (g i).id].length) ∧
                                            (false = true → false = true)) ∧
                                        (↑n : Int) = (↑n : Int) ∧ IntKind.i64.wrap ((↑i : Int) + (1 : Int)) = (↑i' : Int) ∧ True) ∧
                                    True)))))
                    (catS g i = s ∧ (0 : Int) = e ∧ True)))) := by
  kernel_rfl

theorem listR_vc (n : Nat) (g : Nat → Opr) (s : List UInt8) (e : Int) : (vcFun (mkE Try.prog (tblOf tblL) fun f b => if f = 17 then (if b = 0 then some (invR0 n g) else if b = 2 then some (invR2 n g) else none) else none) 20 17 [.rof n (fun i => .agg [.int .i64 (g i).k, .int .i64 (g i).t, .int .u64 (g i).l, .str (g i).x, .int .i64 (g i).n, .int .i64 (g i).m, .int .u64 (g i).il, .int .u64 (g i).id]) false] .nil 0 (retP 3 (.tup [.str s, .int .i64 e]))).sat = (
  VB (decide ((↑n : Int) > (400 : Int))) ([] = s ∧ (4 : Int) = e ∧ True)
    ((∃ (i : Nat),
        (i ≤ n ∧ ∀ (j : Nat), j < i → opChk (g j) = (0 : Int)) ∧
          ((n = n ∧
                (∀ (i : Nat),
                    i < n →
                      ((g i).k = (g i).k ∧ (g i).t = (g i).t ∧ (g i).l = (g i).l ∧ (g i).x = (g i).x ∧ (g i).n = (g i).n ∧ (g i).m = (g i).m ∧ (g i).il = (g i).il ∧ (g i).id = (g i).id ∧ True) ∧
                        [AV.int IntKind.i64 (g i).k, AV.int IntKind.i64 (g i).t, AV.int IntKind.u64 (g i).l, AV.str (g i).x, AV.int IntKind.i64 (g i).n, AV.int IntKind.i64 (g i).m, AV.int IntKind.u64 (g i).il,
                              AV.int IntKind.u64 (g i).id].length =
                          [AV.int IntKind.i64 (g i).k, AV.int IntKind.i64 (g i).t, AV.int IntKind.u64 (g i).l, AV.str (g i).x, AV.int IntKind.i64 (g i).n, AV.int IntKind.i64 (g i).m, AV.int IntKind.u64 (g i).il,
                              AV.int IntKind.u64 (g i).id].length) ∧
                  (false = true → false = true)) ∧
              @Eq (List UInt8) [] [] ∧ (0 : Int) = (↑i : Int) ∧ True) ∧
            True) ∧
      ∀ (i : Nat),
        (i ≤ n ∧ ∀ (j : Nat), j < i → opChk (g j) = (0 : Int)) →
          VB (decide ((↑i : Int) < (↑n : Int)))
            (NB (decide ((0 : Int) ≤ (↑i : Int) ∧ (↑i : Int) < (↑n : Int)))
              (VB (opChk (g (↑i : Int).toNat) != (0 : Int)) ([] = s ∧ opChk (g (↑i : Int).toNat) = e ∧ True)
                (∃ (i' : Nat),
                  (i' ≤ n ∧ ∀ (j : Nat), j < i' → opChk (g j) = (0 : Int)) ∧
                    (invR0 n g).μ i' < (invR0 n g).μ i ∧
                      ((n = n ∧
                            (∀ (i : Nat),
                                i < n →
                                  ((g i).k = (g i).k ∧ (g i).t = (g i).t ∧ (g i).l = (g i).l ∧ (g i).x = (g i).x ∧ (g i).n = (g i).n ∧ (g i).m = (g i).m ∧ (g i).il = (g i).il ∧ (g i).id = (g i).id ∧ True) ∧
                                    [AV.int IntKind.i64 (g i).k, AV.int IntKind.i64 (g i).t, AV.int IntKind.u64 (g i).l, AV.str (g i).x, AV.int IntKind.i64 (g i).n, AV.int IntKind.i64 (g i).m, AV.int IntKind.u64 (g i).il,
                                          AV.int IntKind.u64 (g i).id].length =
                                      [AV.int IntKind.i64 (g i).k, AV.int IntKind.i64 (g i).t, AV.int IntKind.u64 (g i).l, AV.str (g i).x, AV.int IntKind.i64 (g i).n, AV.int IntKind.i64 (g i).m,
                                          AV.int IntKind.u64 (g i).il, AV.int IntKind.u64 (g i).id].length) ∧
                              (false = true → false = true)) ∧
                          @Eq (List UInt8) [] [] ∧ IntKind.i64.wrap ((↑i : Int) + (1 : Int)) = (↑i' : Int) ∧ True) ∧
                        True)))
            ((∃ (i : Nat),
                (i ≤ n ∧ (∀ (j : Nat), j < n → opChk (g j) = (0 : Int)) ∧ (catS g i).length ≤ (3300 : Nat) * i) ∧
                  ((n = n ∧
                        (∀ (i : Nat),
                            i < n →
                              ((g i).k = (g i).k ∧ (g i).t = (g i).t ∧ (g i).l = (g i).l ∧ (g i).x = (g i).x ∧ (g i).n = (g i).n ∧ (g i).m = (g i).m ∧ (g i).il = (g i).il ∧ (g i).id = (g i).id ∧ True) ∧
                                [AV.int IntKind.i64 (g i).k, AV.int IntKind.i64 (g i).t, AV.int IntKind.u64 (g i).l, AV.str (g i).x, AV.int IntKind.i64 (g i).n, AV.int IntKind.i64 (g i).m, AV.int IntKind.u64 (g i).il,
                                      AV.int IntKind.u64 (g i).id].length =
                                  [AV.int IntKind.i64 (g i).k, AV.int IntKind.i64 (g i).t, AV.int IntKind.u64 (g i).l, AV.str (g i).x, AV.int IntKind.i64 (g i).n, AV.int IntKind.i64 (g i).m, AV.int IntKind.u64 (g i).il,
                                      AV.int IntKind.u64 (g i).id].length) ∧
                          (false = true → false = true)) ∧
                      [] = catS g i ∧ (0 : Int) = (↑i : Int) ∧ True) ∧
                    True) ∧
              ∀ (i : Nat),
                i ≤ n ∧ (∀ (j : Nat), j < n → opChk (g j) = (0 : Int)) ∧ (catS g i).length ≤ (3300 : Nat) * i →
                  VB (decide ((↑i : Int) < (↑n : Int)))
                    (NB (decide ((0 : Int) ≤ (↑i : Int) ∧ (↑i : Int) < (↑n : Int)))
                      (NB (rgB (g (↑i : Int).toNat) && decide ((g (↑i : Int).toNat).x.length ≤ (9000000000000000000 : Nat)))
                        (NB (decide ((↑(catS g i).length : Int) + (↑(opBytes (g (↑i : Int).toNat)).fst.length : Int) ≤ (9223372036854775807 : Int)))
                          (∃ (i' : Nat),
                            (i' ≤ n ∧ (∀ (j : Nat), j < n → opChk (g j) = (0 : Int)) ∧ (catS g i').length ≤ (3300 : Nat) * i') ∧
                              (invR2 n g).μ i' < (invR2 n g).μ i ∧
                                ((n = n ∧
                                      (∀ (i : Nat),
                                          i < n →
                                            ((g i).k = (g i).k ∧ (g i).t = (g i).t ∧ (g i).l = (g i).l ∧ (g i).x = (g i).x ∧ (g i).n = (g i).n ∧ (g i).m = (g i).m ∧ (g i).il = (g i).il ∧ (g i).id = (g i).id ∧ True) ∧
                                              [AV.int IntKind.i64 (g i).k, AV.int IntKind.i64 (g i).t, AV.int IntKind.u64 (g i).l, AV.str (g i).x, AV.int IntKind.i64 (g i).n, AV.int IntKind.i64 (g i).m,
                                                    AV.int IntKind.u64 (g i).il, AV.int IntKind.u64 (g i).id].length =
                                                [AV.int IntKind.i64 (g i).k, AV.int IntKind.i64 (g i).t, AV.int IntKind.u64 (g i).l, AV.str (g i).x, AV.int IntKind.i64 (g i).n, AV.int IntKind.i64 (g i).m,
                                                    AV.int IntKind.u64 (g i).il, AV.int IntKind.u64 (g i).id].length) ∧
                                        (false = true → false = true)) ∧
                                    catS g i ++ (opBytes (g (↑i : Int).toNat)).fst = catS g i' ∧ IntKind.i64.wrap ((↑i : Int) + (1 : Int)) = (↑i' : Int) ∧ True) ∧
                                  True))))
                    (VB (decide ((↑(catS g i).length : Int) > (20000 : Int))) ([] = s ∧ (4 : Int) = e ∧ True) (catS g i = s ∧ (0 : Int) = e ∧ True))))) := by
  kernel_rfl

theorem same_vc (n m : Nat) (g h : Nat → Opr) (r : Bool) : (vcFun (mkE Try.prog (tblOf tblL) fun f b => if f = 18 ∧ b = 0 then some (invSame n m g h) else none) 20 18 [.rof n (fun i => .agg [.int .i64 (g i).k, .int .i64 (g i).t, .int .u64 (g i).l, .str (g i).x, .int .i64 (g i).n, .int .i64 (g i).m, .int .u64 (g i).il, .int .u64 (g i).id]) false, .rof m (fun i => .agg [.int .i64 (h i).k, .int .i64 (h i).t, .int .u64 (h i).l, .str (h i).x, .int .i64 (h i).n, .int .i64 (h i).m, .int .u64 (h i).il, .int .u64 (h i).id]) false] .nil 0 (retP 3 (.bool r))).sat = (
  VB ((↑n : Int) != (↑m : Int)) (false = r)
    ((∃ (i : Nat),
        (i ≤ n ∧ n = m ∧ ∀ (j : Nat), j < i → g j = h j) ∧
          ((n = n ∧
                (∀ (i : Nat),
                    i < n →
                      ((g i).k = (g i).k ∧ (g i).t = (g i).t ∧ (g i).l = (g i).l ∧ (g i).x = (g i).x ∧ (g i).n = (g i).n ∧ (g i).m = (g i).m ∧ (g i).il = (g i).il ∧ (g i).id = (g i).id ∧ True) ∧
                        [AV.int IntKind.i64 (g i).k, AV.int IntKind.i64 (g i).t, AV.int IntKind.u64 (g i).l, AV.str (g i).x, AV.int IntKind.i64 (g i).n, AV.int IntKind.i64 (g i).m, AV.int IntKind.u64 (g i).il,
                              AV.int IntKind.u64 (g i).id].length =
                          [AV.int IntKind.i64 (g i).k, AV.int IntKind.i64 (g i).t, AV.int IntKind.u64 (g i).l, AV.str (g i).x, AV.int IntKind.i64 (g i).n, AV.int IntKind.i64 (g i).m, AV.int IntKind.u64 (g i).il,
                              AV.int IntKind.u64 (g i).id].length) ∧
                  (false = true → false = true)) ∧
              (m = m ∧
                  (∀ (i : Nat),
                      i < m →
                        ((h i).k = (h i).k ∧ (h i).t = (h i).t ∧ (h i).l = (h i).l ∧ (h i).x = (h i).x ∧ (h i).n = (h i).n ∧ (h i).m = (h i).m ∧ (h i).il = (h i).il ∧ (h i).id = (h i).id ∧ True) ∧
                          [AV.int IntKind.i64 (h i).k, AV.int IntKind.i64 (h i).t, AV.int IntKind.u64 (h i).l, AV.str (h i).x, AV.int IntKind.i64 (h i).n, AV.int IntKind.i64 (h i).m, AV.int IntKind.u64 (h i).il,
                                AV.int IntKind.u64 (h i).id].length =
                            [AV.int IntKind.i64 (h i).k, AV.int IntKind.i64 (h i).t, AV.int IntKind.u64 (h i).l, AV.str (h i).x, AV.int IntKind.i64 (h i).n, AV.int IntKind.i64 (h i).m, AV.int IntKind.u64 (h i).il,
                                AV.int IntKind.u64 (h i).id].length) ∧
                    (false = true → false = true)) ∧
                (0 : Int) = (↑i : Int) ∧ True) ∧
            True) ∧
      ∀ (i : Nat),
        (i ≤ n ∧ n = m ∧ ∀ (j : Nat), j < i → g j = h j) →
          VB (decide ((↑i : Int) < (↑n : Int)))
            (NB (decide ((0 : Int) ≤ (↑i : Int) ∧ (↑i : Int) < (↑n : Int)))
              (NB (decide ((0 : Int) ≤ (↑i : Int) ∧ (↑i : Int) < (↑m : Int)))
                (VB
                  (!((g (↑i : Int).toNat).k == (h (↑i : Int).toNat).k &&
                      ((g (↑i : Int).toNat).t == (h (↑i : Int).toNat).t &&
                        ((g (↑i : Int).toNat).l == (h (↑i : Int).toNat).l &&
                          ((g (↑i : Int).toNat).x == (h (↑i : Int).toNat).x &&
                            ((g (↑i : Int).toNat).n == (h (↑i : Int).toNat).n &&
                              ((g (↑i : Int).toNat).m == (h (↑i : Int).toNat).m && ((g (↑i : Int).toNat).il == (h (↑i : Int).toNat).il && ((g (↑i : Int).toNat).id == (h (↑i : Int).toNat).id && true)))))))))
                  (false = r)
                  (∃ (i' : Nat),
                    (i' ≤ n ∧ n = m ∧ ∀ (j : Nat), j < i' → g j = h j) ∧
                      (invSame n m g h).μ i' < (invSame n m g h).μ i ∧
                        ((n = n ∧
                              (∀ (i : Nat),
                                  i < n →
                                    ((g i).k = (g i).k ∧ (g i).t = (g i).t ∧ (g i).l = (g i).l ∧ (g i).x = (g i).x ∧ (g i).n = (g i).n ∧ (g i).m = (g i).m ∧ (g i).il = (g i).il ∧ (g i).id = (g i).id ∧ True) ∧
                                      [AV.int IntKind.i64 (g i).k, AV.int IntKind.i64 (g i).t, AV.int IntKind.u64 (g i).l, AV.str (g i).x, AV.int IntKind.i64 (g i).n, AV.int IntKind.i64 (g i).m,
                                            AV.int IntKind.u64 (g i).il, AV.int IntKind.u64 (g i).id].length =
                                        [AV.int IntKind.i64 (g i).k, AV.int IntKind.i64 (g i).t, AV.int IntKind.u64 (g i).l, AV.str (g i).x, AV.int IntKind.i64 (g i).n, AV.int IntKind.i64 (g i).m,
                                            AV.int IntKind.u64 (g i).il, AV.int IntKind.u64 (g i).id].length) ∧
                                (false = true → false = true)) ∧
                            (m = m ∧
                                (∀ (i : Nat),
                                    i < m →
                                      ((h i).k = (h i).k ∧ (h i).t = (h i).t ∧ (h i).l = (h i).l ∧ (h i).x = (h i).x ∧ (h i).n = (h i).n ∧ (h i).m = (h i).m ∧ (h i).il = (h i).il ∧ (h i).id = (h i).id ∧ True) ∧
                                        [AV.int IntKind.i64 (h i).k, AV.int IntKind.i64 (h i).t, AV.int IntKind.u64 (h i).l, AV.str (h i).x, AV.int IntKind.i64 (h i).n, AV.int IntKind.i64 (h i).m,
                                              AV.int IntKind.u64 (h i).il, AV.int IntKind.u64 (h i).id].length =
                                          [AV.int IntKind.i64 (h i).k, AV.int IntKind.i64 (h i).t, AV.int IntKind.u64 (h i).l, AV.str (h i).x, AV.int IntKind.i64 (h i).n, AV.int IntKind.i64 (h i).m,
                                              AV.int IntKind.u64 (h i).il, AV.int IntKind.u64 (h i).id].length) ∧
                                  (false = true → false = true)) ∧
                              IntKind.i64.wrap ((↑i : Int) + (1 : Int)) = (↑i' : Int) ∧ True) ∧
                          True))))
            (true = r))) := by
  kernel_rfl

end Go.Proofs.Ytniihecdmcphgaa
