/- OP 9: operations written, their code. -/
import Derived.Test.YtniihecdmcphgaaO8
namespace Go.Proofs.Ytniihecdmcphgaa
open Pw Go
set_option maxRecDepth 100000
set_option linter.unusedSimpArgs false

noncomputable def tblW : List (Nat × Ctr) := [(36, cMake), (35, cPut), (72, cPutSized), (25, cDone)]
theorem tblW_ok : TblOK Try.prog (fun _ => .undef) (tblOf tblW) := tbl_cons makeI_ok (tbl_cons wputI_ok (tbl_cons putSizedI_ok (tbl_cons doneI_ok (tbl_nil _))))
def cCheckU : Ctr
  | [.agg [.int .i64 (.negSucc _), .int .i64 _, .int .u64 _, .str _, .int .i64 _, .int .i64 _, .int .u64 _, .int .u64 _]] => some (true, .int .i64 11)
  | [.agg [.int .i64 (.ofNat (_ + 9)), .int .i64 _, .int .u64 _, .str _, .int .i64 _, .int .i64 _, .int .u64 _, .int .u64 _]] => some (true, .int .i64 11)
  | _ => none
noncomputable def tblU : List (Nat × Ctr) := [(15, cCheckU)]
noncomputable def EU : Env := mkF Try.prog (tblOf tblU) (fun _ _ => none) 4
noncomputable def EW : Env := mkF Try.prog (tblOf tblW) (fun _ _ => none) 4

theorem check_vc (k : Int) (t l n m il id : Int) (x : List UInt8) (r : Int) : (vcFun EW 20 15 [.agg [.int .i64 k, .int .i64 t, .int .u64 l, .str x, .int .i64 n, .int .i64 m, .int .u64 il, .int .u64 id]] .nil 0 (retP 3 (.int .i64 r))).sat = (
  VB (!(decide (k ≥ (1 : Int)) && decide (k ≤ (8 : Int)))) ((11 : Int) = r) (VB ((k == (2 : Int) || k == (4 : Int)) && decide ((↑x.length : Int) > (1000 : Int))) ((4 : Int) = r) ((0 : Int) = r))) := by
  kernel_rfl

theorem known_vc (k : Int) (r : Bool) : (vcFun EW 20 28 [.int .i64 k] .nil 0 (retP 3 (.bool r))).sat = (
  (decide (k ≥ (1 : Int)) && decide (k ≤ (8 : Int))) = r) := by
  kernel_rfl

theorem bytesN_vc (j : Nat) (t l n m il id : Int) (x : List UInt8) (s : List UInt8) (e : Int) : (vcFun EU 40 12 [.agg [.int .i64 (Int.negSucc j), .int .i64 t, .int .u64 l, .str x, .int .i64 n, .int .i64 m, .int .u64 il, .int .u64 id]] .nil 0 (retP 3 (.tup [.str s, .int .i64 e]))).sat = (
  [] = s ∧ (11 : Int) = e ∧ True) := by
  kernel_rfl

theorem cleanN_vc (j : Nat) (t l n m il id : Int) (x : List UInt8) (k1 t1 l1 n1 m1 il1 id1 : Int) (x1 : List UInt8) (e : Int) : (vcFun EU 40 11 [.agg [.int .i64 (Int.negSucc j), .int .i64 t, .int .u64 l, .str x, .int .i64 n, .int .i64 m, .int .u64 il, .int .u64 id]] .nil 0 (retP 3 (.tup [.agg [.int .i64 k1, .int .i64 t1, .int .u64 l1, .str x1, .int .i64 n1, .int .i64 m1, .int .u64 il1, .int .u64 id1], .int .i64 e]))).sat = (
  ((0 : Int) = k1 ∧ (0 : Int) = t1 ∧ (0 : Int) = l1 ∧ [] = x1 ∧ (0 : Int) = n1 ∧ (0 : Int) = m1 ∧ (0 : Int) = il1 ∧ (0 : Int) = id1 ∧ True) ∧ (11 : Int) = e ∧ True) := by
  kernel_rfl

theorem bytesP_vc (j : Nat) (t l n m il id : Int) (x : List UInt8) (s : List UInt8) (e : Int) : (vcFun EU 40 12 [.agg [.int .i64 (Int.ofNat (j + 9)), .int .i64 t, .int .u64 l, .str x, .int .i64 n, .int .i64 m, .int .u64 il, .int .u64 id]] .nil 0 (retP 3 (.tup [.str s, .int .i64 e]))).sat = (
  [] = s ∧ (11 : Int) = e ∧ True) := by
  kernel_rfl

theorem cleanP_vc (j : Nat) (t l n m il id : Int) (x : List UInt8) (k1 t1 l1 n1 m1 il1 id1 : Int) (x1 : List UInt8) (e : Int) : (vcFun EU 40 11 [.agg [.int .i64 (Int.ofNat (j + 9)), .int .i64 t, .int .u64 l, .str x, .int .i64 n, .int .i64 m, .int .u64 il, .int .u64 id]] .nil 0 (retP 3 (.tup [.agg [.int .i64 k1, .int .i64 t1, .int .u64 l1, .str x1, .int .i64 n1, .int .i64 m1, .int .u64 il1, .int .u64 id1], .int .i64 e]))).sat = (
  ((0 : Int) = k1 ∧ (0 : Int) = t1 ∧ (0 : Int) = l1 ∧ [] = x1 ∧ (0 : Int) = n1 ∧ (0 : Int) = m1 ∧ (0 : Int) = il1 ∧ (0 : Int) = id1 ∧ True) ∧ (11 : Int) = e ∧ True) := by
  kernel_rfl

theorem bytes0_vc (t l n m il id : Int) (x : List UInt8) (s : List UInt8) (e : Int) : (vcFun EW 40 12 [.agg [.int .i64 0, .int .i64 t, .int .u64 l, .str x, .int .i64 n, .int .i64 m, .int .u64 il, .int .u64 id]] .nil 0 (retP 3 (.tup [.str s, .int .i64 e]))).sat = (
  [] = s ∧ (11 : Int) = e ∧ True) := by
  kernel_rfl

theorem clean0_vc (t l n m il id : Int) (x : List UInt8) (k1 t1 l1 n1 m1 il1 id1 : Int) (x1 : List UInt8) (e : Int) : (vcFun EW 40 11 [.agg [.int .i64 0, .int .i64 t, .int .u64 l, .str x, .int .i64 n, .int .i64 m, .int .u64 il, .int .u64 id]] .nil 0 (retP 3 (.tup [.agg [.int .i64 k1, .int .i64 t1, .int .u64 l1, .str x1, .int .i64 n1, .int .i64 m1, .int .u64 il1, .int .u64 id1], .int .i64 e]))).sat = (
  ((0 : Int) = k1 ∧ (0 : Int) = t1 ∧ (0 : Int) = l1 ∧ [] = x1 ∧ (0 : Int) = n1 ∧ (0 : Int) = m1 ∧ (0 : Int) = il1 ∧ (0 : Int) = id1 ∧ True) ∧ (11 : Int) = e ∧ True) := by
  kernel_rfl

theorem bytes1_vc (t l n m il id : Int) (x : List UInt8) (s : List UInt8) (e : Int) : (vcFun EW 40 12 [.agg [.int .i64 1, .int .i64 t, .int .u64 l, .str x, .int .i64 n, .int .i64 m, .int .u64 il, .int .u64 id]] .nil 0 (retP 3 (.tup [.str s, .int .i64 e]))).sat = (
  NB
    (decide
      (([] ++ digS (1 : Int) (Int.toNat (1 : Int))).length ≤ (9223372036854775807 : Nat) ∧
        (0 : Int) ≤ IntKind.u64.wrap t ∧ IntKind.u64.wrap t ≤ (18446744073709551615 : Int) ∧ (-9223372036854775808 : Int) ≤ (8 : Int) ∧ (8 : Int) ≤ (9223372036854775807 : Int)))
    (NB
      (decide
        ((wrPut (wrPut (wrUse (Wr.mk [] (20000 : Int) (0 : Int))) (1 : Int) (1 : Int)) (8 : Int) (IntKind.u64.wrap t)).s.length ≤ (9223372036854775807 : Nat) ∧
          (0 : Int) ≤ l ∧ l ≤ (18446744073709551615 : Int) ∧ (-9223372036854775808 : Int) ≤ (8 : Int) ∧ (8 : Int) ≤ (9223372036854775807 : Int)))
      (NB (decide ((wrPut (wrPut (wrPut (wrUse (Wr.mk [] (20000 : Int) (0 : Int))) (1 : Int) (1 : Int)) (8 : Int) (IntKind.u64.wrap t)) (8 : Int) l).s.length ≤ (9223372036854775807 : Nat)))
        ((wrDone (wrPut (wrPut (wrPut (wrUse (Wr.mk [] (20000 : Int) (0 : Int))) (1 : Int) (1 : Int)) (8 : Int) (IntKind.u64.wrap t)) (8 : Int) l)).fst = s ∧
          (wrDone (wrPut (wrPut (wrPut (wrUse (Wr.mk [] (20000 : Int) (0 : Int))) (1 : Int) (1 : Int)) (8 : Int) (IntKind.u64.wrap t)) (8 : Int) l)).snd = e ∧ True)))) := by
  kernel_rfl

theorem clean1_vc (t l n m il id : Int) (x : List UInt8) (k1 t1 l1 n1 m1 il1 id1 : Int) (x1 : List UInt8) (e : Int) : (vcFun EW 40 11 [.agg [.int .i64 1, .int .i64 t, .int .u64 l, .str x, .int .i64 n, .int .i64 m, .int .u64 il, .int .u64 id]] .nil 0 (retP 3 (.tup [.agg [.int .i64 k1, .int .i64 t1, .int .u64 l1, .str x1, .int .i64 n1, .int .i64 m1, .int .u64 il1, .int .u64 id1], .int .i64 e]))).sat = (
  NB
    (decide
      (([] ++ digS (1 : Int) (Int.toNat (1 : Int))).length ≤ (9223372036854775807 : Nat) ∧
        (0 : Int) ≤ IntKind.u64.wrap t ∧ IntKind.u64.wrap t ≤ (18446744073709551615 : Int) ∧ (-9223372036854775808 : Int) ≤ (8 : Int) ∧ (8 : Int) ≤ (9223372036854775807 : Int)))
    (NB
      (decide
        ((wrPut (wrPut (wrUse (Wr.mk [] (20000 : Int) (0 : Int))) (1 : Int) (1 : Int)) (8 : Int) (IntKind.u64.wrap t)).s.length ≤ (9223372036854775807 : Nat) ∧
          (0 : Int) ≤ l ∧ l ≤ (18446744073709551615 : Int) ∧ (-9223372036854775808 : Int) ≤ (8 : Int) ∧ (8 : Int) ≤ (9223372036854775807 : Int)))
      (((1 : Int) = k1 ∧ t = t1 ∧ l = l1 ∧ [] = x1 ∧ (0 : Int) = n1 ∧ (0 : Int) = m1 ∧ (0 : Int) = il1 ∧ (0 : Int) = id1 ∧ True) ∧ (0 : Int) = e ∧ True))) := by
  kernel_rfl

theorem bytes2_vc (t l n m il id : Int) (x : List UInt8) (s : List UInt8) (e : Int) : (vcFun EW 40 12 [.agg [.int .i64 2, .int .i64 t, .int .u64 l, .str x, .int .i64 n, .int .i64 m, .int .u64 il, .int .u64 id]] .nil 0 (retP 3 (.tup [.str s, .int .i64 e]))).sat = (
  VB (true && decide ((↑x.length : Int) > (1000 : Int))) ([] = s ∧ (4 : Int) = e ∧ True)
    (NB
      (decide
        (([] ++ digS (2 : Int) (Int.toNat (1 : Int))).length ≤ (9223372036854775807 : Nat) ∧
          (0 : Int) ≤ IntKind.u64.wrap t ∧ IntKind.u64.wrap t ≤ (18446744073709551615 : Int) ∧ (-9223372036854775808 : Int) ≤ (8 : Int) ∧ (8 : Int) ≤ (9223372036854775807 : Int)))
      (NB (decide ((wrPut (wrPut (wrUse (Wr.mk [] (20000 : Int) (0 : Int))) (1 : Int) (2 : Int)) (8 : Int) (IntKind.u64.wrap t)).s.length ≤ (9223372036854775807 : Nat) ∧ x.length ≤ (9223372036854775807 : Nat)))
        (NB (decide ((wrPutSized (wrPut (wrPut (wrUse (Wr.mk [] (20000 : Int) (0 : Int))) (1 : Int) (2 : Int)) (8 : Int) (IntKind.u64.wrap t)) x).s.length ≤ (9223372036854775807 : Nat)))
          ((wrDone (wrPutSized (wrPut (wrPut (wrUse (Wr.mk [] (20000 : Int) (0 : Int))) (1 : Int) (2 : Int)) (8 : Int) (IntKind.u64.wrap t)) x)).fst = s ∧
            (wrDone (wrPutSized (wrPut (wrPut (wrUse (Wr.mk [] (20000 : Int) (0 : Int))) (1 : Int) (2 : Int)) (8 : Int) (IntKind.u64.wrap t)) x)).snd = e ∧ True))))) := by
  kernel_rfl

theorem clean2_vc (t l n m il id : Int) (x : List UInt8) (k1 t1 l1 n1 m1 il1 id1 : Int) (x1 : List UInt8) (e : Int) : (vcFun EW 40 11 [.agg [.int .i64 2, .int .i64 t, .int .u64 l, .str x, .int .i64 n, .int .i64 m, .int .u64 il, .int .u64 id]] .nil 0 (retP 3 (.tup [.agg [.int .i64 k1, .int .i64 t1, .int .u64 l1, .str x1, .int .i64 n1, .int .i64 m1, .int .u64 il1, .int .u64 id1], .int .i64 e]))).sat = (
  VB (true && decide ((↑x.length : Int) > (1000 : Int))) (((0 : Int) = k1 ∧ (0 : Int) = t1 ∧ (0 : Int) = l1 ∧ [] = x1 ∧ (0 : Int) = n1 ∧ (0 : Int) = m1 ∧ (0 : Int) = il1 ∧ (0 : Int) = id1 ∧ True) ∧ (4 : Int) = e ∧ True)
    (NB
      (decide
        (([] ++ digS (2 : Int) (Int.toNat (1 : Int))).length ≤ (9223372036854775807 : Nat) ∧
          (0 : Int) ≤ IntKind.u64.wrap t ∧ IntKind.u64.wrap t ≤ (18446744073709551615 : Int) ∧ (-9223372036854775808 : Int) ≤ (8 : Int) ∧ (8 : Int) ≤ (9223372036854775807 : Int)))
      (NB (decide ((wrPut (wrPut (wrUse (Wr.mk [] (20000 : Int) (0 : Int))) (1 : Int) (2 : Int)) (8 : Int) (IntKind.u64.wrap t)).s.length ≤ (9223372036854775807 : Nat) ∧ x.length ≤ (9223372036854775807 : Nat)))
        (((2 : Int) = k1 ∧ t = t1 ∧ (0 : Int) = l1 ∧ x = x1 ∧ (0 : Int) = n1 ∧ (0 : Int) = m1 ∧ (0 : Int) = il1 ∧ (0 : Int) = id1 ∧ True) ∧ (0 : Int) = e ∧ True)))) := by
  kernel_rfl

theorem bytes3_vc (t l n m il id : Int) (x : List UInt8) (s : List UInt8) (e : Int) : (vcFun EW 40 12 [.agg [.int .i64 3, .int .i64 t, .int .u64 l, .str x, .int .i64 n, .int .i64 m, .int .u64 il, .int .u64 id]] .nil 0 (retP 3 (.tup [.str s, .int .i64 e]))).sat = (
  NB
    (decide
      (([] ++ digS (3 : Int) (Int.toNat (1 : Int))).length ≤ (9223372036854775807 : Nat) ∧
        (0 : Int) ≤ IntKind.u64.wrap t ∧ IntKind.u64.wrap t ≤ (18446744073709551615 : Int) ∧ (-9223372036854775808 : Int) ≤ (8 : Int) ∧ (8 : Int) ≤ (9223372036854775807 : Int)))
    (NB
      (decide
        ((wrPut (wrPut (wrUse (Wr.mk [] (20000 : Int) (0 : Int))) (1 : Int) (3 : Int)) (8 : Int) (IntKind.u64.wrap t)).s.length ≤ (9223372036854775807 : Nat) ∧
          (0 : Int) ≤ IntKind.u64.wrap n ∧ IntKind.u64.wrap n ≤ (18446744073709551615 : Int) ∧ (-9223372036854775808 : Int) ≤ (8 : Int) ∧ (8 : Int) ≤ (9223372036854775807 : Int)))
      (NB (decide ((wrPut (wrPut (wrPut (wrUse (Wr.mk [] (20000 : Int) (0 : Int))) (1 : Int) (3 : Int)) (8 : Int) (IntKind.u64.wrap t)) (8 : Int) (IntKind.u64.wrap n)).s.length ≤ (9223372036854775807 : Nat)))
        ((wrDone (wrPut (wrPut (wrPut (wrUse (Wr.mk [] (20000 : Int) (0 : Int))) (1 : Int) (3 : Int)) (8 : Int) (IntKind.u64.wrap t)) (8 : Int) (IntKind.u64.wrap n))).fst = s ∧
          (wrDone (wrPut (wrPut (wrPut (wrUse (Wr.mk [] (20000 : Int) (0 : Int))) (1 : Int) (3 : Int)) (8 : Int) (IntKind.u64.wrap t)) (8 : Int) (IntKind.u64.wrap n))).snd = e ∧ True)))) := by
  kernel_rfl

theorem clean3_vc (t l n m il id : Int) (x : List UInt8) (k1 t1 l1 n1 m1 il1 id1 : Int) (x1 : List UInt8) (e : Int) : (vcFun EW 40 11 [.agg [.int .i64 3, .int .i64 t, .int .u64 l, .str x, .int .i64 n, .int .i64 m, .int .u64 il, .int .u64 id]] .nil 0 (retP 3 (.tup [.agg [.int .i64 k1, .int .i64 t1, .int .u64 l1, .str x1, .int .i64 n1, .int .i64 m1, .int .u64 il1, .int .u64 id1], .int .i64 e]))).sat = (
  NB
    (decide
      (([] ++ digS (3 : Int) (Int.toNat (1 : Int))).length ≤ (9223372036854775807 : Nat) ∧
        (0 : Int) ≤ IntKind.u64.wrap t ∧ IntKind.u64.wrap t ≤ (18446744073709551615 : Int) ∧ (-9223372036854775808 : Int) ≤ (8 : Int) ∧ (8 : Int) ≤ (9223372036854775807 : Int)))
    (NB
      (decide
        ((wrPut (wrPut (wrUse (Wr.mk [] (20000 : Int) (0 : Int))) (1 : Int) (3 : Int)) (8 : Int) (IntKind.u64.wrap t)).s.length ≤ (9223372036854775807 : Nat) ∧
          (0 : Int) ≤ IntKind.u64.wrap n ∧ IntKind.u64.wrap n ≤ (18446744073709551615 : Int) ∧ (-9223372036854775808 : Int) ≤ (8 : Int) ∧ (8 : Int) ≤ (9223372036854775807 : Int)))
      (((3 : Int) = k1 ∧ t = t1 ∧ (0 : Int) = l1 ∧ [] = x1 ∧ n = n1 ∧ (0 : Int) = m1 ∧ (0 : Int) = il1 ∧ (0 : Int) = id1 ∧ True) ∧ (0 : Int) = e ∧ True))) := by
  kernel_rfl

theorem bytes4_vc (t l n m il id : Int) (x : List UInt8) (s : List UInt8) (e : Int) : (vcFun EW 40 12 [.agg [.int .i64 4, .int .i64 t, .int .u64 l, .str x, .int .i64 n, .int .i64 m, .int .u64 il, .int .u64 id]] .nil 0 (retP 3 (.tup [.str s, .int .i64 e]))).sat = (
  VB (true && decide ((↑x.length : Int) > (1000 : Int))) ([] = s ∧ (4 : Int) = e ∧ True)
    (NB (decide (([] ++ digS (4 : Int) (Int.toNat (1 : Int))).length ≤ (9223372036854775807 : Nat) ∧ x.length ≤ (9223372036854775807 : Nat)))
      (NB (decide ((wrPutSized (wrPut (wrUse (Wr.mk [] (20000 : Int) (0 : Int))) (1 : Int) (4 : Int)) x).s.length ≤ (9223372036854775807 : Nat)))
        ((wrDone (wrPutSized (wrPut (wrUse (Wr.mk [] (20000 : Int) (0 : Int))) (1 : Int) (4 : Int)) x)).fst = s ∧
          (wrDone (wrPutSized (wrPut (wrUse (Wr.mk [] (20000 : Int) (0 : Int))) (1 : Int) (4 : Int)) x)).snd = e ∧ True)))) := by
  kernel_rfl

theorem clean4_vc (t l n m il id : Int) (x : List UInt8) (k1 t1 l1 n1 m1 il1 id1 : Int) (x1 : List UInt8) (e : Int) : (vcFun EW 40 11 [.agg [.int .i64 4, .int .i64 t, .int .u64 l, .str x, .int .i64 n, .int .i64 m, .int .u64 il, .int .u64 id]] .nil 0 (retP 3 (.tup [.agg [.int .i64 k1, .int .i64 t1, .int .u64 l1, .str x1, .int .i64 n1, .int .i64 m1, .int .u64 il1, .int .u64 id1], .int .i64 e]))).sat = (
  VB (true && decide ((↑x.length : Int) > (1000 : Int))) (((0 : Int) = k1 ∧ (0 : Int) = t1 ∧ (0 : Int) = l1 ∧ [] = x1 ∧ (0 : Int) = n1 ∧ (0 : Int) = m1 ∧ (0 : Int) = il1 ∧ (0 : Int) = id1 ∧ True) ∧ (4 : Int) = e ∧ True)
    (NB (decide (([] ++ digS (4 : Int) (Int.toNat (1 : Int))).length ≤ (9223372036854775807 : Nat) ∧ x.length ≤ (9223372036854775807 : Nat)))
      (((4 : Int) = k1 ∧ (0 : Int) = t1 ∧ (0 : Int) = l1 ∧ x = x1 ∧ (0 : Int) = n1 ∧ (0 : Int) = m1 ∧ (0 : Int) = il1 ∧ (0 : Int) = id1 ∧ True) ∧ (0 : Int) = e ∧ True))) := by
  kernel_rfl

theorem bytes5_vc (t l n m il id : Int) (x : List UInt8) (s : List UInt8) (e : Int) : (vcFun EW 40 12 [.agg [.int .i64 5, .int .i64 t, .int .u64 l, .str x, .int .i64 n, .int .i64 m, .int .u64 il, .int .u64 id]] .nil 0 (retP 3 (.tup [.str s, .int .i64 e]))).sat = (
  [] ++ digS (5 : Int) (Int.toNat (1 : Int)) = s ∧ (0 : Int) = e ∧ True) := by
  kernel_rfl

theorem clean5_vc (t l n m il id : Int) (x : List UInt8) (k1 t1 l1 n1 m1 il1 id1 : Int) (x1 : List UInt8) (e : Int) : (vcFun EW 40 11 [.agg [.int .i64 5, .int .i64 t, .int .u64 l, .str x, .int .i64 n, .int .i64 m, .int .u64 il, .int .u64 id]] .nil 0 (retP 3 (.tup [.agg [.int .i64 k1, .int .i64 t1, .int .u64 l1, .str x1, .int .i64 n1, .int .i64 m1, .int .u64 il1, .int .u64 id1], .int .i64 e]))).sat = (
  ((5 : Int) = k1 ∧ (0 : Int) = t1 ∧ (0 : Int) = l1 ∧ [] = x1 ∧ (0 : Int) = n1 ∧ (0 : Int) = m1 ∧ (0 : Int) = il1 ∧ (0 : Int) = id1 ∧ True) ∧ (0 : Int) = e ∧ True) := by
  kernel_rfl

theorem bytes6_vc (t l n m il id : Int) (x : List UInt8) (s : List UInt8) (e : Int) : (vcFun EW 40 12 [.agg [.int .i64 6, .int .i64 t, .int .u64 l, .str x, .int .i64 n, .int .i64 m, .int .u64 il, .int .u64 id]] .nil 0 (retP 3 (.tup [.str s, .int .i64 e]))).sat = (
  NB
    (decide
      (([] ++ digS (6 : Int) (Int.toNat (1 : Int))).length ≤ (9223372036854775807 : Nat) ∧
        (0 : Int) ≤ IntKind.u64.wrap t ∧ IntKind.u64.wrap t ≤ (18446744073709551615 : Int) ∧ (-9223372036854775808 : Int) ≤ (8 : Int) ∧ (8 : Int) ≤ (9223372036854775807 : Int)))
    (NB
      (decide
        ((wrPut (wrPut (wrUse (Wr.mk [] (20000 : Int) (0 : Int))) (1 : Int) (6 : Int)) (8 : Int) (IntKind.u64.wrap t)).s.length ≤ (9223372036854775807 : Nat) ∧
          (0 : Int) ≤ IntKind.u64.wrap m ∧ IntKind.u64.wrap m ≤ (18446744073709551615 : Int) ∧ (-9223372036854775808 : Int) ≤ (8 : Int) ∧ (8 : Int) ≤ (9223372036854775807 : Int)))
      (NB (decide ((wrPut (wrPut (wrPut (wrUse (Wr.mk [] (20000 : Int) (0 : Int))) (1 : Int) (6 : Int)) (8 : Int) (IntKind.u64.wrap t)) (8 : Int) (IntKind.u64.wrap m)).s.length ≤ (9223372036854775807 : Nat)))
        ((wrDone (wrPut (wrPut (wrPut (wrUse (Wr.mk [] (20000 : Int) (0 : Int))) (1 : Int) (6 : Int)) (8 : Int) (IntKind.u64.wrap t)) (8 : Int) (IntKind.u64.wrap m))).fst = s ∧
          (wrDone (wrPut (wrPut (wrPut (wrUse (Wr.mk [] (20000 : Int) (0 : Int))) (1 : Int) (6 : Int)) (8 : Int) (IntKind.u64.wrap t)) (8 : Int) (IntKind.u64.wrap m))).snd = e ∧ True)))) := by
  kernel_rfl

theorem clean6_vc (t l n m il id : Int) (x : List UInt8) (k1 t1 l1 n1 m1 il1 id1 : Int) (x1 : List UInt8) (e : Int) : (vcFun EW 40 11 [.agg [.int .i64 6, .int .i64 t, .int .u64 l, .str x, .int .i64 n, .int .i64 m, .int .u64 il, .int .u64 id]] .nil 0 (retP 3 (.tup [.agg [.int .i64 k1, .int .i64 t1, .int .u64 l1, .str x1, .int .i64 n1, .int .i64 m1, .int .u64 il1, .int .u64 id1], .int .i64 e]))).sat = (
  NB
    (decide
      (([] ++ digS (6 : Int) (Int.toNat (1 : Int))).length ≤ (9223372036854775807 : Nat) ∧
        (0 : Int) ≤ IntKind.u64.wrap t ∧ IntKind.u64.wrap t ≤ (18446744073709551615 : Int) ∧ (-9223372036854775808 : Int) ≤ (8 : Int) ∧ (8 : Int) ≤ (9223372036854775807 : Int)))
    (NB
      (decide
        ((wrPut (wrPut (wrUse (Wr.mk [] (20000 : Int) (0 : Int))) (1 : Int) (6 : Int)) (8 : Int) (IntKind.u64.wrap t)).s.length ≤ (9223372036854775807 : Nat) ∧
          (0 : Int) ≤ IntKind.u64.wrap m ∧ IntKind.u64.wrap m ≤ (18446744073709551615 : Int) ∧ (-9223372036854775808 : Int) ≤ (8 : Int) ∧ (8 : Int) ≤ (9223372036854775807 : Int)))
      (((6 : Int) = k1 ∧ t = t1 ∧ (0 : Int) = l1 ∧ [] = x1 ∧ (0 : Int) = n1 ∧ m = m1 ∧ (0 : Int) = il1 ∧ (0 : Int) = id1 ∧ True) ∧ (0 : Int) = e ∧ True))) := by
  kernel_rfl

theorem bytes7_vc (t l n m il id : Int) (x : List UInt8) (s : List UInt8) (e : Int) : (vcFun EW 40 12 [.agg [.int .i64 7, .int .i64 t, .int .u64 l, .str x, .int .i64 n, .int .i64 m, .int .u64 il, .int .u64 id]] .nil 0 (retP 3 (.tup [.str s, .int .i64 e]))).sat = (
  NB
    (decide
      (([] ++ digS (7 : Int) (Int.toNat (1 : Int))).length ≤ (9223372036854775807 : Nat) ∧
        (0 : Int) ≤ IntKind.u64.wrap t ∧ IntKind.u64.wrap t ≤ (18446744073709551615 : Int) ∧ (-9223372036854775808 : Int) ≤ (8 : Int) ∧ (8 : Int) ≤ (9223372036854775807 : Int)))
    (NB
      (decide
        ((wrPut (wrPut (wrUse (Wr.mk [] (20000 : Int) (0 : Int))) (1 : Int) (7 : Int)) (8 : Int) (IntKind.u64.wrap t)).s.length ≤ (9223372036854775807 : Nat) ∧
          (0 : Int) ≤ IntKind.u64.wrap n ∧ IntKind.u64.wrap n ≤ (18446744073709551615 : Int) ∧ (-9223372036854775808 : Int) ≤ (8 : Int) ∧ (8 : Int) ≤ (9223372036854775807 : Int)))
      (NB
        (decide
          ((wrPut (wrPut (wrPut (wrUse (Wr.mk [] (20000 : Int) (0 : Int))) (1 : Int) (7 : Int)) (8 : Int) (IntKind.u64.wrap t)) (8 : Int) (IntKind.u64.wrap n)).s.length ≤ (9223372036854775807 : Nat) ∧
            (0 : Int) ≤ il ∧ il ≤ (18446744073709551615 : Int) ∧ (-9223372036854775808 : Int) ≤ (8 : Int) ∧ (8 : Int) ≤ (9223372036854775807 : Int)))
        (NB
          (decide
            ((wrPut (wrPut (wrPut (wrPut (wrUse (Wr.mk [] (20000 : Int) (0 : Int))) (1 : Int) (7 : Int)) (8 : Int) (IntKind.u64.wrap t)) (8 : Int) (IntKind.u64.wrap n)) (8 : Int) il).s.length ≤
                (9223372036854775807 : Nat) ∧
              (0 : Int) ≤ id ∧ id ≤ (18446744073709551615 : Int) ∧ (-9223372036854775808 : Int) ≤ (8 : Int) ∧ (8 : Int) ≤ (9223372036854775807 : Int)))
          (NB
            (decide
              ((wrPut (wrPut (wrPut (wrPut (wrPut (wrUse (Wr.mk [] (20000 : Int) (0 : Int))) (1 : Int) (7 : Int)) (8 : Int) (IntKind.u64.wrap t)) (8 : Int) (IntKind.u64.wrap n)) (8 : Int) il) (8 : Int) id).s.length ≤
                (9223372036854775807 : Nat)))
            ((wrDone (wrPut (wrPut (wrPut (wrPut (wrPut (wrUse (Wr.mk [] (20000 : Int) (0 : Int))) (1 : Int) (7 : Int)) (8 : Int) (IntKind.u64.wrap t)) (8 : Int) (IntKind.u64.wrap n)) (8 : Int) il) (8 : Int) id)).fst = s ∧
              (wrDone (wrPut (wrPut (wrPut (wrPut (wrPut (wrUse (Wr.mk [] (20000 : Int) (0 : Int))) (1 : Int) (7 : Int)) (8 : Int) (IntKind.u64.wrap t)) (8 : Int) (IntKind.u64.wrap n)) (8 : Int) il) (8 : Int) id)).snd =
                  e ∧
                True)))))) := by
  kernel_rfl

theorem clean7_vc (t l n m il id : Int) (x : List UInt8) (k1 t1 l1 n1 m1 il1 id1 : Int) (x1 : List UInt8) (e : Int) : (vcFun EW 40 11 [.agg [.int .i64 7, .int .i64 t, .int .u64 l, .str x, .int .i64 n, .int .i64 m, .int .u64 il, .int .u64 id]] .nil 0 (retP 3 (.tup [.agg [.int .i64 k1, .int .i64 t1, .int .u64 l1, .str x1, .int .i64 n1, .int .i64 m1, .int .u64 il1, .int .u64 id1], .int .i64 e]))).sat = (
  NB
    (decide
      (([] ++ digS (7 : Int) (Int.toNat (1 : Int))).length ≤ (9223372036854775807 : Nat) ∧
        (0 : Int) ≤ IntKind.u64.wrap t ∧ IntKind.u64.wrap t ≤ (18446744073709551615 : Int) ∧ (-9223372036854775808 : Int) ≤ (8 : Int) ∧ (8 : Int) ≤ (9223372036854775807 : Int)))
    (NB
      (decide
        ((wrPut (wrPut (wrUse (Wr.mk [] (20000 : Int) (0 : Int))) (1 : Int) (7 : Int)) (8 : Int) (IntKind.u64.wrap t)).s.length ≤ (9223372036854775807 : Nat) ∧
          (0 : Int) ≤ IntKind.u64.wrap n ∧ IntKind.u64.wrap n ≤ (18446744073709551615 : Int) ∧ (-9223372036854775808 : Int) ≤ (8 : Int) ∧ (8 : Int) ≤ (9223372036854775807 : Int)))
      (NB
        (decide
          ((wrPut (wrPut (wrPut (wrUse (Wr.mk [] (20000 : Int) (0 : Int))) (1 : Int) (7 : Int)) (8 : Int) (IntKind.u64.wrap t)) (8 : Int) (IntKind.u64.wrap n)).s.length ≤ (9223372036854775807 : Nat) ∧
            (0 : Int) ≤ il ∧ il ≤ (18446744073709551615 : Int) ∧ (-9223372036854775808 : Int) ≤ (8 : Int) ∧ (8 : Int) ≤ (9223372036854775807 : Int)))
        (NB
          (decide
            ((wrPut (wrPut (wrPut (wrPut (wrUse (Wr.mk [] (20000 : Int) (0 : Int))) (1 : Int) (7 : Int)) (8 : Int) (IntKind.u64.wrap t)) (8 : Int) (IntKind.u64.wrap n)) (8 : Int) il).s.length ≤
                (9223372036854775807 : Nat) ∧
              (0 : Int) ≤ id ∧ id ≤ (18446744073709551615 : Int) ∧ (-9223372036854775808 : Int) ≤ (8 : Int) ∧ (8 : Int) ≤ (9223372036854775807 : Int)))
          (((7 : Int) = k1 ∧ t = t1 ∧ (0 : Int) = l1 ∧ [] = x1 ∧ n = n1 ∧ (0 : Int) = m1 ∧ il = il1 ∧ id = id1 ∧ True) ∧ (0 : Int) = e ∧ True))))) := by
  kernel_rfl

theorem bytes8_vc (t l n m il id : Int) (x : List UInt8) (s : List UInt8) (e : Int) : (vcFun EW 40 12 [.agg [.int .i64 8, .int .i64 t, .int .u64 l, .str x, .int .i64 n, .int .i64 m, .int .u64 il, .int .u64 id]] .nil 0 (retP 3 (.tup [.str s, .int .i64 e]))).sat = (
  NB
    (decide
      (([] ++ digS (8 : Int) (Int.toNat (1 : Int))).length ≤ (9223372036854775807 : Nat) ∧
        (0 : Int) ≤ IntKind.u64.wrap t ∧ IntKind.u64.wrap t ≤ (18446744073709551615 : Int) ∧ (-9223372036854775808 : Int) ≤ (8 : Int) ∧ (8 : Int) ≤ (9223372036854775807 : Int)))
    (NB
      (decide
        ((wrPut (wrPut (wrUse (Wr.mk [] (20000 : Int) (0 : Int))) (1 : Int) (8 : Int)) (8 : Int) (IntKind.u64.wrap t)).s.length ≤ (9223372036854775807 : Nat) ∧
          (0 : Int) ≤ IntKind.u64.wrap n ∧ IntKind.u64.wrap n ≤ (18446744073709551615 : Int) ∧ (-9223372036854775808 : Int) ≤ (8 : Int) ∧ (8 : Int) ≤ (9223372036854775807 : Int)))
      (NB
        (decide
          ((wrPut (wrPut (wrPut (wrUse (Wr.mk [] (20000 : Int) (0 : Int))) (1 : Int) (8 : Int)) (8 : Int) (IntKind.u64.wrap t)) (8 : Int) (IntKind.u64.wrap n)).s.length ≤ (9223372036854775807 : Nat) ∧
            (0 : Int) ≤ IntKind.u64.wrap m ∧ IntKind.u64.wrap m ≤ (18446744073709551615 : Int) ∧ (-9223372036854775808 : Int) ≤ (8 : Int) ∧ (8 : Int) ≤ (9223372036854775807 : Int)))
        (NB
          (decide
            ((wrPut (wrPut (wrPut (wrPut (wrUse (Wr.mk [] (20000 : Int) (0 : Int))) (1 : Int) (8 : Int)) (8 : Int) (IntKind.u64.wrap t)) (8 : Int) (IntKind.u64.wrap n)) (8 : Int) (IntKind.u64.wrap m)).s.length ≤
              (9223372036854775807 : Nat)))
          ((wrDone (wrPut (wrPut (wrPut (wrPut (wrUse (Wr.mk [] (20000 : Int) (0 : Int))) (1 : Int) (8 : Int)) (8 : Int) (IntKind.u64.wrap t)) (8 : Int) (IntKind.u64.wrap n)) (8 : Int) (IntKind.u64.wrap m))).fst = s ∧
            (wrDone (wrPut (wrPut (wrPut (wrPut (wrUse (Wr.mk [] (20000 : Int) (0 : Int))) (1 : Int) (8 : Int)) (8 : Int) (IntKind.u64.wrap t)) (8 : Int) (IntKind.u64.wrap n)) (8 : Int) (IntKind.u64.wrap m))).snd = e ∧
              True))))) := by
  kernel_rfl

theorem clean8_vc (t l n m il id : Int) (x : List UInt8) (k1 t1 l1 n1 m1 il1 id1 : Int) (x1 : List UInt8) (e : Int) : (vcFun EW 40 11 [.agg [.int .i64 8, .int .i64 t, .int .u64 l, .str x, .int .i64 n, .int .i64 m, .int .u64 il, .int .u64 id]] .nil 0 (retP 3 (.tup [.agg [.int .i64 k1, .int .i64 t1, .int .u64 l1, .str x1, .int .i64 n1, .int .i64 m1, .int .u64 il1, .int .u64 id1], .int .i64 e]))).sat = (
  NB
    (decide
      (([] ++ digS (8 : Int) (Int.toNat (1 : Int))).length ≤ (9223372036854775807 : Nat) ∧
        (0 : Int) ≤ IntKind.u64.wrap t ∧ IntKind.u64.wrap t ≤ (18446744073709551615 : Int) ∧ (-9223372036854775808 : Int) ≤ (8 : Int) ∧ (8 : Int) ≤ (9223372036854775807 : Int)))
    (NB
      (decide
        ((wrPut (wrPut (wrUse (Wr.mk [] (20000 : Int) (0 : Int))) (1 : Int) (8 : Int)) (8 : Int) (IntKind.u64.wrap t)).s.length ≤ (9223372036854775807 : Nat) ∧
          (0 : Int) ≤ IntKind.u64.wrap n ∧ IntKind.u64.wrap n ≤ (18446744073709551615 : Int) ∧ (-9223372036854775808 : Int) ≤ (8 : Int) ∧ (8 : Int) ≤ (9223372036854775807 : Int)))
      (NB
        (decide
          ((wrPut (wrPut (wrPut (wrUse (Wr.mk [] (20000 : Int) (0 : Int))) (1 : Int) (8 : Int)) (8 : Int) (IntKind.u64.wrap t)) (8 : Int) (IntKind.u64.wrap n)).s.length ≤ (9223372036854775807 : Nat) ∧
            (0 : Int) ≤ IntKind.u64.wrap m ∧ IntKind.u64.wrap m ≤ (18446744073709551615 : Int) ∧ (-9223372036854775808 : Int) ≤ (8 : Int) ∧ (8 : Int) ≤ (9223372036854775807 : Int)))
        (((8 : Int) = k1 ∧ t = t1 ∧ (0 : Int) = l1 ∧ [] = x1 ∧ n = n1 ∧ m = m1 ∧ (0 : Int) = il1 ∧ (0 : Int) = id1 ∧ True) ∧ (0 : Int) = e ∧ True)))) := by
  kernel_rfl

end Go.Proofs.Ytniihecdmcphgaa
