/- OPBYTES 30: names of kinds; the document's Clean, To: conditions. -/
import Derived.Test.YtniihecdmcphgaaDoorD23
import Derived.Test.YtniihecdmcphgaaDoorPwG5
namespace Go.Proofs.YtniihecdmcphgaaDoor
open Pw Go
set_option maxRecDepth 100000
set_option linter.unusedSimpArgs false

def kindsL : List (List UInt8) := [[], [114, 101, 103, 105, 115, 116, 101, 114], [113, 117, 101, 114, 121], [100, 114, 111, 112], [105, 110, 103, 101, 115, 116], [116, 105, 99, 107], [112, 111, 108, 108], [100, 101, 99, 108, 97, 115, 115, 105, 102, 121], [97, 117, 100, 105, 116]]
def gK : Nat → AV := strsG 0 kindsL
def cKnownF' : Ctr
  | [.int .i64 (.negSucc _)] => some (true, .bool false)
  | [.int .i64 (.ofNat (_ + 9))] => some (true, .bool false)
  | _ => none
noncomputable def tblK : List (Nat × Ctr) := [(22, cKnownF')]

theorem nameN_vc (j : Nat) (s : List UInt8) (e : Int) : (vcFun (mkG Tryd.prog gK (tblOf tblK) (fun _ _ => none) 4) 20 13 [.int .i64 (Int.negSucc j)] .nil 0 (retP 3 (.tup [.str s, .int .i64 e]))).sat = (
  [] = s ∧ (11 : Int) = e ∧ True) := by
  kernel_rfl

theorem nameP_vc (j : Nat) (s : List UInt8) (e : Int) : (vcFun (mkG Tryd.prog gK (tblOf tblK) (fun _ _ => none) 4) 20 13 [.int .i64 (Int.ofNat (j + 9))] .nil 0 (retP 3 (.tup [.str s, .int .i64 e]))).sat = (
  [] = s ∧ (11 : Int) = e ∧ True) := by
  kernel_rfl

theorem name0_vc (s : List UInt8) (e : Int) : (vcFun (mkG Tryd.prog gK (tblOf []) (fun _ _ => none) 4) 20 13 [.int .i64 0] .nil 0 (retP 3 (.tup [.str s, .int .i64 e]))).sat = (
  [] = s ∧ (11 : Int) = e ∧ True) := by
  kernel_rfl

theorem name1_vc (s : List UInt8) (e : Int) : (vcFun (mkG Tryd.prog gK (tblOf []) (fun _ _ => none) 4) 20 13 [.int .i64 1] .nil 0 (retP 3 (.tup [.str s, .int .i64 e]))).sat = (
  [(114 : UInt8), (101 : UInt8), (103 : UInt8), (105 : UInt8), (115 : UInt8), (116 : UInt8), (101 : UInt8), (114 : UInt8)] = s ∧ (0 : Int) = e ∧ True) := by
  kernel_rfl

theorem name2_vc (s : List UInt8) (e : Int) : (vcFun (mkG Tryd.prog gK (tblOf []) (fun _ _ => none) 4) 20 13 [.int .i64 2] .nil 0 (retP 3 (.tup [.str s, .int .i64 e]))).sat = (
  [(113 : UInt8), (117 : UInt8), (101 : UInt8), (114 : UInt8), (121 : UInt8)] = s ∧ (0 : Int) = e ∧ True) := by
  kernel_rfl

theorem name3_vc (s : List UInt8) (e : Int) : (vcFun (mkG Tryd.prog gK (tblOf []) (fun _ _ => none) 4) 20 13 [.int .i64 3] .nil 0 (retP 3 (.tup [.str s, .int .i64 e]))).sat = (
  [(100 : UInt8), (114 : UInt8), (111 : UInt8), (112 : UInt8)] = s ∧ (0 : Int) = e ∧ True) := by
  kernel_rfl

theorem name4_vc (s : List UInt8) (e : Int) : (vcFun (mkG Tryd.prog gK (tblOf []) (fun _ _ => none) 4) 20 13 [.int .i64 4] .nil 0 (retP 3 (.tup [.str s, .int .i64 e]))).sat = (
  [(105 : UInt8), (110 : UInt8), (103 : UInt8), (101 : UInt8), (115 : UInt8), (116 : UInt8)] = s ∧ (0 : Int) = e ∧ True) := by
  kernel_rfl

theorem name5_vc (s : List UInt8) (e : Int) : (vcFun (mkG Tryd.prog gK (tblOf []) (fun _ _ => none) 4) 20 13 [.int .i64 5] .nil 0 (retP 3 (.tup [.str s, .int .i64 e]))).sat = (
  [(116 : UInt8), (105 : UInt8), (99 : UInt8), (107 : UInt8)] = s ∧ (0 : Int) = e ∧ True) := by
  kernel_rfl

theorem name6_vc (s : List UInt8) (e : Int) : (vcFun (mkG Tryd.prog gK (tblOf []) (fun _ _ => none) 4) 20 13 [.int .i64 6] .nil 0 (retP 3 (.tup [.str s, .int .i64 e]))).sat = (
  [(112 : UInt8), (111 : UInt8), (108 : UInt8), (108 : UInt8)] = s ∧ (0 : Int) = e ∧ True) := by
  kernel_rfl

theorem name7_vc (s : List UInt8) (e : Int) : (vcFun (mkG Tryd.prog gK (tblOf []) (fun _ _ => none) 4) 20 13 [.int .i64 7] .nil 0 (retP 3 (.tup [.str s, .int .i64 e]))).sat = (
  [(100 : UInt8), (101 : UInt8), (99 : UInt8), (108 : UInt8), (97 : UInt8), (115 : UInt8), (115 : UInt8), (105 : UInt8), (102 : UInt8), (121 : UInt8)] = s ∧ (0 : Int) = e ∧ True) := by
  kernel_rfl

theorem name8_vc (s : List UInt8) (e : Int) : (vcFun (mkG Tryd.prog gK (tblOf []) (fun _ _ => none) 4) 20 13 [.int .i64 8] .nil 0 (retP 3 (.tup [.str s, .int .i64 e]))).sat = (
  [(97 : UInt8), (117 : UInt8), (100 : UInt8), (105 : UInt8), (116 : UInt8)] = s ∧ (0 : Int) = e ∧ True) := by
  kernel_rfl

theorem nameRN_vc (j : Nat) (s : List UInt8) (e : Int) : (vcFun (mkG Tryd.prog gK (tblOf []) (fun _ _ => none) 4) 20 14 [.int .i64 (Int.negSucc j)] .nil 0 (retP 3 (.tup [.str s, .int .i64 e]))).sat = (
  [] = s ∧ (11 : Int) = e ∧ True) := by
  kernel_rfl

theorem nameRP_vc (j : Nat) (s : List UInt8) (e : Int) : (vcFun (mkG Tryd.prog gK (tblOf []) (fun _ _ => none) 4) 20 14 [.int .i64 (Int.ofNat (j + 9))] .nil 0 (retP 3 (.tup [.str s, .int .i64 e]))).sat = (
  [] = s ∧ (11 : Int) = e ∧ True) := by
  kernel_rfl

theorem nameR0_vc (s : List UInt8) (e : Int) : (vcFun (mkG Tryd.prog gK (tblOf []) (fun _ _ => none) 4) 20 14 [.int .i64 0] .nil 0 (retP 3 (.tup [.str s, .int .i64 e]))).sat = (
  [] = s ∧ (11 : Int) = e ∧ True) := by
  kernel_rfl

theorem nameR1_vc (s : List UInt8) (e : Int) : (vcFun (mkG Tryd.prog gK (tblOf []) (fun _ _ => none) 4) 20 14 [.int .i64 1] .nil 0 (retP 3 (.tup [.str s, .int .i64 e]))).sat = (
  [(114 : UInt8), (101 : UInt8), (103 : UInt8), (105 : UInt8), (115 : UInt8), (116 : UInt8), (101 : UInt8), (114 : UInt8)] = s ∧ (0 : Int) = e ∧ True) := by
  kernel_rfl

theorem nameR2_vc (s : List UInt8) (e : Int) : (vcFun (mkG Tryd.prog gK (tblOf []) (fun _ _ => none) 4) 20 14 [.int .i64 2] .nil 0 (retP 3 (.tup [.str s, .int .i64 e]))).sat = (
  [(113 : UInt8), (117 : UInt8), (101 : UInt8), (114 : UInt8), (121 : UInt8)] = s ∧ (0 : Int) = e ∧ True) := by
  kernel_rfl

theorem nameR3_vc (s : List UInt8) (e : Int) : (vcFun (mkG Tryd.prog gK (tblOf []) (fun _ _ => none) 4) 20 14 [.int .i64 3] .nil 0 (retP 3 (.tup [.str s, .int .i64 e]))).sat = (
  [(100 : UInt8), (114 : UInt8), (111 : UInt8), (112 : UInt8)] = s ∧ (0 : Int) = e ∧ True) := by
  kernel_rfl

theorem nameR4_vc (s : List UInt8) (e : Int) : (vcFun (mkG Tryd.prog gK (tblOf []) (fun _ _ => none) 4) 20 14 [.int .i64 4] .nil 0 (retP 3 (.tup [.str s, .int .i64 e]))).sat = (
  [(105 : UInt8), (110 : UInt8), (103 : UInt8), (101 : UInt8), (115 : UInt8), (116 : UInt8)] = s ∧ (0 : Int) = e ∧ True) := by
  kernel_rfl

theorem nameR5_vc (s : List UInt8) (e : Int) : (vcFun (mkG Tryd.prog gK (tblOf []) (fun _ _ => none) 4) 20 14 [.int .i64 5] .nil 0 (retP 3 (.tup [.str s, .int .i64 e]))).sat = (
  [(116 : UInt8), (105 : UInt8), (99 : UInt8), (107 : UInt8)] = s ∧ (0 : Int) = e ∧ True) := by
  kernel_rfl

theorem nameR6_vc (s : List UInt8) (e : Int) : (vcFun (mkG Tryd.prog gK (tblOf []) (fun _ _ => none) 4) 20 14 [.int .i64 6] .nil 0 (retP 3 (.tup [.str s, .int .i64 e]))).sat = (
  [(112 : UInt8), (111 : UInt8), (108 : UInt8), (108 : UInt8)] = s ∧ (0 : Int) = e ∧ True) := by
  kernel_rfl

theorem nameR7_vc (s : List UInt8) (e : Int) : (vcFun (mkG Tryd.prog gK (tblOf []) (fun _ _ => none) 4) 20 14 [.int .i64 7] .nil 0 (retP 3 (.tup [.str s, .int .i64 e]))).sat = (
  [(100 : UInt8), (101 : UInt8), (99 : UInt8), (108 : UInt8), (97 : UInt8), (115 : UInt8), (115 : UInt8), (105 : UInt8), (102 : UInt8), (121 : UInt8)] = s ∧ (0 : Int) = e ∧ True) := by
  kernel_rfl

theorem nameR8_vc (s : List UInt8) (e : Int) : (vcFun (mkG Tryd.prog gK (tblOf []) (fun _ _ => none) 4) 20 14 [.int .i64 8] .nil 0 (retP 3 (.tup [.str s, .int .i64 e]))).sat = (
  [(97 : UInt8), (117 : UInt8), (100 : UInt8), (105 : UInt8), (116 : UInt8)] = s ∧ (0 : Int) = e ∧ True) := by
  kernel_rfl

theorem kind_vc (s : List UInt8) (k e : Int) : (vcFun (mkG Tryd.prog gK (tblOf []) (fun _ _ => none) 12) 20 15 [.str s] .nil 0 (retP 3 (.tup [.int .i64 k, .int .i64 e]))).sat = (
  VB (true && [(114 : UInt8), (101 : UInt8), (103 : UInt8), (105 : UInt8), (115 : UInt8), (116 : UInt8), (101 : UInt8), (114 : UInt8)] == s) ((1 : Int) = k ∧ (0 : Int) = e ∧ True)
    (VB (true && [(113 : UInt8), (117 : UInt8), (101 : UInt8), (114 : UInt8), (121 : UInt8)] == s) ((2 : Int) = k ∧ (0 : Int) = e ∧ True)
      (VB (true && [(100 : UInt8), (114 : UInt8), (111 : UInt8), (112 : UInt8)] == s) ((3 : Int) = k ∧ (0 : Int) = e ∧ True)
        (VB (true && [(105 : UInt8), (110 : UInt8), (103 : UInt8), (101 : UInt8), (115 : UInt8), (116 : UInt8)] == s) ((4 : Int) = k ∧ (0 : Int) = e ∧ True)
          (VB (true && [(116 : UInt8), (105 : UInt8), (99 : UInt8), (107 : UInt8)] == s) ((5 : Int) = k ∧ (0 : Int) = e ∧ True)
            (VB (true && [(112 : UInt8), (111 : UInt8), (108 : UInt8), (108 : UInt8)] == s) ((6 : Int) = k ∧ (0 : Int) = e ∧ True)
              (VB (true && [(100 : UInt8), (101 : UInt8), (99 : UInt8), (108 : UInt8), (97 : UInt8), (115 : UInt8), (115 : UInt8), (105 : UInt8), (102 : UInt8), (121 : UInt8)] == s) ((7 : Int) = k ∧ (0 : Int) = e ∧ True)
                (VB (true && [(97 : UInt8), (117 : UInt8), (100 : UInt8), (105 : UInt8), (116 : UInt8)] == s) ((8 : Int) = k ∧ (0 : Int) = e ∧ True) ((0 : Int) = k ∧ (12 : Int) = e ∧ True))))))))) := by
  kernel_rfl

theorem kindR_vc (s : List UInt8) (k e : Int) : (vcFun (mkG Tryd.prog gK (tblOf []) (fun _ _ => none) 12) 20 16 [.str s] .nil 0 (retP 3 (.tup [.int .i64 k, .int .i64 e]))).sat = (
  VB ([(114 : UInt8), (101 : UInt8), (103 : UInt8), (105 : UInt8), (115 : UInt8), (116 : UInt8), (101 : UInt8), (114 : UInt8)] == s) ((1 : Int) = k ∧ (0 : Int) = e ∧ True)
    (VB ([(113 : UInt8), (117 : UInt8), (101 : UInt8), (114 : UInt8), (121 : UInt8)] == s) ((2 : Int) = k ∧ (0 : Int) = e ∧ True)
      (VB ([(100 : UInt8), (114 : UInt8), (111 : UInt8), (112 : UInt8)] == s) ((3 : Int) = k ∧ (0 : Int) = e ∧ True)
        (VB ([(105 : UInt8), (110 : UInt8), (103 : UInt8), (101 : UInt8), (115 : UInt8), (116 : UInt8)] == s) ((4 : Int) = k ∧ (0 : Int) = e ∧ True)
          (VB ([(116 : UInt8), (105 : UInt8), (99 : UInt8), (107 : UInt8)] == s) ((5 : Int) = k ∧ (0 : Int) = e ∧ True)
            (VB ([(112 : UInt8), (111 : UInt8), (108 : UInt8), (108 : UInt8)] == s) ((6 : Int) = k ∧ (0 : Int) = e ∧ True)
              (VB ([(100 : UInt8), (101 : UInt8), (99 : UInt8), (108 : UInt8), (97 : UInt8), (115 : UInt8), (115 : UInt8), (105 : UInt8), (102 : UInt8), (121 : UInt8)] == s) ((7 : Int) = k ∧ (0 : Int) = e ∧ True)
                (VB ([(97 : UInt8), (117 : UInt8), (100 : UInt8), (105 : UInt8), (116 : UInt8)] == s) ((8 : Int) = k ∧ (0 : Int) = e ∧ True) ((0 : Int) = k ∧ (12 : Int) = e ∧ True))))))))) := by
  kernel_rfl

theorem toR_vc (k t l n m il id : Int) (x : List UInt8) (r : Int) : (vcFun EQ 20 12 [.agg [.int .i64 k, .int .i64 t, .int .u64 l, .str x, .int .i64 n, .int .i64 m, .int .u64 il, .int .u64 id]] .nil 0 (retP 3 (.int .i64 r))).sat = (
  VB (k == (1 : Int)) (VB (false || decide (t < (1 : Int)) || decide (t > (6 : Int))) ((0 : Int) = r) (t = r))
    (VB (k == (2 : Int)) (VB (false || decide (t < (1 : Int)) || decide (t > (6 : Int))) ((0 : Int) = r) (t = r))
      (VB (k == (3 : Int)) (VB (false || decide (t < (1 : Int)) || decide (t > (6 : Int))) ((0 : Int) = r) (t = r))
        (VB (k == (4 : Int)) ((0 : Int) = r)
          (VB (k == (5 : Int)) ((0 : Int) = r)
            (VB (k == (6 : Int)) (VB (false || decide (t < (1 : Int)) || decide (t > (6 : Int))) ((0 : Int) = r) (t = r))
              (VB (k == (7 : Int)) (VB (false || decide (t < (1 : Int)) || decide (t > (6 : Int))) ((0 : Int) = r) (t = r))
                (VB (k == (8 : Int)) (VB (false || decide (t < (1 : Int)) || decide (t > (6 : Int))) ((0 : Int) = r) (t = r)) ((0 : Int) = r))))))))) := by
  kernel_rfl

theorem cleanR_vc (k t l n m il id : Int) (x : List UInt8) (k1 t1 l1 n1 m1 il1 id1 : Int) (x1 : List UInt8) (e : Int) : (vcFun EQ 20 8 [.agg [.int .i64 k, .int .i64 t, .int .u64 l, .str x, .int .i64 n, .int .i64 m, .int .u64 il, .int .u64 id]] .nil 0 (retP 3 (.tup [.agg [.int .i64 k1, .int .i64 t1, .int .u64 l1, .str x1, .int .i64 n1, .int .i64 m1, .int .u64 il1, .int .u64 id1], .int .i64 e]))).sat = (
  VB (opChk (Opr.mk k t l x n m il id) != (0 : Int))
    (((0 : Int) = k1 ∧ (0 : Int) = t1 ∧ (0 : Int) = l1 ∧ [] = x1 ∧ (0 : Int) = n1 ∧ (0 : Int) = m1 ∧ (0 : Int) = il1 ∧ (0 : Int) = id1 ∧ True) ∧ opChk (Opr.mk k t l x n m il id) = e ∧ True)
    (VB (k == (1 : Int)) ((k = k1 ∧ t = t1 ∧ l = l1 ∧ [] = x1 ∧ (0 : Int) = n1 ∧ (0 : Int) = m1 ∧ (0 : Int) = il1 ∧ (0 : Int) = id1 ∧ True) ∧ (0 : Int) = e ∧ True)
      (VB (k == (2 : Int)) ((k = k1 ∧ t = t1 ∧ (0 : Int) = l1 ∧ x = x1 ∧ (0 : Int) = n1 ∧ (0 : Int) = m1 ∧ (0 : Int) = il1 ∧ (0 : Int) = id1 ∧ True) ∧ (0 : Int) = e ∧ True)
        (VB (k == (3 : Int)) ((k = k1 ∧ t = t1 ∧ (0 : Int) = l1 ∧ [] = x1 ∧ n = n1 ∧ (0 : Int) = m1 ∧ (0 : Int) = il1 ∧ (0 : Int) = id1 ∧ True) ∧ (0 : Int) = e ∧ True)
          (VB (k == (4 : Int)) ((k = k1 ∧ (0 : Int) = t1 ∧ (0 : Int) = l1 ∧ x = x1 ∧ (0 : Int) = n1 ∧ (0 : Int) = m1 ∧ (0 : Int) = il1 ∧ (0 : Int) = id1 ∧ True) ∧ (0 : Int) = e ∧ True)
            (VB (k == (5 : Int)) ((k = k1 ∧ (0 : Int) = t1 ∧ (0 : Int) = l1 ∧ [] = x1 ∧ (0 : Int) = n1 ∧ (0 : Int) = m1 ∧ (0 : Int) = il1 ∧ (0 : Int) = id1 ∧ True) ∧ (0 : Int) = e ∧ True)
              (VB (k == (6 : Int)) ((k = k1 ∧ t = t1 ∧ (0 : Int) = l1 ∧ [] = x1 ∧ (0 : Int) = n1 ∧ m = m1 ∧ (0 : Int) = il1 ∧ (0 : Int) = id1 ∧ True) ∧ (0 : Int) = e ∧ True)
                (VB (k == (7 : Int)) ((k = k1 ∧ t = t1 ∧ (0 : Int) = l1 ∧ [] = x1 ∧ n = n1 ∧ (0 : Int) = m1 ∧ il = il1 ∧ id = id1 ∧ True) ∧ (0 : Int) = e ∧ True)
                  (VB (k == (8 : Int)) ((k = k1 ∧ t = t1 ∧ (0 : Int) = l1 ∧ [] = x1 ∧ n = n1 ∧ m = m1 ∧ (0 : Int) = il1 ∧ (0 : Int) = id1 ∧ True) ∧ (0 : Int) = e ∧ True)
                    ((k = k1 ∧ (0 : Int) = t1 ∧ (0 : Int) = l1 ∧ [] = x1 ∧ (0 : Int) = n1 ∧ (0 : Int) = m1 ∧ (0 : Int) = il1 ∧ (0 : Int) = id1 ∧ True) ∧ (0 : Int) = e ∧ True)))))))))) := by
  kernel_rfl

end Go.Proofs.YtniihecdmcphgaaDoor
