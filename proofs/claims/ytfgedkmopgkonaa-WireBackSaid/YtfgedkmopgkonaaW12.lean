/- WIRE 12: writers of the document, their code. -/
import Derived.Test.YtfgedkmopgkonaaW9a
import Derived.Test.YtfgedkmopgkonaaW11
namespace Go.Proofs.Ytfgedkmopgkonaa
open Pw Go
set_option maxRecDepth 100000

theorem wrR_vc (s : List UInt8) (m e : Int) (r : Wr) : (vcFun E1 20 46 [.agg [.str s, .int .i64 m, .int .i64 e]] .nil 0 (retP 3 (.agg [.str r.s, .int .i64 r.most, .int .i64 r.err]))).sat = (
  VB (decide (m < (0 : Int)) || decide (m > (20000 : Int)) || decide ((↑s.length : Int) > m) || decide (e < (0 : Int)) || decide (e > (23 : Int))) ([] = r.s ∧ (0 : Int) = r.most ∧ (10 : Int) = r.err ∧ True)
    (s = r.s ∧ m = r.most ∧ e = r.err ∧ True)) := by
  kernel_rfl

theorem putR_vc (s : List UInt8) (m e : Int) (t : List UInt8) (x : Int) (r : Wr) : (vcFun E1 20 54 [.agg [.str s, .int .i64 m, .int .i64 e], .str t, .int .i64 x] .nil 0 (retP 3 (.agg [.str r.s, .int .i64 r.most, .int .i64 r.err]))).sat = (
  VB (e != (0 : Int)) (s = r.s ∧ m = r.most ∧ e = r.err ∧ True)
    (VB (x != (0 : Int)) (s = r.s ∧ m = r.most ∧ x = r.err ∧ True)
      (VB (decide ((↑t.length : Int) > IntKind.i64.wrap (m - (↑s.length : Int)))) (s = r.s ∧ m = r.most ∧ (4 : Int) = r.err ∧ True)
        (NB (decide ((↑s.length : Int) + (↑t.length : Int) ≤ (9223372036854775807 : Int))) (s ++ t = r.s ∧ m = r.most ∧ e = r.err ∧ True))))) := by
  kernel_rfl

theorem makeI_vc (m : Int) (r : Wr) : (vcFun E1 20 11 [.int .i64 m] .nil 0 (retP 3 (.agg [.str r.s, .int .i64 r.most, .int .i64 r.err]))).sat = (
  VB (decide (m < (0 : Int)) || decide (m > (20000 : Int)) || decide ((0 : Int) > m) || decide ((0 : Int) < (0 : Int)) || decide ((0 : Int) > (23 : Int))) ([] = r.s ∧ (0 : Int) = r.most ∧ (10 : Int) = r.err ∧ True)
    ([] = r.s ∧ m = r.most ∧ (0 : Int) = r.err ∧ True)) := by
  kernel_rfl

theorem makeR_vc (m : Int) (r : Wr) : (vcFun E1 20 12 [.int .i64 m] .nil 0 (retP 3 (.agg [.str r.s, .int .i64 r.most, .int .i64 r.err]))).sat = (
  VB (decide (m < (0 : Int)) || decide (m > (20000 : Int)) || decide ((0 : Int) > m) || decide ((0 : Int) < (0 : Int)) || decide ((0 : Int) > (23 : Int))) ([] = r.s ∧ (0 : Int) = r.most ∧ (10 : Int) = r.err ∧ True)
    ([] = r.s ∧ m = r.most ∧ (0 : Int) = r.err ∧ True)) := by
  kernel_rfl

theorem putIntI_vc (s : List UInt8) (m e n : Int) (r : Wr) : (vcFun (mkF Try.prog (tblOf tbl1) (fun _ _ => none) 4) 20 15 [.agg [.str s, .int .i64 m, .int .i64 e], .int .i64 n] .nil 0 (retP 3 (.agg [.str r.s, .int .i64 r.most, .int .i64 r.err]))).sat = (
  VB (decide (m < (0 : Int)) || decide (m > (20000 : Int)) || decide ((↑s.length : Int) > m) || decide (e < (0 : Int)) || decide (e > (23 : Int)))
    (VB (decide ((↑(hide (digS n (Int.toNat (8 : Int)))).length : Int) > IntKind.i64.wrap ((0 : Int) - (0 : Int)))) ([] = r.s ∧ (0 : Int) = r.most ∧ (10 : Int) = r.err ∧ True)
      ([] = r.s ∧ (0 : Int) = r.most ∧ (10 : Int) = r.err ∧ True))
    (VB (decide ((↑(hide (digS n (Int.toNat (8 : Int)))).length : Int) > IntKind.i64.wrap (m - (↑s.length : Int))))
      (VB (e == (0 : Int)) (s = r.s ∧ m = r.most ∧ (4 : Int) = r.err ∧ True) (s = r.s ∧ m = r.most ∧ e = r.err ∧ True))
      (VB (e != (0 : Int)) (s = r.s ∧ m = r.most ∧ e = r.err ∧ True)
        (NB (decide ((↑s.length : Int) + (↑(hide (digS n (Int.toNat (8 : Int)))).length : Int) ≤ (9223372036854775807 : Int))) (s ++ hide (digS n (Int.toNat (8 : Int))) = r.s ∧ m = r.most ∧ e = r.err ∧ True))))) := by
  kernel_rfl

theorem wputI_vc (s : List UInt8) (m e k n : Int) (r : Wr) : (vcFun (mkF Try.prog (tblOf tbl1) (fun _ _ => none) 4) 20 13 [.agg [.str s, .int .i64 m, .int .i64 e], .int .i64 k, .int .u64 n] .nil 0 (retP 3 (.agg [.str r.s, .int .i64 r.most, .int .i64 r.err]))).sat = (
  VB (decide (m < (0 : Int)) || decide (m > (20000 : Int)) || decide ((↑s.length : Int) > m) || decide (e < (0 : Int)) || decide (e > (23 : Int)))
    (NB (impB (isW false !(k == (1 : Int) || k == (2 : Int) || k == (4 : Int) || k == (8 : Int)) && isW true (decide (k < (8 : Int)))) (decide ((0 : Int) ≤ IntKind.i64.wrap ((8 : Int) * k))))
      (VB (!(k == (1 : Int) || k == (2 : Int) || k == (4 : Int) || k == (8 : Int)) || decide (k < (8 : Int)) && shrI IntKind.u64 n (IntKind.i64.wrap ((8 : Int) * k)) != (0 : Int))
        ([] = r.s ∧ (0 : Int) = r.most ∧ (10 : Int) = r.err ∧ True)
        (NB (decide ((0 : Int) ≤ k ∧ k ≤ (8 : Int)))
          (VB (decide ((↑(hide (digS n k.toNat)).length : Int) > IntKind.i64.wrap ((0 : Int) - (0 : Int)))) ([] = r.s ∧ (0 : Int) = r.most ∧ (10 : Int) = r.err ∧ True)
            ([] = r.s ∧ (0 : Int) = r.most ∧ (10 : Int) = r.err ∧ True)))))
    (NB (impB (isW false !(k == (1 : Int) || k == (2 : Int) || k == (4 : Int) || k == (8 : Int)) && isW true (decide (k < (8 : Int)))) (decide ((0 : Int) ≤ IntKind.i64.wrap ((8 : Int) * k))))
      (VB (!(k == (1 : Int) || k == (2 : Int) || k == (4 : Int) || k == (8 : Int)) || decide (k < (8 : Int)) && shrI IntKind.u64 n (IntKind.i64.wrap ((8 : Int) * k)) != (0 : Int))
        (VB (e == (0 : Int)) (s = r.s ∧ m = r.most ∧ (2 : Int) = r.err ∧ True) (s = r.s ∧ m = r.most ∧ e = r.err ∧ True))
        (NB (decide ((0 : Int) ≤ k ∧ k ≤ (8 : Int)))
          (VB (decide ((↑(hide (digS n k.toNat)).length : Int) > IntKind.i64.wrap (m - (↑s.length : Int)))) (VB (e == (0 : Int)) (s = r.s ∧ m = r.most ∧ (4 : Int) = r.err ∧ True) (s = r.s ∧ m = r.most ∧ e = r.err ∧ True))
            (VB (e != (0 : Int)) (s = r.s ∧ m = r.most ∧ e = r.err ∧ True)
              (NB (decide ((↑s.length : Int) + (↑(hide (digS n k.toNat)).length : Int) ≤ (9223372036854775807 : Int))) (s ++ hide (digS n k.toNat) = r.s ∧ m = r.most ∧ e = r.err ∧ True)))))))) := by
  kernel_rfl

theorem putSizedI_vc (s : List UInt8) (m e : Int) (t : List UInt8) (r : Wr) : (vcFun (mkF Try.prog (tblOf tbl1) (fun _ _ => none) 4) 20 19 [.agg [.str s, .int .i64 m, .int .i64 e], .str t] .nil 0 (retP 3 (.agg [.str r.s, .int .i64 r.most, .int .i64 r.err]))).sat = (
  VB (decide (m < (0 : Int)) || decide (m > (20000 : Int)) || decide ((↑s.length : Int) > m) || decide (e < (0 : Int)) || decide (e > (23 : Int)))
    (VB (decide ((↑t.length : Int) > (65535 : Int))) ([] = r.s ∧ (0 : Int) = r.most ∧ (10 : Int) = r.err ∧ True)
      (VB (decide ((↑(hide (digS (IntKind.u64.wrap (↑t.length : Int)) (Int.toNat (2 : Int)))).length : Int) > IntKind.i64.wrap ((0 : Int) - (0 : Int)))) ([] = r.s ∧ (0 : Int) = r.most ∧ (10 : Int) = r.err ∧ True)
        (VB (decide ((↑t.length : Int) > IntKind.i64.wrap ((0 : Int) - IntKind.i64.wrap ((0 : Int) + (↑(hide (digS (IntKind.u64.wrap (↑t.length : Int)) (Int.toNat (2 : Int)))).length : Int)))))
          ([] = r.s ∧ (0 : Int) = r.most ∧ (10 : Int) = r.err ∧ True) ([] = r.s ∧ (0 : Int) = r.most ∧ (10 : Int) = r.err ∧ True))))
    (VB (decide ((↑t.length : Int) > (65535 : Int))) (VB (e == (0 : Int)) (s = r.s ∧ m = r.most ∧ (2 : Int) = r.err ∧ True) (s = r.s ∧ m = r.most ∧ e = r.err ∧ True))
      (VB (decide ((↑(hide (digS (IntKind.u64.wrap (↑t.length : Int)) (Int.toNat (2 : Int)))).length : Int) > IntKind.i64.wrap (m - (↑s.length : Int))))
        (VB (e == (0 : Int)) (s = r.s ∧ m = r.most ∧ (4 : Int) = r.err ∧ True) (s = r.s ∧ m = r.most ∧ e = r.err ∧ True))
        (VB (decide ((↑t.length : Int) > IntKind.i64.wrap (m - IntKind.i64.wrap ((↑s.length : Int) + (↑(hide (digS (IntKind.u64.wrap (↑t.length : Int)) (Int.toNat (2 : Int)))).length : Int)))))
          (VB (e == (0 : Int)) (s = r.s ∧ m = r.most ∧ (4 : Int) = r.err ∧ True) (s = r.s ∧ m = r.most ∧ e = r.err ∧ True))
          (VB (e != (0 : Int)) (s = r.s ∧ m = r.most ∧ e = r.err ∧ True)
            (NB (decide ((↑s.length : Int) + (↑(hide (digS (IntKind.u64.wrap (↑t.length : Int)) (Int.toNat (2 : Int)))).length : Int) ≤ (9223372036854775807 : Int)))
              (NB (decide ((↑(s ++ hide (digS (IntKind.u64.wrap (↑t.length : Int)) (Int.toNat (2 : Int)))).length : Int) + (↑t.length : Int) ≤ (9223372036854775807 : Int)))
                (s ++ hide (digS (IntKind.u64.wrap (↑t.length : Int)) (Int.toNat (2 : Int))) ++ t = r.s ∧ m = r.most ∧ e = r.err ∧ True)))))))) := by
  kernel_rfl

theorem doneI_vc (s : List UInt8) (m e : Int) (t : List UInt8) (x : Int) : (vcFun E1 20 21 [.agg [.str s, .int .i64 m, .int .i64 e]] .nil 0 (retP 3 (.tup [.str t, .int .i64 x]))).sat = (
  VB (decide (m < (0 : Int)) || decide (m > (20000 : Int)) || decide ((↑s.length : Int) > m) || decide (e < (0 : Int)) || decide (e > (23 : Int))) ([] = t ∧ (10 : Int) = x ∧ True)
    (VB (e != (0 : Int)) ([] = t ∧ e = x ∧ True) (s = t ∧ (0 : Int) = x ∧ True))) := by
  kernel_rfl

theorem doneR_vc (s : List UInt8) (m e : Int) (t : List UInt8) (x : Int) : (vcFun E1 20 22 [.agg [.str s, .int .i64 m, .int .i64 e]] .nil 0 (retP 3 (.tup [.str t, .int .i64 x]))).sat = (
  VB (decide (m < (0 : Int)) || decide (m > (20000 : Int)) || decide ((↑s.length : Int) > m) || decide (e < (0 : Int)) || decide (e > (23 : Int))) ([] = t ∧ (10 : Int) = x ∧ True)
    (VB (e != (0 : Int)) ([] = t ∧ e = x ∧ True) (s = t ∧ (0 : Int) = x ∧ True))) := by
  kernel_rfl

theorem own_vc (n : Nat) (g : Nat → List UInt8) : (vcFun E1 20 10 [.rof n (fun i => .str (g i)) false] .nil 0 (retP 3 (.rof n (fun i => .str (g i)) false))).sat = (
  NB
    (true && decide ((0 : Nat) = (0 : Nat)) && room (((Sq.lst []).sub (0 : Nat) (0 : Nat)).len + (Sq.fn n fun (i : Nat) => AV.str (g i)).len) (16 : Nat) && (0 : Nat) == ((Sq.lst []).sub (0 : Nat) (0 : Nat)).len &&
      ((Sq.fn n fun (i : Nat) => AV.str (g i)).len != (0 : Nat) || ((Sq.lst []).sub (0 : Nat) (0 : Nat)).len == (0 : Nat)))
    (((Sq.lst []).sub (0 : Nat) (0 : Nat)).len + (Sq.fn n fun (i : Nat) => AV.str (g i)).len = n ∧
      (∀ (i : Nat),
          i < ((Sq.lst []).sub (0 : Nat) (0 : Nat)).len + (Sq.fn n fun (i : Nat) => AV.str (g i)).len →
            g ((0 : Nat) + i - (Sq.lst (List.take (0 : Nat) (List.drop (0 : Nat) []))).len) = g i ∧
              [if (0 : Nat) + i < (Sq.lst (List.take (0 : Nat) (List.drop (0 : Nat) []))).len then (Sq.lst (List.take (0 : Nat) (List.drop (0 : Nat) []))).get ((0 : Nat) + i)
                    else (Sq.fn n fun (i : Nat) => AV.str (g i)).get ((0 : Nat) + i - (Sq.lst (List.take (0 : Nat) (List.drop (0 : Nat) []))).len)].length =
                [AV.str (g i)].length) ∧
        (false = true → decide (none = some (((Sq.lst []).sub (0 : Nat) (0 : Nat)).len + (Sq.fn n fun (i : Nat) => AV.str (g i)).len)) = true))) := by
  kernel_rfl

end Go.Proofs.Ytfgedkmopgkonaa
