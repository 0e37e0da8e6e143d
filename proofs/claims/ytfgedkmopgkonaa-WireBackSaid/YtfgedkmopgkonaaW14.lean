/- WIRE 14: writers of lists, their code. -/
import Derived.Test.YtfgedkmopgkonaaW13
namespace Go.Proofs.Ytfgedkmopgkonaa
open Pw Go
set_option maxRecDepth 100000

noncomputable def tbl3 : List (Nat × Ctr) := (46, cWr) :: (54, cPutR) :: tbl1
theorem tbl3_ok : TblOK Try.prog (fun _ => .undef) (tblOf tbl3) := tbl_cons wrR_ok (tbl_cons putR_ok tbl1_ok)

def strs (n : Nat) (g : Nat → List UInt8) : AV := .rof n (fun i => .str (g i)) false
def wrow (w : Wr) : Blk := .row 0 3 true (.lst [.agg [.str w.s, .int .i64 w.most, .int .i64 w.err]])
def invAdd (u : Wr) (n : Nat) (g : Nat → List UInt8) : Inv := ⟨Nat, 10, fun i => ⟨[(0, .ptr 3 0 0 0), (1, strs n g), (4, .int .i64 (u.s.length + (takeF g i).length)), (15, strs n g), (16, .int .i64 n), (17, .int .i64 i)], [(1, wrow ⟨[], 0, 0⟩), (3, wrow u)]⟩,
  fun i => i ≤ n ∧ u.s.length + (takeF g i).length ≤ u.most, fun i => n - i⟩
def invAdd2 (u : Wr) (n : Nat) (g : Nat → List UInt8) : Inv := ⟨Nat, 10, fun i => ⟨[(0, .ptr 3 0 0 0), (44, strs n g), (45, .int .i64 n), (46, .int .i64 i)], [(1, wrow ⟨[], 0, 0⟩), (3, wrow ⟨u.s ++ takeF g i, u.most, u.err⟩)]⟩,
  fun i => i ≤ n ∧ u.s.length + (takeF g n).length ≤ u.most ∧ u.err = 0, fun i => n - i⟩
def invAddR (u : Wr) (n : Nat) (g : Nat → List UInt8) : Inv := ⟨Nat, 10, fun i => ⟨[(1, strs n g), (2, .ptr 0 0 0 0), (4, .ptr 1 0 0 0), (5, .str (takeF g i)), (6, .int .i64 i)], [(0, wrow u), (1, wrow ⟨[], 0, 0⟩)]⟩,
  fun i => i ≤ n ∧ (takeF g i).length ≤ 40000, fun i => n - i⟩
def invSame (n m : Nat) (f g : Nat → List UInt8) : Inv := ⟨Nat, 1, fun i => ⟨[(0, strs n f), (1, strs m g), (5, .int .i64 i)], []⟩, fun i => i ≤ n ∧ n = m ∧ ∀ j, j < i → f j = g j, fun i => n - i⟩

theorem wputR_vc (s : List UInt8) (m e k n : Int) (r : Wr) : (vcFun (mkF Try.prog (tblOf tbl3) (fun _ _ => none) 4) 20 14 [.agg [.str s, .int .i64 m, .int .i64 e], .int .i64 k, .int .u64 n] .nil 0 (retP 3 (.agg [.str r.s, .int .i64 r.most, .int .i64 r.err]))).sat = (
  NB (decide (s.length ≤ (9223372036854775807 : Nat)))
    (NB (impB (isW false !(k == (1 : Int) || k == (2 : Int) || k == (4 : Int) || k == (8 : Int))) (decide ((0 : Int) ≤ n ∧ n ≤ (18446744073709551615 : Int) ∧ (0 : Int) ≤ k ∧ k ≤ (8 : Int))))
      (NB (impB (isW false !(k == (1 : Int) || k == (2 : Int) || k == (4 : Int) || k == (8 : Int))) (decide ((hide (digS n k.toNat)).length ≤ (9223372036854775807 : Nat))))
        (VB (!(k == (1 : Int) || k == (2 : Int) || k == (4 : Int) || k == (8 : Int)) || numS (hide (digS n k.toNat)) != n)
          (NB
            (decide
              ((0 : Int) ≤ (wrUse { s := s, most := m, err := e }).most ∧
                (wrUse { s := s, most := m, err := e }).most ≤ (20000 : Int) ∧
                  (↑(wrUse { s := s, most := m, err := e }).s.length : Int) ≤ (wrUse { s := s, most := m, err := e }).most ∧ (0 : Nat) ≤ (9223372036854775807 : Nat)))
            ((wrPutX (wrUse { s := s, most := m, err := e }) [] (2 : Int)).s = r.s ∧
              (wrPutX (wrUse { s := s, most := m, err := e }) [] (2 : Int)).most = r.most ∧ (wrPutX (wrUse { s := s, most := m, err := e }) [] (2 : Int)).err = r.err ∧ True))
          (NB (decide ((0 : Int) ≤ n ∧ n ≤ (18446744073709551615 : Int) ∧ (0 : Int) ≤ k ∧ k ≤ (8 : Int)))
            (NB
              (decide
                ((0 : Int) ≤ (wrUse { s := s, most := m, err := e }).most ∧
                  (wrUse { s := s, most := m, err := e }).most ≤ (20000 : Int) ∧
                    (↑(wrUse { s := s, most := m, err := e }).s.length : Int) ≤ (wrUse { s := s, most := m, err := e }).most ∧ (hide (digS n k.toNat)).length ≤ (9223372036854775807 : Nat)))
              ((wrPutX (wrUse { s := s, most := m, err := e }) (hide (digS n k.toNat)) (0 : Int)).s = r.s ∧
                (wrPutX (wrUse { s := s, most := m, err := e }) (hide (digS n k.toNat)) (0 : Int)).most = r.most ∧ (wrPutX (wrUse { s := s, most := m, err := e }) (hide (digS n k.toNat)) (0 : Int)).err = r.err ∧ True))))))) := by
  kernel_rfl

theorem putSizedR_vc (s : List UInt8) (m e : Int) (t : List UInt8) (r : Wr) : (vcFun (mkF Try.prog (tblOf tbl3) (fun _ _ => none) 4) 20 20 [.agg [.str s, .int .i64 m, .int .i64 e], .str t] .nil 0 (retP 3 (.agg [.str r.s, .int .i64 r.most, .int .i64 r.err]))).sat = (
  NB (decide (s.length ≤ (9223372036854775807 : Nat)))
    (VB (decide ((↑t.length : Int) > (65535 : Int)))
      (NB
        (decide
          ((0 : Int) ≤ (wrUse { s := s, most := m, err := e }).most ∧
            (wrUse { s := s, most := m, err := e }).most ≤ (20000 : Int) ∧
              (↑(wrUse { s := s, most := m, err := e }).s.length : Int) ≤ (wrUse { s := s, most := m, err := e }).most ∧ (0 : Nat) ≤ (9223372036854775807 : Nat)))
        ((wrPutX (wrUse { s := s, most := m, err := e }) [] (2 : Int)).s = r.s ∧
          (wrPutX (wrUse { s := s, most := m, err := e }) [] (2 : Int)).most = r.most ∧ (wrPutX (wrUse { s := s, most := m, err := e }) [] (2 : Int)).err = r.err ∧ True))
      (NB (decide ((0 : Int) ≤ IntKind.u64.wrap (↑t.length : Int) ∧ IntKind.u64.wrap (↑t.length : Int) ≤ (18446744073709551615 : Int) ∧ (0 : Int) ≤ (2 : Int) ∧ (2 : Int) ≤ (8 : Int)))
        (NB (decide ((↑(hide (digS (IntKind.u64.wrap (↑t.length : Int)) (Int.toNat (2 : Int)))).length : Int) + (↑t.length : Int) ≤ (9223372036854775807 : Int)))
          (NB
            (decide
              ((0 : Int) ≤ (wrUse { s := s, most := m, err := e }).most ∧
                (wrUse { s := s, most := m, err := e }).most ≤ (20000 : Int) ∧
                  (↑(wrUse { s := s, most := m, err := e }).s.length : Int) ≤ (wrUse { s := s, most := m, err := e }).most ∧
                    (hide (digS (IntKind.u64.wrap (↑t.length : Int)) (Int.toNat (2 : Int))) ++ t).length ≤ (9223372036854775807 : Nat)))
            ((wrPutX (wrUse { s := s, most := m, err := e }) (hide (digS (IntKind.u64.wrap (↑t.length : Int)) (Int.toNat (2 : Int))) ++ t) (0 : Int)).s = r.s ∧
              (wrPutX (wrUse { s := s, most := m, err := e }) (hide (digS (IntKind.u64.wrap (↑t.length : Int)) (Int.toNat (2 : Int))) ++ t) (0 : Int)).most = r.most ∧
                (wrPutX (wrUse { s := s, most := m, err := e }) (hide (digS (IntKind.u64.wrap (↑t.length : Int)) (Int.toNat (2 : Int))) ++ t) (0 : Int)).err = r.err ∧ True)))))) := by
  kernel_rfl

theorem addI_vc (s : List UInt8) (m e : Int) (n : Nat) (g : Nat → List UInt8) (u r : Wr) : (vcFun (mkE Try.prog (tblOf tbl3) fun f b => if f = 49 ∧ b = 0 then some (invAdd u n g) else if f = 49 ∧ b = 2 then some (invAdd2 u n g) else none) 20 17 [.agg [.str s, .int .i64 m, .int .i64 e], .rof n (fun i => .str (g i)) false] .nil 0 (retP 3 (.agg [.str r.s, .int .i64 r.most, .int .i64 r.err]))).sat = (
  VB (decide (m < (0 : Int)) || decide (m > (20000 : Int)) || decide ((↑s.length : Int) > m) || decide (e < (0 : Int)) || decide (e > (23 : Int)))
    ((∃ (i : Nat),
        (i ≤ n ∧ (↑u.s.length : Int) + (↑(takeF g i).length : Int) ≤ u.most) ∧
          (((0 : Nat) = (0 : Nat) ∧ (0 : Nat) = (0 : Nat) ∧ (0 : Nat) = (0 : Nat)) ∧
              (n = n ∧ (∀ (i : Nat), i < n → g i = g i ∧ [AV.str (g i)].length = [AV.str (g i)].length) ∧ (false = true → false = true)) ∧
                (0 : Int) = (↑u.s.length : Int) + (↑(takeF g i).length : Int) ∧
                  (n = n ∧ (∀ (i : Nat), i < n → g i = g i ∧ [AV.str (g i)].length = [AV.str (g i)].length) ∧ (false = true → false = true)) ∧ (↑n : Int) = (↑n : Int) ∧ (0 : Int) = (↑i : Int) ∧ True) ∧
            ((0 : Nat) = (0 : Nat) ∧
                (true = true → true = true) ∧
                  ((@Eq (List UInt8) [] [] ∧ EqI (0 : Int) (0 : Int) ∧ EqI (0 : Int) (0 : Int) ∧ True) ∧
                      [AV.str [], AV.int IntKind.i64 (0 : Int), AV.int IntKind.i64 (0 : Int)].length = [AV.str [], AV.int IntKind.i64 (0 : Int), AV.int IntKind.i64 (0 : Int)].length) ∧
                    True) ∧
              ((0 : Nat) = (0 : Nat) ∧
                  (true = true → true = true) ∧
                    (([] = u.s ∧ (0 : Int) = u.most ∧ (10 : Int) = u.err ∧ True) ∧
                        [AV.str [], AV.int IntKind.i64 (0 : Int), AV.int IntKind.i64 (10 : Int)].length = [AV.str u.s, AV.int IntKind.i64 u.most, AV.int IntKind.i64 u.err].length) ∧
                      True) ∧
                True) ∧
      ∀ (i : Nat),
        i ≤ n ∧ (↑u.s.length : Int) + (↑(takeF g i).length : Int) ≤ u.most →
          VB (decide ((↑i : Int) < (↑n : Int)))
            (NB (decide ((0 : Int) ≤ (↑i : Int) ∧ (↑i : Int) < (↑n : Int)))
              (VB (decide ((↑(g (↑i : Int).toNat).length : Int) > IntKind.i64.wrap (u.most - ((↑u.s.length : Int) + (↑(takeF g i).length : Int)))))
                (VB (u.err == (0 : Int)) (u.s = r.s ∧ u.most = r.most ∧ (4 : Int) = r.err ∧ True) (u.s = r.s ∧ u.most = r.most ∧ u.err = r.err ∧ True))
                (∃ (i' : Nat),
                  (i' ≤ n ∧ (↑u.s.length : Int) + (↑(takeF g i').length : Int) ≤ u.most) ∧
                    (invAdd u n g).μ i' < (invAdd u n g).μ i ∧
                      (((0 : Nat) = (0 : Nat) ∧ (0 : Nat) = (0 : Nat) ∧ (0 : Nat) = (0 : Nat)) ∧
                          (n = n ∧ (∀ (i : Nat), i < n → g i = g i ∧ [AV.str (g i)].length = [AV.str (g i)].length) ∧ (false = true → false = true)) ∧
                            IntKind.i64.wrap ((↑u.s.length : Int) + (↑(takeF g i).length : Int) + (↑(g (↑i : Int).toNat).length : Int)) = (↑u.s.length : Int) + (↑(takeF g i').length : Int) ∧
                              (n = n ∧ (∀ (i : Nat), i < n → g i = g i ∧ [AV.str (g i)].length = [AV.str (g i)].length) ∧ (false = true → false = true)) ∧
                                (↑n : Int) = (↑n : Int) ∧ IntKind.i64.wrap ((↑i : Int) + (1 : Int)) = (↑i' : Int) ∧ True) ∧
                        ((0 : Nat) = (0 : Nat) ∧
                            (true = true → true = true) ∧
                              ((@Eq (List UInt8) [] [] ∧ EqI (0 : Int) (0 : Int) ∧ EqI (0 : Int) (0 : Int) ∧ True) ∧
                                  [AV.str [], AV.int IntKind.i64 (0 : Int), AV.int IntKind.i64 (0 : Int)].length = [AV.str [], AV.int IntKind.i64 (0 : Int), AV.int IntKind.i64 (0 : Int)].length) ∧
                                True) ∧
                          ((0 : Nat) = (0 : Nat) ∧
                              (true = true → true = true) ∧
                                ((u.s = u.s ∧ u.most = u.most ∧ u.err = u.err ∧ True) ∧
                                    [AV.str u.s, AV.int IntKind.i64 u.most, AV.int IntKind.i64 u.err].length = [AV.str u.s, AV.int IntKind.i64 u.most, AV.int IntKind.i64 u.err].length) ∧
                                  True) ∧
                            True)))
            (VB (u.err != (0 : Int)) (u.s = r.s ∧ u.most = r.most ∧ u.err = r.err ∧ True)
              ((∃ (i : Nat),
                  (i ≤ n ∧ (↑u.s.length : Int) + (↑(takeF g n).length : Int) ≤ u.most ∧ u.err = (0 : Int)) ∧
                    (((0 : Nat) = (0 : Nat) ∧ (0 : Nat) = (0 : Nat) ∧ (0 : Nat) = (0 : Nat)) ∧
                        (n = n ∧ (∀ (i : Nat), i < n → g i = g i ∧ [AV.str (g i)].length = [AV.str (g i)].length) ∧ (false = true → false = true)) ∧ (↑n : Int) = (↑n : Int) ∧ (0 : Int) = (↑i : Int) ∧ True) ∧
                      ((0 : Nat) = (0 : Nat) ∧
                          (true = true → true = true) ∧
                            ((@Eq (List UInt8) [] [] ∧ EqI (0 : Int) (0 : Int) ∧ EqI (0 : Int) (0 : Int) ∧ True) ∧
                                [AV.str [], AV.int IntKind.i64 (0 : Int), AV.int IntKind.i64 (0 : Int)].length = [AV.str [], AV.int IntKind.i64 (0 : Int), AV.int IntKind.i64 (0 : Int)].length) ∧
                              True) ∧
                        ((0 : Nat) = (0 : Nat) ∧
                            (true = true → true = true) ∧
                              ((u.s = u.s ++ takeF g i ∧ u.most = u.most ∧ u.err = u.err ∧ True) ∧
                                  [AV.str u.s, AV.int IntKind.i64 u.most, AV.int IntKind.i64 u.err].length = [AV.str (u.s ++ takeF g i), AV.int IntKind.i64 u.most, AV.int IntKind.i64 u.err].length) ∧
                                True) ∧
                          True) ∧
                ∀ (i : Nat),
                  i ≤ n ∧ (↑u.s.length : Int) + (↑(takeF g n).length : Int) ≤ u.most ∧ u.err = (0 : Int) →
                    VB (decide ((↑i : Int) < (↑n : Int)))
                      (NB (decide ((0 : Int) ≤ (↑i : Int) ∧ (↑i : Int) < (↑n : Int)))
                        (NB (decide ((↑(u.s ++ takeF g i).length : Int) + (↑(g (↑i : Int).toNat).length : Int) ≤ (9223372036854775807 : Int)))
                          (∃ (i' : Nat),
                            (i' ≤ n ∧ (↑u.s.length : Int) + (↑(takeF g n).length : Int) ≤ u.most ∧ u.err = (0 : Int)) ∧
                              (invAdd2 u n g).μ i' < (invAdd2 u n g).μ i ∧
                                (((0 : Nat) = (0 : Nat) ∧ (0 : Nat) = (0 : Nat) ∧ (0 : Nat) = (0 : Nat)) ∧
                                    (n = n ∧ (∀ (i : Nat), i < n → g i = g i ∧ [AV.str (g i)].length = [AV.str (g i)].length) ∧ (false = true → false = true)) ∧
                                      (↑n : Int) = (↑n : Int) ∧ IntKind.i64.wrap ((↑i : Int) + (1 : Int)) = (↑i' : Int) ∧ True) ∧
                                  ((0 : Nat) = (0 : Nat) ∧
                                      (true = true → true = true) ∧
                                        ((@Eq (List UInt8) [] [] ∧ EqI (0 : Int) (0 : Int) ∧ EqI (0 : Int) (0 : Int) ∧ True) ∧
                                            [AV.str [], AV.int IntKind.i64 (0 : Int), AV.int IntKind.i64 (0 : Int)].length = [AV.str [], AV.int IntKind.i64 (0 : Int), AV.int IntKind.i64 (0 : Int)].length) ∧
                                          True) ∧
                                    ((0 : Nat) = (0 : Nat) ∧
                                        (true = true → true = true) ∧
                                          ((u.s ++ takeF g i ++ g (↑i : Int).toNat = u.s ++ takeF g i' ∧ u.most = u.most ∧ u.err = u.err ∧ True) ∧
                                              [AV.str (u.s ++ takeF g i ++ g (↑i : Int).toNat), AV.int IntKind.i64 u.most, AV.int IntKind.i64 u.err].length =
                                                [AV.str (u.s ++ takeF g i'), AV.int IntKind.i64 u.most, AV.int IntKind.i64 u.err].length) ∧
                                            True) ∧
                                      True)))
                      (u.s ++ takeF g i = r.s ∧ u.most = r.most ∧ u.err = r.err ∧ True))))
    ((∃ (i : Nat),
        (i ≤ n ∧ (↑u.s.length : Int) + (↑(takeF g i).length : Int) ≤ u.most) ∧
          (((0 : Nat) = (0 : Nat) ∧ (0 : Nat) = (0 : Nat) ∧ (0 : Nat) = (0 : Nat)) ∧
              (n = n ∧ (∀ (i : Nat), i < n → g i = g i ∧ [AV.str (g i)].length = [AV.str (g i)].length) ∧ (false = true → false = true)) ∧
                (↑s.length : Int) = (↑u.s.length : Int) + (↑(takeF g i).length : Int) ∧
                  (n = n ∧ (∀ (i : Nat), i < n → g i = g i ∧ [AV.str (g i)].length = [AV.str (g i)].length) ∧ (false = true → false = true)) ∧ (↑n : Int) = (↑n : Int) ∧ (0 : Int) = (↑i : Int) ∧ True) ∧
            ((0 : Nat) = (0 : Nat) ∧
                (true = true → true = true) ∧
                  ((@Eq (List UInt8) [] [] ∧ EqI (0 : Int) (0 : Int) ∧ EqI (0 : Int) (0 : Int) ∧ True) ∧
                      [AV.str [], AV.int IntKind.i64 (0 : Int), AV.int IntKind.i64 (0 : Int)].length = [AV.str [], AV.int IntKind.i64 (0 : Int), AV.int IntKind.i64 (0 : Int)].length) ∧
                    True) ∧
              ((0 : Nat) = (0 : Nat) ∧
                  (true = true → true = true) ∧
                    ((s = u.s ∧ m = u.most ∧ e = u.err ∧ True) ∧ [AV.str s, AV.int IntKind.i64 m, AV.int IntKind.i64 e].length = [AV.str u.s, AV.int IntKind.i64 u.most, AV.int IntKind.i64 u.err].length) ∧ True) ∧
                True) ∧
      ∀ (i : Nat),
        i ≤ n ∧ (↑u.s.length : Int) + (↑(takeF g i).length : Int) ≤ u.most →
          VB (decide ((↑i : Int) < (↑n : Int)))
            (NB (decide ((0 : Int) ≤ (↑i : Int) ∧ (↑i : Int) < (↑n : Int)))
              (VB (decide ((↑(g (↑i : Int).toNat).length : Int) > IntKind.i64.wrap (u.most - ((↑u.s.length : Int) + (↑(takeF g i).length : Int)))))
                (VB (u.err == (0 : Int)) (u.s = r.s ∧ u.most = r.most ∧ (4 : Int) = r.err ∧ True) (u.s = r.s ∧ u.most = r.most ∧ u.err = r.err ∧ True))
                (∃ (i' : Nat),
                  (i' ≤ n ∧ (↑u.s.length : Int) + (↑(takeF g i').length : Int) ≤ u.most) ∧
                    (invAdd u n g).μ i' < (invAdd u n g).μ i ∧
                      (((0 : Nat) = (0 : Nat) ∧ (0 : Nat) = (0 : Nat) ∧ (0 : Nat) = (0 : Nat)) ∧
                          (n = n ∧ (∀ (i : Nat), i < n → g i = g i ∧ [AV.str (g i)].length = [AV.str (g i)].length) ∧ (false = true → false = true)) ∧
                            IntKind.i64.wrap ((↑u.s.length : Int) + (↑(takeF g i).length : Int) + (↑(g (↑i : Int).toNat).length : Int)) = (↑u.s.length : Int) + (↑(takeF g i').length : Int) ∧
                              (n = n ∧ (∀ (i : Nat), i < n → g i = g i ∧ [AV.str (g i)].length = [AV.str (g i)].length) ∧ (false = true → false = true)) ∧
                                (↑n : Int) = (↑n : Int) ∧ IntKind.i64.wrap ((↑i : Int) + (1 : Int)) = (↑i' : Int) ∧ True) ∧
                        ((0 : Nat) = (0 : Nat) ∧
                            (true = true → true = true) ∧
                              ((@Eq (List UInt8) [] [] ∧ EqI (0 : Int) (0 : Int) ∧ EqI (0 : Int) (0 : Int) ∧ True) ∧
                                  [AV.str [], AV.int IntKind.i64 (0 : Int), AV.int IntKind.i64 (0 : Int)].length = [AV.str [], AV.int IntKind.i64 (0 : Int), AV.int IntKind.i64 (0 : Int)].length) ∧
                                True) ∧
                          ((0 : Nat) = (0 : Nat) ∧
                              (true = true → true = true) ∧
                                ((u.s = u.s ∧ u.most = u.most ∧ u.err = u.err ∧ True) ∧
                                    [AV.str u.s, AV.int IntKind.i64 u.most, AV.int IntKind.i64 u.err].length = [AV.str u.s, AV.int IntKind.i64 u.most, AV.int IntKind.i64 u.err].length) ∧
                                  True) ∧
                            True)))
            (VB (u.err != (0 : Int)) (u.s = r.s ∧ u.most = r.most ∧ u.err = r.err ∧ True)
              ((∃ (i : Nat),
                  (i ≤ n ∧ (↑u.s.length : Int) + (↑(takeF g n).length : Int) ≤ u.most ∧ u.err = (0 : Int)) ∧
                    (((0 : Nat) = (0 : Nat) ∧ (0 : Nat) = (0 : Nat) ∧ (0 : Nat) = (0 : Nat)) ∧
                        (n = n ∧ (∀ (i : Nat), i < n → g i = g i ∧ [AV.str (g i)].length = [AV.str (g i)].length) ∧ (false = true → false = true)) ∧ (↑n : Int) = (↑n : Int) ∧ (0 : Int) = (↑i : Int) ∧ True) ∧
                      ((0 : Nat) = (0 : Nat) ∧
                          (true = true → true = true) ∧
                            ((@Eq (List UInt8) [] [] ∧ EqI (0 : Int) (0 : Int) ∧ EqI (0 : Int) (0 : Int) ∧ True) ∧
                                [AV.str [], AV.int IntKind.i64 (0 : Int), AV.int IntKind.i64 (0 : Int)].length = [AV.str [], AV.int IntKind.i64 (0 : Int), AV.int IntKind.i64 (0 : Int)].length) ∧
                              True) ∧
                        ((0 : Nat) = (0 : Nat) ∧
                            (true = true → true = true) ∧
                              ((u.s = u.s ++ takeF g i ∧ u.most = u.most ∧ u.err = u.err ∧ True) ∧
                                  [AV.str u.s, AV.int IntKind.i64 u.most, AV.int IntKind.i64 u.err].length = [AV.str (u.s ++ takeF g i), AV.int IntKind.i64 u.most, AV.int IntKind.i64 u.err].length) ∧
                                True) ∧
                          True) ∧
                ∀ (i : Nat),
                  i ≤ n ∧ (↑u.s.length : Int) + (↑(takeF g n).length : Int) ≤ u.most ∧ u.err = (0 : Int) →
                    VB (decide ((↑i : Int) < (↑n : Int)))
                      (NB (decide ((0 : Int) ≤ (↑i : Int) ∧ (↑i : Int) < (↑n : Int)))
                        (NB (decide ((↑(u.s ++ takeF g i).length : Int) + (↑(g (↑i : Int).toNat).length : Int) ≤ (9223372036854775807 : Int)))
                          (∃ (i' : Nat),
                            (i' ≤ n ∧ (↑u.s.length : Int) + (↑(takeF g n).length : Int) ≤ u.most ∧ u.err = (0 : Int)) ∧
                              (invAdd2 u n g).μ i' < (invAdd2 u n g).μ i ∧
                                (((0 : Nat) = (0 : Nat) ∧ (0 : Nat) = (0 : Nat) ∧ (0 : Nat) = (0 : Nat)) ∧
                                    (n = n ∧ (∀ (i : Nat), i < n → g i = g i ∧ [AV.str (g i)].length = [AV.str (g i)].length) ∧ (false = true → false = true)) ∧
                                      (↑n : Int) = (↑n : Int) ∧ IntKind.i64.wrap ((↑i : Int) + (1 : Int)) = (↑i' : Int) ∧ True) ∧
                                  ((0 : Nat) = (0 : Nat) ∧
                                      (true = true → true = true) ∧
                                        ((@Eq (List UInt8) [] [] ∧ EqI (0 : Int) (0 : Int) ∧ EqI (0 : Int) (0 : Int) ∧ True) ∧
                                            [AV.str [], AV.int IntKind.i64 (0 : Int), AV.int IntKind.i64 (0 : Int)].length = [AV.str [], AV.int IntKind.i64 (0 : Int), AV.int IntKind.i64 (0 : Int)].length) ∧
                                          True) ∧
                                    ((0 : Nat) = (0 : Nat) ∧
                                        (true = true → true = true) ∧
                                          ((u.s ++ takeF g i ++ g (↑i : Int).toNat = u.s ++ takeF g i' ∧ u.most = u.most ∧ u.err = u.err ∧ True) ∧
                                              [AV.str (u.s ++ takeF g i ++ g (↑i : Int).toNat), AV.int IntKind.i64 u.most, AV.int IntKind.i64 u.err].length =
                                                [AV.str (u.s ++ takeF g i'), AV.int IntKind.i64 u.most, AV.int IntKind.i64 u.err].length) ∧
                                            True) ∧
                                      True)))
                      (u.s ++ takeF g i = r.s ∧ u.most = r.most ∧ u.err = r.err ∧ True))))) := by
  kernel_rfl

theorem addR_vc (s : List UInt8) (m e : Int) (n : Nat) (g : Nat → List UInt8) (u r : Wr) : (vcFun (mkE Try.prog (tblOf tbl3) fun f b => if f = 18 ∧ b = 0 then some (invAddR u n g) else none) 20 18 [.agg [.str s, .int .i64 m, .int .i64 e], .rof n (fun i => .str (g i)) false] .nil 0 (retP 3 (.agg [.str r.s, .int .i64 r.most, .int .i64 r.err]))).sat = (
  NB (decide (s.length ≤ (9223372036854775807 : Nat)))
    ((∃ (i : Nat),
        (i ≤ n ∧ (takeF g i).length ≤ (40000 : Nat)) ∧
          ((n = n ∧ (∀ (i : Nat), i < n → g i = g i ∧ [AV.str (g i)].length = [AV.str (g i)].length) ∧ (false = true → false = true)) ∧
              ((0 : Nat) = (0 : Nat) ∧ (0 : Nat) = (0 : Nat) ∧ (0 : Nat) = (0 : Nat)) ∧ ((0 : Nat) = (0 : Nat) ∧ (0 : Nat) = (0 : Nat) ∧ (0 : Nat) = (0 : Nat)) ∧ [] = takeF g i ∧ (0 : Int) = (↑i : Int) ∧ True) ∧
            ((0 : Nat) = (0 : Nat) ∧
                (true = true → true = true) ∧
                  (((wrUse { s := s, most := m, err := e }).s = u.s ∧ (wrUse { s := s, most := m, err := e }).most = u.most ∧ (wrUse { s := s, most := m, err := e }).err = u.err ∧ True) ∧
                      [AV.str (wrUse { s := s, most := m, err := e }).s, AV.int IntKind.i64 (wrUse { s := s, most := m, err := e }).most, AV.int IntKind.i64 (wrUse { s := s, most := m, err := e }).err].length =
                        [AV.str u.s, AV.int IntKind.i64 u.most, AV.int IntKind.i64 u.err].length) ∧
                    True) ∧
              ((0 : Nat) = (0 : Nat) ∧
                  (true = true → true = true) ∧
                    ((@Eq (List UInt8) [] [] ∧ EqI (0 : Int) (0 : Int) ∧ EqI (0 : Int) (0 : Int) ∧ True) ∧
                        [AV.str [], AV.int IntKind.i64 (0 : Int), AV.int IntKind.i64 (0 : Int)].length = [AV.str [], AV.int IntKind.i64 (0 : Int), AV.int IntKind.i64 (0 : Int)].length) ∧
                      True) ∧
                True) ∧
      ∀ (i : Nat),
        i ≤ n ∧ (takeF g i).length ≤ (40000 : Nat) →
          VB (decide ((↑i : Int) < (↑n : Int)))
            (NB (decide ((0 : Int) ≤ (↑i : Int) ∧ (↑i : Int) < (↑n : Int)))
              (VB (decide ((↑(g (↑i : Int).toNat).length : Int) > (20000 : Int)) || decide ((↑(takeF g i).length : Int) > (20000 : Int)))
                (NB (decide ((0 : Int) ≤ u.most ∧ u.most ≤ (20000 : Int) ∧ (↑u.s.length : Int) ≤ u.most ∧ (0 : Nat) ≤ (9223372036854775807 : Nat)))
                  ((wrPutX u [] (4 : Int)).s = r.s ∧ (wrPutX u [] (4 : Int)).most = r.most ∧ (wrPutX u [] (4 : Int)).err = r.err ∧ True))
                (NB (decide ((0 : Int) ≤ (↑i : Int) ∧ (↑i : Int) < (↑n : Int)))
                  (NB (decide ((↑(takeF g i).length : Int) + (↑(g (↑i : Int).toNat).length : Int) ≤ (9223372036854775807 : Int)))
                    (∃ (i' : Nat),
                      (i' ≤ n ∧ (takeF g i').length ≤ (40000 : Nat)) ∧
                        (invAddR u n g).μ i' < (invAddR u n g).μ i ∧
                          ((n = n ∧ (∀ (i : Nat), i < n → g i = g i ∧ [AV.str (g i)].length = [AV.str (g i)].length) ∧ (false = true → false = true)) ∧
                              ((0 : Nat) = (0 : Nat) ∧ (0 : Nat) = (0 : Nat) ∧ (0 : Nat) = (0 : Nat)) ∧
                                ((0 : Nat) = (0 : Nat) ∧ (0 : Nat) = (0 : Nat) ∧ (0 : Nat) = (0 : Nat)) ∧ takeF g i ++ g (↑i : Int).toNat = takeF g i' ∧ IntKind.i64.wrap ((↑i : Int) + (1 : Int)) = (↑i' : Int) ∧ True) ∧
                            ((0 : Nat) = (0 : Nat) ∧
                                (true = true → true = true) ∧
                                  ((u.s = u.s ∧ u.most = u.most ∧ u.err = u.err ∧ True) ∧
                                      [AV.str u.s, AV.int IntKind.i64 u.most, AV.int IntKind.i64 u.err].length = [AV.str u.s, AV.int IntKind.i64 u.most, AV.int IntKind.i64 u.err].length) ∧
                                    True) ∧
                              ((0 : Nat) = (0 : Nat) ∧
                                  (true = true → true = true) ∧
                                    ((@Eq (List UInt8) [] [] ∧ EqI (0 : Int) (0 : Int) ∧ EqI (0 : Int) (0 : Int) ∧ True) ∧
                                        [AV.str [], AV.int IntKind.i64 (0 : Int), AV.int IntKind.i64 (0 : Int)].length = [AV.str [], AV.int IntKind.i64 (0 : Int), AV.int IntKind.i64 (0 : Int)].length) ∧
                                      True) ∧
                                True)))))
            (NB (decide ((0 : Int) ≤ u.most ∧ u.most ≤ (20000 : Int) ∧ (↑u.s.length : Int) ≤ u.most ∧ (takeF g i).length ≤ (9223372036854775807 : Nat)))
              ((wrPutX u (takeF g i) (0 : Int)).s = r.s ∧ (wrPutX u (takeF g i) (0 : Int)).most = r.most ∧ (wrPutX u (takeF g i) (0 : Int)).err = r.err ∧ True)))) := by
  kernel_rfl

theorem same_vc (n m : Nat) (f g : Nat → List UInt8) (r : Bool) : (vcFun (mkE Try.prog (tblOf tbl3) fun fn b => if fn = 23 ∧ b = 0 then some (invSame n m f g) else none) 20 23 [.rof n (fun i => .str (f i)) false, .rof m (fun i => .str (g i)) false] .nil 0 (retP 3 (.bool r))).sat = (
  VB ((↑n : Int) != (↑m : Int)) (false = r)
    ((∃ (i : Nat),
        (i ≤ n ∧ n = m ∧ ∀ (j : Nat), j < i → f j = g j) ∧
          ((n = n ∧ (∀ (i : Nat), i < n → f i = f i ∧ [AV.str (f i)].length = [AV.str (f i)].length) ∧ (false = true → false = true)) ∧
              (m = m ∧ (∀ (i : Nat), i < m → g i = g i ∧ [AV.str (g i)].length = [AV.str (g i)].length) ∧ (false = true → false = true)) ∧ (0 : Int) = (↑i : Int) ∧ True) ∧
            True) ∧
      ∀ (i : Nat),
        (i ≤ n ∧ n = m ∧ ∀ (j : Nat), j < i → f j = g j) →
          VB (decide ((↑i : Int) < (↑n : Int)))
            (NB (decide ((0 : Int) ≤ (↑i : Int) ∧ (↑i : Int) < (↑n : Int)))
              (NB (decide ((0 : Int) ≤ (↑i : Int) ∧ (↑i : Int) < (↑m : Int)))
                (VB (!f (↑i : Int).toNat == g (↑i : Int).toNat) (false = r)
                  (∃ (i' : Nat),
                    (i' ≤ n ∧ n = m ∧ ∀ (j : Nat), j < i' → f j = g j) ∧
                      (invSame n m f g).μ i' < (invSame n m f g).μ i ∧
                        ((n = n ∧ (∀ (i : Nat), i < n → f i = f i ∧ [AV.str (f i)].length = [AV.str (f i)].length) ∧ (false = true → false = true)) ∧
                            (m = m ∧ (∀ (i : Nat), i < m → g i = g i ∧ [AV.str (g i)].length = [AV.str (g i)].length) ∧ (false = true → false = true)) ∧ IntKind.i64.wrap ((↑i : Int) + (1 : Int)) = (↑i' : Int) ∧ True) ∧
                          True))))
            (true = r))) := by
  kernel_rfl

end Go.Proofs.Ytfgedkmopgkonaa
