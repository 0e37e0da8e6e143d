/- WIRE 29: the law of reading back, its code. -/
import Derived.Test.YtfgedkmopgkonaaW27m
namespace Go.Proofs.Ytfgedkmopgkonaa
open Pw Go
set_option maxRecDepth 100000
set_option linter.unusedSimpArgs false

def enc1 (h sz : Nat → Int) (i : Nat) : List UInt8 := digS (sizeN (sz i) (h i)) (sizeOf' (sz i)).toNat ++ digS (IntKind.i64.wrap (h i)) 8
def enc2 (g : Nat → List UInt8) (i : Nat) : List UInt8 := (digS (g i).length 2 ++ g i) ++ g i
def u64s (n : Nat) (h : Nat → Int) : AV := .rof n (fun i => .int .u64 (h i)) false
def i64s (n : Nat) (h : Nat → Int) : AV := .rof n (fun i => .int .i64 (h i)) false
def rrow (r : Rd) : Blk := .row 0 4 true (.lst [.agg [.str r.s, .int .i64 r.at_, .int .i64 r.err, .int .i64 r.fat]])
def invB1 (n : Nat) (h : Nat → Int) (ns : Nat) (z : Nat → Int) (k : Nat) (g : Nat → List UInt8) (E : Nat → List UInt8) : Inv :=
  ⟨Nat, 10, fun i => ⟨[(0, u64s n h), (1, i64s ns z), (2, strs k g), (7, .bool true), (8, .ptr 0 0 0 0), (9, .int .i64 i)], [(0, wrow ⟨takeF E i, 20000, 0⟩)]⟩, fun i => i ≤ n, fun i => n - i⟩
def invB2 (n : Nat) (h : Nat → Int) (ns : Nat) (z : Nat → Int) (k : Nat) (g : Nat → List UInt8) (E F : Nat → List UInt8) : Inv :=
  ⟨Nat, 20, fun i => ⟨[(0, u64s n h), (1, i64s ns z), (2, strs k g), (7, .bool true), (8, .ptr 0 0 0 0), (12, .int .i64 i)], [(0, wrow ⟨takeF E n ++ takeF F i, 20000, 0⟩)]⟩, fun i => i ≤ k, fun i => k - i⟩
def invB3 (n : Nat) (h : Nat → Int) (ns : Nat) (z : Nat → Int) (k : Nat) (g : Nat → List UInt8) (E F : Nat → List UInt8) : Inv :=
  ⟨Nat, 30, fun i => ⟨[(0, u64s n h), (1, i64s ns z), (2, strs k g), (7, .bool true), (15, .ptr 20 0 0 0), (16, .int .i64 i)], [(20, rrow ⟨takeF E n ++ takeF F k, (takeF E i).length, 0, 0⟩)]⟩, fun i => i ≤ n, fun i => n - i⟩
def invB4 (n k : Nat) (g : Nat → List UInt8) (E F : Nat → List UInt8) : Inv :=
  ⟨Nat, 40, fun i => ⟨[(2, strs k g), (7, .bool true), (15, .ptr 20 0 0 0), (23, .int .i64 i)], [(20, rrow ⟨takeF E n ++ takeF F k, (takeF E n ++ takeF F i).length, 0, 0⟩)]⟩, fun i => i ≤ k, fun i => k - i⟩
noncomputable def tbl7 : List (Nat × Ctr) := (44, cAt) :: (43, cShort) :: tbl6
theorem tbl7_ok : TblOK Try.prog (fun _ => .undef) (tblOf tbl7) := tbl_cons at_ok (tbl_cons short_ok tbl6_ok)
def invB (n : Nat) (h : Nat → Int) (ns : Nat) (z : Nat → Int) (k : Nat) (g : Nat → List UInt8) (E F : Nat → List UInt8) : FuncId → Nat → Option Inv := fun f b =>
  if f = 7 then (match b with | 0 => some (invB1 n h ns z k g E) | 2 => some (invB2 n h ns z k g E F) | 4 => some (invB3 n h ns z k g E F) | 6 => some (invB4 n k g E F) | _ => none) else none

theorem back_vc (n : Nat) (h : Nat → Int) (ns : Nat) (z : Nat → Int) (k : Nat) (g : Nat → List UInt8) (E F : Nat → List UInt8) : (vcFun (mkE Try.prog (tblOf tbl7) (invB n h ns z k g E F)) 20 7 [.rof n (fun i => .int .u64 (h i)) false, .rof ns (fun i => .int .i64 (z i)) false, .rof k (fun i => .str (g i)) false] .nil 0 (isBool true)).sat = (
  NB (impB (isW false (decide ((↑n : Int) > (20 : Int)) || decide ((↑k : Int) > (8 : Int)))) (decide (k ≤ (1000000 : Nat)) && strsB k fun (i : Nat) => AV.str (g i)))
    (VB (decide ((↑n : Int) > (20 : Int)) || decide ((↑k : Int) > (8 : Int)) || !shortB k (fun (i : Nat) => g i) (100 : Int)) ((true == true) = true)
      ((∃ (i : Nat),
          i.le n ∧
            ((n = n ∧ (∀ (i : Nat), i < n → h i = h i ∧ [AV.int IntKind.u64 (h i)].length = [AV.int IntKind.u64 (h i)].length) ∧ (false = true → false = true)) ∧
                (ns = ns ∧ (∀ (i : Nat), i < ns → z i = z i ∧ [AV.int IntKind.i64 (z i)].length = [AV.int IntKind.i64 (z i)].length) ∧ (false = true → false = true)) ∧
                  (k = k ∧ (∀ (i : Nat), i < k → g i = g i ∧ [AV.str (g i)].length = [AV.str (g i)].length) ∧ (false = true → false = true)) ∧
                    true = true ∧ ((0 : Nat) = (0 : Nat) ∧ (0 : Nat) = (0 : Nat) ∧ (0 : Nat) = (0 : Nat)) ∧ (0 : Int) = (↑i : Int) ∧ True) ∧
              ((0 : Nat) = (0 : Nat) ∧
                  (true = true → true = true) ∧
                    (((wrUse { s := [], most := (20000 : Int), err := (0 : Int) }).s = takeF E i ∧
                          (wrUse { s := [], most := (20000 : Int), err := (0 : Int) }).most = (20000 : Int) ∧ (wrUse { s := [], most := (20000 : Int), err := (0 : Int) }).err = (0 : Int) ∧ True) ∧
                        [AV.str (wrUse { s := [], most := (20000 : Int), err := (0 : Int) }).s, AV.int IntKind.i64 (wrUse { s := [], most := (20000 : Int), err := (0 : Int) }).most,
                              AV.int IntKind.i64 (wrUse { s := [], most := (20000 : Int), err := (0 : Int) }).err].length =
                          [AV.str (takeF E i), AV.int IntKind.i64 (20000 : Int), AV.int IntKind.i64 (0 : Int)].length) ∧
                      True) ∧
                True) ∧
        ∀ (i : Nat),
          i.le n →
            VB (decide ((↑i : Int) < (↑n : Int)))
              (NB (decide ((0 : Int) ≤ (↑i : Int) ∧ (↑i : Int) < (↑n : Int)))
                (NB (decide (ns ≤ (9223372036854775807 : Nat)) && intsB ns fun (i : Nat) => AV.int IntKind.i64 (z i))
                  (NB (decide ((0 : Int) ≤ h (↑i : Int).toNat ∧ h (↑i : Int).toNat ≤ (18446744073709551615 : Int)))
                    (NB
                      (decide
                        ((takeF E i).length ≤ (9223372036854775807 : Nat) ∧
                          (0 : Int) ≤ sizeN (atS ns (fun (i : Nat) => z i) (↑i : Int)) (h (↑i : Int).toNat) ∧
                            sizeN (atS ns (fun (i : Nat) => z i) (↑i : Int)) (h (↑i : Int).toNat) ≤ (18446744073709551615 : Int) ∧
                              (-9223372036854775808 : Int) ≤ sizeOf' (atS ns (fun (i : Nat) => z i) (↑i : Int)) ∧ sizeOf' (atS ns (fun (i : Nat) => z i) (↑i : Int)) ≤ (9223372036854775807 : Int)))
                      (NB (decide ((0 : Int) ≤ (↑i : Int) ∧ (↑i : Int) < (↑n : Int)))
                        (NB
                          (decide
                            ((wrPut { s := takeF E i, most := (20000 : Int), err := (0 : Int) } (sizeOf' (atS ns (fun (i : Nat) => z i) (↑i : Int)))
                                    (sizeN (atS ns (fun (i : Nat) => z i) (↑i : Int)) (h (↑i : Int).toNat))).s.length ≤
                              (9223372036854775807 : Nat)))
                          (∃ (i' : Nat),
                            i'.le n ∧
                              (invB1 n h ns z k g E).μ i' < (invB1 n h ns z k g E).μ i ∧
                                ((n = n ∧ (∀ (i : Nat), i < n → h i = h i ∧ [AV.int IntKind.u64 (h i)].length = [AV.int IntKind.u64 (h i)].length) ∧ (false = true → false = true)) ∧
                                    (ns = ns ∧ (∀ (i : Nat), i < ns → z i = z i ∧ [AV.int IntKind.i64 (z i)].length = [AV.int IntKind.i64 (z i)].length) ∧ (false = true → false = true)) ∧
                                      (k = k ∧ (∀ (i : Nat), i < k → g i = g i ∧ [AV.str (g i)].length = [AV.str (g i)].length) ∧ (false = true → false = true)) ∧
                                        true = true ∧ ((0 : Nat) = (0 : Nat) ∧ (0 : Nat) = (0 : Nat) ∧ (0 : Nat) = (0 : Nat)) ∧ IntKind.i64.wrap ((↑i : Int) + (1 : Int)) = (↑i' : Int) ∧ True) ∧
                                  ((0 : Nat) = (0 : Nat) ∧
                                      (true = true → true = true) ∧
                                        (((wrPutI
                                                    (wrPut { s := takeF E i, most := (20000 : Int), err := (0 : Int) } (sizeOf' (atS ns (fun (i : Nat) => z i) (↑i : Int)))
                                                      (sizeN (atS ns (fun (i : Nat) => z i) (↑i : Int)) (h (↑i : Int).toNat)))
                                                    (IntKind.i64.wrap (h (↑i : Int).toNat))).s =
                                                takeF E i' ∧
                                              (wrPutI
                                                      (wrPut { s := takeF E i, most := (20000 : Int), err := (0 : Int) } (sizeOf' (atS ns (fun (i : Nat) => z i) (↑i : Int)))
                                                        (sizeN (atS ns (fun (i : Nat) => z i) (↑i : Int)) (h (↑i : Int).toNat)))
                                                      (IntKind.i64.wrap (h (↑i : Int).toNat))).most =
                                                  (20000 : Int) ∧
                                                (wrPutI
                                                        (wrPut { s := takeF E i, most := (20000 : Int), err := (0 : Int) } (sizeOf' (atS ns (fun (i : Nat) => z i) (↑i : Int)))
                                                          (sizeN (atS ns (fun (i : Nat) => z i) (↑i : Int)) (h (↑i : Int).toNat)))
                                                        (IntKind.i64.wrap (h (↑i : Int).toNat))).err =
                                                    (0 : Int) ∧
                                                  True) ∧
                                            [AV.str
                                                    (wrPutI
                                                        (wrPut { s := takeF E i, most := (20000 : Int), err := (0 : Int) } (sizeOf' (atS ns (fun (i : Nat) => z i) (↑i : Int)))
                                                          (sizeN (atS ns (fun (i : Nat) => z i) (↑i : Int)) (h (↑i : Int).toNat)))
                                                        (IntKind.i64.wrap (h (↑i : Int).toNat))).s,
                                                  AV.int IntKind.i64
                                                    (wrPutI
                                                        (wrPut { s := takeF E i, most := (20000 : Int), err := (0 : Int) } (sizeOf' (atS ns (fun (i : Nat) => z i) (↑i : Int)))
                                                          (sizeN (atS ns (fun (i : Nat) => z i) (↑i : Int)) (h (↑i : Int).toNat)))
                                                        (IntKind.i64.wrap (h (↑i : Int).toNat))).most,
                                                  AV.int IntKind.i64
                                                    (wrPutI
                                                        (wrPut { s := takeF E i, most := (20000 : Int), err := (0 : Int) } (sizeOf' (atS ns (fun (i : Nat) => z i) (↑i : Int)))
                                                          (sizeN (atS ns (fun (i : Nat) => z i) (↑i : Int)) (h (↑i : Int).toNat)))
                                                        (IntKind.i64.wrap (h (↑i : Int).toNat))).err].length =
                                              [AV.str (takeF E i'), AV.int IntKind.i64 (20000 : Int), AV.int IntKind.i64 (0 : Int)].length) ∧
                                          True) ∧
                                    True)))))))
              ((∃ (i_1 : Nat),
                  i_1.le k ∧
                    ((n = n ∧ (∀ (i : Nat), i < n → h i = h i ∧ [AV.int IntKind.u64 (h i)].length = [AV.int IntKind.u64 (h i)].length) ∧ (false = true → false = true)) ∧
                        (ns = ns ∧ (∀ (i : Nat), i < ns → z i = z i ∧ [AV.int IntKind.i64 (z i)].length = [AV.int IntKind.i64 (z i)].length) ∧ (false = true → false = true)) ∧
                          (k = k ∧ (∀ (i : Nat), i < k → g i = g i ∧ [AV.str (g i)].length = [AV.str (g i)].length) ∧ (false = true → false = true)) ∧
                            true = true ∧ ((0 : Nat) = (0 : Nat) ∧ (0 : Nat) = (0 : Nat) ∧ (0 : Nat) = (0 : Nat)) ∧ (0 : Int) = (↑i_1 : Int) ∧ True) ∧
                      ((0 : Nat) = (0 : Nat) ∧
                          (true = true → true = true) ∧
                            ((takeF E i = takeF E n ++ takeF F i_1 ∧ EqI (20000 : Int) (20000 : Int) ∧ EqI (0 : Int) (0 : Int) ∧ True) ∧
                                [AV.str (takeF E i), AV.int IntKind.i64 (20000 : Int), AV.int IntKind.i64 (0 : Int)].length =
                                  [AV.str (takeF E n ++ takeF F i_1), AV.int IntKind.i64 (20000 : Int), AV.int IntKind.i64 (0 : Int)].length) ∧
                              True) ∧
                        True) ∧
                ∀ (i : Nat),
                  i.le k →
                    VB (decide ((↑i : Int) < (↑k : Int)))
                      (NB (decide ((0 : Int) ≤ (↑i : Int) ∧ (↑i : Int) < (↑k : Int)))
                        (NB (decide ((takeF E n ++ takeF F i).length ≤ (9223372036854775807 : Nat) ∧ (g (↑i : Int).toNat).length ≤ (9223372036854775807 : Nat)))
                          (NB (decide ((0 : Int) ≤ (↑i : Int) ∧ (↑i : Int) < (↑k : Int)))
                            (NB (decide ((wrPutSized { s := takeF E n ++ takeF F i, most := (20000 : Int), err := (0 : Int) } (g (↑i : Int).toNat)).s.length ≤ (9223372036854775807 : Nat)))
                              (∃ (i' : Nat),
                                i'.le k ∧
                                  (invB2 n h ns z k g E F).μ i' < (invB2 n h ns z k g E F).μ i ∧
                                    ((n = n ∧ (∀ (i : Nat), i < n → h i = h i ∧ [AV.int IntKind.u64 (h i)].length = [AV.int IntKind.u64 (h i)].length) ∧ (false = true → false = true)) ∧
                                        (ns = ns ∧ (∀ (i : Nat), i < ns → z i = z i ∧ [AV.int IntKind.i64 (z i)].length = [AV.int IntKind.i64 (z i)].length) ∧ (false = true → false = true)) ∧
                                          (k = k ∧ (∀ (i : Nat), i < k → g i = g i ∧ [AV.str (g i)].length = [AV.str (g i)].length) ∧ (false = true → false = true)) ∧
                                            true = true ∧ ((0 : Nat) = (0 : Nat) ∧ (0 : Nat) = (0 : Nat) ∧ (0 : Nat) = (0 : Nat)) ∧ IntKind.i64.wrap ((↑i : Int) + (1 : Int)) = (↑i' : Int) ∧ True) ∧
                                      ((0 : Nat) = (0 : Nat) ∧
                                          (true = true → true = true) ∧
                                            (((wrAdd (wrUse (wrPutSized { s := takeF E n ++ takeF F i, most := (20000 : Int), err := (0 : Int) } (g (↑i : Int).toNat))) ([] ++ g (↑i : Int).toNat)).s =
                                                    takeF E n ++ takeF F i' ∧
                                                  (wrAdd (wrUse (wrPutSized { s := takeF E n ++ takeF F i, most := (20000 : Int), err := (0 : Int) } (g (↑i : Int).toNat))) ([] ++ g (↑i : Int).toNat)).most = (20000 : Int) ∧
                                                    (wrAdd (wrUse (wrPutSized { s := takeF E n ++ takeF F i, most := (20000 : Int), err := (0 : Int) } (g (↑i : Int).toNat))) ([] ++ g (↑i : Int).toNat)).err = (0 : Int) ∧
                                                      True) ∧
                                                [AV.str (wrAdd (wrUse (wrPutSized { s := takeF E n ++ takeF F i, most := (20000 : Int), err := (0 : Int) } (g (↑i : Int).toNat))) ([] ++ g (↑i : Int).toNat)).s,
                                                      AV.int IntKind.i64
                                                        (wrAdd (wrUse (wrPutSized { s := takeF E n ++ takeF F i, most := (20000 : Int), err := (0 : Int) } (g (↑i : Int).toNat))) ([] ++ g (↑i : Int).toNat)).most,
                                                      AV.int IntKind.i64
                                                        (wrAdd (wrUse (wrPutSized { s := takeF E n ++ takeF F i, most := (20000 : Int), err := (0 : Int) } (g (↑i : Int).toNat))) ([] ++ g (↑i : Int).toNat)).err].length =
                                                  [AV.str (takeF E n ++ takeF F i'), AV.int IntKind.i64 (20000 : Int), AV.int IntKind.i64 (0 : Int)].length) ∧
                                              True) ∧
                                        True)))))
                      (NB (decide ((takeF E n ++ takeF F i).length ≤ (9223372036854775807 : Nat)))
                        (VB ((wrDone { s := takeF E n ++ takeF F i, most := (20000 : Int), err := (0 : Int) }).snd != (0 : Int)) ((false == true) = true)
                          ((∃ (i_1 : Nat),
                              i_1.le n ∧
                                ((n = n ∧ (∀ (i : Nat), i < n → h i = h i ∧ [AV.int IntKind.u64 (h i)].length = [AV.int IntKind.u64 (h i)].length) ∧ (false = true → false = true)) ∧
                                    (ns = ns ∧ (∀ (i : Nat), i < ns → z i = z i ∧ [AV.int IntKind.i64 (z i)].length = [AV.int IntKind.i64 (z i)].length) ∧ (false = true → false = true)) ∧
                                      (k = k ∧ (∀ (i : Nat), i < k → g i = g i ∧ [AV.str (g i)].length = [AV.str (g i)].length) ∧ (false = true → false = true)) ∧
                                        true = true ∧ ((0 : Nat) = (0 : Nat) ∧ (0 : Nat) = (0 : Nat) ∧ (0 : Nat) = (0 : Nat)) ∧ (0 : Int) = (↑i_1 : Int) ∧ True) ∧
                                  ((0 : Nat) = (0 : Nat) ∧
                                      (true = true → true = true) ∧
                                        (((wrDone { s := takeF E n ++ takeF F i, most := (20000 : Int), err := (0 : Int) }).fst = takeF E n ++ takeF F k ∧
                                              (0 : Int) = (↑(takeF E i_1).length : Int) ∧ EqI (0 : Int) (0 : Int) ∧ EqI (0 : Int) (0 : Int) ∧ True) ∧
                                            [AV.str (wrDone { s := takeF E n ++ takeF F i, most := (20000 : Int), err := (0 : Int) }).fst, AV.int IntKind.i64 (0 : Int), AV.int IntKind.i64 (0 : Int),
                                                  AV.int IntKind.i64 (0 : Int)].length =
                                              [AV.str (takeF E n ++ takeF F k), AV.int IntKind.i64 (↑(takeF E i_1).length : Int), AV.int IntKind.i64 (0 : Int), AV.int IntKind.i64 (0 : Int)].length) ∧
                                          True) ∧
                                    True) ∧
                            ∀ (i : Nat),
                              i.le n →
                                VB (decide ((↑i : Int) < (↑n : Int)))
                                  (NB (decide ((0 : Int) ≤ (↑i : Int) ∧ (↑i : Int) < (↑n : Int)))
                                    (NB (decide (ns ≤ (9223372036854775807 : Nat)) && intsB ns fun (i : Nat) => AV.int IntKind.i64 (z i))
                                      (NB (decide ((0 : Int) ≤ h (↑i : Int).toNat ∧ h (↑i : Int).toNat ≤ (18446744073709551615 : Int)))
                                        (NB (decide ((takeF E n ++ takeF F k).length ≤ (9223372036854775807 : Nat)))
                                          (NB
                                            (decide
                                              ((rdUint { s := takeF E n ++ takeF F k, at_ := (↑(takeF E i).length : Int), err := (0 : Int), fat := (0 : Int) }
                                                        (sizeOf' (atS ns (fun (i : Nat) => z i) (↑i : Int)))).fst.s.length ≤
                                                (9223372036854775807 : Nat)))
                                            (NB
                                              (impB
                                                (isW false
                                                  ((rdUint { s := takeF E n ++ takeF F k, at_ := (↑(takeF E i).length : Int), err := (0 : Int), fat := (0 : Int) }
                                                        (sizeOf' (atS ns (fun (i : Nat) => z i) (↑i : Int)))).snd !=
                                                    sizeN (atS ns (fun (i : Nat) => z i) (↑i : Int)) (h (↑i : Int).toNat)))
                                                (decide ((0 : Int) ≤ (↑i : Int) ∧ (↑i : Int) < (↑n : Int))))
                                              (VB
                                                ((rdUint { s := takeF E n ++ takeF F k, at_ := (↑(takeF E i).length : Int), err := (0 : Int), fat := (0 : Int) } (sizeOf' (atS ns (fun (i : Nat) => z i) (↑i : Int)))).snd !=
                                                    sizeN (atS ns (fun (i : Nat) => z i) (↑i : Int)) (h (↑i : Int).toNat) ||
                                                  (rdInt
                                                        (rdUint { s := takeF E n ++ takeF F k, at_ := (↑(takeF E i).length : Int), err := (0 : Int), fat := (0 : Int) }
                                                            (sizeOf' (atS ns (fun (i : Nat) => z i) (↑i : Int)))).fst).snd !=
                                                    IntKind.i64.wrap (h (↑i : Int).toNat))
                                                ((false == true) = true)
                                                (∃ (i' : Nat),
                                                  i'.le n ∧
                                                    (invB3 n h ns z k g E F).μ i' < (invB3 n h ns z k g E F).μ i ∧
                                                      ((n = n ∧ (∀ (i : Nat), i < n → h i = h i ∧ [AV.int IntKind.u64 (h i)].length = [AV.int IntKind.u64 (h i)].length) ∧ (false = true → false = true)) ∧
                                                          (ns = ns ∧ (∀ (i : Nat), i < ns → z i = z i ∧ [AV.int IntKind.i64 (z i)].length = [AV.int IntKind.i64 (z i)].length) ∧ (false = true → false = true)) ∧
                                                            (k = k ∧ (∀ (i : Nat), i < k → g i = g i ∧ [AV.str (g i)].length = [AV.str (g i)].length) ∧ (false = true → false = true)) ∧
                                                              true = true ∧ ((0 : Nat) = (0 : Nat) ∧ (0 : Nat) = (0 : Nat) ∧ (0 : Nat) = (0 : Nat)) ∧ IntKind.i64.wrap ((↑i : Int) + (1 : Int)) = (↑i' : Int) ∧ True) ∧
                                                        ((0 : Nat) = (0 : Nat) ∧
                                                            (true = true → true = true) ∧
                                                              (((rdInt
                                                                            (rdUint { s := takeF E n ++ takeF F k, at_ := (↑(takeF E i).length : Int), err := (0 : Int), fat := (0 : Int) }
                                                                                (sizeOf' (atS ns (fun (i : Nat) => z i) (↑i : Int)))).fst).fst.s =
                                                                      takeF E n ++ takeF F k ∧
                                                                    (rdInt
                                                                              (rdUint { s := takeF E n ++ takeF F k, at_ := (↑(takeF E i).length : Int), err := (0 : Int), fat := (0 : Int) }
                                                                                  (sizeOf' (atS ns (fun (i : Nat) => z i) (↑i : Int)))).fst).fst.at_ =
                                                                        (↑(takeF E i').length : Int) ∧
                                                                      (rdInt
                                                                                (rdUint { s := takeF E n ++ takeF F k, at_ := (↑(takeF E i).length : Int), err := (0 : Int), fat := (0 : Int) }
                                                                                    (sizeOf' (atS ns (fun (i : Nat) => z i) (↑i : Int)))).fst).fst.err =
                                                                          (0 : Int) ∧
                                                                        (rdInt
                                                                                  (rdUint { s := takeF E n ++ takeF F k, at_ := (↑(takeF E i).length : Int), err := (0 : Int), fat := (0 : Int) }
                                                                                      (sizeOf' (atS ns (fun (i : Nat) => z i) (↑i : Int)))).fst).fst.fat =
                                                                            (0 : Int) ∧
                                                                          True) ∧
                                                                  [AV.str
                                                                          (rdInt
                                                                                (rdUint { s := takeF E n ++ takeF F k, at_ := (↑(takeF E i).length : Int), err := (0 : Int), fat := (0 : Int) }
                                                                                    (sizeOf' (atS ns (fun (i : Nat) => z i) (↑i : Int)))).fst).fst.s,
                                                                        AV.int IntKind.i64
                                                                          (rdInt
                                                                                (rdUint { s := takeF E n ++ takeF F k, at_ := (↑(takeF E i).length : Int), err := (0 : Int), fat := (0 : Int) }
                                                                                    (sizeOf' (atS ns (fun (i : Nat) => z i) (↑i : Int)))).fst).fst.at_,
                                                                        AV.int IntKind.i64
                                                                          (rdInt
                                                                                (rdUint { s := takeF E n ++ takeF F k, at_ := (↑(takeF E i).length : Int), err := (0 : Int), fat := (0 : Int) }
                                                                                    (sizeOf' (atS ns (fun (i : Nat) => z i) (↑i : Int)))).fst).fst.err,
                                                                        AV.int IntKind.i64
                                                                          (rdInt
                                                                                (rdUint { s := takeF E n ++ takeF F k, at_ := (↑(takeF E i).length : Int), err := (0 : Int), fat := (0 : Int) }
                                                                                    (sizeOf' (atS ns (fun (i : Nat) => z i) (↑i : Int)))).fst).fst.fat].length =
                                                                    [AV.str (takeF E n ++ takeF F k), AV.int IntKind.i64 (↑(takeF E i').length : Int), AV.int IntKind.i64 (0 : Int), AV.int IntKind.i64 (0 : Int)].length) ∧
                                                                True) ∧
                                                          True))))))))
                                  ((∃ (i_1 : Nat),
                                      i_1.le k ∧
                                        ((k = k ∧ (∀ (i : Nat), i < k → g i = g i ∧ [AV.str (g i)].length = [AV.str (g i)].length) ∧ (false = true → false = true)) ∧
                                            true = true ∧ ((0 : Nat) = (0 : Nat) ∧ (0 : Nat) = (0 : Nat) ∧ (0 : Nat) = (0 : Nat)) ∧ (0 : Int) = (↑i_1 : Int) ∧ True) ∧
                                          ((0 : Nat) = (0 : Nat) ∧
                                              (true = true → true = true) ∧
                                                ((takeF E n ++ takeF F k = takeF E n ++ takeF F k ∧
                                                      (↑(takeF E i).length : Int) = (↑(takeF E n ++ takeF F i_1).length : Int) ∧ EqI (0 : Int) (0 : Int) ∧ EqI (0 : Int) (0 : Int) ∧ True) ∧
                                                    [AV.str (takeF E n ++ takeF F k), AV.int IntKind.i64 (↑(takeF E i).length : Int), AV.int IntKind.i64 (0 : Int), AV.int IntKind.i64 (0 : Int)].length =
                                                      [AV.str (takeF E n ++ takeF F k), AV.int IntKind.i64 (↑(takeF E n ++ takeF F i_1).length : Int), AV.int IntKind.i64 (0 : Int), AV.int IntKind.i64 (0 : Int)].length) ∧
                                                  True) ∧
                                            True) ∧
                                    ∀ (i : Nat),
                                      i.le k →
                                        VB (decide ((↑i : Int) < (↑k : Int)))
                                          (NB (decide ((takeF E n ++ takeF F k).length ≤ (9223372036854775807 : Nat)))
                                            (NB (decide ((0 : Int) ≤ (↑i : Int) ∧ (↑i : Int) < (↑k : Int)))
                                              (NB
                                                  (decide
                                                    ((rdSized { s := takeF E n ++ takeF F k, at_ := (↑(takeF E n ++ takeF F i).length : Int), err := (0 : Int), fat := (0 : Int) } (100 : Int)).fst.s.length ≤
                                                      (9223372036854775807 : Nat)))
                                                  (NB (decide ((0 : Int) ≤ (↑i : Int) ∧ (↑i : Int) < (↑k : Int)))
                                                    (NB
                                                      (impB
                                                        (isW false
                                                          !(rdSized { s := takeF E n ++ takeF F k, at_ := (↑(takeF E n ++ takeF F i).length : Int), err := (0 : Int), fat := (0 : Int) } (100 : Int)).snd ==
                                                              g (↑i : Int).toNat)
                                                        (decide ((0 : Int) ≤ (↑i : Int) ∧ (↑i : Int) < (↑k : Int))))
                                                      (VB
                                                        (!(rdSized { s := takeF E n ++ takeF F k, at_ := (↑(takeF E n ++ takeF F i).length : Int), err := (0 : Int), fat := (0 : Int) } (100 : Int)).snd ==
                                                              g (↑i : Int).toNat ||
                                                          !(rdBytes (rdSized { s := takeF E n ++ takeF F k, at_ := (↑(takeF E n ++ takeF F i).length : Int), err := (0 : Int), fat := (0 : Int) } (100 : Int)).fst
                                                                  (↑(g (↑i : Int).toNat).length : Int)).snd ==
                                                              g (↑i : Int).toNat)
                                                        ((false == true) = true)
                                                        (∃ (i' : Nat),
                                                          i'.le k ∧
                                                            (invB4 n k g E F).μ i' < (invB4 n k g E F).μ i ∧
                                                              ((k = k ∧ (∀ (i : Nat), i < k → g i = g i ∧ [AV.str (g i)].length = [AV.str (g i)].length) ∧ (false = true → false = true)) ∧
                                                                  true = true ∧ ((0 : Nat) = (0 : Nat) ∧ (0 : Nat) = (0 : Nat) ∧ (0 : Nat) = (0 : Nat)) ∧ IntKind.i64.wrap ((↑i : Int) + (1 : Int)) = (↑i' : Int) ∧ True) ∧
                                                                ((0 : Nat) = (0 : Nat) ∧
                                                                    (true = true → true = true) ∧
                                                                      (((rdBytes
                                                                                    (rdSized { s := takeF E n ++ takeF F k, at_ := (↑(takeF E n ++ takeF F i).length : Int), err := (0 : Int), fat := (0 : Int) }
                                                                                        (100 : Int)).fst
                                                                                    (↑(g (↑i : Int).toNat).length : Int)).fst.s =
                                                                              takeF E n ++ takeF F k ∧
                                                                            (rdBytes
                                                                                      (rdSized { s := takeF E n ++ takeF F k, at_ := (↑(takeF E n ++ takeF F i).length : Int), err := (0 : Int), fat := (0 : Int) }
                                                                                          (100 : Int)).fst
                                                                                      (↑(g (↑i : Int).toNat).length : Int)).fst.at_ =
                                                                                (↑(takeF E n ++ takeF F i').length : Int) ∧
                                                                              (rdBytes
                                                                                        (rdSized { s := takeF E n ++ takeF F k, at_ := (↑(takeF E n ++ takeF F i).length : Int), err := (0 : Int), fat := (0 : Int) }
                                                                                            (100 : Int)).fst
                                                                                        (↑(g (↑i : Int).toNat).length : Int)).fst.err =
                                                                                  (0 : Int) ∧
                                                                                (rdBytes
                                                                                          (rdSized { s := takeF E n ++ takeF F k, at_ := (↑(takeF E n ++ takeF F i).length : Int), err := (0 : Int), fat := (0 : Int) }
                                                                                              (100 : Int)).fst
                                                                                          (↑(g (↑i : Int).toNat).length : Int)).fst.fat =
                                                                                    (0 : Int) ∧
                                                                                  True) ∧
                                                                          [AV.str
                                                                                  (rdBytes
                                                                                        (rdSized { s := takeF E n ++ takeF F k, at_ := (↑(takeF E n ++ takeF F i).length : Int), err := (0 : Int), fat := (0 : Int) }
                                                                                            (100 : Int)).fst
                                                                                        (↑(g (↑i : Int).toNat).length : Int)).fst.s,
                                                                                AV.int IntKind.i64
                                                                                  (rdBytes
                                                                                        (rdSized { s := takeF E n ++ takeF F k, at_ := (↑(takeF E n ++ takeF F i).length : Int), err := (0 : Int), fat := (0 : Int) }
                                                                                            (100 : Int)).fst
                                                                                        (↑(g (↑i : Int).toNat).length : Int)).fst.at_,
                                                                                AV.int IntKind.i64
                                                                                  (rdBytes
                                                                                        (rdSized { s := takeF E n ++ takeF F k, at_ := (↑(takeF E n ++ takeF F i).length : Int), err := (0 : Int), fat := (0 : Int) }
                                                                                            (100 : Int)).fst
                                                                                        (↑(g (↑i : Int).toNat).length : Int)).fst.err,
                                                                                AV.int IntKind.i64
                                                                                  (rdBytes
                                                                                        (rdSized { s := takeF E n ++ takeF F k, at_ := (↑(takeF E n ++ takeF F i).length : Int), err := (0 : Int), fat := (0 : Int) }
                                                                                            (100 : Int)).fst
                                                                                        (↑(g (↑i : Int).toNat).length : Int)).fst.fat].length =
                                                                            [AV.str (takeF E n ++ takeF F k), AV.int IntKind.i64 (↑(takeF E n ++ takeF F i').length : Int), AV.int IntKind.i64 (0 : Int),
                                                                                AV.int IntKind.i64 (0 : Int)].length) ∧
                                                                        True) ∧
                                                                  True)))) ∧
                                                NB
                                                  (decide
                                                    ((rdSized { s := takeF E n ++ takeF F k, at_ := (↑(takeF E n ++ takeF F i).length : Int), err := (0 : Int), fat := (0 : Int) } (100 : Int)).fst.s.length ≤
                                                      (9223372036854775807 : Nat)))
                                                  (NB (decide ((0 : Int) ≤ (↑i : Int) ∧ (↑i : Int) < (↑k : Int)))
                                                    (NB
                                                      (impB
                                                        (isW false
                                                          !(rdSized { s := takeF E n ++ takeF F k, at_ := (↑(takeF E n ++ takeF F i).length : Int), err := (0 : Int), fat := (0 : Int) } (100 : Int)).snd ==
                                                              g (↑i : Int).toNat)
                                                        (decide ((0 : Int) ≤ (↑i : Int) ∧ (↑i : Int) < (↑k : Int))))
                                                      (VB
                                                        (!(rdSized { s := takeF E n ++ takeF F k, at_ := (↑(takeF E n ++ takeF F i).length : Int), err := (0 : Int), fat := (0 : Int) } (100 : Int)).snd ==
                                                              g (↑i : Int).toNat ||
                                                          !(rdBytes (rdSized { s := takeF E n ++ takeF F k, at_ := (↑(takeF E n ++ takeF F i).length : Int), err := (0 : Int), fat := (0 : Int) } (100 : Int)).fst
                                                                  (↑(g (↑i : Int).toNat).length : Int)).snd ==
                                                              g (↑i : Int).toNat)
                                                        ((false == true) = true)
                                                        (∃ (i' : Nat),
                                                          i'.le k ∧
                                                            (invB4 n k g E F).μ i' < (invB4 n k g E F).μ i ∧
                                                              ((k = k ∧ (∀ (i : Nat), i < k → g i = g i ∧ [AV.str (g i)].length = [AV.str (g i)].length) ∧ (false = true → false = true)) ∧
                                                                  true = true ∧ ((0 : Nat) = (0 : Nat) ∧ (0 : Nat) = (0 : Nat) ∧ (0 : Nat) = (0 : Nat)) ∧ IntKind.i64.wrap ((↑i : Int) + (1 : Int)) = (↑i' : Int) ∧ True) ∧
                                                                ((0 : Nat) = (0 : Nat) ∧
                                                                    (true = true → true = true) ∧
                                                                      (((rdBytes
                                                                                    (rdSized { s := takeF E n ++ takeF F k, at_ := (↑(takeF E n ++ takeF F i).length : Int), err := (0 : Int), fat := (0 : Int) }
                                                                                        (100 : Int)).fst
                                                                                    (↑(g (↑i : Int).toNat).length : Int)).fst.s =
                                                                              takeF E n ++ takeF F k ∧
                                                                            (rdBytes
                                                                                      (rdSized { s := takeF E n ++ takeF F k, at_ := (↑(takeF E n ++ takeF F i).length : Int), err := (0 : Int), fat := (0 : Int) }
                                                                                          (100 : Int)).fst
                                                                                      (↑(g (↑i : Int).toNat).length : Int)).fst.at_ =
                                                                                (↑(takeF E n ++ takeF F i').length : Int) ∧
                                                                              (rdBytes
                                                                                        (rdSized { s := takeF E n ++ takeF F k, at_ := (↑(takeF E n ++ takeF F i).length : Int), err := (0 : Int), fat := (0 : Int) }
                                                                                            (100 : Int)).fst
                                                                                        (↑(g (↑i : Int).toNat).length : Int)).fst.err =
                                                                                  (0 : Int) ∧
                                                                                (rdBytes
                                                                                          (rdSized { s := takeF E n ++ takeF F k, at_ := (↑(takeF E n ++ takeF F i).length : Int), err := (0 : Int), fat := (0 : Int) }
                                                                                              (100 : Int)).fst
                                                                                          (↑(g (↑i : Int).toNat).length : Int)).fst.fat =
                                                                                    (0 : Int) ∧
                                                                                  True) ∧
                                                                          [AV.str
                                                                                  (rdBytes
                                                                                        (rdSized { s := takeF E n ++ takeF F k, at_ := (↑(takeF E n ++ takeF F i).length : Int), err := (0 : Int), fat := (0 : Int) }
                                                                                            (100 : Int)).fst
                                                                                        (↑(g (↑i : Int).toNat).length : Int)).fst.s,
                                                                                AV.int IntKind.i64
                                                                                  (rdBytes
                                                                                        (rdSized { s := takeF E n ++ takeF F k, at_ := (↑(takeF E n ++ takeF F i).length : Int), err := (0 : Int), fat := (0 : Int) }
                                                                                            (100 : Int)).fst
                                                                                        (↑(g (↑i : Int).toNat).length : Int)).fst.at_,
                                                                                AV.int IntKind.i64
                                                                                  (rdBytes
                                                                                        (rdSized { s := takeF E n ++ takeF F k, at_ := (↑(takeF E n ++ takeF F i).length : Int), err := (0 : Int), fat := (0 : Int) }
                                                                                            (100 : Int)).fst
                                                                                        (↑(g (↑i : Int).toNat).length : Int)).fst.err,
                                                                                AV.int IntKind.i64
                                                                                  (rdBytes
                                                                                        (rdSized { s := takeF E n ++ takeF F k, at_ := (↑(takeF E n ++ takeF F i).length : Int), err := (0 : Int), fat := (0 : Int) }
                                                                                            (100 : Int)).fst
                                                                                        (↑(g (↑i : Int).toNat).length : Int)).fst.fat].length =
                                                                            [AV.str (takeF E n ++ takeF F k), AV.int IntKind.i64 (↑(takeF E n ++ takeF F i').length : Int), AV.int IntKind.i64 (0 : Int),
                                                                                AV.int IntKind.i64 (0 : Int)].length) ∧
                                                                        True) ∧
                                                                  True)))))))
                                          (NB (impB (isW true true) (decide ((takeF E n ++ takeF F k).length ≤ (9223372036854775807 : Nat))))
                                            (((true &&
                                                  ((rdEnd { s := takeF E n ++ takeF F k, at_ := (↑(takeF E n ++ takeF F i).length : Int), err := (0 : Int), fat := (0 : Int) }).err == (0 : Int) &&
                                                    ((rdEnd { s := takeF E n ++ takeF F k, at_ := (↑(takeF E n ++ takeF F i).length : Int), err := (0 : Int), fat := (0 : Int) }).fat == (0 : Int) && true))) ==
                                                true) =
                                              true)))))))))) := by
  kernel_rfl

end Go.Proofs.Ytfgedkmopgkonaa
namespace Go.Proofs.Ytfgedkmopgkonaa
open Pw Go
set_option maxRecDepth 100000
set_option linter.unusedSimpArgs false

theorem strsB_str (n : Nat) (g : Nat → List UInt8) : strsB n (fun i => .str (g i)) = true := by simp [strsB, AV.isStr]
theorem intsB_int (n : Nat) (g : Nat → Int) : intsB n (fun i => .int .i64 (g i)) = true := by simp [intsB, isI64]

section
variable {n : Nat} {h : Nat → Int} {ns : Nat} {z : Nat → Int} {k : Nat} {g : Nat → List UInt8}
theorem enc1_len (sz : Nat → Int) (i : Nat) : (enc1 h sz i).length ≤ 16 := by
  have := sizeOf_ok (sz i)
  simp only [enc1, List.length_append, digS_length]
  omega
theorem step1 (sz : Nat → Int) (hh : ∀ i, i < n → 0 ≤ h i ∧ h i ≤ 18446744073709551615) (hn : n ≤ 20) {i : Nat} (hi : i < n) :
    wrPutI (wrPut ⟨takeF (enc1 h sz) i, 20000, 0⟩ (sizeOf' (sz i)) (sizeN (sz i) (h i))) (IntKind.i64.wrap (h i)) = ⟨takeF (enc1 h sz) (i + 1), 20000, 0⟩ ∧
    (wrPut ⟨takeF (enc1 h sz) i, 20000, 0⟩ (sizeOf' (sz i)) (sizeN (sz i) (h i))).s.length ≤ 1000 := by
  have hl := takeF_len (enc1 h sz) 16 (enc1_len sz) i
  have hs := sizeOf_ok (sz i)
  have hf := size_fits (sz i) (hh i hi).1 (hh i hi).2
  rw [wrPut_big hs.1 hf.1 (by omega), wrPutI_big (by rw [List.length_append, digS_length]; omega), takeF_succ]
  refine ⟨by simp [enc1, List.append_assoc], ?_⟩
  simp only [List.length_append, digS_length]
  omega
theorem step2 (A : List UInt8) (hA : A.length ≤ 400) (hg : ∀ i, i < k → (g i).length ≤ 100) (hk : k ≤ 8) {i : Nat} (hi : i < k) :
    wrAdd (wrUse (wrPutSized ⟨A ++ takeF (enc2 g) i, 20000, 0⟩ (g i))) ([] ++ g i) = ⟨A ++ takeF (enc2 g) (i + 1), 20000, 0⟩ ∧
    (wrPutSized ⟨A ++ takeF (enc2 g) i, 20000, 0⟩ (g i)).s.length ≤ 20000 := by
  have hl := takeF_len' (enc2 g) 202 k (fun i hi => by have := hg i hi; simp only [enc2, List.length_append, digS_length]; omega) i (by omega)
  have hgi := hg i hi
  have hb : (A ++ takeF (enc2 g) i).length ≤ 2100 := by rw [List.length_append]; omega
  rw [wrPutSized_big hgi (by omega)]
  have hb2 : ((A ++ takeF (enc2 g) i) ++ (digS (g i).length 2 ++ g i)).length ≤ 2300 := by simp only [List.length_append, digS_length] at hb ⊢; omega
  rw [wrUse_big (by omega), wrAdd_big (by simp only [List.nil_append]; omega), takeF_succ]
  refine ⟨by simp [enc2, List.append_assoc], ?_⟩
  show ((A ++ takeF (enc2 g) i) ++ (digS (g i).length 2 ++ g i)).length ≤ 20000
  omega
theorem step3 (sz : Nat → Int) (hh : ∀ i, i < n → 0 ≤ h i ∧ h i ≤ 18446744073709551615) (B : List UInt8) {i : Nat} (hi : i < n) :
    ∃ a, rdUint ⟨takeF (enc1 h sz) n ++ B, (takeF (enc1 h sz) i).length, 0, 0⟩ (sizeOf' (sz i)) = (⟨takeF (enc1 h sz) n ++ B, a, 0, 0⟩, sizeN (sz i) (h i)) ∧
      rdInt ⟨takeF (enc1 h sz) n ++ B, a, 0, 0⟩ = (⟨takeF (enc1 h sz) n ++ B, (takeF (enc1 h sz) (i + 1)).length, 0, 0⟩, IntKind.i64.wrap (h i)) := by
  obtain ⟨C, hC⟩ := takeF_split (enc1 h sz) n i hi
  have hs := sizeOf_ok (sz i)
  have hf := size_fits (sz i) (hh i hi).1 (hh i hi).2
  have e1 : takeF (enc1 h sz) n ++ B = takeF (enc1 h sz) i ++ (digS (sizeN (sz i) (h i)) (sizeOf' (sz i)).toNat ++ (digS (IntKind.i64.wrap (h i)) 8 ++ (C ++ B))) := by rw [hC]; simp [enc1]
  have e2 : takeF (enc1 h sz) n ++ B = (takeF (enc1 h sz) i ++ digS (sizeN (sz i) (h i)) (sizeOf' (sz i)).toNat) ++ (digS (IntKind.i64.wrap (h i)) 8 ++ (C ++ B)) := by rw [e1]; simp
  refine ⟨(takeF (enc1 h sz) i ++ digS (sizeN (sz i) (h i)) (sizeOf' (sz i)).toNat).length, ?_, ?_⟩
  · have := rdUint_mid (takeF (enc1 h sz) i) (digS (IntKind.i64.wrap (h i)) 8 ++ (C ++ B)) hs.1 (by omega) hf.1
    rw [← e1] at this
    exact this
  · have := rdInt_mid (takeF (enc1 h sz) i ++ digS (sizeN (sz i) (h i)) (sizeOf' (sz i)).toNat) (C ++ B) (h i)
    rw [← e2] at this
    rw [this, takeF_succ]
    simp [enc1]
theorem step4 (A : List UInt8) (hg : ∀ i, i < k → (g i).length ≤ 100) {i : Nat} (hi : i < k) :
    ∃ a, rdSized ⟨A ++ takeF (enc2 g) k, (A ++ takeF (enc2 g) i).length, 0, 0⟩ 100 = (⟨A ++ takeF (enc2 g) k, a, 0, 0⟩, g i) ∧
      rdBytes ⟨A ++ takeF (enc2 g) k, a, 0, 0⟩ (g i).length = (⟨A ++ takeF (enc2 g) k, (A ++ takeF (enc2 g) (i + 1)).length, 0, 0⟩, g i) := by
  obtain ⟨C, hC⟩ := takeF_split (enc2 g) k i hi
  have e1 : A ++ takeF (enc2 g) k = (A ++ takeF (enc2 g) i) ++ ((digS (g i).length 2 ++ g i) ++ (g i ++ C)) := by rw [hC]; simp [enc2]
  have e2 : A ++ takeF (enc2 g) k = ((A ++ takeF (enc2 g) i) ++ (digS (g i).length 2 ++ g i)) ++ (g i ++ C) := by rw [e1]; simp
  refine ⟨((A ++ takeF (enc2 g) i) ++ (digS (g i).length 2 ++ g i)).length, ?_, ?_⟩
  · have := rdSized_mid (A ++ takeF (enc2 g) i) (g i) (g i ++ C) (hg i hi)
    rw [← e1] at this
    exact this
  · have := rdBytes_mid ((A ++ takeF (enc2 g) i) ++ (digS (g i).length 2 ++ g i)) (g i) C
    rw [← e2] at this
    rw [this, takeF_succ]
    simp [enc2]
end

theorem back_sat (n : Nat) (h : Nat → Int) (ns : Nat) (z : Nat → Int) (k : Nat) (g : Nat → List UInt8) (hh : ∀ i, i < n → 0 ≤ h i ∧ h i ≤ 18446744073709551615) (hns : ns ≤ 9223372036854775807) (hk0 : k ≤ 1000000 ∨ 20 < n ∨ 8 < k) :
    (vcFun (mkE Try.prog (tblOf tbl7) (invB n h ns z k g (enc1 h fun i => atS ns z i) (enc2 g))) 20 7 [.rof n (fun i => .int .u64 (h i)) false, .rof ns (fun i => .int .i64 (z i)) false, .rof k (fun i => .str (g i)) false] .nil 0 (isBool true)).sat := by
  refine (back_vc n h ns z k g _ _).mpr ?_
  simp only [strsB_str, intsB_int, EqI, true_and, and_true, implies_true, Int.toNat_natCast, List.length_cons, List.length_nil, Bool.and_true, Nat.le_eq, decide_eq_true_eq, toInt]
  refine NB_intro (by simp [impB, isW]; split <;> simp_all; omega) (VB_intro (fun _ => rfl) (fun hc => ?_))
  simp only [Bool.or_eq_false_iff, decide_eq_false_iff_not, Bool.not_eq_false'] at hc
  obtain ⟨⟨hn0, hk1⟩, hsh⟩ := hc
  have hn : n ≤ 20 := by omega
  have hk : k ≤ 8 := by omega
  have hg : ∀ i, i < k → (g i).length ≤ 100 := by
    intro i hi
    have := List.all_eq_true.1 hsh i (by simpa using hi)
    simp only [decide_eq_true_eq] at this
    omega
  have lE : ∀ i, (takeF (enc1 h fun i => atS ns z i) i).length ≤ 16 * i := takeF_len _ 16 (enc1_len (h := h) (fun i : Nat => atS ns z i))
  have lF : ∀ i, i ≤ k → (takeF (enc2 g) i).length ≤ 202 * i := takeF_len' (enc2 g) 202 k (fun i hi => by have := hg i hi; simp only [enc2, List.length_append, digS_length]; omega)
  have t0 : ∀ e : Nat → List UInt8, takeF e 0 = [] := fun _ => rfl
  have u0 : wrUse ⟨[], 20000, 0⟩ = ⟨[], 20000, 0⟩ := wrUse_big (by simp)
  refine ⟨⟨0, by simp [u0, t0]⟩, fun i hi => VB_intro (fun hlt => ?_) (fun hge => ?_)⟩
  · have hi' : i < n := by have := of_decide_eq_true hlt; omega
    have s1 := step1 (h := h) (fun i : Nat => atS ns z i) hh hn hi'
    have hs := sizeOf_ok (atS ns (fun i => z i) i)
    have hf := size_fits (atS ns (fun i => z i) i) (hh i hi').1 (hh i hi').2
    have hb := hh i hi'
    have hl := lE i
    simp only [s1.1]
    repeat' (first
      | (with_reducible refine VB_intro (fun h => ?_) (fun h => ?_) <;> try simp only [h, VB_t, VB_f, NB_t, Bool.not_true, Bool.not_false, Bool.true_and, Bool.false_and, Bool.and_true, Bool.and_false])
      | (with_reducible refine NB_intro' ?_ (fun h => ?_))
      | (with_reducible refine Exists.intro (i + 1) ?_)
      | (with_reducible refine And.intro ?_ ?_))
    all_goals try simp only [invB1, isW_t, isW_f, impB_t, impB_f, beq_iff_eq, bne_iff_ne, Bool.not_eq_eq_eq_not, Bool.not_true, Bool.not_false, Bool.and_eq_true, Bool.and_eq_false_iff, Bool.or_eq_true, Bool.or_eq_false_iff, beq_eq_false_iff_ne, decide_eq_true_eq, decide_eq_false_iff_not, EqI, List.length_append, List.append_assoc] at *
    all_goals try simp (disch := omega) only [wrap_i64_id, wrap_u64_id, Int.add_sub_cancel] at *
    all_goals try simp (disch := omega) only [wrap_i64_id, wrap_u64_id, Int.add_sub_cancel] at *
    all_goals try omega
    all_goals try grind (splits := 20) [invB1]
  · have hin : i = n := by have := of_decide_eq_false hge; omega
    subst hin
    have hA := lE i
    refine ⟨⟨0, by simp [t0]⟩, fun j hj => VB_intro (fun hlt => ?_) (fun hge => ?_)⟩
    · have hj' : j < k := by have := of_decide_eq_true hlt; omega
      have s2 := step2 (k := k) (takeF (enc1 h fun i => atS ns z i) i) (by omega) hg hk hj'
      have hl := lF j hj
      have hgj := hg j hj'
      simp only [s2.1]
      repeat' (first
        | (with_reducible refine VB_intro (fun h => ?_) (fun h => ?_) <;> try simp only [h, VB_t, VB_f, NB_t, Bool.not_true, Bool.not_false, Bool.true_and, Bool.false_and, Bool.and_true, Bool.and_false])
        | (with_reducible refine NB_intro' ?_ (fun h => ?_))
        | (with_reducible refine Exists.intro (j + 1) ?_)
        | (with_reducible refine And.intro ?_ ?_))
      all_goals try simp only [invB2, isW_t, isW_f, impB_t, impB_f, beq_iff_eq, bne_iff_ne, Bool.not_eq_eq_eq_not, Bool.not_true, Bool.not_false, Bool.and_eq_true, Bool.and_eq_false_iff, Bool.or_eq_true, Bool.or_eq_false_iff, beq_eq_false_iff_ne, decide_eq_true_eq, decide_eq_false_iff_not, EqI, List.length_append, List.append_assoc] at *
      all_goals try simp (disch := omega) only [wrap_i64_id, wrap_u64_id, Int.add_sub_cancel] at *
      all_goals try simp (disch := omega) only [wrap_i64_id, wrap_u64_id, Int.add_sub_cancel] at *
      all_goals try omega
      all_goals try grind (splits := 20) [invB2]
    · have hjk : j = k := by have := of_decide_eq_false hge; omega
      subst hjk
      have hF := lF j (Nat.le_refl j)
      have hd : wrDone ⟨takeF (enc1 h fun i => atS ns z i) i ++ takeF (enc2 g) j, 20000, 0⟩ = (takeF (enc1 h fun i => atS ns z i) i ++ takeF (enc2 g) j, 0) := by
        unfold wrDone
        rw [wrUse_big (by rw [List.length_append]; omega)]
        simp
      simp only [hd]
      refine NB_intro (by simp only [List.length_append, decide_eq_true_eq]; omega) (VB_intro (fun h => by simp at h) (fun _ => ⟨⟨0, by simp [t0]⟩, fun a ha => VB_intro (fun hlt => ?_) (fun hge => ?_)⟩))
      · have ha' : a < i := by have := of_decide_eq_true hlt; omega
        obtain ⟨q, s3, s3'⟩ := step3 (n := i) (h := h) (fun i : Nat => atS ns z i) hh (takeF (enc2 g) j) ha'
        have hb := hh a ha'
        have hs := sizeOf_ok (atS ns (fun i => z i) a)
        simp only [s3, s3', bne_self_eq_false, Bool.or_self, VB_f]
        have hS : (takeF (enc1 h fun i => atS ns z i) i ++ takeF (enc2 g) j).length ≤ 9000 := by rw [List.length_append]; omega
        repeat' (first
          | (with_reducible refine VB_intro (fun h => ?_) (fun h => ?_) <;> try simp only [h, VB_t, VB_f, NB_t, Bool.not_true, Bool.not_false, Bool.true_and, Bool.false_and, Bool.and_true, Bool.and_false])
          | (with_reducible refine NB_intro' ?_ (fun h => ?_))
          | (with_reducible refine Exists.intro (a + 1) ?_)
          | (with_reducible refine And.intro ?_ ?_))
        all_goals try simp only [invB3, isW_t, isW_f, impB_t, impB_f, beq_iff_eq, bne_iff_ne, Bool.not_eq_eq_eq_not, Bool.not_true, Bool.not_false, Bool.and_eq_true, Bool.and_eq_false_iff, Bool.or_eq_true, Bool.or_eq_false_iff, beq_eq_false_iff_ne, decide_eq_true_eq, decide_eq_false_iff_not, EqI, List.length_append, List.append_assoc] at *
        all_goals try simp (disch := omega) only [wrap_i64_id, wrap_u64_id, Int.add_sub_cancel] at *
        all_goals try simp (disch := omega) only [wrap_i64_id, wrap_u64_id, Int.add_sub_cancel] at *
        all_goals try omega
        all_goals try grind (splits := 20) [invB3]
      · have hai : a = i := by have := of_decide_eq_false hge; omega
        subst hai
        refine ⟨⟨0, by simp [t0]⟩, fun b hb => VB_intro (fun hlt => ?_) (fun hge => ?_)⟩
        · have hb' : b < j := by have := of_decide_eq_true hlt; omega
          obtain ⟨q, s4, s4'⟩ := step4 (k := j) (takeF (enc1 h fun i => atS ns z i) a) hg hb'
          simp only [s4, s4', beq_self_eq_true, Bool.not_true, Bool.or_self, VB_f]
          have hS : (takeF (enc1 h fun i => atS ns z i) a ++ takeF (enc2 g) j).length ≤ 9000 := by rw [List.length_append]; omega
          have hgb := hg b hb'
          repeat' (first
            | (with_reducible refine VB_intro (fun h => ?_) (fun h => ?_) <;> try simp only [h, VB_t, VB_f, NB_t, Bool.not_true, Bool.not_false, Bool.true_and, Bool.false_and, Bool.and_true, Bool.and_false])
            | (with_reducible refine NB_intro' ?_ (fun h => ?_))
            | (with_reducible refine Exists.intro (b + 1) ?_)
            | (with_reducible refine And.intro ?_ ?_))
          all_goals try simp only [invB4, isW_t, isW_f, impB_t, impB_f, beq_iff_eq, bne_iff_ne, Bool.not_eq_eq_eq_not, Bool.not_true, Bool.not_false, Bool.and_eq_true, Bool.and_eq_false_iff, Bool.or_eq_true, Bool.or_eq_false_iff, beq_eq_false_iff_ne, decide_eq_true_eq, decide_eq_false_iff_not, EqI, List.length_append, List.append_assoc] at *
          all_goals try simp (disch := omega) only [wrap_i64_id, wrap_u64_id, Int.add_sub_cancel] at *
          all_goals try simp (disch := omega) only [wrap_i64_id, wrap_u64_id, Int.add_sub_cancel] at *
          all_goals try omega
          all_goals try grind (splits := 20) [invB4]
        · have hbj : b = j := by have := of_decide_eq_false hge; omega
          subst hbj
          have he : rdEnd ⟨takeF (enc1 h fun i => atS ns z i) a ++ takeF (enc2 g) b, ((takeF (enc1 h fun i => atS ns z i) a ++ takeF (enc2 g) b).length : Int), 0, 0⟩ = ⟨takeF (enc1 h fun i => atS ns z i) a ++ takeF (enc2 g) b, ((takeF (enc1 h fun i => atS ns z i) a ++ takeF (enc2 g) b).length : Int), 0, 0⟩ := by
            unfold rdEnd
            rw [rdUse_ok (by omega) (by omega), if_neg (Int.lt_irrefl _)]
          simp only [he]
          refine NB_intro (by simp only [impB_t, List.length_append, decide_eq_true_eq]; intro; omega) (by simp)
end Go.Proofs.Ytfgedkmopgkonaa
