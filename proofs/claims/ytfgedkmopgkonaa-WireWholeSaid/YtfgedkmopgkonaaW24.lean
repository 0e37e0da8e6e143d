/- WIRE 24: the law of the whole, its code. -/
import Derived.Test.YtfgedkmopgkonaaW21
namespace Go.Proofs.Ytfgedkmopgkonaa
open Pw Go
set_option maxRecDepth 100000

def ints (n : Nat) (h : Nat → Int) : AV := .rof n (fun i => .int .i64 (h i)) false
def rrow (r : Rd) : Blk := .row 0 4 true (.lst [.agg [.str r.s, .int .i64 r.at_, .int .i64 r.err, .int .i64 r.fat]])
def invWh (s : List UInt8) (n : Nat) (h : Nat → Int) : Inv := ⟨Rd × Nat, 10, fun q => ⟨[(0, .str s), (1, ints n h), (5, .bool true), (6, .ptr 0 0 0 0), (7, .str (s.take q.1.at_.toNat)), (8, .int .i64 q.2)], [(0, rrow q.1)]⟩,
  fun q => rdOK q.1 = true ∧ q.1.s = s ∧ q.2 ≤ n ∧ q.2 ≤ 30, fun q => 30 - q.2⟩

theorem whole_vc (s : List UInt8) (n : Nat) (h : Nat → Int) : (vcFun (mkE Try.prog (tblOf tbl6) (fun f bl => if f = 8 ∧ bl = 0 then some (invWh s n h) else none)) 20 8 [.str s, .rof n (fun i => .int .i64 (h i)) false] .nil 0 (isBool true)).sat = (
  VB (decide ((↑s.length : Int) > (200 : Int))) ((true == true) = true)
    ((∃ (i : Rd × Nat),
        (rdOK i.fst = true ∧ i.fst.s = s ∧ i.snd ≤ n ∧ i.snd ≤ (30 : Nat)) ∧
          (s = s ∧
              (n = n ∧ (∀ (i : Nat), i < n → h i = h i ∧ [AV.int IntKind.i64 (h i)].length = [AV.int IntKind.i64 (h i)].length) ∧ (false = true → false = true)) ∧
                true = true ∧ ((0 : Nat) = (0 : Nat) ∧ (0 : Nat) = (0 : Nat) ∧ (0 : Nat) = (0 : Nat)) ∧ [] = List.take i.fst.at_.toNat s ∧ (0 : Int) = (↑i.snd : Int) ∧ True) ∧
            ((0 : Nat) = (0 : Nat) ∧
                (true = true → true = true) ∧
                  ((s = i.fst.s ∧ (0 : Int) = i.fst.at_ ∧ (0 : Int) = i.fst.err ∧ (0 : Int) = i.fst.fat ∧ True) ∧
                      [AV.str s, AV.int IntKind.i64 (0 : Int), AV.int IntKind.i64 (0 : Int), AV.int IntKind.i64 (0 : Int)].length =
                        [AV.str i.fst.s, AV.int IntKind.i64 i.fst.at_, AV.int IntKind.i64 i.fst.err, AV.int IntKind.i64 i.fst.fat].length) ∧
                    True) ∧
              True) ∧
      ∀ (i : Rd × Nat),
        rdOK i.fst = true ∧ i.fst.s = s ∧ i.snd ≤ n ∧ i.snd ≤ (30 : Nat) →
          VB (decide ((↑i.snd : Int) < (↑n : Int)) && decide ((↑i.snd : Int) < (30 : Int)))
            (NB (decide ((0 : Int) ≤ (↑i.snd : Int) ∧ (↑i.snd : Int) < (↑n : Int)))
              (NB (decide (i.fst.s.length ≤ (9223372036854775807 : Nat)))
                  (VB
                    (!(rdBytes i.fst (h (↑i.snd : Int).toNat)).fst.s == s || decide ((rdBytes i.fst (h (↑i.snd : Int).toNat)).fst.at_ < i.fst.at_) ||
                        decide ((rdBytes i.fst (h (↑i.snd : Int).toNat)).fst.at_ > (↑s.length : Int)) ||
                      i.fst.err != (0 : Int) &&
                        (!((rdBytes i.fst (h (↑i.snd : Int).toNat)).fst.s == i.fst.s &&
                              ((rdBytes i.fst (h (↑i.snd : Int).toNat)).fst.at_ == i.fst.at_ &&
                                ((rdBytes i.fst (h (↑i.snd : Int).toNat)).fst.err == i.fst.err && ((rdBytes i.fst (h (↑i.snd : Int).toNat)).fst.fat == i.fst.fat && true)))) ||
                          !(rdBytes i.fst (h (↑i.snd : Int).toNat)).snd == []))
                    ((false == true) = true)
                    (NB (decide ((↑(List.take i.fst.at_.toNat s).length : Int) + (↑(rdBytes i.fst (h (↑i.snd : Int).toNat)).snd.length : Int) ≤ (9223372036854775807 : Int)))
                      (∃ (i' : Rd × Nat),
                        (rdOK i'.fst = true ∧ i'.fst.s = s ∧ i'.snd ≤ n ∧ i'.snd ≤ (30 : Nat)) ∧
                          (invWh s n h).μ i' < (invWh s n h).μ i ∧
                            (s = s ∧
                                (n = n ∧ (∀ (i : Nat), i < n → h i = h i ∧ [AV.int IntKind.i64 (h i)].length = [AV.int IntKind.i64 (h i)].length) ∧ (false = true → false = true)) ∧
                                  true = true ∧
                                    ((0 : Nat) = (0 : Nat) ∧ (0 : Nat) = (0 : Nat) ∧ (0 : Nat) = (0 : Nat)) ∧
                                      List.take i.fst.at_.toNat s ++ (rdBytes i.fst (h (↑i.snd : Int).toNat)).snd = List.take i'.fst.at_.toNat s ∧ IntKind.i64.wrap ((↑i.snd : Int) + (1 : Int)) = (↑i'.snd : Int) ∧ True) ∧
                              ((0 : Nat) = (0 : Nat) ∧
                                  (true = true → true = true) ∧
                                    (((rdBytes i.fst (h (↑i.snd : Int).toNat)).fst.s = i'.fst.s ∧
                                          (rdBytes i.fst (h (↑i.snd : Int).toNat)).fst.at_ = i'.fst.at_ ∧
                                            (rdBytes i.fst (h (↑i.snd : Int).toNat)).fst.err = i'.fst.err ∧ (rdBytes i.fst (h (↑i.snd : Int).toNat)).fst.fat = i'.fst.fat ∧ True) ∧
                                        [AV.str (rdBytes i.fst (h (↑i.snd : Int).toNat)).fst.s, AV.int IntKind.i64 (rdBytes i.fst (h (↑i.snd : Int).toNat)).fst.at_,
                                              AV.int IntKind.i64 (rdBytes i.fst (h (↑i.snd : Int).toNat)).fst.err, AV.int IntKind.i64 (rdBytes i.fst (h (↑i.snd : Int).toNat)).fst.fat].length =
                                          [AV.str i'.fst.s, AV.int IntKind.i64 i'.fst.at_, AV.int IntKind.i64 i'.fst.err, AV.int IntKind.i64 i'.fst.fat].length) ∧
                                      True) ∧
                                True))) ∧
                NB (decide (i.fst.s.length ≤ (9223372036854775807 : Nat)))
                  (VB
                    (!(rdBytes i.fst (h (↑i.snd : Int).toNat)).fst.s == s || decide ((rdBytes i.fst (h (↑i.snd : Int).toNat)).fst.at_ < i.fst.at_) ||
                        decide ((rdBytes i.fst (h (↑i.snd : Int).toNat)).fst.at_ > (↑s.length : Int)) ||
                      i.fst.err != (0 : Int) &&
                        (!((rdBytes i.fst (h (↑i.snd : Int).toNat)).fst.s == i.fst.s &&
                              ((rdBytes i.fst (h (↑i.snd : Int).toNat)).fst.at_ == i.fst.at_ &&
                                ((rdBytes i.fst (h (↑i.snd : Int).toNat)).fst.err == i.fst.err && ((rdBytes i.fst (h (↑i.snd : Int).toNat)).fst.fat == i.fst.fat && true)))) ||
                          !(rdBytes i.fst (h (↑i.snd : Int).toNat)).snd == []))
                    ((false == true) = true)
                    (NB (decide ((↑(List.take i.fst.at_.toNat s).length : Int) + (↑(rdBytes i.fst (h (↑i.snd : Int).toNat)).snd.length : Int) ≤ (9223372036854775807 : Int)))
                      (∃ (i' : Rd × Nat),
                        (rdOK i'.fst = true ∧ i'.fst.s = s ∧ i'.snd ≤ n ∧ i'.snd ≤ (30 : Nat)) ∧
                          (invWh s n h).μ i' < (invWh s n h).μ i ∧
                            (s = s ∧
                                (n = n ∧ (∀ (i : Nat), i < n → h i = h i ∧ [AV.int IntKind.i64 (h i)].length = [AV.int IntKind.i64 (h i)].length) ∧ (false = true → false = true)) ∧
                                  true = true ∧
                                    ((0 : Nat) = (0 : Nat) ∧ (0 : Nat) = (0 : Nat) ∧ (0 : Nat) = (0 : Nat)) ∧
                                      List.take i.fst.at_.toNat s ++ (rdBytes i.fst (h (↑i.snd : Int).toNat)).snd = List.take i'.fst.at_.toNat s ∧ IntKind.i64.wrap ((↑i.snd : Int) + (1 : Int)) = (↑i'.snd : Int) ∧ True) ∧
                              ((0 : Nat) = (0 : Nat) ∧
                                  (true = true → true = true) ∧
                                    (((rdBytes i.fst (h (↑i.snd : Int).toNat)).fst.s = i'.fst.s ∧
                                          (rdBytes i.fst (h (↑i.snd : Int).toNat)).fst.at_ = i'.fst.at_ ∧
                                            (rdBytes i.fst (h (↑i.snd : Int).toNat)).fst.err = i'.fst.err ∧ (rdBytes i.fst (h (↑i.snd : Int).toNat)).fst.fat = i'.fst.fat ∧ True) ∧
                                        [AV.str (rdBytes i.fst (h (↑i.snd : Int).toNat)).fst.s, AV.int IntKind.i64 (rdBytes i.fst (h (↑i.snd : Int).toNat)).fst.at_,
                                              AV.int IntKind.i64 (rdBytes i.fst (h (↑i.snd : Int).toNat)).fst.err, AV.int IntKind.i64 (rdBytes i.fst (h (↑i.snd : Int).toNat)).fst.fat].length =
                                          [AV.str i'.fst.s, AV.int IntKind.i64 i'.fst.at_, AV.int IntKind.i64 i'.fst.err, AV.int IntKind.i64 i'.fst.fat].length) ∧
                                      True) ∧
                                True)))))
            (NB (decide ((0 : Int) ≤ i.fst.at_ ∧ i.fst.at_ ≤ (↑s.length : Int) ∧ (↑s.length : Int) ≤ (↑s.length : Int)))
              (NB (decide ((↑(List.take i.fst.at_.toNat s).length : Int) + (↑(List.take ((↑s.length : Int).toNat - i.fst.at_.toNat) (List.drop i.fst.at_.toNat s)).length : Int) ≤ (9223372036854775807 : Int)))
                (VB (!List.take i.fst.at_.toNat s ++ List.take ((↑s.length : Int).toNat - i.fst.at_.toNat) (List.drop i.fst.at_.toNat s) == s) ((false == true) = true)
                  (NB (decide ((wrUse { s := [], most := (↑s.length : Int), err := (0 : Int) }).s.length ≤ (9223372036854775807 : Nat)))
                    (NB
                      (impB
                        (isW true
                          (true && (wrAdd (wrUse (wrUse { s := [], most := (↑s.length : Int), err := (0 : Int) })) (s ++ [(120 : UInt8)])).err == (4 : Int) &&
                            (wrAdd (wrUse (wrUse { s := [], most := (↑s.length : Int), err := (0 : Int) })) (s ++ [(120 : UInt8)])).s == []))
                        (decide
                          ((wrAdd (wrUse (wrUse { s := [], most := (↑s.length : Int), err := (0 : Int) })) (s ++ [(120 : UInt8)])).s.length ≤ (9223372036854775807 : Nat) ∧
                            (0 : Int) ≤ (0 : Int) ∧ (0 : Int) ≤ (18446744073709551615 : Int) ∧ (-9223372036854775808 : Int) ≤ (1 : Int) ∧ (1 : Int) ≤ (9223372036854775807 : Int))))
                      (NB
                        (impB
                          (isW true
                            (true && (wrAdd (wrUse (wrUse { s := [], most := (↑s.length : Int), err := (0 : Int) })) (s ++ [(120 : UInt8)])).err == (4 : Int) &&
                                (wrAdd (wrUse (wrUse { s := [], most := (↑s.length : Int), err := (0 : Int) })) (s ++ [(120 : UInt8)])).s == [] &&
                              ((wrPut (wrAdd (wrUse (wrUse { s := [], most := (↑s.length : Int), err := (0 : Int) })) (s ++ [(120 : UInt8)])) (1 : Int) (0 : Int)).s ==
                                  (wrAdd (wrUse (wrUse { s := [], most := (↑s.length : Int), err := (0 : Int) })) (s ++ [(120 : UInt8)])).s &&
                                ((wrPut (wrAdd (wrUse (wrUse { s := [], most := (↑s.length : Int), err := (0 : Int) })) (s ++ [(120 : UInt8)])) (1 : Int) (0 : Int)).most ==
                                    (wrAdd (wrUse (wrUse { s := [], most := (↑s.length : Int), err := (0 : Int) })) (s ++ [(120 : UInt8)])).most &&
                                  ((wrPut (wrAdd (wrUse (wrUse { s := [], most := (↑s.length : Int), err := (0 : Int) })) (s ++ [(120 : UInt8)])) (1 : Int) (0 : Int)).err ==
                                      (wrAdd (wrUse (wrUse { s := [], most := (↑s.length : Int), err := (0 : Int) })) (s ++ [(120 : UInt8)])).err &&
                                    true)))))
                          (decide ((wrAdd (wrUse (wrUse { s := [], most := (↑s.length : Int), err := (0 : Int) })) (s ++ [(120 : UInt8)])).s.length ≤ (9223372036854775807 : Nat) ∧ (0 : Nat) ≤ (9223372036854775807 : Nat))))
                        (NB
                          (impB
                            (isW true
                              (true && (wrAdd (wrUse (wrUse { s := [], most := (↑s.length : Int), err := (0 : Int) })) (s ++ [(120 : UInt8)])).err == (4 : Int) &&
                                    (wrAdd (wrUse (wrUse { s := [], most := (↑s.length : Int), err := (0 : Int) })) (s ++ [(120 : UInt8)])).s == [] &&
                                  ((wrPut (wrAdd (wrUse (wrUse { s := [], most := (↑s.length : Int), err := (0 : Int) })) (s ++ [(120 : UInt8)])) (1 : Int) (0 : Int)).s ==
                                      (wrAdd (wrUse (wrUse { s := [], most := (↑s.length : Int), err := (0 : Int) })) (s ++ [(120 : UInt8)])).s &&
                                    ((wrPut (wrAdd (wrUse (wrUse { s := [], most := (↑s.length : Int), err := (0 : Int) })) (s ++ [(120 : UInt8)])) (1 : Int) (0 : Int)).most ==
                                        (wrAdd (wrUse (wrUse { s := [], most := (↑s.length : Int), err := (0 : Int) })) (s ++ [(120 : UInt8)])).most &&
                                      ((wrPut (wrAdd (wrUse (wrUse { s := [], most := (↑s.length : Int), err := (0 : Int) })) (s ++ [(120 : UInt8)])) (1 : Int) (0 : Int)).err ==
                                          (wrAdd (wrUse (wrUse { s := [], most := (↑s.length : Int), err := (0 : Int) })) (s ++ [(120 : UInt8)])).err &&
                                        true))) &&
                                ((wrPutSized (wrAdd (wrUse (wrUse { s := [], most := (↑s.length : Int), err := (0 : Int) })) (s ++ [(120 : UInt8)])) []).s ==
                                    (wrAdd (wrUse (wrUse { s := [], most := (↑s.length : Int), err := (0 : Int) })) (s ++ [(120 : UInt8)])).s &&
                                  ((wrPutSized (wrAdd (wrUse (wrUse { s := [], most := (↑s.length : Int), err := (0 : Int) })) (s ++ [(120 : UInt8)])) []).most ==
                                      (wrAdd (wrUse (wrUse { s := [], most := (↑s.length : Int), err := (0 : Int) })) (s ++ [(120 : UInt8)])).most &&
                                    ((wrPutSized (wrAdd (wrUse (wrUse { s := [], most := (↑s.length : Int), err := (0 : Int) })) (s ++ [(120 : UInt8)])) []).err ==
                                        (wrAdd (wrUse (wrUse { s := [], most := (↑s.length : Int), err := (0 : Int) })) (s ++ [(120 : UInt8)])).err &&
                                      true)))))
                            (decide
                              ((wrAdd (wrUse (wrUse { s := [], most := (↑s.length : Int), err := (0 : Int) })) (s ++ [(120 : UInt8)])).s.length ≤ (9223372036854775807 : Nat) ∧
                                (0 : Int) ≤ (0 : Int) ∧ (0 : Int) ≤ (18446744073709551615 : Int) ∧ (-9223372036854775808 : Int) ≤ (3 : Int) ∧ (3 : Int) ≤ (9223372036854775807 : Int))))
                          (((true && (wrAdd (wrUse (wrUse { s := [], most := (↑s.length : Int), err := (0 : Int) })) (s ++ [(120 : UInt8)])).err == (4 : Int) &&
                                      (wrAdd (wrUse (wrUse { s := [], most := (↑s.length : Int), err := (0 : Int) })) (s ++ [(120 : UInt8)])).s == [] &&
                                    ((wrPut (wrAdd (wrUse (wrUse { s := [], most := (↑s.length : Int), err := (0 : Int) })) (s ++ [(120 : UInt8)])) (1 : Int) (0 : Int)).s ==
                                        (wrAdd (wrUse (wrUse { s := [], most := (↑s.length : Int), err := (0 : Int) })) (s ++ [(120 : UInt8)])).s &&
                                      ((wrPut (wrAdd (wrUse (wrUse { s := [], most := (↑s.length : Int), err := (0 : Int) })) (s ++ [(120 : UInt8)])) (1 : Int) (0 : Int)).most ==
                                          (wrAdd (wrUse (wrUse { s := [], most := (↑s.length : Int), err := (0 : Int) })) (s ++ [(120 : UInt8)])).most &&
                                        ((wrPut (wrAdd (wrUse (wrUse { s := [], most := (↑s.length : Int), err := (0 : Int) })) (s ++ [(120 : UInt8)])) (1 : Int) (0 : Int)).err ==
                                            (wrAdd (wrUse (wrUse { s := [], most := (↑s.length : Int), err := (0 : Int) })) (s ++ [(120 : UInt8)])).err &&
                                          true))) &&
                                  ((wrPutSized (wrAdd (wrUse (wrUse { s := [], most := (↑s.length : Int), err := (0 : Int) })) (s ++ [(120 : UInt8)])) []).s ==
                                      (wrAdd (wrUse (wrUse { s := [], most := (↑s.length : Int), err := (0 : Int) })) (s ++ [(120 : UInt8)])).s &&
                                    ((wrPutSized (wrAdd (wrUse (wrUse { s := [], most := (↑s.length : Int), err := (0 : Int) })) (s ++ [(120 : UInt8)])) []).most ==
                                        (wrAdd (wrUse (wrUse { s := [], most := (↑s.length : Int), err := (0 : Int) })) (s ++ [(120 : UInt8)])).most &&
                                      ((wrPutSized (wrAdd (wrUse (wrUse { s := [], most := (↑s.length : Int), err := (0 : Int) })) (s ++ [(120 : UInt8)])) []).err ==
                                          (wrAdd (wrUse (wrUse { s := [], most := (↑s.length : Int), err := (0 : Int) })) (s ++ [(120 : UInt8)])).err &&
                                        true))) &&
                                ((wrPut (wrAdd (wrUse (wrUse { s := [], most := (↑s.length : Int), err := (0 : Int) })) (s ++ [(120 : UInt8)])) (3 : Int) (0 : Int)).s ==
                                    (wrAdd (wrUse (wrUse { s := [], most := (↑s.length : Int), err := (0 : Int) })) (s ++ [(120 : UInt8)])).s &&
                                  ((wrPut (wrAdd (wrUse (wrUse { s := [], most := (↑s.length : Int), err := (0 : Int) })) (s ++ [(120 : UInt8)])) (3 : Int) (0 : Int)).most ==
                                      (wrAdd (wrUse (wrUse { s := [], most := (↑s.length : Int), err := (0 : Int) })) (s ++ [(120 : UInt8)])).most &&
                                    ((wrPut (wrAdd (wrUse (wrUse { s := [], most := (↑s.length : Int), err := (0 : Int) })) (s ++ [(120 : UInt8)])) (3 : Int) (0 : Int)).err ==
                                        (wrAdd (wrUse (wrUse { s := [], most := (↑s.length : Int), err := (0 : Int) })) (s ++ [(120 : UInt8)])).err &&
                                      true)))) ==
                              true) =
                            true)))))))))) := by
  kernel_rfl

end Go.Proofs.Ytfgedkmopgkonaa
