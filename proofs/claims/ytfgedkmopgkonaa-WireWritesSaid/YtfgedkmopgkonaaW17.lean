/- WIRE 17: the law of writers, its code. -/
import Derived.Test.YtfgedkmopgkonaaW16
namespace Go.Proofs.Ytfgedkmopgkonaa
open Pw Go
set_option maxRecDepth 100000

def lenOK (s : List UInt8) : Prop := ¬ (300 < s.length ∧ s.length ≤ 65000) ∧ s.length ≤ 65600
def invW1 (s : List UInt8) (m e z n : Int) (k : Nat) (g : Nat → List UInt8) : Inv := ⟨Nat, 10, fun i => ⟨[(1, .int .i64 z), (2, .int .u64 n), (3, strs k g), (4, .ptr 0 0 0 0), (9, .int .i64 i)], [(0, wrow ⟨s, m, e⟩)]⟩, fun i => i ≤ k ∧ ∀ j, j < i → lenOK (g j), fun i => k - i⟩
def invW2 (s : List UInt8) (m e : Int) (k : Nat) (g : Nat → List UInt8) : Inv := ⟨Nat, 20, fun i => ⟨[(3, strs k g), (4, .ptr 0 0 0 0), (10, strs k g), (11, .int .i64 i)], [(0, wrow ⟨s, m, e⟩)]⟩, fun i => i ≤ k ∧ ∀ j, j < k → lenOK (g j), fun i => k - i⟩

theorem writes_vc (s : List UInt8) (m e z n : Int) (k : Nat) (g : Nat → List UInt8) : (vcFun (mkE Try.prog (tblOf tbl5) fun f b => if f = 3 ∧ b = 0 then some (invW1 s m e z n k g) else if f = 3 ∧ b = 2 then some (invW2 s m e k g) else none) 20 3 [.agg [.str s, .int .i64 m, .int .i64 e], .int .i64 z, .int .u64 n, .rof k (fun i => .str (g i)) false] .nil 0 (isBool true)).sat = (
  VB (decide ((↑s.length : Int) > (300 : Int)) || decide ((↑k : Int) > (8 : Int))) ((true == true) = true)
    ((∃ (i : Nat),
        (i ≤ k ∧ ∀ (j : Nat), j < i → lenOK (g j)) ∧
          (z = z ∧
              n = n ∧
                (k = k ∧ (∀ (i : Nat), i < k → g i = g i ∧ [AV.str (g i)].length = [AV.str (g i)].length) ∧ (false = true → false = true)) ∧
                  ((0 : Nat) = (0 : Nat) ∧ (0 : Nat) = (0 : Nat) ∧ (0 : Nat) = (0 : Nat)) ∧ (0 : Int) = (↑i : Int) ∧ True) ∧
            ((0 : Nat) = (0 : Nat) ∧
                (true = true → true = true) ∧ ((s = s ∧ m = m ∧ e = e ∧ True) ∧ [AV.str s, AV.int IntKind.i64 m, AV.int IntKind.i64 e].length = [AV.str s, AV.int IntKind.i64 m, AV.int IntKind.i64 e].length) ∧ True) ∧
              True) ∧
      ∀ (i : Nat),
        (i ≤ k ∧ ∀ (j : Nat), j < i → lenOK (g j)) →
          VB (decide ((↑i : Int) < (↑k : Int)))
            (NB (decide ((0 : Int) ≤ (↑i : Int) ∧ (↑i : Int) < (↑k : Int)))
              (NB (impB (isW true (decide ((↑(g (↑i : Int).toNat).length : Int) > (300 : Int)))) (decide ((0 : Int) ≤ (↑i : Int) ∧ (↑i : Int) < (↑k : Int))))
                (NB
                  (impB (isW false (decide ((↑(g (↑i : Int).toNat).length : Int) > (300 : Int)) && decide ((↑(g (↑i : Int).toNat).length : Int) ≤ (65000 : Int))))
                    (decide ((0 : Int) ≤ (↑i : Int) ∧ (↑i : Int) < (↑k : Int))))
                  (VB (decide ((↑(g (↑i : Int).toNat).length : Int) > (300 : Int)) && decide ((↑(g (↑i : Int).toNat).length : Int) ≤ (65000 : Int)) || decide ((↑(g (↑i : Int).toNat).length : Int) > (65600 : Int)))
                    ((true == true) = true)
                    (∃ (i' : Nat),
                      (i' ≤ k ∧ ∀ (j : Nat), j < i' → lenOK (g j)) ∧
                        (invW1 s m e z n k g).μ i' < (invW1 s m e z n k g).μ i ∧
                          (z = z ∧
                              n = n ∧
                                (k = k ∧ (∀ (i : Nat), i < k → g i = g i ∧ [AV.str (g i)].length = [AV.str (g i)].length) ∧ (false = true → false = true)) ∧
                                  ((0 : Nat) = (0 : Nat) ∧ (0 : Nat) = (0 : Nat) ∧ (0 : Nat) = (0 : Nat)) ∧ IntKind.i64.wrap ((↑i : Int) + (1 : Int)) = (↑i' : Int) ∧ True) ∧
                            ((0 : Nat) = (0 : Nat) ∧
                                (true = true → true = true) ∧
                                  ((s = s ∧ m = m ∧ e = e ∧ True) ∧ [AV.str s, AV.int IntKind.i64 m, AV.int IntKind.i64 e].length = [AV.str s, AV.int IntKind.i64 m, AV.int IntKind.i64 e].length) ∧ True) ∧
                              True)))))
            (NB ((strsB k fun (i : Nat) => AV.str (g i)) && decide (k ≤ (1000000 : Nat)))
              (NB
                (impB
                  (isW false
                    !((wrUse { s := [], most := z, err := (0 : Int) }).s == (wrUse { s := [], most := z, err := (0 : Int) }).s &&
                        ((wrUse { s := [], most := z, err := (0 : Int) }).most == (wrUse { s := [], most := z, err := (0 : Int) }).most &&
                          ((wrUse { s := [], most := z, err := (0 : Int) }).err == (wrUse { s := [], most := z, err := (0 : Int) }).err && true))))
                  (decide (s.length ≤ (9223372036854775807 : Nat) ∧ (0 : Int) ≤ n ∧ n ≤ (18446744073709551615 : Int) ∧ (-9223372036854775808 : Int) ≤ z ∧ z ≤ (9223372036854775807 : Int))))
                (NB
                  (impB
                    (isW false
                      !((wrUse { s := [], most := z, err := (0 : Int) }).s == (wrUse { s := [], most := z, err := (0 : Int) }).s &&
                          ((wrUse { s := [], most := z, err := (0 : Int) }).most == (wrUse { s := [], most := z, err := (0 : Int) }).most &&
                            ((wrUse { s := [], most := z, err := (0 : Int) }).err == (wrUse { s := [], most := z, err := (0 : Int) }).err && true))))
                    (decide (s.length ≤ (9223372036854775807 : Nat) ∧ (0 : Int) ≤ n ∧ n ≤ (18446744073709551615 : Int) ∧ (-9223372036854775808 : Int) ≤ z ∧ z ≤ (9223372036854775807 : Int))))
                  (NB
                    (impB
                      (isW false
                        (!((wrUse { s := [], most := z, err := (0 : Int) }).s == (wrUse { s := [], most := z, err := (0 : Int) }).s &&
                              ((wrUse { s := [], most := z, err := (0 : Int) }).most == (wrUse { s := [], most := z, err := (0 : Int) }).most &&
                                ((wrUse { s := [], most := z, err := (0 : Int) }).err == (wrUse { s := [], most := z, err := (0 : Int) }).err && true))) ||
                          !((wrPut { s := s, most := m, err := e } z n).s == (wrPut { s := s, most := m, err := e } z n).s &&
                              ((wrPut { s := s, most := m, err := e } z n).most == (wrPut { s := s, most := m, err := e } z n).most &&
                                ((wrPut { s := s, most := m, err := e } z n).err == (wrPut { s := s, most := m, err := e } z n).err && true)))))
                      (decide (s.length ≤ (9223372036854775807 : Nat))))
                    (NB
                      (impB
                        (isW false
                          (!((wrUse { s := [], most := z, err := (0 : Int) }).s == (wrUse { s := [], most := z, err := (0 : Int) }).s &&
                                ((wrUse { s := [], most := z, err := (0 : Int) }).most == (wrUse { s := [], most := z, err := (0 : Int) }).most &&
                                  ((wrUse { s := [], most := z, err := (0 : Int) }).err == (wrUse { s := [], most := z, err := (0 : Int) }).err && true))) ||
                            !((wrPut { s := s, most := m, err := e } z n).s == (wrPut { s := s, most := m, err := e } z n).s &&
                                ((wrPut { s := s, most := m, err := e } z n).most == (wrPut { s := s, most := m, err := e } z n).most &&
                                  ((wrPut { s := s, most := m, err := e } z n).err == (wrPut { s := s, most := m, err := e } z n).err && true)))))
                        (decide (s.length ≤ (9223372036854775807 : Nat))))
                      (NB
                        (impB
                          (isW false
                            (!((wrUse { s := [], most := z, err := (0 : Int) }).s == (wrUse { s := [], most := z, err := (0 : Int) }).s &&
                                    ((wrUse { s := [], most := z, err := (0 : Int) }).most == (wrUse { s := [], most := z, err := (0 : Int) }).most &&
                                      ((wrUse { s := [], most := z, err := (0 : Int) }).err == (wrUse { s := [], most := z, err := (0 : Int) }).err && true))) ||
                                !((wrPut { s := s, most := m, err := e } z n).s == (wrPut { s := s, most := m, err := e } z n).s &&
                                    ((wrPut { s := s, most := m, err := e } z n).most == (wrPut { s := s, most := m, err := e } z n).most &&
                                      ((wrPut { s := s, most := m, err := e } z n).err == (wrPut { s := s, most := m, err := e } z n).err && true))) ||
                              !((wrPutI { s := s, most := m, err := e } (IntKind.i64.wrap n)).s == (wrPutI { s := s, most := m, err := e } (IntKind.i64.wrap n)).s &&
                                  ((wrPutI { s := s, most := m, err := e } (IntKind.i64.wrap n)).most == (wrPutI { s := s, most := m, err := e } (IntKind.i64.wrap n)).most &&
                                    ((wrPutI { s := s, most := m, err := e } (IntKind.i64.wrap n)).err == (wrPutI { s := s, most := m, err := e } (IntKind.i64.wrap n)).err && true)))))
                          (decide (s.length ≤ (9223372036854775807 : Nat) ∧ k ≤ (1000000 : Nat) ∧ (strsB k fun (i : Nat) => AV.str (g i)) = true)))
                        (NB
                          (impB
                            (isW false
                              (!((wrUse { s := [], most := z, err := (0 : Int) }).s == (wrUse { s := [], most := z, err := (0 : Int) }).s &&
                                      ((wrUse { s := [], most := z, err := (0 : Int) }).most == (wrUse { s := [], most := z, err := (0 : Int) }).most &&
                                        ((wrUse { s := [], most := z, err := (0 : Int) }).err == (wrUse { s := [], most := z, err := (0 : Int) }).err && true))) ||
                                  !((wrPut { s := s, most := m, err := e } z n).s == (wrPut { s := s, most := m, err := e } z n).s &&
                                      ((wrPut { s := s, most := m, err := e } z n).most == (wrPut { s := s, most := m, err := e } z n).most &&
                                        ((wrPut { s := s, most := m, err := e } z n).err == (wrPut { s := s, most := m, err := e } z n).err && true))) ||
                                !((wrPutI { s := s, most := m, err := e } (IntKind.i64.wrap n)).s == (wrPutI { s := s, most := m, err := e } (IntKind.i64.wrap n)).s &&
                                    ((wrPutI { s := s, most := m, err := e } (IntKind.i64.wrap n)).most == (wrPutI { s := s, most := m, err := e } (IntKind.i64.wrap n)).most &&
                                      ((wrPutI { s := s, most := m, err := e } (IntKind.i64.wrap n)).err == (wrPutI { s := s, most := m, err := e } (IntKind.i64.wrap n)).err && true)))))
                            (decide (s.length ≤ (9223372036854775807 : Nat) ∧ k ≤ (1000000 : Nat) ∧ (strsB k fun (i : Nat) => AV.str (g i)) = true)))
                          (VB
                            (!((wrUse { s := [], most := z, err := (0 : Int) }).s == (wrUse { s := [], most := z, err := (0 : Int) }).s &&
                                      ((wrUse { s := [], most := z, err := (0 : Int) }).most == (wrUse { s := [], most := z, err := (0 : Int) }).most &&
                                        ((wrUse { s := [], most := z, err := (0 : Int) }).err == (wrUse { s := [], most := z, err := (0 : Int) }).err && true))) ||
                                  !((wrPut { s := s, most := m, err := e } z n).s == (wrPut { s := s, most := m, err := e } z n).s &&
                                      ((wrPut { s := s, most := m, err := e } z n).most == (wrPut { s := s, most := m, err := e } z n).most &&
                                        ((wrPut { s := s, most := m, err := e } z n).err == (wrPut { s := s, most := m, err := e } z n).err && true))) ||
                                !((wrPutI { s := s, most := m, err := e } (IntKind.i64.wrap n)).s == (wrPutI { s := s, most := m, err := e } (IntKind.i64.wrap n)).s &&
                                    ((wrPutI { s := s, most := m, err := e } (IntKind.i64.wrap n)).most == (wrPutI { s := s, most := m, err := e } (IntKind.i64.wrap n)).most &&
                                      ((wrPutI { s := s, most := m, err := e } (IntKind.i64.wrap n)).err == (wrPutI { s := s, most := m, err := e } (IntKind.i64.wrap n)).err && true))) ||
                              !((wrAdd (wrUse { s := s, most := m, err := e }) (takeF (fun (i : Nat) => g i) k)).s == (wrAdd (wrUse { s := s, most := m, err := e }) (takeF (fun (i : Nat) => g i) k)).s &&
                                  ((wrAdd (wrUse { s := s, most := m, err := e }) (takeF (fun (i : Nat) => g i) k)).most == (wrAdd (wrUse { s := s, most := m, err := e }) (takeF (fun (i : Nat) => g i) k)).most &&
                                    ((wrAdd (wrUse { s := s, most := m, err := e }) (takeF (fun (i : Nat) => g i) k)).err == (wrAdd (wrUse { s := s, most := m, err := e }) (takeF (fun (i : Nat) => g i) k)).err && true))))
                            ((false == true) = true)
                            ((∃ (i : Nat),
                                (i ≤ k ∧ ∀ (j : Nat), j < k → lenOK (g j)) ∧
                                  ((k = k ∧ (∀ (i : Nat), i < k → g i = g i ∧ [AV.str (g i)].length = [AV.str (g i)].length) ∧ (false = true → false = true)) ∧
                                      ((0 : Nat) = (0 : Nat) ∧ (0 : Nat) = (0 : Nat) ∧ (0 : Nat) = (0 : Nat)) ∧
                                        (k = k ∧ (∀ (i : Nat), i < k → g i = g i ∧ [AV.str (g i)].length = [AV.str (g i)].length) ∧ (false = true → false = true)) ∧ (0 : Int) = (↑i : Int) ∧ True) ∧
                                    ((0 : Nat) = (0 : Nat) ∧
                                        (true = true → true = true) ∧
                                          ((s = s ∧ m = m ∧ e = e ∧ True) ∧ [AV.str s, AV.int IntKind.i64 m, AV.int IntKind.i64 e].length = [AV.str s, AV.int IntKind.i64 m, AV.int IntKind.i64 e].length) ∧ True) ∧
                                      True) ∧
                              ∀ (i : Nat),
                                (i ≤ k ∧ ∀ (j : Nat), j < k → lenOK (g j)) →
                                  VB (decide ((↑i : Int) < (↑k : Int)))
                                    (NB (decide ((0 : Int) ≤ (↑i : Int) ∧ (↑i : Int) < (↑k : Int)))
                                      (NB (decide ((0 : Int) ≤ (↑i : Int) ∧ (↑i : Int) < (↑k : Int)))
                                        (NB (decide (s.length ≤ (9223372036854775807 : Nat) ∧ (g (↑i : Int).toNat).length ≤ (9223372036854775807 : Nat)))
                                          (NB (decide (s.length ≤ (9223372036854775807 : Nat) ∧ (g (↑i : Int).toNat).length ≤ (9223372036854775807 : Nat)))
                                            (VB
                                              (!((wrPutSized { s := s, most := m, err := e } (g (↑i : Int).toNat)).s == (wrPutSized { s := s, most := m, err := e } (g (↑i : Int).toNat)).s &&
                                                  ((wrPutSized { s := s, most := m, err := e } (g (↑i : Int).toNat)).most == (wrPutSized { s := s, most := m, err := e } (g (↑i : Int).toNat)).most &&
                                                    ((wrPutSized { s := s, most := m, err := e } (g (↑i : Int).toNat)).err == (wrPutSized { s := s, most := m, err := e } (g (↑i : Int).toNat)).err && true))))
                                              ((false == true) = true)
                                              (∃ (i' : Nat),
                                                (i' ≤ k ∧ ∀ (j : Nat), j < k → lenOK (g j)) ∧
                                                  (invW2 s m e k g).μ i' < (invW2 s m e k g).μ i ∧
                                                    ((k = k ∧ (∀ (i : Nat), i < k → g i = g i ∧ [AV.str (g i)].length = [AV.str (g i)].length) ∧ (false = true → false = true)) ∧
                                                        ((0 : Nat) = (0 : Nat) ∧ (0 : Nat) = (0 : Nat) ∧ (0 : Nat) = (0 : Nat)) ∧
                                                          (k = k ∧ (∀ (i : Nat), i < k → g i = g i ∧ [AV.str (g i)].length = [AV.str (g i)].length) ∧ (false = true → false = true)) ∧
                                                            IntKind.i64.wrap ((↑i : Int) + (1 : Int)) = (↑i' : Int) ∧ True) ∧
                                                      ((0 : Nat) = (0 : Nat) ∧
                                                          (true = true → true = true) ∧
                                                            ((s = s ∧ m = m ∧ e = e ∧ True) ∧ [AV.str s, AV.int IntKind.i64 m, AV.int IntKind.i64 e].length = [AV.str s, AV.int IntKind.i64 m, AV.int IntKind.i64 e].length) ∧
                                                              True) ∧
                                                        True))))))
                                    (NB (decide (s.length ≤ (9223372036854775807 : Nat)))
                                      (NB (decide (s.length ≤ (9223372036854775807 : Nat)))
                                        (NB
                                          (impB
                                            (isW true
                                              ((wrDone { s := s, most := m, err := e }).fst == (wrDone { s := s, most := m, err := e }).fst &&
                                                (wrDone { s := s, most := m, err := e }).snd == (wrDone { s := s, most := m, err := e }).snd))
                                            (decide (k ≤ (1000000 : Nat) ∧ k ≤ (1000000 : Nat) ∧ (strsB k fun (i : Nat) => AV.str (g i)) = true ∧ (strsB k fun (i : Nat) => AV.str (g i)) = true)))
                                          (((((wrDone { s := s, most := m, err := e }).fst == (wrDone { s := s, most := m, err := e }).fst &&
                                                    (wrDone { s := s, most := m, err := e }).snd == (wrDone { s := s, most := m, err := e }).snd &&
                                                  sameB k k (fun (i : Nat) => g i) fun (i : Nat) => g i) &&
                                                true) ==
                                              true) =
                                            true))))))))))))))) := by
  kernel_rfl

end Go.Proofs.Ytfgedkmopgkonaa
