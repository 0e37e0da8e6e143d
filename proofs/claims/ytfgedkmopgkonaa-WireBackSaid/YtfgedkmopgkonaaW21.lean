/- WIRE 21: the law of numbers, its code. -/
import Derived.Test.YtfgedkmopgkonaaW20
namespace Go.Proofs.Ytfgedkmopgkonaa
open Pw Go
set_option maxRecDepth 100000
set_option linter.unusedSimpArgs false

/-! ### What is written of a number -/
def encW (k n : Int) : Wr := wrPut (wrUse ⟨[], 8, 0⟩) (sizeOf' k) (sizeN k n)
theorem sizeOf_ok (k : Int) : okSize (sizeOf' k) = true ∧ 1 ≤ sizeOf' k ∧ sizeOf' k ≤ 8 := by
  unfold sizeOf' okSize
  split
  · simp
  · split
    · simp
    · split <;> simp
theorem size_fits (k : Int) {n : Int} (h0 : 0 ≤ n) (h1 : n ≤ 18446744073709551615) : numS (digS (sizeN k n) (sizeOf' k).toNat) = sizeN k n ∧ 0 ≤ sizeN k n ∧ sizeN k n ≤ 18446744073709551615 := by
  have key : ∀ (j : Nat) (m : Int), j ≤ 8 → 0 ≤ m → m < 256 ^ j → numS (digS m j) = m := fun j m hj a b => by rw [numS_digS j m a hj, Int.emod_eq_of_lt a b]
  unfold sizeN sizeOf'
  split
  · exact ⟨key 1 _ (by decide) (by omega) (by omega), by omega, by omega⟩
  · split
    · exact ⟨key 2 _ (by decide) (by omega) (by omega), by omega, by omega⟩
    · split
      · exact ⟨key 4 _ (by decide) (by omega) (by omega), by omega, by omega⟩
      · exact ⟨key 8 _ (by decide) (by omega) (by omega), by omega, by omega⟩
theorem encW_eq (k : Int) {n : Int} (h0 : 0 ≤ n) (h1 : n ≤ 18446744073709551615) : wrDone (encW k n) = (digS (sizeN k n) (sizeOf' k).toNat, 0) := by
  obtain ⟨a1, a2, a3⟩ := sizeOf_ok k
  obtain ⟨b1, b2, b3⟩ := size_fits k h0 h1
  have u : wrUse ⟨[], 8, 0⟩ = ⟨[], 8, 0⟩ := by simp [wrUse, wrOK]
  have hl : (digS (sizeN k n) (sizeOf' k).toNat).length = (sizeOf' k).toNat := digS_length _ _
  unfold encW wrPut
  rw [u, u, a1, b1]
  simp only [Bool.true_eq_false, ne_eq, not_true_eq_false, or_self, if_false]
  have hadd : wrAdd ⟨[], 8, 0⟩ (digS (sizeN k n) (sizeOf' k).toNat) = ⟨digS (sizeN k n) (sizeOf' k).toNat, 8, 0⟩ := by
    unfold wrAdd
    rw [if_neg (by simp), if_neg (by simp only [List.length_nil]; omega)]
    simp
  rw [hadd]
  have u2 : wrUse ⟨digS (sizeN k n) (sizeOf' k).toNat, 8, 0⟩ = ⟨digS (sizeN k n) (sizeOf' k).toNat, 8, 0⟩ := by
    have : wrOK ⟨digS (sizeN k n) (sizeOf' k).toNat, 8, 0⟩ = true := by
      simp only [wrOK, Bool.and_eq_true, decide_eq_true_eq]
      omega
    simp [wrUse, this]
  simp [wrDone, u2]

noncomputable def tbl6 : List (Nat × Ctr) := [(42, cSize), (11, cMake), (13, cPut), (15, cPutI), (19, cPutSized), (21, cDone), (17, cAddL),
  (38, cRead), (24, cUint), (26, cInt), (30, cSized), (28, cBytes), (36, cEnd), (9, cAwake), (5, cAwake)]
theorem tbl6_ok : TblOK Try.prog (fun _ => .undef) (tblOf tbl6) := tbl_cons size_ok (tbl_cons makeI_ok (tbl_cons wputI_ok (tbl_cons putIntI_ok (tbl_cons putSizedI_ok (tbl_cons doneI_ok (tbl_cons addL_ok (tbl_cons readI_ok (tbl_cons uintI_ok (tbl_cons intI_ok
  (tbl_cons sizedI_ok (tbl_cons bytesI_ok (tbl_cons endI_ok (tbl_cons awake_ok (tbl_cons known_ok (tbl_nil _)))))))))))))))

/-- The sum of the first i bytes. -/
def sumI (S : List UInt8) (i : Nat) : Int := IntKind.u64.wrap (numS (S.take i) * 256 ^ (S.length - i))
def invN (z x y : Int) (S T : List UInt8) : Inv := ⟨Nat, 10, fun i => ⟨[(7, .bool true), (8, .int .i64 z), (9, .int .u64 x), (11, .int .u64 y), (12, .str S), (14, .str T), (16, .int .u64 (sumI S i)), (17, .int .i64 i)], []⟩, fun i => i ≤ S.length ∧ (S.length : Int) = z, fun i => S.length - i⟩

theorem numbers_vc (a b k : Int) : (vcFun (mkE Try.prog (tblOf tbl6) (fun f bl => if f = 6 ∧ bl = 0 then some (invN (sizeOf' k) (sizeN k a) (sizeN k b) (wrDone (encW k a)).1 (wrDone (encW k b)).1) else none)) 20 6 [.int .u64 a, .int .u64 b, .int .i64 k] .nil 0 (isBool true)).sat = (
  NB (decide ((0 : Int) ≤ a ∧ a ≤ (18446744073709551615 : Int)))
    (NB (decide ((0 : Int) ≤ b ∧ b ≤ (18446744073709551615 : Int)))
      (NB (decide ((0 : Nat) ≤ (9223372036854775807 : Nat) ∧ (0 : Int) ≤ sizeN k a ∧ sizeN k a ≤ (18446744073709551615 : Int) ∧ (-9223372036854775808 : Int) ≤ sizeOf' k ∧ sizeOf' k ≤ (9223372036854775807 : Int)))
        (NB (decide ((wrPut (wrUse { s := [], most := (8 : Int), err := (0 : Int) }) (sizeOf' k) (sizeN k a)).s.length ≤ (9223372036854775807 : Nat)))
          (NB (decide ((0 : Nat) ≤ (9223372036854775807 : Nat) ∧ (0 : Int) ≤ sizeN k b ∧ sizeN k b ≤ (18446744073709551615 : Int) ∧ (-9223372036854775808 : Int) ≤ sizeOf' k ∧ sizeOf' k ≤ (9223372036854775807 : Int)))
            (NB (decide ((wrPut (wrUse { s := [], most := (8 : Int), err := (0 : Int) }) (sizeOf' k) (sizeN k b)).s.length ≤ (9223372036854775807 : Nat)))
              (VB
                ((wrDone (wrPut (wrUse { s := [], most := (8 : Int), err := (0 : Int) }) (sizeOf' k) (sizeN k a))).snd != (0 : Int) ||
                      (wrDone (wrPut (wrUse { s := [], most := (8 : Int), err := (0 : Int) }) (sizeOf' k) (sizeN k b))).snd != (0 : Int) ||
                    (↑(wrDone (wrPut (wrUse { s := [], most := (8 : Int), err := (0 : Int) }) (sizeOf' k) (sizeN k a))).fst.length : Int) != sizeOf' k ||
                  (↑(wrDone (wrPut (wrUse { s := [], most := (8 : Int), err := (0 : Int) }) (sizeOf' k) (sizeN k b))).fst.length : Int) != sizeOf' k)
                ((false == true) = true)
                ((∃ (i : Nat),
                    (i ≤ (wrDone (encW k a)).fst.length ∧ (↑(wrDone (encW k a)).fst.length : Int) = sizeOf' k) ∧
                      (true = true ∧
                          sizeOf' k = sizeOf' k ∧
                            sizeN k a = sizeN k a ∧
                              sizeN k b = sizeN k b ∧
                                (wrDone (wrPut (wrUse { s := [], most := (8 : Int), err := (0 : Int) }) (sizeOf' k) (sizeN k a))).fst = (wrDone (encW k a)).fst ∧
                                  (wrDone (wrPut (wrUse { s := [], most := (8 : Int), err := (0 : Int) }) (sizeOf' k) (sizeN k b))).fst = (wrDone (encW k b)).fst ∧
                                    (0 : Int) = sumI (wrDone (encW k a)).fst i ∧ (0 : Int) = (↑i : Int) ∧ True) ∧
                        True) ∧
                  ∀ (i : Nat),
                    i ≤ (wrDone (encW k a)).fst.length ∧ (↑(wrDone (encW k a)).fst.length : Int) = sizeOf' k →
                      VB (decide ((↑i : Int) < sizeOf' k))
                        (NB (decide ((0 : Int) ≤ (↑i : Int) ∧ (↑i : Int) < (↑(wrDone (encW k a)).fst.length : Int)))
                          (NB (decide ((0 : Int) ≤ IntKind.u64.wrap (IntKind.i64.wrap ((8 : Int) * IntKind.i64.wrap (IntKind.i64.wrap (sizeOf' k - (1 : Int)) - (↑i : Int))))))
                            (∃ (i' : Nat),
                              (i' ≤ (wrDone (encW k a)).fst.length ∧ (↑(wrDone (encW k a)).fst.length : Int) = sizeOf' k) ∧
                                (invN (sizeOf' k) (sizeN k a) (sizeN k b) (wrDone (encW k a)).fst (wrDone (encW k b)).fst).μ i' <
                                    (invN (sizeOf' k) (sizeN k a) (sizeN k b) (wrDone (encW k a)).fst (wrDone (encW k b)).fst).μ i ∧
                                  (true = true ∧
                                      sizeOf' k = sizeOf' k ∧
                                        sizeN k a = sizeN k a ∧
                                          sizeN k b = sizeN k b ∧
                                            (wrDone (encW k a)).fst = (wrDone (encW k a)).fst ∧
                                              (wrDone (encW k b)).fst = (wrDone (encW k b)).fst ∧
                                                IntKind.u64.wrap
                                                      (sumI (wrDone (encW k a)).fst i +
                                                        shlI IntKind.u64 (IntKind.u64.wrap (↑((wrDone (encW k a)).fst.getD (↑i : Int).toNat (0 : UInt8)).toNat : Int))
                                                          (IntKind.u64.wrap (IntKind.i64.wrap ((8 : Int) * IntKind.i64.wrap (IntKind.i64.wrap (sizeOf' k - (1 : Int)) - (↑i : Int)))))) =
                                                    sumI (wrDone (encW k a)).fst i' ∧
                                                  IntKind.i64.wrap ((↑i : Int) + (1 : Int)) = (↑i' : Int) ∧ True) ∧
                                    True)))
                        (((true && sumI (wrDone (encW k a)).fst i == sizeN k a && decide (sizeN k a < sizeN k b) == Op.bytesLess (wrDone (encW k a)).fst (wrDone (encW k b)).fst &&
                              (sizeN k a == sizeN k b) == ((wrDone (encW k a)).fst == (wrDone (encW k b)).fst)) ==
                            true) =
                          true))))))))) := by
  kernel_rfl

end Go.Proofs.Ytfgedkmopgkonaa
