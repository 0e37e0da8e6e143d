/- WIRE 5: digits, contracts. -/
import Derived.Test.YtfgedkmopgkonaaW4
namespace Go.Proofs.Ytfgedkmopgkonaa
open Pw Go
set_option maxRecDepth 100000
set_option linter.unusedSimpArgs false

noncomputable def cDig (kd : IntKind) : Ctr
  | [.int kd' n, .int .i64 m] => if kd' = kd then some (decide (0 ≤ m ∧ m ≤ 8), .str (hide (digS n m.toNat))) else none
  | _ => none

theorem digRow_next {n : Int} {k i p : Nat} (hp : p < k) (hi : i < k) {kd : IntKind} (hk : kd.bits = 64) (hk8 : k ≤ 8) :
    (if p = k - 1 - i then AV.int IntKind.u8 (IntKind.u8.wrap (shrI kd n (8 * (i : Int)))) else AV.int IntKind.u8 (if k ≤ p + i then (((digS n k).getD p 0).toNat : Int) else 0)).sub
      (AV.int IntKind.u8 (if k ≤ p + (i + 1) then (((digS n k).getD p 0).toNat : Int) else 0)) := by
  by_cases h : p = k - 1 - i
  · subst h
    rw [if_pos rfl, if_pos (by omega), digS_get k n i hi, shr_dig hk n i (by omega), wrap_u8]
    simp only [AV.sub, if_true]
    have h0 : 0 ≤ (n / 256 ^ i) % 256 ∧ (n / 256 ^ i) % 256 < 256 := ⟨Int.emod_nonneg _ (by decide), Int.emod_lt_of_pos _ (by decide)⟩
    rw [UInt8.toNat_ofNat']
    omega
  · rw [if_neg h]
    simp only [AV.sub, if_true]
    by_cases h2 : k ≤ p + i
    · rw [if_pos h2, if_pos (by omega)]
    · rw [if_neg h2, if_neg (by omega)]

theorem dig_done (n : Int) (k : Nat) : List.map (fun i => byteAV (digRow n k k (0 + i))) (List.range k) = digS n k := by
  apply List.ext_getElem
  · simp [digS_length]
  · intro i h1 h2
    simp only [List.length_map, List.length_range] at h1
    simp only [List.getElem_map, List.getElem_range, digRow, byteAV, Nat.zero_add]
    rw [if_pos (by omega), List.getD_eq_getElem?_getD, List.getElem?_eq_getElem h2]
    simp

theorem digU_ok : PureF Try.prog 50 (cDig .u64) := by
  intro args nd v h hnd
  unfold cDig at h
  split at h
  · split at h
    · cases h
      rename_i n m hk
      subst hk
      rw [hide_eq]
      refine pure_vc mix (tbl_nil _) ((digU_vc n m).mpr ?_)
      obtain ⟨h0, h8⟩ := of_decide_eq_true hnd
      obtain ⟨k, rfl⟩ := Int.eq_ofNat_of_zero_le h0
      have hk8 : k ≤ 8 := by omega
      simp only [NB_iff, VB_iff, decide_eq_true_eq, decide_eq_false_iff_not, Nat.le_eq, Int.toNat_natCast, true_and, and_true, true_or, implies_true, Bool.and_eq_true, decide_true]
      refine ⟨by omega, ⟨0, by omega, by omega, fun p hp => ⟨?_, rfl⟩⟩, fun i hi => ⟨fun h1 => ?_, fun h1 => ?_⟩⟩
      · rw [if_neg (by omega)]
      · have w1 : IntKind.i64.wrap (8 * (i : Int)) = 8 * (i : Int) := by rw [wrap_i64]; omega
        have w2 : IntKind.i64.wrap (IntKind.i64.wrap ((k : Int) - 1) - i) = (k : Int) - 1 - i := by simp only [wrap_i64]; omega
        have w3 : ((k : Int) - 1 - i).toNat = k - 1 - i := by omega
        rw [w1, w2, w3]
        refine ⟨by omega, by omega, i + 1, by omega, ?_, by rw [wrap_i64]; omega, fun p hp => ⟨?_, ?_⟩⟩
        · show k - (i + 1) < k - i
          omega
        · rw [Nat.zero_add]
          exact digRow_next hp (by omega) rfl hk8
        · split <;> rfl
      · obtain rfl : i = k := by omega
        exact ⟨fun p hp => rfl, dig_done n i⟩
    · cases h
  · cases h

theorem digI_ok : PureF Try.prog 55 (cDig .i64) := by
  intro args nd v h hnd
  unfold cDig at h
  split at h
  · split at h
    · cases h
      rename_i n m hk
      subst hk
      rw [hide_eq]
      refine pure_vc mix (tbl_nil _) ((digI_vc n m).mpr ?_)
      obtain ⟨h0, h8⟩ := of_decide_eq_true hnd
      obtain ⟨k, rfl⟩ := Int.eq_ofNat_of_zero_le h0
      have hk8 : k ≤ 8 := by omega
      simp only [NB_iff, VB_iff, decide_eq_true_eq, decide_eq_false_iff_not, Nat.le_eq, Int.toNat_natCast, true_and, and_true, true_or, implies_true, Bool.and_eq_true, decide_true]
      refine ⟨by omega, ⟨0, by omega, by omega, fun p hp => ⟨?_, rfl⟩⟩, fun i hi => ⟨fun h1 => ?_, fun h1 => ?_⟩⟩
      · rw [if_neg (by omega)]
      · have w1 : IntKind.i64.wrap (8 * (i : Int)) = 8 * (i : Int) := by rw [wrap_i64]; omega
        have w2 : IntKind.i64.wrap (IntKind.i64.wrap ((k : Int) - 1) - i) = (k : Int) - 1 - i := by simp only [wrap_i64]; omega
        have w3 : ((k : Int) - 1 - i).toNat = k - 1 - i := by omega
        rw [w1, w2, w3]
        refine ⟨by omega, by omega, i + 1, by omega, ?_, by rw [wrap_i64]; omega, fun p hp => ⟨?_, ?_⟩⟩
        · show k - (i + 1) < k - i
          omega
        · rw [Nat.zero_add]
          exact digRow_next hp (by omega) rfl hk8
        · split <;> rfl
      · obtain rfl : i = k := by omega
        exact ⟨fun p hp => rfl, dig_done n i⟩
    · cases h
  · cases h

noncomputable def cDigR : Ctr
  | [.int .u64 n, .int .i64 m] => some (decide (0 ≤ n ∧ n ≤ 18446744073709551615 ∧ 0 ≤ m ∧ m ≤ 8), .str (hide (digS n m.toNat)))
  | _ => none
theorem digR_ok : PureF Try.prog 53 cDigR := by
  intro args nd v h hnd
  unfold cDigR at h
  split at h <;> cases h
  rename_i n m
  obtain ⟨hn, hn', h0, h8⟩ := of_decide_eq_true hnd
  obtain ⟨k, rfl⟩ := Int.eq_ofNat_of_zero_le h0
  rw [hide_eq]
  refine pure_vc mix (tbl_nil _) ((digR_vc n k).mpr ?_)
  have hk8 : k ≤ 8 := by omega
  simp only [NB_iff, VB_iff, decide_eq_true_eq, decide_eq_false_iff_not, Nat.le_eq, Int.toNat_natCast, true_and, and_true, true_or, implies_true, Bool.and_eq_true, decide_true]
  refine ⟨⟨0, by omega, by simp, rfl, rfl⟩, fun i hi => ⟨fun h1 => ⟨?_, i + 1, by omega, ?_, ?_, ?_, ?_⟩, fun h1 => ?_⟩⟩
  · simp [digS_length]
    omega
  · show k - (i + 1) < k - i
    omega
  · have hq : 0 ≤ n / 256 ^ i ∧ n / 256 ^ i ≤ n := ⟨Int.ediv_nonneg hn (Int.le_of_lt (Int.pow_pos (by decide))), Int.ediv_le_self _ hn⟩
    rw [Int.tdiv_eq_ediv_of_nonneg hq.1, wrap_u64, Int.pow_succ, ← Int.ediv_ediv_of_nonneg (Int.le_of_lt (Int.pow_pos (by decide)))]
    omega
  · have hq : 0 ≤ n / 256 ^ i := Int.ediv_nonneg hn (Int.le_of_lt (Int.pow_pos (by decide)))
    rw [digS_cons, Int.tmod_eq_emod_of_nonneg hq, wrap_u8]
    simp [byteAV]
  · rw [wrap_i64]; omega
  · obtain rfl : i = k := by omega
    rfl
end Go.Proofs.Ytfgedkmopgkonaa
