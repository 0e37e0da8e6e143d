/- PRED 11: the program's least solutions are least solutions. -/
import Derived.Test.YtjkkkldkimdajaaDoorP10
namespace Go.Proofs.YtjkkkldkimdajaaDoor
open Pw Go
set_option maxRecDepth 100000
set_option linter.unusedSimpArgs false

theorem opOf_agg (n v : Int) : opOf (.agg [.int .i64 n, .int .i64 v]) = n := rfl
theorem valOf_agg (n v : Int) : valOf (.agg [.int .i64 n, .int .i64 v]) = v := rfl
theorem ok_op {n : Nat} {o : Nat → Int} (h : okAll n o = true) : ∀ i, i < n → 1 ≤ o i ∧ o i ≤ 6 := fun i hi => by simpa [okOp] using okAll_iff.1 h i hi
theorem lst_max {n : Nat} {o v : Nat → Int} {i : Nat} (hi : i < n) (ho : o i = 5) (hv : v i = 9223372036854775807) : (0 : Int) = lstV n o v ∧ false = lstB n o v := by
  have : NoSol n o v := fun x h0 h1 => by
    cases hx : allS n o v x with
    | false => rfl
    | true =>
      have := allS_iff.1 hx i hi
      simp only [opS, ho] at this
      simp at this
      simp only [highI] at h1
      omega
  have := lst_none this
  exact ⟨this.1.symm, this.2.symm⟩
theorem lst_at {n : Nat} {o v : Nat → Int} {j : Nat} (hf : ∀ k : Nat, k < j → allS n o v (lowB o v n + k) = false) (ht : allS n o v (lowB o v n + j) = true) (hh : lowB o v n + j ≤ highI) : lowB o v n + j = lstV n o v ∧ true = lstB n o v := by
  have hl := lowB_low o v n
  have : IsLeast n o v (lowB o v n + j) := ⟨by omega, hh, ht, fun x h0 h1 => by
    cases hx : allS n o v x with
    | false => rfl
    | true =>
      have hle := lowB_le h0 n (allS_iff.1 hx)
      have := hf (x - lowB o v n).toNat (by omega)
      rw [show lowB o v n + ((x - lowB o v n).toNat : Int) = x by omega, hx] at this
      cases this⟩
  have := lst_of this
  exact ⟨this.1.symm, this.2.symm⟩
theorem lst_all {n : Nat} {o v : Nat → Int} (ho : ∀ i, i < n → 1 ≤ o i ∧ o i ≤ 6) (hf : ∀ k : Nat, k < n + 1 → allS n o v (lowB o v n + k) = false) : (0 : Int) = lstV n o v ∧ false = lstB n o v := by
  have := lst_none (none_from_low ho fun j hj => hf j (by omega))
  exact ⟨this.1.symm, this.2.symm⟩
theorem lst_top {n : Nat} {o v : Nat → Int} {j : Nat} (hf : ∀ k : Nat, k < j + 1 → allS n o v (lowB o v n + k) = false) (ht : lowB o v n + j = 9223372036854775807) : (0 : Int) = lstV n o v ∧ false = lstB n o v := by
  have : NoSol n o v := fun x h0 h1 => by
    cases hx : allS n o v x with
    | false => rfl
    | true =>
      have hle := lowB_le h0 n (allS_iff.1 hx)
      simp only [highI] at h1
      have := hf (x - lowB o v n).toNat (by omega)
      rw [show lowB o v n + ((x - lowB o v n).toNat : Int) = x by omega, hx] at this
      cases this
  have := lst_none this
  exact ⟨this.1.symm, this.2.symm⟩
theorem lowB_s1 {o v : Nat → Int} {i : Nat} (h : o i = 1 ∨ o i = 6) : lowB o v (i + 1) = maxI (lowB o v i) (v i) := by
  simp only [lowB, if_pos h, maxI]
  split <;> omega
theorem lowB_s5 {o v : Nat → Int} {i : Nat} (h : o i = 5) : lowB o v (i + 1) = maxI (lowB o v i) (v i + 1) := by
  simp only [lowB, if_neg (show ¬ (o i = 1 ∨ o i = 6) by omega), if_pos h, maxI]
  split <;> omega
theorem lowB_s0 {o v : Nat → Int} {i : Nat} (h : o i ≠ 1) (h6 : o i ≠ 6) (h5 : o i ≠ 5) : lowB o v (i + 1) = lowB o v i := by
  simp only [lowB, if_neg (show ¬ (o i = 1 ∨ o i = 6) by omega), if_neg h5]
theorem maxI_le {a b c : Int} (ha : a ≤ c) (hb : b ≤ c) : maxI a b ≤ c := by
  unfold maxI
  split <;> omega

theorem leastI_pure (n : Nat) (o v : Nat → Int) (hn : n ≤ 1000000) (hok : okAll n o = true) (hv : ∀ i, i < n → lowI ≤ v i ∧ v i ≤ highI) :
    PureC Tryd.prog (fun _ => .undef) 48 [condsAV n o v] (.tup [.int .i64 (lstV n o v), .bool (lstB n o v)]) := by
  refine pure_vc mix tbl3_ok ((leastI_vc n o v _ _).mpr ?_)
  have ho := ok_op hok
  simp only [EqI, imp_self, true_and, and_true, implies_true, Int.toNat_natCast, List.length_cons, List.length_nil, opOf_agg, valOf_agg, condsB_agg, hok, hn, decide_true, Bool.and_self, NB_t]
  refine ⟨⟨0, by simp [lowB, lowI, highI]⟩, fun i hi => ?_⟩
  refine VB_intro (fun h => ?_) (fun h => ?_)
  · have hin : i < n := by have := of_decide_eq_true h; omega
    have hvi := hv i hin
    have hoi := ho i hin
    simp only [lowI, highI] at hvi hi
    have fin : ∀ x : Int, x = lowB o v (i + 1) → x ≤ highI → ∃ i', (i' ≤ n ∧ lowB o v i' ≤ 9223372036854775807) ∧ (invL1 n o v).μ i' < (invL1 n o v).μ i ∧ IntKind.i64.wrap ((i : Int) + 1) = (i' : Int) ∧ x = lowB o v i' := fun x hx hh => by
      refine ⟨i + 1, ⟨by omega, ?_⟩, ?_, ?_, hx⟩
      · simp only [highI] at hh; omega
      · simp only [invL1]; omega
      · rw [wrap_i64_id (by omega) (by omega)]; omega
    refine NB_intro (decide_eq_true (by omega)) ?_
    have key5 : o i = 5 → VB (v i == 9223372036854775807) ((0 : Int) = lstV n o v ∧ false = lstB n o v) (∃ i', (i' ≤ n ∧ lowB o v i' ≤ 9223372036854775807) ∧ (invL1 n o v).μ i' < (invL1 n o v).μ i ∧ IntKind.i64.wrap ((i : Int) + 1) = (i' : Int) ∧ maxI (lowB o v i) (IntKind.i64.wrap (v i + 1)) = lowB o v i') := fun h5 => by
      refine VB_intro (fun hm => lst_max hin h5 (by simpa using hm)) (fun hm => ?_)
      have hm' : v i ≠ 9223372036854775807 := by simpa using hm
      refine fin _ ?_ (maxI_le (by simp only [highI]; omega) (by rw [wrap_i64_id (by omega) (by omega)]; simp only [highI]; omega))
      rw [wrap_i64_id (by omega) (by omega), lowB_s5 h5]
    simp only [highI] at fin ⊢
    refine VB_intro (fun h1 => VB_intro (fun _ => ?_) (fun h1' => by rw [h1] at h1'; cases h1')) (fun h1 => VB_intro (fun h6 => ?_) (fun h6 => ?_))
    · exact fin _ (lowB_s1 (.inl (by simpa using h1))).symm (maxI_le (by omega) (by omega))
    · exact fin _ (lowB_s1 (.inr (by simpa using h6))).symm (maxI_le (by omega) (by omega))
    · refine VB_intro (fun h5 => key5 (by simpa using h5)) (fun h5 => ?_)
      exact fin _ (lowB_s0 (by simpa using h1) (by simpa using h6) (by simpa using h5)).symm (by omega)
  · have hin : i = n := by have := of_decide_eq_false h; omega
    subst hin
    refine ⟨⟨0, ⟨by omega, by simpa using hi.2, fun j hj => by omega⟩, ⟨by rw [wrap_i64_id (by omega) (by omega)], by simp⟩, by simp⟩, fun j hj => ?_⟩
    obtain ⟨hj1, hj2, hj3⟩ := hj
    refine VB_intro (fun hlt => ?_) (fun hlt => ?_)
    · have hjn : j < i + 1 := by have := of_decide_eq_true hlt; omega
      refine VB_intro (fun ht => lst_at hj3 ht hj2) (fun hf => ?_)
      have hf' : ∀ k : Nat, k < j + 1 → allS i o v (lowB o v i + k) = false := fun k hk => by
        rcases Nat.lt_or_ge k j with h' | h'
        · exact hj3 k h'
        · obtain rfl : k = j := by omega
          exact hf
      refine VB_intro (fun ht => lst_top hf' (by simpa using ht)) (fun ht => ?_)
      have ht' : lowB o v i + j ≠ 9223372036854775807 := by simpa using ht
      have hll := lowB_low o v i
      simp only [highI, lowI] at hj2 hll ⊢
      refine ⟨j + 1, ⟨by omega, by omega, hf'⟩, by simp only [invL2]; omega, by rw [wrap_i64_id (by omega) (by omega)]; omega, by rw [wrap_i64_id (by omega) (by omega)]; omega⟩
    · have hjn : j = i + 1 := by have := of_decide_eq_false hlt; omega
      subst hjn
      exact lst_all ho hj3
end Go.Proofs.YtjkkkldkimdajaaDoor
