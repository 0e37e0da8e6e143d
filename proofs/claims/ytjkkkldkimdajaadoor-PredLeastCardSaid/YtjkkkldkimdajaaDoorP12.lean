/- PRED 12: the reference's least solutions are least solutions. -/
import Derived.Test.YtjkkkldkimdajaaDoorP11
namespace Go.Proofs.YtjkkkldkimdajaaDoor
open Pw Go
set_option maxRecDepth 100000
set_option linter.unusedSimpArgs false

theorem trN_zero (v : Nat → Int) : trN v 0 = 1 := rfl
theorem trN_succ (v : Nat → Int) (i : Nat) : trN v (i + 1) = if v i < highI then trN v i + 1 + 1 else trN v i + 1 := by
  simp only [trN, trL, List.length_append, List.length_cons]
  split <;> simp <;> omega
theorem trN_le (v : Nat → Int) : ∀ i, trN v i ≤ 2 * i + 1
  | 0 => by simp [trN_zero]
  | i + 1 => by
    have := trN_le v i
    rw [trN_succ]
    split <;> omega
theorem trV_zero (v : Nat → Int) : trV v 0 0 = lowI := rfl
theorem trV_succ (v : Nat → Int) (i k : Nat) (hk : k < trN v (i + 1)) : trV v (i + 1) k = if k < trN v i then trV v i k else if k < trN v i + 1 then v i else v i + 1 := by
  have e1 : k < trN v (i + 1) := hk
  rw [trN_succ] at e1
  have hl : (trL v i).length = trN v i := rfl
  by_cases h : k < trN v i
  · rw [if_pos h]
    simp only [trV, trL, List.getD_eq_getElem?_getD]
    rw [List.getElem?_append_left (by omega)]
  · rw [if_neg h]
    by_cases h2 : k < trN v i + 1
    · rw [if_pos h2]
      simp only [trV, trL, List.getD_eq_getElem?_getD]
      rw [List.getElem?_append_right (by omega), show k - (trL v i).length = 0 by omega]
      rfl
    · rw [if_neg h2]
      simp only [trV, trL, List.getD_eq_getElem?_getD]
      split at e1
      · rename_i hh
        rw [List.getElem?_append_right (by omega), show k - (trL v i).length = 1 by omega, if_pos hh]
        rfl
      · omega
/-- Each try lies in the range, and each value and the number behind it are tried. -/
theorem trV_range {n : Nat} {v : Nat → Int} (hv : ∀ i, i < n → lowI ≤ v i ∧ v i ≤ highI) : ∀ i, i ≤ n → ∀ k, k < trN v i → lowI ≤ trV v i k ∧ trV v i k ≤ highI
  | 0, _, k, hk => by
    rw [trN_zero] at hk
    obtain rfl : k = 0 := by omega
    rw [trV_zero]
    decide
  | i + 1, hi, k, hk => by
    have ih := trV_range hv i (by omega)
    have := hv i (by omega)
    rw [trV_succ v i k hk]
    rw [trN_succ] at hk
    split
    · exact ih k (by assumption)
    · split
      · exact this
      · split at hk <;> omega
theorem trV_tries (v : Nat → Int) : ∀ n, (∃ k, k < trN v n ∧ trV v n k = lowI) ∧ ∀ i, i < n → (∃ k, k < trN v n ∧ trV v n k = v i) ∧ (v i < highI → ∃ k, k < trN v n ∧ trV v n k = v i + 1)
  | 0 => ⟨⟨0, by simp [trN_zero], rfl⟩, fun i hi => by omega⟩
  | n + 1 => by
    obtain ⟨⟨k0, h0, e0⟩, ih⟩ := trV_tries v n
    have up : ∀ k, k < trN v n → k < trN v (n + 1) ∧ trV v (n + 1) k = trV v n k := fun k hk => by
      have : k < trN v (n + 1) := by rw [trN_succ]; split <;> omega
      exact ⟨this, by rw [trV_succ v n k this, if_pos hk]⟩
    refine ⟨⟨k0, (up k0 h0).1, by rw [(up k0 h0).2, e0]⟩, fun i hi => ?_⟩
    rcases Nat.lt_or_ge i n with h | h
    · obtain ⟨⟨k1, h1, e1⟩, h2⟩ := ih i h
      refine ⟨⟨k1, (up k1 h1).1, by rw [(up k1 h1).2, e1]⟩, fun hv => ?_⟩
      obtain ⟨k2, h3, e3⟩ := h2 hv
      exact ⟨k2, (up k2 h3).1, by rw [(up k2 h3).2, e3]⟩
    · obtain rfl : i = n := by omega
      refine ⟨⟨trN v i, ?_, ?_⟩, fun hv => ⟨trN v i + 1, ?_, ?_⟩⟩
      · rw [trN_succ]; split <;> omega
      · rw [trV_succ v i _ (by rw [trN_succ]; split <;> omega), if_neg (by omega), if_pos (by omega)]
      · rw [trN_succ, if_pos hv]; omega
      · rw [trV_succ v i _ (by rw [trN_succ, if_pos hv]; omega), if_neg (by omega), if_neg (by omega)]

theorem bst_spec (n : Nat) (o v : Nat → Int) : ∀ i, (bstF n o v i = true → (∃ k, k < i ∧ bstV n o v i = trV v n k ∧ allS n o v (trV v n k) = true) ∧ ∀ k, k < i → allS n o v (trV v n k) = true → bstV n o v i ≤ trV v n k) ∧
    (bstF n o v i = false → bstV n o v i = 0 ∧ ∀ k, k < i → allS n o v (trV v n k) = false)
  | 0 => ⟨fun h => by simp [bstF] at h, fun _ => ⟨rfl, fun k hk => by omega⟩⟩
  | i + 1 => by
    obtain ⟨ih1, ih2⟩ := bst_spec n o v i
    simp only [bstF, bstV]
    cases hf : bstF n o v i with
    | true =>
      obtain ⟨⟨k0, a1, a2, a3⟩, a4⟩ := ih1 hf
      refine ⟨fun _ => ?_, fun h => by simp at h⟩
      cases ha : allS n o v (trV v n i) with
      | true =>
        by_cases hlt : trV v n i < bstV n o v i
        · rw [if_pos ⟨rfl, .inr hlt⟩]
          refine ⟨⟨i, by omega, rfl, ha⟩, fun k hk hak => ?_⟩
          rcases Nat.lt_or_ge k i with h | h
          · have := a4 k h hak; omega
          · obtain rfl : k = i := by omega
            omega
        · rw [if_neg (fun h => by rcases h.2 with h | h; · cases h
                                  · exact hlt h)]
          refine ⟨⟨k0, by omega, a2, a3⟩, fun k hk hak => ?_⟩
          rcases Nat.lt_or_ge k i with h | h
          · exact a4 k h hak
          · obtain rfl : k = i := by omega
            omega
      | false =>
        rw [if_neg (fun h => by cases h.1)]
        refine ⟨⟨k0, by omega, a2, a3⟩, fun k hk hak => ?_⟩
        rcases Nat.lt_or_ge k i with h | h
        · exact a4 k h hak
        · obtain rfl : k = i := by omega
          rw [ha] at hak; cases hak
    | false =>
      obtain ⟨b1, b2⟩ := ih2 hf
      cases ha : allS n o v (trV v n i) with
      | true =>
        refine ⟨fun _ => ?_, fun h => by simp at h⟩
        rw [if_pos ⟨rfl, .inl rfl⟩]
        refine ⟨⟨i, by omega, rfl, ha⟩, fun k hk hak => ?_⟩
        rcases Nat.lt_or_ge k i with h | h
        · rw [b2 k h] at hak; cases hak
        · obtain rfl : k = i := by omega
          omega
      | false =>
        refine ⟨fun h => by simp at h, fun _ => ?_⟩
        rw [if_neg (fun h => by cases h.1)]
        refine ⟨b1, fun k hk => ?_⟩
        rcases Nat.lt_or_ge k i with h | h
        · exact b2 k h
        · obtain rfl : k = i := by omega
          exact ha
/-- The least solution, if there is one at all: below any solution there is a least one. -/
theorem least_ex {n : Nat} {o v : Nat → Int} : ∀ (d : Nat) (x : Int), lowI ≤ x → x ≤ highI → allS n o v x = true → x - lowI ≤ d → ∃ m, IsLeast n o v m := by
  intro d
  induction d with
  | zero => intro x h0 h1 hx hd; exact ⟨x, h0, h1, hx, fun y hy hlt => by omega⟩
  | succ d ih =>
    intro x h0 h1 hx hd
    by_cases h : ∃ y, lowI ≤ y ∧ y < x ∧ allS n o v y = true
    · obtain ⟨y, hy0, hy1, hy2⟩ := h
      exact ih y hy0 (by omega) hy2 (by omega)
    · refine ⟨x, h0, h1, hx, fun y hy hlt => ?_⟩
      cases hq : allS n o v y with
      | false => rfl
      | true => exact absurd ⟨y, hy, hlt, hq⟩ h
theorem bst_lst {n : Nat} {o v : Nat → Int} (ho : ∀ i, i < n → 1 ≤ o i ∧ o i ≤ 6) (hv : ∀ i, i < n → lowI ≤ v i ∧ v i ≤ highI) : bstV n o v (trN v n) = lstV n o v ∧ bstF n o v (trN v n) = lstB n o v := by
  obtain ⟨s1, s2⟩ := bst_spec n o v (trN v n)
  have tried : ∀ m, IsLeast n o v m → ∃ k, k < trN v n ∧ trV v n k = m := fun m hm => by
    obtain ⟨t0, t1⟩ := trV_tries v n
    rcases least_is ho hm with h | ⟨i, hi, h | ⟨h, h'⟩⟩
    · rw [h]; exact t0
    · rw [h]; exact (t1 i hi).1
    · rw [h]; exact (t1 i hi).2 h'
  cases hf : bstF n o v (trN v n) with
  | true =>
    obtain ⟨⟨k, h1, h2, h3⟩, h4⟩ := s1 hf
    have hr := trV_range hv n (Nat.le_refl _) k h1
    obtain ⟨m, hm⟩ := least_ex (trV v n k - lowI).toNat _ hr.1 hr.2 h3 (by omega)
    obtain ⟨k', a1, a2⟩ := tried m hm
    have a3 := h4 k' a1 (by rw [a2]; exact hm.2.2.1)
    have : m = bstV n o v (trN v n) := by
      rcases Int.lt_trichotomy m (bstV n o v (trN v n)) with h | h | h
      · omega
      · exact h
      · have := hm.2.2.2 (trV v n k) hr.1 (by omega)
        rw [h3] at this; cases this
    have := lst_of (this ▸ hm)
    exact ⟨this.1.symm, this.2.symm⟩
  | false =>
    obtain ⟨b1, b2⟩ := s2 hf
    have : NoSol n o v := fun x h0 h1 => by
      cases hx : allS n o v x with
      | false => rfl
      | true =>
        obtain ⟨m, hm⟩ := least_ex (x - lowI).toNat x h0 h1 hx (by omega)
        obtain ⟨k, a1, a2⟩ := tried m hm
        have := b2 k a1
        rw [a2, hm.2.2.1] at this; cases this
    have := lst_none this
    exact ⟨by rw [b1, this.1], this.2.symm⟩
end Go.Proofs.YtjkkkldkimdajaaDoor
