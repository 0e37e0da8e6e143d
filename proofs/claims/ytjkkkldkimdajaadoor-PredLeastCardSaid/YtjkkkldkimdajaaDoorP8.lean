/- PRED 8: least solutions, in Lean. -/
import Derived.Test.YtjkkkldkimdajaaDoorP3
namespace Go.Proofs.YtjkkkldkimdajaaDoor
open Pw Go
set_option linter.unusedSimpArgs false

def lowI : Int := -9223372036854775808
def highI : Int := 9223372036854775807
def IsLeast (n : Nat) (o v : Nat → Int) (m : Int) : Prop := lowI ≤ m ∧ m ≤ highI ∧ allS n o v m = true ∧ ∀ x, lowI ≤ x → x < m → allS n o v x = false
def NoSol (n : Nat) (o v : Nat → Int) : Prop := ∀ x, lowI ≤ x → x ≤ highI → allS n o v x = false
open Classical in
noncomputable def lstB (n : Nat) (o v : Nat → Int) : Bool := decide (∃ m, IsLeast n o v m)
open Classical in
noncomputable def lstV (n : Nat) (o v : Nat → Int) : Int := if h : ∃ m, IsLeast n o v m then Classical.choose h else 0

theorem IsLeast.unique {n : Nat} {o v : Nat → Int} {a b : Int} (ha : IsLeast n o v a) (hb : IsLeast n o v b) : a = b := by
  rcases Int.lt_trichotomy a b with h | h | h
  · have := hb.2.2.2 a ha.1 h
    rw [ha.2.2.1] at this; cases this
  · exact h
  · have := ha.2.2.2 b hb.1 h
    rw [hb.2.2.1] at this; cases this
theorem lst_of {n : Nat} {o v : Nat → Int} {m : Int} (h : IsLeast n o v m) : lstV n o v = m ∧ lstB n o v = true := by
  have he : ∃ m, IsLeast n o v m := ⟨m, h⟩
  constructor
  · unfold lstV
    rw [dif_pos he]
    exact (Classical.choose_spec he).unique h
  · simp [lstB, he]
theorem lst_none {n : Nat} {o v : Nat → Int} (h : NoSol n o v) : lstV n o v = 0 ∧ lstB n o v = false := by
  have he : ¬ ∃ m, IsLeast n o v m := by
    rintro ⟨m, h1, h2, h3, _⟩
    rw [h m h1 h2] at h3; cases h3
  constructor
  · unfold lstV
    rw [dif_neg he]
  · simp [lstB, he]

/-! ### From below -/
def lowB (o v : Nat → Int) : Nat → Int
  | 0 => lowI
  | i + 1 => if o i = 1 ∨ o i = 6 then max (lowB o v i) (v i) else if o i = 5 then max (lowB o v i) (v i + 1) else lowB o v i
theorem lowB_low (o v : Nat → Int) : ∀ i, lowI ≤ lowB o v i
  | 0 => Int.le_refl _
  | i + 1 => by
    have := lowB_low o v i
    simp only [lowB]
    split
    · omega
    · split <;> omega
/-- Each lower bound is met. -/
theorem lowB_ge (o v : Nat → Int) : ∀ n i, i < n → ((o i = 1 ∨ o i = 6) → v i ≤ lowB o v n) ∧ (o i = 5 → v i + 1 ≤ lowB o v n)
  | n + 1, i, h => by
    rcases Nat.lt_or_ge i n with h' | h'
    · have := lowB_ge o v n i h'
      simp only [lowB]
      split
      · omega
      · split <;> omega
    · obtain rfl : i = n := by omega
      simp only [lowB]
      split
      · omega
      · split <;> omega
/-- No solution lies below. -/
theorem lowB_le {o v : Nat → Int} {x : Int} (h0 : lowI ≤ x) : ∀ n, (∀ i, i < n → opS (o i) (v i) x = true) → lowB o v n ≤ x
  | 0, _ => h0
  | n + 1, h => by
    have ih := lowB_le h0 n (fun i hi => h i (by omega))
    have hn := h n (by omega)
    simp only [lowB]
    split
    · rename_i ho
      rcases ho with ho | ho <;> simp only [opS, ho] at hn <;> simp at hn <;> omega
    · split
      · rename_i ho
        simp only [opS, ho] at hn
        simp at hn
        omega
      · exact ih
theorem pigeon : ∀ (n : Nat) (w : Nat → Int) (L : Int), (∀ j : Nat, j ≤ n → ∃ i, i < n ∧ w i = L + j) → False
  | 0, w, L, h => by
    obtain ⟨i, hi, _⟩ := h 0 (by omega)
    omega
  | n + 1, w, L, h => by
    obtain ⟨i0, h0, e0⟩ := h (n + 1) (by omega)
    refine pigeon n (fun i => w (if i < i0 then i else i + 1)) L fun j hj => ?_
    obtain ⟨i, hi, e⟩ := h j (by omega)
    have hne : i ≠ i0 := fun he => by subst he; omega
    by_cases hlt : i < i0
    · exact ⟨i, by omega, by simp only [if_pos hlt]; exact e⟩
    · exact ⟨i - 1, by omega, by
        have : ¬ i - 1 < i0 := by omega
        simp only [if_neg this]
        rw [show i - 1 + 1 = i by omega]
        exact e⟩
/-- If so many from the bound on are none, there is none. -/
theorem none_from_low {n : Nat} {o v : Nat → Int} (ho : ∀ i, i < n → 1 ≤ o i ∧ o i ≤ 6) (hf : ∀ j : Nat, j ≤ n → allS n o v (lowB o v n + j) = false) : NoSol n o v := by
  intro x h0 h1
  cases hx : allS n o v x with
  | false => rfl
  | true =>
    exfalso
    have hall := allS_iff.1 hx
    have hle := lowB_le h0 n hall
    by_cases hnear : x ≤ lowB o v n + n
    · have := hf (x - lowB o v n).toNat (by omega)
      rw [show lowB o v n + ((x - lowB o v n).toNat : Int) = x by omega, hx] at this
      cases this
    · refine pigeon n v (lowB o v n) fun j hj => ?_
      have hn : ¬ ∀ i, i < n → opS (o i) (v i) (lowB o v n + j) = true := fun hc => by
        have := hf j hj
        rw [allS_iff.2 hc] at this
        cases this
      have : ∃ i, i < n ∧ opS (o i) (v i) (lowB o v n + j) = false := by
        refine Classical.byContradiction fun hno => hn fun i hi => ?_
        cases hq : opS (o i) (v i) (lowB o v n + j) with
        | true => rfl
        | false => exact absurd ⟨i, hi, hq⟩ hno
      obtain ⟨i, hi, hq⟩ := this
      refine ⟨i, hi, ?_⟩
      have hxi := hall i hi
      have hb := lowB_ge o v n i hi
      have h16 := ho i hi
      have h6 : o i = 1 ∨ o i = 2 ∨ o i = 3 ∨ o i = 4 ∨ o i = 5 ∨ o i = 6 := by omega
      rcases h6 with h | h | h | h | h | h <;> simp only [opS, h] at hq hxi <;> simp at hq hxi <;> omega

/-! ### From the values -/
/-- The least solution is the least number, or a value, or the number behind one. -/
theorem least_is {n : Nat} {o v : Nat → Int} {m : Int} (ho : ∀ i, i < n → 1 ≤ o i ∧ o i ≤ 6) (h : IsLeast n o v m) : m = lowI ∨ ∃ i, i < n ∧ (m = v i ∨ (m = v i + 1 ∧ v i < highI)) := by
  obtain ⟨h1, h2, h3, h4⟩ := h
  by_cases hm : m = lowI
  · exact .inl hm
  · refine .inr ?_
    have hp := h4 (m - 1) (by omega) (by omega)
    have hall := allS_iff.1 h3
    have : ∃ i, i < n ∧ opS (o i) (v i) (m - 1) = false := by
      refine Classical.byContradiction fun hno => ?_
      have : allS n o v (m - 1) = true := allS_iff.2 fun i hi => by
        cases hq : opS (o i) (v i) (m - 1) with
        | true => rfl
        | false => exact absurd ⟨i, hi, hq⟩ hno
      rw [hp] at this; cases this
    obtain ⟨i, hi, hq⟩ := this
    have hxi := hall i hi
    have h16 := ho i hi
    have h6 : o i = 1 ∨ o i = 2 ∨ o i = 3 ∨ o i = 4 ∨ o i = 5 ∨ o i = 6 := by omega
    refine ⟨i, hi, ?_⟩
    rcases h6 with h | h | h | h | h | h <;> simp only [opS, h] at hq hxi <;> simp at hq hxi <;> omega
end Go.Proofs.YtjkkkldkimdajaaDoor
