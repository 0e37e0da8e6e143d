/- AGGREGATES 1: the aggregates, in Lean; their code. -/
import Derived.Test.YtamcloifhjafcaaDoorAN26
namespace Go.Proofs.YtamcloifhjafcaaDoor
open Pw Go
set_option maxRecDepth 100000
set_option linter.unusedSimpArgs false
def inR (x : Int) : Bool := decide (-9223372036854775808 ≤ x) && decide (x ≤ 9223372036854775807)
def pSum (a : Nat → Int) : Nat → Int
 | 0 => 0
 | k + 1 => pSum a k + a k
def okTo (a : Nat → Int) : Nat → Bool
 | 0 => true
 | k + 1 => okTo a k && inR (pSum a (k + 1))
def sumV (n : Nat) (a : Nat → Int) : Int := if okTo a n = true then pSum a n else 0
def sumE (n : Nat) (a : Nat → Int) : Int := if okTo a n = true then 0 else 16
def leastS (a : Nat → Int) : Nat → Int
 | 0 => a 0
 | k + 1 => minI (leastS a k) (a (k + 1))
def mostS (a : Nat → Int) : Nat → Int
 | 0 => a 0
 | k + 1 => maxI (mostS a k) (a (k + 1))
abbrev intsAV (n : Nat) (a : Nat → Int) : AV := .rof n (fun i => .int .i64 (a i)) false
def invT (n : Nat) (a : Nat → Int) : Inv := ⟨Nat, 2, fun i => ⟨[(2, .ptr 0 0 0 0), (3, .ptr 1 0 0 0), (7, intsAV n a), (8, .int .i64 n), (9, .int .i64 i), (slotD, .opt true 0 false (.tup [.fn (.func 117) [] [.ptr 1 0 0 0, .ptr 0 0 0 0]]))], [(0, .row 0 1 true (.lst [.int .i64 (pSum a i)])), (1, .row 0 1 true (.lst [.int .i64 0]))]⟩, fun i => i ≤ n ∧ okTo a i = true, fun i => n - i⟩
def invR (n : Nat) (a : Nat → Int) : Inv := ⟨Nat, 0, fun i => ⟨[(0, intsAV n a), (4, .int .i64 (pSum a i)), (5, .int .i64 i)], []⟩, fun i => i ≤ n ∧ okTo a i = true, fun i => n - i⟩
def invF (m : Nat) (a : Nat → Int) (f : FuncId) (g : Nat → Int) : Inv := ⟨Nat, 0, fun i => ⟨[(1, .fn (.func f) [] []), (6, .int .i64 (g i)), (13, .rof m (fun k => .int .i64 (a (1 + k))) false), (14, .int .i64 m), (15, .int .i64 i)], []⟩, fun i => i ≤ m, fun i => m - i⟩
theorem total_vc (n : Nat) (a : Nat → Int) (s e : Int) : (vcFun (mkE Tryd.prog (tblOf []) fun f b => if f = 85 ∧ b = 0 then some (invT n a) else none) 20 85 [intsAV n a] .nil 0 (retP 3 (.tup [.int .i64 s, .int .i64 e]))).sat = ( (∃ (i : Nat), (i ≤ n ∧ okTo a i = true) ∧ (((0 : Nat) = (0 : Nat) ∧ (0 : Nat) = (0 : Nat) ∧ (0 : Nat) = (0 : Nat)) ∧ ((0 : Nat) = (0 : Nat) ∧ (0 : Nat) = (0 : Nat) ∧ (0 : Nat) = (0 : Nat)) ∧ (n = n ∧ (∀ (i : Nat), i < n → a i = a i ∧ [AV.int IntKind.i64 (a i)].length = [AV.int IntKind.i64 (a i)].length) ∧ (false = true → false = true)) ∧ (↑n : Int) = (↑n : Int) ∧ (0 : Int) = (↑i : Int) ∧ ((Fn.func (117 : Nat) = Fn.func (117 : FuncId) ∧ True ∧ ((0 : Nat) = (0 : Nat) ∧ (0 : Nat) = (0 : Nat) ∧ (0 : Nat) = (0 : Nat)) ∧ ((0 : Nat) = (0 : Nat) ∧ (0 : Nat) = (0 : Nat) ∧ (0 : Nat) = (0 : Nat)) ∧ True) ∧ True) ∧ True) ∧ ((0 : Nat) = (0 : Nat) ∧ (true = true → true = true) ∧ ((0 : Int) = pSum a i ∧ [AV.int IntKind.i64 (0 : Int)].length = [AV.int IntKind.i64 (pSum a i)].length) ∧ True) ∧ ((0 : Nat) = (0 : Nat) ∧ (true = true → true = true) ∧ (EqI (0 : Int) (0 : Int) ∧ [AV.int IntKind.i64 (0 : Int)].length = [AV.int IntKind.i64 (0 : Int)].length) ∧ True) ∧ True) ∧ ∀ (i : Nat), i ≤ n ∧ okTo a i = true → VB (decide ((↑i : Int) < (↑n : Int))) (NB (decide ((0 : Int) ≤ (↑i : Int) ∧ (↑i : Int) < (↑n : Int))) (VB (!(decide (IntKind.i64.wrap (pSum a i + a (↑i : Int).toNat) > pSum a i) == decide (a (↑i : Int).toNat > (0 : Int)) || a (↑i : Int).toNat == (0 : Int))) ((0 : Int) = s ∧ (16 : Int) = e ∧ True) (∃ (i' : Nat), (i' ≤ n ∧ okTo a i' = true) ∧ (invT n a).μ i' < (invT n a).μ i ∧ (((0 : Nat) = (0 : Nat) ∧ (0 : Nat) = (0 : Nat) ∧ (0 : Nat) = (0 : Nat)) ∧ ((0 : Nat) = (0 : Nat) ∧ (0 : Nat) = (0 : Nat) ∧ (0 : Nat) = (0 : Nat)) ∧ (n = n ∧ (∀ (i : Nat), i < n → a i = a i ∧ [AV.int IntKind.i64 (a i)].length = [AV.int IntKind.i64 (a i)].length) ∧ (false = true → false = true)) ∧ (↑n : Int) = (↑n : Int) ∧ IntKind.i64.wrap ((↑i : Int) + (1 : Int)) = (↑i' : Int) ∧ ((Fn.func (117 : FuncId) = Fn.func (117 : FuncId) ∧ True ∧ ((0 : Nat) = (0 : Nat) ∧ (0 : Nat) = (0 : Nat) ∧ (0 : Nat) = (0 : Nat)) ∧ ((0 : Nat) = (0 : Nat) ∧ (0 : Nat) = (0 : Nat) ∧ (0 : Nat) = (0 : Nat)) ∧ True) ∧ True) ∧ True) ∧ ((0 : Nat) = (0 : Nat) ∧ (true = true → true = true) ∧ (IntKind.i64.wrap (pSum a i + a (↑i : Int).toNat) = pSum a i' ∧ [AV.int IntKind.i64 (IntKind.i64.wrap (pSum a i + a (↑i : Int).toNat))].length = [AV.int IntKind.i64 (pSum a i')].length) ∧ True) ∧ ((0 : Nat) = (0 : Nat) ∧ (true = true → true = true) ∧ (EqI (0 : Int) (0 : Int) ∧ [AV.int IntKind.i64 (0 : Int)].length = [AV.int IntKind.i64 (0 : Int)].length) ∧ True) ∧ True))) (pSum a i = s ∧ (0 : Int) = e ∧ True)) := by
 kernel_rfl
theorem refsum_vc (n : Nat) (a : Nat → Int) (s e : Int) : (vcFun (mkE Tryd.prog (tblOf []) fun f b => if f = 98 ∧ b = 0 then some (invR n a) else none) 20 98 [intsAV n a] .nil 0 (retP 3 (.tup [.int .i64 s, .int .i64 e]))).sat = ( (∃ (i : Nat), (i ≤ n ∧ okTo a i = true) ∧ ((n = n ∧ (∀ (i : Nat), i < n → a i = a i ∧ [AV.int IntKind.i64 (a i)].length = [AV.int IntKind.i64 (a i)].length) ∧ (false = true → false = true)) ∧ (0 : Int) = pSum a i ∧ (0 : Int) = (↑i : Int) ∧ True) ∧ True) ∧ ∀ (i : Nat), i ≤ n ∧ okTo a i = true → VB (decide ((↑i : Int) < (↑n : Int))) (NB (decide ((0 : Int) ≤ (↑i : Int) ∧ (↑i : Int) < (↑n : Int))) (VB (decide (a (↑i : Int).toNat > (0 : Int)) && decide (IntKind.i64.wrap (pSum a i + a (↑i : Int).toNat) < pSum a i) || decide (a (↑i : Int).toNat < (0 : Int)) && decide (IntKind.i64.wrap (pSum a i + a (↑i : Int).toNat) > pSum a i)) ((0 : Int) = s ∧ (16 : Int) = e ∧ True) (∃ (i' : Nat), (i' ≤ n ∧ okTo a i' = true) ∧ (invR n a).μ i' < (invR n a).μ i ∧ ((n = n ∧ (∀ (i : Nat), i < n → a i = a i ∧ [AV.int IntKind.i64 (a i)].length = [AV.int IntKind.i64 (a i)].length) ∧ (false = true → false = true)) ∧ IntKind.i64.wrap (pSum a i + a (↑i : Int).toNat) = pSum a i' ∧ IntKind.i64.wrap ((↑i : Int) + (1 : Int)) = (↑i' : Int) ∧ True) ∧ True))) (pSum a i = s ∧ (0 : Int) = e ∧ True)) := by
 kernel_rfl
theorem least_vc (m : Nat) (a : Nat → Int) (s e : Int) : (vcFun (mkE Tryd.prog (tblOf []) fun f b => if f = 87 ∧ b = 0 then some (invF m a 88 (leastS a)) else none) 20 86 [intsAV (m + 1) a] .nil 0 (retP 3 (.tup [.int .i64 s, .int .i64 e]))).sat = ( NB (decide ((0 : Int) ≤ (0 : Int) ∧ (0 : Int) < (↑(m + (1 : Nat)) : Int))) (NB (decide ((0 : Int) ≤ (1 : Int) ∧ (1 : Int) ≤ (↑(m + (1 : Nat)) : Int) ∧ (↑(m + (1 : Nat)) : Int) ≤ (↑(m + (1 : Nat)) : Int))) ((∃ (i : Nat), i.le m ∧ ((Fn.func (88 : Nat) = Fn.func (88 : FuncId) ∧ True ∧ True) ∧ a (Int.toNat (0 : Int)) = leastS a i ∧ ((↑(m + (1 : Nat)) : Int).toNat - Int.toNat (1 : Int) = m ∧ (∀ (i : Nat), i < (↑(m + (1 : Nat)) : Int).toNat - Int.toNat (1 : Int) → a (Int.toNat (1 : Int) + i) = a ((1 : Nat) + i) ∧ [AV.int IntKind.i64 (a (Int.toNat (1 : Int) + i))].length = [AV.int IntKind.i64 (a ((1 : Nat) + i))].length) ∧ (false = true → false = true)) ∧ (↑((↑(m + (1 : Nat)) : Int).toNat - Int.toNat (1 : Int)) : Int) = (↑m : Int) ∧ (0 : Int) = (↑i : Int) ∧ True) ∧ True) ∧ ∀ (i : Nat), i.le m → VB (decide ((↑i : Int) < (↑m : Int))) (NB (decide ((0 : Int) ≤ (↑i : Int) ∧ (↑i : Int) < (↑m : Int))) (∃ (i' : Nat), i'.le m ∧ (invF m a (88 : FuncId) (leastS a)).μ i' < (invF m a (88 : FuncId) (leastS a)).μ i ∧ ((Fn.func (88 : FuncId) = Fn.func (88 : FuncId) ∧ True ∧ True) ∧ minI (leastS a i) (a ((1 : Nat) + (↑i : Int).toNat)) = leastS a i' ∧ (m = m ∧ (∀ (i : Nat), i < m → a ((1 : Nat) + i) = a ((1 : Nat) + i) ∧ [AV.int IntKind.i64 (a ((1 : Nat) + i))].length = [AV.int IntKind.i64 (a ((1 : Nat) + i))].length) ∧ (false = true → false = true)) ∧ (↑m : Int) = (↑m : Int) ∧ IntKind.i64.wrap ((↑i : Int) + (1 : Int)) = (↑i' : Int) ∧ True) ∧ True)) (leastS a i = s ∧ (0 : Int) = e ∧ True)))) := by
 kernel_rfl
theorem most_vc (m : Nat) (a : Nat → Int) (s e : Int) : (vcFun (mkE Tryd.prog (tblOf []) fun f b => if f = 87 ∧ b = 0 then some (invF m a 90 (mostS a)) else none) 20 89 [intsAV (m + 1) a] .nil 0 (retP 3 (.tup [.int .i64 s, .int .i64 e]))).sat = ( NB (decide ((0 : Int) ≤ (0 : Int) ∧ (0 : Int) < (↑(m + (1 : Nat)) : Int))) (NB (decide ((0 : Int) ≤ (1 : Int) ∧ (1 : Int) ≤ (↑(m + (1 : Nat)) : Int) ∧ (↑(m + (1 : Nat)) : Int) ≤ (↑(m + (1 : Nat)) : Int))) ((∃ (i : Nat), i.le m ∧ ((Fn.func (90 : Nat) = Fn.func (90 : FuncId) ∧ True ∧ True) ∧ a (Int.toNat (0 : Int)) = mostS a i ∧ ((↑(m + (1 : Nat)) : Int).toNat - Int.toNat (1 : Int) = m ∧ (∀ (i : Nat), i < (↑(m + (1 : Nat)) : Int).toNat - Int.toNat (1 : Int) → a (Int.toNat (1 : Int) + i) = a ((1 : Nat) + i) ∧ [AV.int IntKind.i64 (a (Int.toNat (1 : Int) + i))].length = [AV.int IntKind.i64 (a ((1 : Nat) + i))].length) ∧ (false = true → false = true)) ∧ (↑((↑(m + (1 : Nat)) : Int).toNat - Int.toNat (1 : Int)) : Int) = (↑m : Int) ∧ (0 : Int) = (↑i : Int) ∧ True) ∧ True) ∧ ∀ (i : Nat), i.le m → VB (decide ((↑i : Int) < (↑m : Int))) (NB (decide ((0 : Int) ≤ (↑i : Int) ∧ (↑i : Int) < (↑m : Int))) (∃ (i' : Nat), i'.le m ∧ (invF m a (90 : FuncId) (mostS a)).μ i' < (invF m a (90 : FuncId) (mostS a)).μ i ∧ ((Fn.func (90 : FuncId) = Fn.func (90 : FuncId) ∧ True ∧ True) ∧ maxI (mostS a i) (a ((1 : Nat) + (↑i : Int).toNat)) = mostS a i' ∧ (m = m ∧ (∀ (i : Nat), i < m → a ((1 : Nat) + i) = a ((1 : Nat) + i) ∧ [AV.int IntKind.i64 (a ((1 : Nat) + i))].length = [AV.int IntKind.i64 (a ((1 : Nat) + i))].length) ∧ (false = true → false = true)) ∧ (↑m : Int) = (↑m : Int) ∧ IntKind.i64.wrap ((↑i : Int) + (1 : Int)) = (↑i' : Int) ∧ True) ∧ True)) (mostS a i = s ∧ (0 : Int) = e ∧ True)))) := by
 kernel_rfl
end Go.Proofs.YtamcloifhjafcaaDoor
namespace Go.Proofs.YtamcloifhjafcaaDoor
open Pw Go
set_option maxRecDepth 100000
set_option linter.unusedSimpArgs false
def rng64 (x : Int) : Prop := -9223372036854775808 ≤ x ∧ x ≤ 9223372036854775807
theorem inR_iff {x : Int} : inR x = true ↔ rng64 x := by simp [inR, rng64]
theorem okTo_sum {a : Nat → Int} {i : Nat} (h : okTo a i = true) : rng64 (pSum a i) := by
 cases i with
 | zero => simp [pSum, rng64]
 | succ k => simp only [okTo, Bool.and_eq_true] at h; exact inR_iff.1 h.2
theorem okTo_le {a : Nat → Int} : ∀ {n i : Nat}, i ≤ n → okTo a n = true → okTo a i = true
  | 0, i, h, ho => by have : i = 0 := by omega
                      subst this; exact ho
  | n + 1, i, h, ho => by
    by_cases e : i = n + 1
    · subst e; exact ho
    · simp only [okTo, Bool.and_eq_true] at ho
      exact okTo_le (by omega) ho.1
theorem add_over {s x : Int} (hs : rng64 s) (hx : rng64 x) : (decide (IntKind.i64.wrap (s + x) > s) == decide (x > 0) || x == 0) = inR (s + x) := by
 obtain ⟨h1, h2⟩ := hs
 obtain ⟨h3, h4⟩ := hx
 rw [wrap_i64]
 by_cases e : rng64 (s + x)
 ·rw [inR_iff.2 e]
  obtain ⟨h5, h6⟩ := e
  have : (s + x + 9223372036854775808) % 18446744073709551616 - 9223372036854775808 = s + x := by omega
  rw [this]
  by_cases hx0 : x > 0
  ·have : s + x > s := by omega
   simp only [hx0, this, decide_true, beq_self_eq_true, Bool.true_or]
  ·by_cases h0 : x = 0
   ·simp [h0]
   ·have : ¬ s + x > s := by omega
    simp only [hx0, this, decide_false, beq_self_eq_true, Bool.true_or]
 ·have : inR (s + x) = false := by
   cases h : inR (s + x) with
   | false => rfl
   | true => exact absurd (inR_iff.1 h) e
  rw [this]
  have e : s + x < -9223372036854775808 ∨ 9223372036854775807 < s + x := by simp only [rng64] at e; omega
  have hx0 : x ≠ 0 := by omega
  simp only [Bool.or_eq_false_iff, beq_eq_false_iff_ne, ne_eq]
  refine ⟨?_, hx0⟩
  rcases e with e | e
  ·have h5 : (s + x + 9223372036854775808) % 18446744073709551616 - 9223372036854775808 = s + x + 18446744073709551616 := by omega
   rw [h5]
   have h6 : s + x + 18446744073709551616 > s := by omega
   have h7 : ¬ x > 0 := by omega
   simp [h6, h7]
  ·have h5 : (s + x + 9223372036854775808) % 18446744073709551616 - 9223372036854775808 = s + x - 18446744073709551616 := by omega
   rw [h5]
   have h6 : ¬ s + x - 18446744073709551616 > s := by omega
   have h7 : x > 0 := by omega
   simp [h6, h7]
theorem add_overR {s x : Int} (hs : rng64 s) (hx : rng64 x) : (decide (x > 0) && decide (IntKind.i64.wrap (s + x) < s) || decide (x < 0) && decide (IntKind.i64.wrap (s + x) > s)) = !inR (s + x) := by
 obtain ⟨h1, h2⟩ := hs
 obtain ⟨h3, h4⟩ := hx
 rw [wrap_i64]
 by_cases e : rng64 (s + x)
 ·rw [inR_iff.2 e]
  obtain ⟨h5, h6⟩ := e
  have : (s + x + 9223372036854775808) % 18446744073709551616 - 9223372036854775808 = s + x := by omega
  rw [this]
  simp only [Bool.not_true, Bool.or_eq_false_iff, Bool.and_eq_false_iff, decide_eq_false_iff_not]
  omega
 ·have : inR (s + x) = false := by
   cases h : inR (s + x) with
   | false => rfl
   | true => exact absurd (inR_iff.1 h) e
  rw [this]
  have e : s + x < -9223372036854775808 ∨ 9223372036854775807 < s + x := by simp only [rng64] at e; omega
  simp only [Bool.not_false, Bool.or_eq_true, Bool.and_eq_true, decide_eq_true_eq]
  rcases e with e | e <;> omega
theorem okTo_succ {a : Nat → Int} {i : Nat} (h : okTo a i = true) : okTo a (i + 1) = inR (pSum a i + a i) := by
 simp only [okTo, h, Bool.true_and, pSum]
theorem total_pure (n : Nat) (a : Nat → Int) (hn : n ≤ 9223372036854775807) (ha : ∀ i, i < n → rng64 (a i)) : PureC Tryd.prog (fun _ => .undef) 85 [intsAV n a] (.tup [.int .i64 (sumV n a), .int .i64 (sumE n a)]) := by
  refine pure_vc (t := tblOf []) (k := 20) (d := 3) mix (tbl_nil _) ((total_vc n a _ _).mpr ?_)
  refine ⟨⟨0, ⟨Nat.zero_le _, rfl⟩, by simp [pSum]⟩, fun i ⟨hi, hok⟩ => VB_intro (fun h => ?_) (fun h => ?_)⟩
  · have hlt : i < n := by simpa using h
    refine NB_intro (by simp; omega) ?_
    have e0 : (↑i : Int).toNat = i := by simp
    rw [e0, add_over (okTo_sum hok) (ha i hlt), ← okTo_succ hok]
    refine VB_intro (fun h => ?_) (fun h => ?_)
    · have hk : okTo a (i + 1) = false := by simpa using h
      have hkn : okTo a n = false := by
        cases hh : okTo a n with
        | false => rfl
        | true => rw [okTo_le (by omega : i + 1 ≤ n) hh] at hk; cases hk
      simp [sumV, sumE, hkn]
    · have hk : okTo a (i + 1) = true := by simpa using h
      have hr := okTo_sum hk
      have hp : pSum a (i + 1) = pSum a i + a i := rfl
      have hw : IntKind.i64.wrap (pSum a i + a i) = pSum a (i + 1) := by rw [hp] at hr ⊢; exact wrap_i64_id hr.1 hr.2
      have hw2 : IntKind.i64.wrap ((i : Int) + 1) = ((i + 1 : Nat) : Int) := by rw [wrap_i64_id (by omega) (by omega)]; simp
      refine ⟨i + 1, ⟨by omega, hk⟩, by show n - (i + 1) < n - i; omega, ?_⟩
      simp [hw, hw2]
  · have e : i = n := by have : ¬ (i : Int) < n := by simpa using h
                         omega
    subst e
    simp [sumV, sumE, hok]
theorem refsum_pure (n : Nat) (a : Nat → Int) (hn : n ≤ 9223372036854775807) (ha : ∀ i, i < n → rng64 (a i)) : PureC Tryd.prog (fun _ => .undef) 98 [intsAV n a] (.tup [.int .i64 (sumV n a), .int .i64 (sumE n a)]) := by
  refine pure_vc (t := tblOf []) (k := 20) (d := 3) mix (tbl_nil _) ((refsum_vc n a _ _).mpr ?_)
  refine ⟨⟨0, ⟨Nat.zero_le _, rfl⟩, by simp [pSum]⟩, fun i ⟨hi, hok⟩ => VB_intro (fun h => ?_) (fun h => ?_)⟩
  · have hlt : i < n := by simpa using h
    refine NB_intro (by simp; omega) ?_
    have e0 : (↑i : Int).toNat = i := by simp
    rw [e0, add_overR (okTo_sum hok) (ha i hlt), ← okTo_succ hok]
    refine VB_intro (fun h => ?_) (fun h => ?_)
    · have hk : okTo a (i + 1) = false := by simpa using h
      have hkn : okTo a n = false := by
        cases hh : okTo a n with
        | false => rfl
        | true => rw [okTo_le (by omega : i + 1 ≤ n) hh] at hk; cases hk
      simp [sumV, sumE, hkn]
    · have hk : okTo a (i + 1) = true := by simpa using h
      have hr := okTo_sum hk
      have hp : pSum a (i + 1) = pSum a i + a i := rfl
      have hw : IntKind.i64.wrap (pSum a i + a i) = pSum a (i + 1) := by rw [hp] at hr ⊢; exact wrap_i64_id hr.1 hr.2
      have hw2 : IntKind.i64.wrap ((i : Int) + 1) = ((i + 1 : Nat) : Int) := by rw [wrap_i64_id (by omega) (by omega)]; simp
      refine ⟨i + 1, ⟨by omega, hk⟩, by show n - (i + 1) < n - i; omega, ?_⟩
      simp [hw, hw2]
  · have e : i = n := by have : ¬ (i : Int) < n := by simpa using h
                         omega
    subst e
    simp [sumV, sumE, hok]
theorem least_pure (m : Nat) (a : Nat → Int) (hn : m + 1 ≤ 9223372036854775807) : PureC Tryd.prog (fun _ => .undef) 86 [intsAV (m + 1) a] (.tup [.int .i64 (leastS a m), .int .i64 0]) := by
  refine pure_vc (t := tblOf []) (k := 20) (d := 3) mix (tbl_nil _) ((least_vc m a _ _).mpr ?_)
  refine NB_intro (by simp only [decide_eq_true_eq]; omega) (NB_intro (by simp only [decide_eq_true_eq]; omega) ⟨⟨0, Nat.zero_le _, by simp [leastS]⟩, fun i hi => VB_intro (fun h => ?_) (fun h => ?_)⟩)
  · have hlt : i < m := by simpa using h
    have hw2 : IntKind.i64.wrap ((i : Int) + 1) = ((i + 1 : Nat) : Int) := by rw [wrap_i64_id (by omega) (by omega)]; simp
    refine NB_intro (by simp; omega) ⟨i + 1, by show i + 1 ≤ m; omega, by show m - (i + 1) < m - i; omega, ?_⟩
    simp [hw2, leastS, Nat.add_comm 1 i]
  · have hi : i ≤ m := hi
    have e : i = m := by have : ¬ (i : Int) < m := by simpa using h
                         omega
    subst e
    simp
theorem most_pure (m : Nat) (a : Nat → Int) (hn : m + 1 ≤ 9223372036854775807) : PureC Tryd.prog (fun _ => .undef) 89 [intsAV (m + 1) a] (.tup [.int .i64 (mostS a m), .int .i64 0]) := by
  refine pure_vc (t := tblOf []) (k := 20) (d := 3) mix (tbl_nil _) ((most_vc m a _ _).mpr ?_)
  refine NB_intro (by simp only [decide_eq_true_eq]; omega) (NB_intro (by simp only [decide_eq_true_eq]; omega) ⟨⟨0, Nat.zero_le _, by simp [mostS]⟩, fun i hi => VB_intro (fun h => ?_) (fun h => ?_)⟩)
  · have hlt : i < m := by simpa using h
    have hw2 : IntKind.i64.wrap ((i : Int) + 1) = ((i + 1 : Nat) : Int) := by rw [wrap_i64_id (by omega) (by omega)]; simp
    refine NB_intro (by simp; omega) ⟨i + 1, by show i + 1 ≤ m; omega, by show m - (i + 1) < m - i; omega, ?_⟩
    simp [hw2, mostS, Nat.add_comm 1 i]
  · have hi : i ≤ m := hi
    have e : i = m := by have : ¬ (i : Int) < m := by simpa using h
                         omega
    subst e
    simp
def toInt : AV → Int
 | .int _ n => n
 | _ => 0
def isI64 : AV → Bool
 | .int .i64 n => inR n
 | _ => false
def intsB (n : Nat) (f : Nat → AV) : Bool := (List.range n).all fun i => isI64 (f i)
theorem rof_ints_sub {n : Nat} {f : Nat → AV} {ex : Bool} (h : intsB n f = true) : (AV.rof n f ex).sub (intsAV n (fun i => toInt (f i))) ∧ ∀ i, i < n → rng64 (toInt (f i)) := by
 have key : ∀ i, i < n → f i = .int .i64 (toInt (f i)) ∧ rng64 (toInt (f i)) := by
  intro i hi
  have := List.all_eq_true.1 h i (by simpa using hi)
  generalize f i = x at this
  unfold isI64 at this
  split at this
  ·exact ⟨rfl, inR_iff.1 this⟩
  ·cases this
 refine ⟨⟨rfl, fun i hi => ?_, by simp⟩, fun i hi => (key i hi).2⟩
 rw [(key i hi).1]
 exact ⟨rfl, rfl⟩
end Go.Proofs.YtamcloifhjafcaaDoor
