/- AGGREGATES 4: contracts of an aggregate. -/
import Derived.Test.YtamcloifhjafcaaDoorAA3
namespace Go.Proofs.YtamcloifhjafcaaDoor
open Pw Go
set_option maxRecDepth 100000
set_option linter.unusedSimpArgs false
def ofV (f : Int) (n : Nat) (a : Nat → Int) : Int := if f = 1 then n else if f = 2 then sumV n a else if n = 0 then 0 else if f = 3 then leastS a (n - 1) else if f = 4 then mostS a (n - 1) else if f = 5 then a 0 else if f = 6 then a (n - 1) else 0
def ofE (f : Int) (n : Nat) (a : Nat → Int) : Int := if f < 1 ∨ 6 < f then 11 else if f = 1 then 0 else if f = 2 then sumE n a else if n = 0 then 7 else 0
theorem intsB_av {n : Nat} {a : Nat → Int} (ha : ∀ i, i < n → rng64 (a i)) : intsB n (fun i => AV.int .i64 (a i)) = true :=
 List.all_eq_true.2 fun i hi => inR_iff.2 (ha i (by simpa using hi))
theorem f_cases (f : Int) : f = 1 ∨ f = 2 ∨ f = 3 ∨ f = 4 ∨ f = 5 ∨ f = 6 ∨ (f < 1 ∨ 6 < f) := by omega
theorem ofI_1 (n : Nat) (a : Nat → Int) (hn : n ≤ 1000000) (ha : ∀ i, i < n → rng64 (a i)) : PureC Tryd.prog (fun _ => .undef) 52 [.int .i64 1, intsAV n a] (.tup [.int .i64 (ofV 1 n a), .int .i64 (ofE 1 n a)]) := by
 have hB := intsB_av ha
 have hw : ∀ m, n = m + 1 → IntKind.i64.wrap ((n : Int) - 1) = (m : Int) := fun m e => by rw [wrap_i64_id (by omega) (by omega)]; omega
 exact pure_vc (t := tblOf tblAg) (inv := fun _ _ => none) (k := 20) (d := 3) mix tblAg_ok ((ofI1_vc n a _ _).mpr (by simp [ofV, ofE]))
theorem ofI_2 (n : Nat) (a : Nat → Int) (hn : n ≤ 1000000) (ha : ∀ i, i < n → rng64 (a i)) : PureC Tryd.prog (fun _ => .undef) 52 [.int .i64 2, intsAV n a] (.tup [.int .i64 (ofV 2 n a), .int .i64 (ofE 2 n a)]) := by
 have hB := intsB_av ha
 have hw : ∀ m, n = m + 1 → IntKind.i64.wrap ((n : Int) - 1) = (m : Int) := fun m e => by rw [wrap_i64_id (by omega) (by omega)]; omega
 exact pure_vc (t := tblOf tblAg) (inv := fun _ _ => none) (k := 20) (d := 3) mix tblAg_ok ((ofI2_vc n a _ _).mpr (NB_intro (by simp [hn, hB]) (by simp [ofV, ofE])))
theorem ofI_3 (n : Nat) (a : Nat → Int) (hn : n ≤ 1000000) (ha : ∀ i, i < n → rng64 (a i)) : PureC Tryd.prog (fun _ => .undef) 52 [.int .i64 3, intsAV n a] (.tup [.int .i64 (ofV 3 n a), .int .i64 (ofE 3 n a)]) := by
 have hB := intsB_av ha
 have hw : ∀ m, n = m + 1 → IntKind.i64.wrap ((n : Int) - 1) = (m : Int) := fun m e => by rw [wrap_i64_id (by omega) (by omega)]; omega
 refine pure_vc (t := tblOf tblAg) (inv := fun _ _ => none) (k := 20) (d := 3) mix tblAg_ok ((ofI3_vc n a _ _).mpr (VB_intro (fun h => ?_) (fun h => ?_)))
 ·have h0 : n = 0 := by simpa using h
  subst h0; simp [ofV, ofE]
 ·have h0 : n ≠ 0 := by simpa using h
  exact NB_intro (by simp [hn, hB]; omega) (by simp [ofV, ofE, h0])
theorem ofI_4 (n : Nat) (a : Nat → Int) (hn : n ≤ 1000000) (ha : ∀ i, i < n → rng64 (a i)) : PureC Tryd.prog (fun _ => .undef) 52 [.int .i64 4, intsAV n a] (.tup [.int .i64 (ofV 4 n a), .int .i64 (ofE 4 n a)]) := by
 have hB := intsB_av ha
 have hw : ∀ m, n = m + 1 → IntKind.i64.wrap ((n : Int) - 1) = (m : Int) := fun m e => by rw [wrap_i64_id (by omega) (by omega)]; omega
 refine pure_vc (t := tblOf tblAg) (inv := fun _ _ => none) (k := 20) (d := 3) mix tblAg_ok ((ofI4_vc n a _ _).mpr (VB_intro (fun h => ?_) (fun h => ?_)))
 ·have h0 : n = 0 := by simpa using h
  subst h0; simp [ofV, ofE]
 ·have h0 : n ≠ 0 := by simpa using h
  exact NB_intro (by simp [hn, hB]; omega) (by simp [ofV, ofE, h0])
theorem ofI_5 (n : Nat) (a : Nat → Int) (hn : n ≤ 1000000) (ha : ∀ i, i < n → rng64 (a i)) : PureC Tryd.prog (fun _ => .undef) 52 [.int .i64 5, intsAV n a] (.tup [.int .i64 (ofV 5 n a), .int .i64 (ofE 5 n a)]) := by
 have hB := intsB_av ha
 have hw : ∀ m, n = m + 1 → IntKind.i64.wrap ((n : Int) - 1) = (m : Int) := fun m e => by rw [wrap_i64_id (by omega) (by omega)]; omega
 refine pure_vc (t := tblOf tblAg) (inv := fun _ _ => none) (k := 20) (d := 3) mix tblAg_ok ((ofI5_vc n a _ _).mpr (VB_intro (fun h => ?_) (fun h => ?_)))
 ·have h0 : n = 0 := by simpa using h
  subst h0; simp [ofV, ofE]
 ·have h0 : n ≠ 0 := by simpa using h
  exact NB_intro (by simp; omega) (by simp [ofV, ofE, h0])
theorem ofI_6 (n : Nat) (a : Nat → Int) (hn : n ≤ 1000000) (ha : ∀ i, i < n → rng64 (a i)) : PureC Tryd.prog (fun _ => .undef) 52 [.int .i64 6, intsAV n a] (.tup [.int .i64 (ofV 6 n a), .int .i64 (ofE 6 n a)]) := by
 have hB := intsB_av ha
 have hw : ∀ m, n = m + 1 → IntKind.i64.wrap ((n : Int) - 1) = (m : Int) := fun m e => by rw [wrap_i64_id (by omega) (by omega)]; omega
 refine pure_vc (t := tblOf tblAg) (inv := fun _ _ => none) (k := 20) (d := 3) mix tblAg_ok ((ofI6_vc n a _ _).mpr (VB_intro (fun h => ?_) (fun h => ?_)))
 ·have h0 : n = 0 := by simpa using h
  subst h0; simp [ofV, ofE]
 ·have h0 : n ≠ 0 := by simpa using h
  obtain ⟨m, e⟩ : ∃ m, n = m + 1 := ⟨n - 1, by omega⟩
  rw [hw m e]
  exact NB_intro (by simp; omega) (by subst e; simp [ofV, ofE])
theorem ofI_x (f : Int) (hx : f < 1 ∨ 6 < f) (n : Nat) (a : Nat → Int) (hf : rng64 f) (hn : n ≤ 1000000) (ha : ∀ i, i < n → rng64 (a i)) : PureC Tryd.prog (fun _ => .undef) 52 [.int .i64 f, intsAV n a] (.tup [.int .i64 (ofV f n a), .int .i64 (ofE f n a)]) := by
 have hB := intsB_av ha
 have hw : ∀ m, n = m + 1 → IntKind.i64.wrap ((n : Int) - 1) = (m : Int) := fun m e => by rw [wrap_i64_id (by omega) (by omega)]; omega
 refine pure_vc (t := tblOf tblAg) (inv := fun g b => if g = 52 ∧ b = 100007 then some invX else none) (k := 20) (d := 3) mix tblAg_ok ((ofIx_vc n a f _ _).mpr ⟨VB_intro (fun h => ?_) (fun h => ?_), fun _ h => h⟩)
 ·have e1 : f ≠ 1 := by omega
  have e2 : f ≠ 2 := by omega
  have e3 : f ≠ 3 := by omega
  have e4 : f ≠ 4 := by omega
  have e5 : f ≠ 5 := by omega
  have e6 : f ≠ 6 := by omega
  simp [ofV, ofE, e1, e2, e3, e4, e5, e6, hx]
 ·exfalso
  obtain ⟨q1, q2⟩ := hf
  simp only [Bool.or_eq_false_iff, decide_eq_false_iff_not] at h
  rw [wrap_i64] at h
  omega
theorem ofI_pure (f : Int) (n : Nat) (a : Nat → Int) (hf : rng64 f) (hn : n ≤ 1000000) (ha : ∀ i, i < n → rng64 (a i)) : PureC Tryd.prog (fun _ => .undef) 52 [.int .i64 f, intsAV n a] (.tup [.int .i64 (ofV f n a), .int .i64 (ofE f n a)]) := by
 rcases f_cases f with rfl | rfl | rfl | rfl | rfl | rfl | hx
 ·exact ofI_1 n a hn ha
 ·exact ofI_2 n a hn ha
 ·exact ofI_3 n a hn ha
 ·exact ofI_4 n a hn ha
 ·exact ofI_5 n a hn ha
 ·exact ofI_6 n a hn ha
 ·exact ofI_x f hx n a hf hn ha
theorem ofR_1 (n : Nat) (a : Nat → Int) (hn : n ≤ 1000000) (ha : ∀ i, i < n → rng64 (a i)) : PureC Tryd.prog (fun _ => .undef) 64 [.int .i64 1, intsAV n a] (.tup [.int .i64 (ofV 1 n a), .int .i64 (ofE 1 n a)]) := by
 have hB := intsB_av ha
 have hw : ∀ m, n = m + 1 → IntKind.i64.wrap ((n : Int) - 1) = (m : Int) := fun m e => by rw [wrap_i64_id (by omega) (by omega)]; omega
 exact pure_vc (t := tblOf tblAg) (inv := fun _ _ => none) (k := 20) (d := 3) mix tblAg_ok ((ofR1_vc n a _ _).mpr (by simp [ofV, ofE]))
theorem ofR_2 (n : Nat) (a : Nat → Int) (hn : n ≤ 1000000) (ha : ∀ i, i < n → rng64 (a i)) : PureC Tryd.prog (fun _ => .undef) 64 [.int .i64 2, intsAV n a] (.tup [.int .i64 (ofV 2 n a), .int .i64 (ofE 2 n a)]) := by
 have hB := intsB_av ha
 have hw : ∀ m, n = m + 1 → IntKind.i64.wrap ((n : Int) - 1) = (m : Int) := fun m e => by rw [wrap_i64_id (by omega) (by omega)]; omega
 exact pure_vc (t := tblOf tblAg) (inv := fun _ _ => none) (k := 20) (d := 3) mix tblAg_ok ((ofR2_vc n a _ _).mpr (NB_intro (by simp [hn, hB]) (by simp [ofV, ofE])))
theorem ofR_3 (n : Nat) (a : Nat → Int) (hn : n ≤ 1000000) (ha : ∀ i, i < n → rng64 (a i)) : PureC Tryd.prog (fun _ => .undef) 64 [.int .i64 3, intsAV n a] (.tup [.int .i64 (ofV 3 n a), .int .i64 (ofE 3 n a)]) := by
  have hB := intsB_av ha
  have hw : ∀ m, n = m + 1 → IntKind.i64.wrap ((n : Int) - 1) = (m : Int) := fun m e => by rw [wrap_i64_id (by omega) (by omega)]; omega
  refine pure_vc (t := tblOf tblAg) (inv := fun f b => if f = 64 ∧ b = 1 then some (invM n a 3 (leastS a)) else none) (k := 20) (d := 3) mix tblAg_ok ((ofR3_vc n a _ _).mpr (VB_intro (fun h => ?_) (fun h => ?_)))
  · have h0 : n = 0 := by simpa using h
    subst h0; simp [ofV, ofE]
  · have h0 : n ≠ 0 := by simpa using h
    refine NB_intro (by simp; omega) ⟨⟨0, by show 0 + 1 ≤ n; omega, by simp [leastS]⟩, fun i hi => VB_intro (fun h => ?_) (fun h => ?_)⟩
    · have hlt : i + 1 < n := by have : (i : Int) + 1 < n := by simpa using h
                                 omega
      have e0 : ((i : Int) + 1).toNat = i + 1 := by omega
      have hw2 : IntKind.i64.wrap ((i : Int) + 1 + 1) = (i : Int) + 1 + 1 := wrap_i64_id (by omega) (by omega)
      refine NB_intro (by simp; omega) ⟨i + 1, by show i + 1 + 1 ≤ n; omega, by show n - (i + 1) < n - i; omega, ?_⟩
      simp [hw2, leastS, e0]
    · have hi : i + 1 ≤ n := hi
      have e : i = n - 1 := by have : ¬ ((i : Int) + 1 < n) := by simpa using h
                               omega
      subst e
      simp [ofV, ofE, h0]
theorem ofR_4 (n : Nat) (a : Nat → Int) (hn : n ≤ 1000000) (ha : ∀ i, i < n → rng64 (a i)) : PureC Tryd.prog (fun _ => .undef) 64 [.int .i64 4, intsAV n a] (.tup [.int .i64 (ofV 4 n a), .int .i64 (ofE 4 n a)]) := by
  have hB := intsB_av ha
  have hw : ∀ m, n = m + 1 → IntKind.i64.wrap ((n : Int) - 1) = (m : Int) := fun m e => by rw [wrap_i64_id (by omega) (by omega)]; omega
  refine pure_vc (t := tblOf tblAg) (inv := fun f b => if f = 64 ∧ b = 1 then some (invM n a 4 (mostS a)) else none) (k := 20) (d := 3) mix tblAg_ok ((ofR4_vc n a _ _).mpr (VB_intro (fun h => ?_) (fun h => ?_)))
  · have h0 : n = 0 := by simpa using h
    subst h0; simp [ofV, ofE]
  · have h0 : n ≠ 0 := by simpa using h
    refine NB_intro (by simp; omega) ⟨⟨0, by show 0 + 1 ≤ n; omega, by simp [mostS]⟩, fun i hi => VB_intro (fun h => ?_) (fun h => ?_)⟩
    · have hlt : i + 1 < n := by have : (i : Int) + 1 < n := by simpa using h
                                 omega
      have e0 : ((i : Int) + 1).toNat = i + 1 := by omega
      have hw2 : IntKind.i64.wrap ((i : Int) + 1 + 1) = (i : Int) + 1 + 1 := wrap_i64_id (by omega) (by omega)
      refine NB_intro (by simp; omega) ⟨i + 1, by show i + 1 + 1 ≤ n; omega, by show n - (i + 1) < n - i; omega, ?_⟩
      simp [hw2, mostS, e0]
    · have hi : i + 1 ≤ n := hi
      have e : i = n - 1 := by have : ¬ ((i : Int) + 1 < n) := by simpa using h
                               omega
      subst e
      simp [ofV, ofE, h0]
theorem ofR_5 (n : Nat) (a : Nat → Int) (hn : n ≤ 1000000) (ha : ∀ i, i < n → rng64 (a i)) : PureC Tryd.prog (fun _ => .undef) 64 [.int .i64 5, intsAV n a] (.tup [.int .i64 (ofV 5 n a), .int .i64 (ofE 5 n a)]) := by
 have hB := intsB_av ha
 have hw : ∀ m, n = m + 1 → IntKind.i64.wrap ((n : Int) - 1) = (m : Int) := fun m e => by rw [wrap_i64_id (by omega) (by omega)]; omega
 refine pure_vc (t := tblOf tblAg) (inv := fun _ _ => none) (k := 20) (d := 3) mix tblAg_ok ((ofR5_vc n a _ _).mpr (VB_intro (fun h => ?_) (fun h => ?_)))
 ·have h0 : n = 0 := by simpa using h
  subst h0; simp [ofV, ofE]
 ·have h0 : n ≠ 0 := by simpa using h
  exact NB_intro (by simp; omega) (by simp [ofV, ofE, h0])
theorem ofR_6 (n : Nat) (a : Nat → Int) (hn : n ≤ 1000000) (ha : ∀ i, i < n → rng64 (a i)) : PureC Tryd.prog (fun _ => .undef) 64 [.int .i64 6, intsAV n a] (.tup [.int .i64 (ofV 6 n a), .int .i64 (ofE 6 n a)]) := by
 have hB := intsB_av ha
 have hw : ∀ m, n = m + 1 → IntKind.i64.wrap ((n : Int) - 1) = (m : Int) := fun m e => by rw [wrap_i64_id (by omega) (by omega)]; omega
 refine pure_vc (t := tblOf tblAg) (inv := fun _ _ => none) (k := 20) (d := 3) mix tblAg_ok ((ofR6_vc n a _ _).mpr (VB_intro (fun h => ?_) (fun h => ?_)))
 ·have h0 : n = 0 := by simpa using h
  subst h0; simp [ofV, ofE]
 ·have h0 : n ≠ 0 := by simpa using h
  obtain ⟨m, e⟩ : ∃ m, n = m + 1 := ⟨n - 1, by omega⟩
  rw [hw m e]
  exact NB_intro (by simp; omega) (by subst e; simp [ofV, ofE])
theorem ofR_x (f : Int) (hx : f < 1 ∨ 6 < f) (n : Nat) (a : Nat → Int) (_ : rng64 f) (hn : n ≤ 1000000) (ha : ∀ i, i < n → rng64 (a i)) : PureC Tryd.prog (fun _ => .undef) 64 [.int .i64 f, intsAV n a] (.tup [.int .i64 (ofV f n a), .int .i64 (ofE f n a)]) := by
 have hB := intsB_av ha
 have hw : ∀ m, n = m + 1 → IntKind.i64.wrap ((n : Int) - 1) = (m : Int) := fun m e => by rw [wrap_i64_id (by omega) (by omega)]; omega
 refine pure_vc (t := tblOf tblAg) (inv := fun _ _ => none) (k := 20) (d := 3) mix tblAg_ok ((ofRx_vc n a f _ _).mpr (VB_intro (fun h => ?_) (fun h => ?_)))
 ·have e1 : f ≠ 1 := by omega
  have e2 : f ≠ 2 := by omega
  have e3 : f ≠ 3 := by omega
  have e4 : f ≠ 4 := by omega
  have e5 : f ≠ 5 := by omega
  have e6 : f ≠ 6 := by omega
  simp [ofV, ofE, e1, e2, e3, e4, e5, e6, hx]
 ·exfalso
  simp only [Bool.or_eq_false_iff, decide_eq_false_iff_not] at h
  omega
theorem ofR_pure (f : Int) (n : Nat) (a : Nat → Int) (hf : rng64 f) (hn : n ≤ 1000000) (ha : ∀ i, i < n → rng64 (a i)) : PureC Tryd.prog (fun _ => .undef) 64 [.int .i64 f, intsAV n a] (.tup [.int .i64 (ofV f n a), .int .i64 (ofE f n a)]) := by
 rcases f_cases f with rfl | rfl | rfl | rfl | rfl | rfl | hx
 ·exact ofR_1 n a hn ha
 ·exact ofR_2 n a hn ha
 ·exact ofR_3 n a hn ha
 ·exact ofR_4 n a hn ha
 ·exact ofR_5 n a hn ha
 ·exact ofR_6 n a hn ha
 ·exact ofR_x f hx n a hf hn ha
def cOf : Ctr
 | [.int .i64 f, .rof n g _] => some (inR f && decide (n ≤ 1000000) && intsB n g, .tup [.int .i64 (ofV f n (fun i => toInt (g i))), .int .i64 (ofE f n (fun i => toInt (g i)))])
 | _ => none
theorem of_of {g : Nat} (h : ∀ (f : Int) (n : Nat) (a : Nat → Int), rng64 f → n ≤ 1000000 → (∀ i, i < n → rng64 (a i)) → PureC Tryd.prog (fun _ => .undef) g [.int .i64 f, intsAV n a] (.tup [.int .i64 (ofV f n a), .int .i64 (ofE f n a)])) : PureF Tryd.prog g cOf := by
 intro args nd v he hnd
 unfold cOf at he
 split at he <;> cases he
 simp only [Bool.and_eq_true, decide_eq_true_eq] at hnd
 rename_i f n q ex
 obtain ⟨h1, h2⟩ := rof_ints_sub (ex := ex) hnd.2
 refine PureC.args (args' := [.int .i64 f, intsAV n (fun i => toInt (q i))]) rfl ?_ (h _ _ _ (inR_iff.1 hnd.1.1) hnd.1.2 h2)
 intro i hi
 match i, hi with
 | 0, _ => exact (show (AV.int .i64 f).sub (.int .i64 f) from rfl)
 | 1, _ => exact h1
theorem ofI_ok : PureF Tryd.prog 52 cOf := of_of ofI_pure
theorem ofR_ok : PureF Tryd.prog 64 cOf := of_of ofR_pure
end Go.Proofs.YtamcloifhjafcaaDoor
namespace Go.Proofs.YtamcloifhjafcaaDoor
open Pw Go
set_option maxRecDepth 100000
def cAwake : Ctr
 | [] => some (true, .bool true)
 | _ => none
theorem awake_runs : (vcFun (clG Tryd.prog gN) 60 11 [] .nil 0 (isBool true)).chk = true := by kernel_rfl
theorem awake_ok : PureG Tryd.prog gN 11 cAwake := by
 intro args nd v h hnd
 unfold cAwake at h
 split at h <;> cases h
 exact pure_closedG mix awake_runs
end Go.Proofs.YtamcloifhjafcaaDoor
