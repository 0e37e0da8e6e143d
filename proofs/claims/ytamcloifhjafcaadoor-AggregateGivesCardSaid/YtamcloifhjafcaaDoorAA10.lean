/- AGGREGATES 10: conditions of Satisfies, sameLongs. -/
import Derived.Test.YtamcloifhjafcaaDoorAA4
namespace Go.Proofs.YtamcloifhjafcaaDoor
open Pw Go
set_option maxRecDepth 100000
set_option linter.unusedSimpArgs false

def invL (n : Nat) (a : Nat → Int) : Inv := ⟨Nat, 0, fun i => ⟨[(0, intsAV n a), (1, intsAV n a), (5, .int .i64 i)], []⟩, fun i => i ≤ n, fun i => n - i⟩
theorem satI_vc (o v x : Int) (r : Bool) (e : Int) : (vcFun (mkE Tryd.prog (tblOf []) fun _ _ => none) 20 51 [.agg [.int .i64 o, .int .i64 v], .int .i64 x] .nil 0 (retP 3 (.tup [.bool r, .int .i64 e]))).sat = (
  VB (o == (6 : Int)) ((x == v || decide (x > v)) = r ∧ (0 : Int) = e ∧ True)
    (VB (o == (5 : Int)) ((false || decide (x > v)) = r ∧ (0 : Int) = e ∧ True)
      (VB (o == (4 : Int)) ((x == v || decide (x < v)) = r ∧ (0 : Int) = e ∧ True)
        (VB (o == (3 : Int)) ((false || decide (x < v)) = r ∧ (0 : Int) = e ∧ True)
        (VB (o == (1 : Int)) ((x == v) = r ∧ (0 : Int) = e ∧ True) (VB (o == (2 : Int)) ((x != v) = r ∧ (0 : Int) = e ∧ True) (false = r ∧ (11 : Int) = e ∧ True))))))) := by
  kernel_rfl

theorem satR_vc (o v x : Int) (r : Bool) (e : Int) : (vcFun (mkE Tryd.prog (tblOf []) fun _ _ => none) 20 93 [.agg [.int .i64 o, .int .i64 v], .int .i64 x] .nil 0 (retP 3 (.tup [.bool r, .int .i64 e]))).sat = (
  VB (o == (1 : Int)) ((x == v) = r ∧ (0 : Int) = e ∧ True)
    (VB (o == (2 : Int)) ((x != v) = r ∧ (0 : Int) = e ∧ True)
      (VB (o == (3 : Int)) (decide (x < v) = r ∧ (0 : Int) = e ∧ True)
        (VB (o == (4 : Int)) (decide (x ≤ v) = r ∧ (0 : Int) = e ∧ True)
        (VB (o == (5 : Int)) (decide (x > v) = r ∧ (0 : Int) = e ∧ True) (VB (o == (6 : Int)) (decide (x ≥ v) = r ∧ (0 : Int) = e ∧ True) (false = r ∧ (11 : Int) = e ∧ True))))))) := by
  kernel_rfl

theorem sameL_vc (n : Nat) (a : Nat → Int) (r : Bool) : (vcFun (mkE Tryd.prog (tblOf []) fun f b => if f = 15 ∧ b = 0 then some (invL n a) else none) 20 15 [intsAV n a, intsAV n a] .nil 0 (retP 3 (.bool r))).sat = (
  VB ((↑n : Int) != (↑n : Int)) (false = r)
    ((∃ (i : Nat),
        i.le n ∧
        ((n = n ∧ (∀ (i : Nat), i < n → a i = a i ∧ [AV.int IntKind.i64 (a i)].length = [AV.int IntKind.i64 (a i)].length) ∧ (false = true → false = true)) ∧
        (n = n ∧ (∀ (i : Nat), i < n → a i = a i ∧ [AV.int IntKind.i64 (a i)].length = [AV.int IntKind.i64 (a i)].length) ∧ (false = true → false = true)) ∧ (0 : Int) = (↑i : Int) ∧ True) ∧
        True) ∧
      ∀ (i : Nat),
        i.le n →
        VB (decide ((↑i : Int) < (↑n : Int)))
        (NB (decide ((0 : Int) ≤ (↑i : Int) ∧ (↑i : Int) < (↑n : Int)))
        (NB (decide ((0 : Int) ≤ (↑i : Int) ∧ (↑i : Int) < (↑n : Int)))
        (VB (a (↑i : Int).toNat != a (↑i : Int).toNat) (false = r)
        (∃ (i' : Nat),
        i'.le n ∧
        (invL n a).μ i' < (invL n a).μ i ∧
        ((n = n ∧ (∀ (i : Nat), i < n → a i = a i ∧ [AV.int IntKind.i64 (a i)].length = [AV.int IntKind.i64 (a i)].length) ∧ (false = true → false = true)) ∧
        (n = n ∧ (∀ (i : Nat), i < n → a i = a i ∧ [AV.int IntKind.i64 (a i)].length = [AV.int IntKind.i64 (a i)].length) ∧ (false = true → false = true)) ∧
        IntKind.i64.wrap ((↑i : Int) + (1 : Int)) = (↑i' : Int) ∧ True) ∧
        True))))
        (true = r))) := by
  kernel_rfl

end Go.Proofs.YtamcloifhjafcaaDoor
namespace Go.Proofs.YtamcloifhjafcaaDoor
open Pw Go
set_option maxRecDepth 100000
set_option linter.unusedSimpArgs false

def satV (o v x : Int) : Bool := if o = 1 then x == v else if o = 2 then x != v else if o = 3 then decide (x < v) else if o = 4 then decide (x ≤ v) else if o = 5 then decide (x > v) else if o = 6 then decide (x ≥ v) else false
def satE (o : Int) : Int := if 1 ≤ o ∧ o ≤ 6 then 0 else 11
def cSat : Ctr
  | [.agg [.int .i64 o, .int .i64 v], .int .i64 x] => some (true, .tup [.bool (satV o v x), .int .i64 (satE o)])
  | _ => none
theorem o_cases (o : Int) : o = 1 ∨ o = 2 ∨ o = 3 ∨ o = 4 ∨ o = 5 ∨ o = 6 ∨ (o ≠ 1 ∧ o ≠ 2 ∧ o ≠ 3 ∧ o ≠ 4 ∧ o ≠ 5 ∧ o ≠ 6 ∧ ¬ (1 ≤ o ∧ o ≤ 6)) := by omega
theorem le_or (x v : Int) : (x == v || decide (x < v)) = decide (x ≤ v) := by
  rw [Bool.eq_iff_iff]; simp only [Bool.or_eq_true, beq_iff_eq, decide_eq_true_eq]; omega
theorem ge_or (x v : Int) : (x == v || decide (x > v)) = decide (x ≥ v) := by
  rw [Bool.eq_iff_iff]; simp only [Bool.or_eq_true, beq_iff_eq, decide_eq_true_eq]; omega
theorem satI_ok : PureF Tryd.prog 51 cSat := by
  intro args nd w h hnd
  unfold cSat at h
  split at h <;> cases h
  rename_i o v x
  refine pure_vc (t := tblOf []) (inv := fun _ _ => none) (k := 20) (d := 3) mix (tbl_nil _) ((satI_vc o v x _ _).mpr ?_)
  rcases o_cases o with rfl | rfl | rfl | rfl | rfl | rfl | ⟨h1, h2, h3, h4, h5, h6, h7⟩
  all_goals first | (simp_all [satV, satE, le_or, ge_or, VB]; done) | skip
  have g1 : (o == 1) = false := beq_eq_false_iff_ne.2 h1
  have g2 : (o == 2) = false := beq_eq_false_iff_ne.2 h2
  have g3 : (o == 3) = false := beq_eq_false_iff_ne.2 h3
  have g4 : (o == 4) = false := beq_eq_false_iff_ne.2 h4
  have g5 : (o == 5) = false := beq_eq_false_iff_ne.2 h5
  have g6 : (o == 6) = false := beq_eq_false_iff_ne.2 h6
  simp only [g1, g2, g3, g4, g5, g6, VB_f, satV, satE, h1, h2, h3, h4, h5, h6, h7, if_false]
  simp
theorem satR_ok : PureF Tryd.prog 93 cSat := by
  intro args nd w h hnd
  unfold cSat at h
  split at h <;> cases h
  rename_i o v x
  refine pure_vc (t := tblOf []) (inv := fun _ _ => none) (k := 20) (d := 3) mix (tbl_nil _) ((satR_vc o v x _ _).mpr ?_)
  rcases o_cases o with rfl | rfl | rfl | rfl | rfl | rfl | ⟨h1, h2, h3, h4, h5, h6, h7⟩
  all_goals first | (simp_all [satV, satE, le_or, ge_or, VB]; done) | skip
  have g1 : (o == 1) = false := beq_eq_false_iff_ne.2 h1
  have g2 : (o == 2) = false := beq_eq_false_iff_ne.2 h2
  have g3 : (o == 3) = false := beq_eq_false_iff_ne.2 h3
  have g4 : (o == 4) = false := beq_eq_false_iff_ne.2 h4
  have g5 : (o == 5) = false := beq_eq_false_iff_ne.2 h5
  have g6 : (o == 6) = false := beq_eq_false_iff_ne.2 h6
  simp only [g1, g2, g3, g4, g5, g6, VB_f, satV, satE, h1, h2, h3, h4, h5, h6, h7, if_false]
  simp
def sameB (n : Nat) (f g : Nat → AV) : Bool := (List.range n).all fun i => decide (toInt (f i) = toInt (g i))
def cSame : Ctr
  | [.rof n f _, .rof m g _] => some (decide (n ≤ 1000000) && decide (m = n) && intsB n f && intsB n g && sameB n f g, .bool true)
  | _ => none
theorem same_pure (n : Nat) (a : Nat → Int) (hn : n ≤ 1000000) : PureC Tryd.prog (fun _ => .undef) 15 [intsAV n a, intsAV n a] (.bool true) := by
  refine pure_vc (t := tblOf []) (inv := fun f b => if f = 15 ∧ b = 0 then some (invL n a) else none) (k := 20) (d := 3) mix (tbl_nil _) ((sameL_vc n a _).mpr ?_)
  refine VB_intro (fun h => by simp at h) (fun _ => ⟨⟨0, Nat.zero_le _, by simp⟩, fun i hi => ?_⟩)
  have hi : i ≤ n := hi
  refine VB_intro (fun h => ?_) (fun h => ?_)
  · have hlt : i < n := by simpa using h
    have hw2 : IntKind.i64.wrap ((i : Int) + 1) = ((i + 1 : Nat) : Int) := by rw [wrap_i64_id (by omega) (by omega)]; simp
    refine NB_intro (by simp; omega) (NB_intro (by simp; omega) (VB_intro (fun h => by simp at h) (fun _ => ⟨i + 1, by show i + 1 ≤ n; omega, by show n - (i + 1) < n - i; omega, ?_⟩)))
    simp [hw2]
  · simp
theorem same_ok : PureF Tryd.prog 15 cSame := by
  intro args nd v he hnd
  unfold cSame at he
  split at he <;> cases he
  simp only [Bool.and_eq_true, decide_eq_true_eq] at hnd
  rename_i n f ex m g ex'
  obtain ⟨⟨⟨⟨h1, rfl⟩, h3⟩, h4⟩, h5⟩ := hnd
  obtain ⟨k1, _⟩ := rof_ints_sub (ex := ex) h3
  obtain ⟨k2, _⟩ := rof_ints_sub (ex := ex') h4
  refine PureC.args (args' := [intsAV m (fun i => toInt (f i)), intsAV m (fun i => toInt (f i))]) rfl ?_ (same_pure _ _ h1)
  intro i hi
  match i, hi with
  | 0, _ => exact k1
  | 1, _ =>
    obtain ⟨q1, q2, q3⟩ := k2
    refine ⟨rfl, fun i hi => ?_, by simp⟩
    have e : toInt (f i) = toInt (g i) := of_decide_eq_true (List.all_eq_true.1 h5 i (by simpa using hi))
    have q := q2 i hi
    simp only [← e] at q
    exact q
end Go.Proofs.YtamcloifhjafcaaDoor
