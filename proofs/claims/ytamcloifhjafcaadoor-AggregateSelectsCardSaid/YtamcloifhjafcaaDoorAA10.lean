/- AGGREGATES 10: conditions of Satisfies, sameLongs. -/
import Derived.Test.YtamcloifhjafcaaDoorAA4
namespace Go.Proofs.YtamcloifhjafcaaDoor
open Pw Go
set_option maxRecDepth 100000
set_option linter.unusedSimpArgs false
theorem satI_vc (o v x : Int) (r : Bool) (e : Int) : (vcFun (mkE Tryd.prog (tblOf []) fun _ _ => none) 20 51 [.agg [.int .i64 o, .int .i64 v], .int .i64 x] .nil 0 (retP 3 (.tup [.bool r, .int .i64 e]))).sat = ( VB (o == (6 : Int)) ((x == v || decide (x > v)) = r ∧ (0 : Int) = e ∧ True) (VB (o == (5 : Int)) ((false || decide (x > v)) = r ∧ (0 : Int) = e ∧ True) (VB (o == (4 : Int)) ((x == v || decide (x < v)) = r ∧ (0 : Int) = e ∧ True) (VB (o == (3 : Int)) ((false || decide (x < v)) = r ∧ (0 : Int) = e ∧ True) (VB (o == (1 : Int)) ((x == v) = r ∧ (0 : Int) = e ∧ True) (VB (o == (2 : Int)) ((x != v) = r ∧ (0 : Int) = e ∧ True) (false = r ∧ (11 : Int) = e ∧ True))))))) := by
 kernel_rfl
theorem satR_vc (o v x : Int) (r : Bool) (e : Int) : (vcFun (mkE Tryd.prog (tblOf []) fun _ _ => none) 20 93 [.agg [.int .i64 o, .int .i64 v], .int .i64 x] .nil 0 (retP 3 (.tup [.bool r, .int .i64 e]))).sat = ( VB (o == (1 : Int)) ((x == v) = r ∧ (0 : Int) = e ∧ True) (VB (o == (2 : Int)) ((x != v) = r ∧ (0 : Int) = e ∧ True) (VB (o == (3 : Int)) (decide (x < v) = r ∧ (0 : Int) = e ∧ True) (VB (o == (4 : Int)) (decide (x ≤ v) = r ∧ (0 : Int) = e ∧ True) (VB (o == (5 : Int)) (decide (x > v) = r ∧ (0 : Int) = e ∧ True) (VB (o == (6 : Int)) (decide (x ≥ v) = r ∧ (0 : Int) = e ∧ True) (false = r ∧ (11 : Int) = e ∧ True))))))) := by
 kernel_rfl
end Go.Proofs.YtamcloifhjafcaaDoor
namespace Go.Proofs.YtamcloifhjafcaaDoor
open Pw Go
set_option maxRecDepth 100000
set_option linter.unusedSimpArgs false
def satV (o v x : Int) : Bool := if o = 1 then x == v else if o = 2 then x != v else if o = 3 then decide (x < v) else if o = 4 then decide (x ≤ v) else if o = 5 then decide (x > v) else if o = 6 then decide (x ≥ v) else false
def satE (o : Int) : Int := if 1 ≤ o ∧ o ≤ 6 then 0 else 11
def cSat : Ctr
 | [.agg [.int .i64 o, .int .i64 v], .int .i64 x] => some (true, .tup [.bool (satV o v x), .int .i64 (satE o)])
 | _ => none
theorem o_cases (o : Int) : o = 1 ∨ o = 2 ∨ o = 3 ∨ o = 4 ∨ o = 5 ∨ o = 6 ∨ (o ≠ 1 ∧ o ≠ 2 ∧ o ≠ 3 ∧ o ≠ 4 ∧ o ≠ 5 ∧ o ≠ 6 ∧ ¬ (1 ≤ o ∧ o ≤ 6)) := by omega
theorem le_or (x v : Int) : (x == v || decide (x < v)) = decide (x ≤ v) := by
 rw [Bool.eq_iff_iff]; simp only [Bool.or_eq_true, beq_iff_eq, decide_eq_true_eq]; omega
theorem ge_or (x v : Int) : (x == v || decide (x > v)) = decide (x ≥ v) := by
 rw [Bool.eq_iff_iff]; simp only [Bool.or_eq_true, beq_iff_eq, decide_eq_true_eq]; omega
theorem satI_ok : PureF Tryd.prog 51 cSat := by
 intro args nd w h hnd
 unfold cSat at h
 split at h <;> cases h
 rename_i o v x
 refine pure_vc (t := tblOf []) (inv := fun _ _ => none) (k := 20) (d := 3) mix (tbl_nil _) ((satI_vc o v x _ _).mpr ?_)
 rcases o_cases o with rfl | rfl | rfl | rfl | rfl | rfl | ⟨h1, h2, h3, h4, h5, h6, h7⟩
 all_goals first | (simp_all [satV, satE, le_or, ge_or, VB]; done) | skip
 have g1 : (o == 1) = false := beq_eq_false_iff_ne.2 h1
 have g2 : (o == 2) = false := beq_eq_false_iff_ne.2 h2
 have g3 : (o == 3) = false := beq_eq_false_iff_ne.2 h3
 have g4 : (o == 4) = false := beq_eq_false_iff_ne.2 h4
 have g5 : (o == 5) = false := beq_eq_false_iff_ne.2 h5
 have g6 : (o == 6) = false := beq_eq_false_iff_ne.2 h6
 simp only [g1, g2, g3, g4, g5, g6, VB_f, satV, satE, h1, h2, h3, h4, h5, h6, h7, if_false]
 simp
theorem satR_ok : PureF Tryd.prog 93 cSat := by
 intro args nd w h hnd
 unfold cSat at h
 split at h <;> cases h
 rename_i o v x
 refine pure_vc (t := tblOf []) (inv := fun _ _ => none) (k := 20) (d := 3) mix (tbl_nil _) ((satR_vc o v x _ _).mpr ?_)
 rcases o_cases o with rfl | rfl | rfl | rfl | rfl | rfl | ⟨h1, h2, h3, h4, h5, h6, h7⟩
 all_goals first | (simp_all [satV, satE, le_or, ge_or, VB]; done) | skip
 have g1 : (o == 1) = false := beq_eq_false_iff_ne.2 h1
 have g2 : (o == 2) = false := beq_eq_false_iff_ne.2 h2
 have g3 : (o == 3) = false := beq_eq_false_iff_ne.2 h3
 have g4 : (o == 4) = false := beq_eq_false_iff_ne.2 h4
 have g5 : (o == 5) = false := beq_eq_false_iff_ne.2 h5
 have g6 : (o == 6) = false := beq_eq_false_iff_ne.2 h6
 simp only [g1, g2, g3, g4, g5, g6, VB_f, satV, satE, h1, h2, h3, h4, h5, h6, h7, if_false]
 simp
end Go.Proofs.YtamcloifhjafcaaDoor
