/- AGGREGATES 5: Mod; the conditions of the laws. -/
import Derived.Test.YtahgdngngpkeiaaDoorA0
namespace Go.Proofs.YtahgdngngpkeiaaDoor
open Pw Go
set_option maxRecDepth 100000
set_option linter.unusedSimpArgs false

theorem mod_vc (a n r : Int) : (vcFun (mkE Tryd.prog (tblOf []) fun _ _ => none) 20 11 [.int .i64 a, .int .i64 n] .nil 0 (retP 3 (.int .i64 r))).sat = (
  VB (decide (n < (1 : Int))) ((0 : Int) = r) (NB (n != (0 : Int)) (VB (decide (a.tmod n < (0 : Int))) (IntKind.i64.wrap (a.tmod n + n) = r) (a.tmod n = r)))) := by
  kernel_rfl

def modI (a n : Int) : Int := if n < 1 then 0 else a % n
def cMod : Ctr
  | [.int .i64 a, .int .i64 n] => some (decide (-9223372036854775808 ≤ a ∧ a ≤ 9223372036854775807 ∧ n ≤ 9223372036854775807), .int .i64 (modI a n))
  | _ => none
theorem tmod_emod (a : Int) {n : Int} (hn : 1 ≤ n) : (a.tmod n < 0 → a.tmod n + n = a % n) ∧ (¬ a.tmod n < 0 → a.tmod n = a % n) ∧ a.tmod n < n ∧ -n < a.tmod n := by
  have h1 := Int.tmod_lt_of_pos a (by omega : 0 < n)
  have h2 : -n < a.tmod n := by
    by_cases h : 0 ≤ a
    · have := Int.tmod_nonneg n h
      omega
    · have := Int.tmod_lt_of_pos (-a) (by omega : 0 < n)
      rw [Int.neg_tmod] at this
      omega
  have h3 : a % n = (a.tmod n) % n := by rw [Int.tmod_def, Int.sub_mul_emod_self_left]
  refine ⟨fun h => ?_, fun h => ?_, h1, h2⟩
  · have h4 : (a.tmod n) % n = (a.tmod n + n) % n := by rw [Int.add_emod_right]
    rw [h3, h4, Int.emod_eq_of_lt (by omega) (by omega)]
  · rw [h3, Int.emod_eq_of_lt (by omega) (by omega)]
theorem mod_ok : PureF Tryd.prog 11 cMod := by
  intro args nd v h hnd
  unfold cMod at h
  split at h <;> cases h
  rename_i a n
  obtain ⟨h0, h1, h2⟩ := of_decide_eq_true hnd
  refine pure_vc (t := tblOf []) (inv := fun _ _ => none) (k := 20) (d := 3) mix (tbl_nil _) ((mod_vc a n _).mpr ?_)
  unfold modI
  by_cases hn : n < 1
  · rw [if_pos hn]
    exact VB_iff.2 ⟨fun _ => rfl, fun h => absurd hn (of_decide_eq_false h)⟩
  · rw [if_neg hn]
    obtain ⟨t1, t2, t3, t4⟩ := tmod_emod a (by omega : 1 ≤ n)
    refine VB_iff.2 ⟨fun h => absurd (of_decide_eq_true h) hn, fun _ => NB_iff.2 ⟨by simp; omega, VB_iff.2 ⟨fun h => ?_, fun h => t2 (of_decide_eq_false h)⟩⟩⟩
    have := t1 (of_decide_eq_true h)
    rw [wrap_i64]
    omega

def tblB : List (Nat × Ctr) := [(10, cAwake), (12, cOf), (13, cOf), (11, cMod)]
theorem tblB_ok : TblOK Tryd.prog gN (tblOf tblB) := tblG_cons awake_ok (tblG_cons ofI_ok.up (tblG_cons ofR_ok.up (tblG_cons mod_ok.up (tblG_nil _ _))))
end Go.Proofs.YtahgdngngpkeiaaDoor
