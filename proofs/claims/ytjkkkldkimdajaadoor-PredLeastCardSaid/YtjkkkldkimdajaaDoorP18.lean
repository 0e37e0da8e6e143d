/- PRED 18: conditions made of numbers. -/
import Derived.Test.YtjkkkldkimdajaaDoorP14
namespace Go.Proofs.YtjkkkldkimdajaaDoor
open Pw Go
set_option maxRecDepth 100000
set_option linter.unusedSimpArgs false

theorem mod_vc (a b r : Int) : (vcFun E0 20 42 [.int .i64 a, .int .i64 b] .nil 0 (retP 3 (.int .i64 r))).sat = (
  VB (decide (b < (1 : Int))) ((0 : Int) = r) (NB (b != (0 : Int)) (VB (decide (a.tmod b < (0 : Int))) (IntKind.i64.wrap (a.tmod b + b) = r) (a.tmod b = r)))) := by
  kernel_rfl

theorem tmod_emod {a b : Int} (hb : 1 ≤ b) : (a.tmod b < 0 → a.tmod b + b = a % b) ∧ (¬ a.tmod b < 0 → a.tmod b = a % b) := by
  have h1 := Int.emod_nonneg a (b := b) (by omega)
  have h2 := Int.emod_lt_of_pos a (b := b) (by omega)
  rcases Int.lt_or_le a 0 with h | h
  · have e : a.tmod b = -((-a) % b) := by
      have : a.tmod b = -((-a).tmod b) := by rw [Int.neg_tmod]; omega
      rw [this, Int.tmod_eq_emod_of_nonneg (by omega)]
    have h3 := Int.emod_nonneg (-a) (b := b) (by omega)
    have h4 := Int.emod_lt_of_pos (-a) (b := b) (by omega)
    have h5 : a % b = (-((-a) % b)) % b := by
      have e1 := Int.emod_add_mul_ediv (-a) b
      have : a = -((-a) % b) + b * (-((-a) / b)) := by rw [Int.mul_neg]; omega
      calc a % b = (-((-a) % b) + b * (-((-a) / b))) % b := by rw [← this]
        _ = (-((-a) % b)) % b := by rw [Int.add_mul_emod_self_left]
    constructor
    · intro hlt
      rw [h5, e]
      have : (-((-a) % b) + b) % b = (-((-a) % b)) % b := by rw [Int.add_emod_right]
      rw [← this]
      rw [e] at hlt
      exact (Int.emod_eq_of_lt (by omega) (by omega)).symm
    · intro hge
      rw [h5, e]
      rw [e] at hge
      exact (Int.emod_eq_of_lt (by omega) (by omega)).symm
  · have e : a.tmod b = a % b := Int.tmod_eq_emod_of_nonneg h
    rw [e]
    exact ⟨fun hlt => by omega, fun _ => rfl⟩
def cMod : Ctr
  | [.int .i64 a, .int .i64 b] => some (decide (1 ≤ b) && decide (b ≤ 9223372036854775807), .int .i64 (a % b))
  | _ => none
theorem mod_ok : PureF Tryd.prog 42 cMod := by
  intro args nd v h hnd
  unfold cMod at h
  split at h <;> cases h
  rename_i a b
  simp only [Bool.and_eq_true, decide_eq_true_eq] at hnd
  refine pure_vc mix (tbl_nil _) ((mod_vc a b _).mpr ?_)
  obtain ⟨m1, m2⟩ := tmod_emod (a := a) hnd.1
  have h1 := Int.emod_nonneg a (b := b) (by omega)
  have h2 := Int.emod_lt_of_pos a (b := b) (by omega)
  refine VB_intro (fun h => absurd (of_decide_eq_true h) (by omega)) (fun _ => NB_intro (by simp; omega) (VB_intro (fun h => ?_) (fun h => ?_)))
  · have := m1 (by simpa using h)
    rw [this, wrap_i64_id (by omega) (by omega)]
  · exact m2 (by simpa using h)
def tbl6 : List (Nat × Ctr) := [(42, cMod)]
theorem tbl6_ok : TblOK Tryd.prog (fun _ => .undef) (tblOf tbl6) := tbl_cons mod_ok (tbl_nil _)

end Go.Proofs.YtjkkkldkimdajaaDoor
