/- WIRE 3: numbers and digits, contracts. -/
import Derived.Test.YtfgedkmopgkonaaW2
namespace Go.Proofs.Ytfgedkmopgkonaa
open Pw Go
set_option maxRecDepth 100000
set_option linter.unusedSimpArgs false

theorem mix : Try.prog.follows .mixedOrders = true := by kernel_rfl

def cNumU : Ctr
  | [.str s] => some (decide (s.length ≤ 9223372036854775807), .int .u64 (numS s))
  | _ => none
def cNumI : Ctr
  | [.str s] => some (decide (s.length ≤ 9223372036854775807), .int .i64 (IntKind.i64.wrap (numS s)))
  | _ => none

theorem numU_ok : PureF Try.prog 60 cNumU := by
  intro args nd v h hnd
  unfold cNumU at h
  split at h <;> cases h
  rename_i s
  refine pure_vc mix (tbl_nil _) ((numU_vc s).mpr ?_)
  have hl : s.length ≤ 9223372036854775807 := of_decide_eq_true hnd
  simp only [NB_iff, VB_iff, decide_eq_true_eq, decide_eq_false_iff_not, Nat.le_eq]
  refine ⟨hl, ⟨0, by omega, by simp [numS, wrap_u64]⟩, fun i hi => ⟨fun h1 => ⟨by omega, i + 1, by omega, ?_, ?_⟩, fun h1 => ?_⟩⟩
  · show s.length - (i + 1) < s.length - i
    omega
  · have h2 : i < s.length := by omega
    have h3 := numS_range (s.take i)
    have h4 : IntKind.u64.wrap (numS (s.take i)) = numS (s.take i) := by rw [wrap_u64]; omega
    have h5 := numS_range (s.take (i + 1))
    have h6 : IntKind.u64.wrap (numS (s.take (i + 1))) = numS (s.take (i + 1)) := by rw [wrap_u64]; omega
    refine ⟨⟨?_, by simp, trivial, ?_, trivial⟩, trivial⟩
    · rw [h4, h6, Int.toNat_natCast, num_step_u64, numS_take _ _ h2]
    · rw [wrap_i64]; omega
  · have : i = s.length := by omega
    subst this
    have h3 := numS_range s
    rw [List.take_length, wrap_u64]; omega

theorem numI_ok : PureF Try.prog 64 cNumI := by
  intro args nd v h hnd
  unfold cNumI at h
  split at h <;> cases h
  rename_i s
  refine pure_vc mix (tbl_nil _) ((numI_vc s).mpr ?_)
  have hl : s.length ≤ 9223372036854775807 := of_decide_eq_true hnd
  simp only [NB_iff, VB_iff, decide_eq_true_eq, decide_eq_false_iff_not, Nat.le_eq]
  refine ⟨hl, ⟨0, by omega, by simp [numS, wrap_i64]⟩, fun i hi => ⟨fun h1 => ⟨by omega, i + 1, by omega, ?_, ?_⟩, fun h1 => ?_⟩⟩
  · show s.length - (i + 1) < s.length - i
    omega
  · have h2 : i < s.length := by omega
    refine ⟨⟨?_, by simp, trivial, ?_, trivial⟩, trivial⟩
    · rw [Int.toNat_natCast, num_step_i64, numS_take _ _ h2, wrap_i64, wrap_i64, wrap_i64, wrap_u64]
      omega
    · rw [wrap_i64]; omega
  · have : i = s.length := by omega
    subst this
    rw [List.take_length]

theorem numR_ok : PureF Try.prog 52 cNumU := by
  intro args nd v h hnd
  unfold cNumU at h
  split at h <;> cases h
  rename_i s
  refine pure_vc mix (tbl_nil _) ((numR_vc s).mpr ?_)
  have hl : s.length ≤ 9223372036854775807 := of_decide_eq_true hnd
  simp only [NB_iff, VB_iff, decide_eq_true_eq, decide_eq_false_iff_not, Nat.le_eq]
  refine ⟨⟨0, by omega, by simp [numS]⟩, fun i hi => ⟨fun h1 => ⟨by omega, i + 1, by omega, ?_, ?_⟩, fun h1 => ?_⟩⟩
  · show s.length - (i + 1) < s.length - i
    omega
  · have h2 : i < s.length := by omega
    refine ⟨⟨trivial, ?_, ?_, trivial⟩, trivial⟩
    · rw [Int.toNat_natCast, numS_take _ _ h2, (u8_wrap _).1, wrap_u64, wrap_u64, wrap_u64]
      omega
    · rw [wrap_i64]; omega
  · have : i = s.length := by omega
    subst this
    rw [List.take_length]
end Go.Proofs.Ytfgedkmopgkonaa
