/- PRED 44: the law of lists of atoms answers true. -/
import Derived.Test.YtjkkkldkimdajaaDoorP43
namespace Go.Proofs.YtjkkkldkimdajaaDoor
open Pw Go
set_option maxRecDepth 100000
set_option linter.unusedSimpArgs false

noncomputable def EPLs (m c : Nat) (A : Ats) (w : Nat → Int) (l ek x : Int) : Env := mkG Tryd.prog gN (tblOf tblF) (fun f b => if f = 5 ∧ b = 0 then some (invPLs m c A w l ek x) else none) 0
theorem predLists_sat (m c : Nat) (A : Ats) (w : Nat → Int) (l ek x : Int) (hO : ∀ j, j < m → u64B (A.O j) = true) (hl : u64B l = true) :
    (vcFun (EPLs m c A w l ek x) 20 5 [.rof m (fun j => .agg [.int .i64 (A.K j), .bool (A.B j), .int .u64 (A.O j), .rof (A.N j) (fun i => .agg [.int .i64 (A.P j i), .int .i64 (A.V j i)]) false, .str (A.M j)]) false, .rof c (fun k => .int .i64 (w k)) false, .agg [.int .u64 l, .int .i64 ek, .int .i64 x]] .nil 0 (isBool true)).sat := by
  refine (predLists_vc m c A w l ek x).mpr ?_
  refine VB_intro (fun _ => rfl) (fun h => ?_)
  simp only [Bool.or_eq_false_iff, decide_eq_false_iff_not] at h
  have hm : m ≤ 1000000 := by omega
  have hcn : c ≤ 1000000 := by omega
  have hwn := whN_le A l ek x m
  have hw : (if allE A m ek = 0 then whN A l ek x m else 0) ≤ 1000000 := by split <;> omega
  simp only [atsOf_at]
  simp only [EqI, imp_self, true_and, and_true, implies_true, Int.toNat_natCast, List.length_cons, List.length_nil, condsB_agg, atsB_at, intsB_at, iOf_at, eqAts_self, eqFn_self, hm, hcn, hw, hl, decide_true, Bool.and_self, NB_t, or_self, or_true, true_or, Nat.zero_add, Bool.true_and, Bool.and_true, beq_self_eq_true, isW_t, VB_t]
  refine ⟨⟨0, ⟨by omega, fun j hj => by omega⟩, by simp⟩, fun i hi => ?_⟩
  obtain ⟨hi1, hi2⟩ := hi
  refine VB_intro (fun hlt => ?_) (fun hlt => ?_)
  · have hlt' : i < m := by have := of_decide_eq_true hlt; omega
    refine NB_intro (decide_eq_true (by omega)) (VB_intro (fun _ => trivial) (fun hb => ?_))
    have hb' := (Bool.not_eq_false' _).mp hb
    simp only [Bool.and_eq_true, decide_eq_true_eq] at hb'
    refine ⟨i + 1, ⟨by omega, fun j hj => ?_⟩, by simp only [invPLs]; omega, by rw [wrap_i64_id (by omega) (by omega)]; omega⟩
    rcases Nat.lt_or_ge j i with h' | h'
    · exact hi2 j h'
    · obtain rfl : j = i := by omega
      simp only [lightJ, Bool.and_eq_true, decide_eq_true_eq]
      omega
  · have hie : i = m := by have := of_decide_eq_false hlt; omega
    subst hie
    have hL : ∀ j, j < i → A.N j ≤ 12 ∧ (A.M j).length ≤ 100 := fun j hj => by simpa [lightJ] using hi2 j hj
    have hok : okAts i A = true := okAts_iff.2 fun j hj => ⟨by have := (hL j hj).2; omega, hO j hj⟩
    have hsm : smAts i A = true := smAts_iff.2 fun j hj => by have := (hL j hj).1; omega
    simp only [hok, hsm, NB_t, Bool.and_self, and_self]
    exact NB_intro (by rw [Bool.and_eq_true]; exact ⟨decide_eq_true hw, decide_eq_true rfl⟩) (NB_intro rfl (NB_intro rfl trivial))
end Go.Proofs.YtjkkkldkimdajaaDoor
