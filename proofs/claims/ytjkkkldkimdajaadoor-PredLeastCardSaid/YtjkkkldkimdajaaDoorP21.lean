/- PRED 21: the law of least solutions answers true. -/
import Derived.Test.YtjkkkldkimdajaaDoorP20
namespace Go.Proofs.YtjkkkldkimdajaaDoor
open Pw Go
set_option maxRecDepth 100000
set_option linter.unusedSimpArgs false

theorem lst_yes {n : Nat} {o v : Nat → Int} (h : lstB n o v = true) : IsLeast n o v (lstV n o v) := by
  have h' : ∃ m, IsLeast n o v m := by simpa [lstB] using h
  obtain ⟨m, hm⟩ := h'
  rw [(lst_of hm).1]
  exact hm
theorem lst_no {n : Nat} {o v : Nat → Int} (h : lstB n o v = false) {x : Int} (h0 : lowI ≤ x) (h1 : x ≤ highI) : allS n o v x = false := by
  cases hx : allS n o v x with
  | false => rfl
  | true =>
    obtain ⟨m, hm⟩ := least_ex (x - lowI).toNat x h0 h1 hx (by omega)
    rw [(lst_of hm).2] at h; cases h
theorem opNum_ok (n : Nat) (f : Nat → Int) : okAll n (opNum f) = true := okAll_iff.2 fun i _ => by
  have h1 := Int.emod_nonneg (f i) (b := 6) (by omega)
  have h2 := Int.emod_lt_of_pos (f i) (b := 6) (by omega)
  have e : opNum f i = 1 + f i % 6 := rfl
  simp only [okOp, Bool.and_eq_true, decide_eq_true_eq]
  omega
noncomputable def EPL (n m : Nat) (f v : Nat → Int) (x : Int) : Env := mkE Tryd.prog (tblOf tbl7) fun g b => if g = 8 ∧ b = 0 then some (invPL n m f v x) else none
theorem predLeast_sat (n m : Nat) (f v : Nat → Int) (x : Int) (hv : ∀ i, i < m → lowI ≤ v i ∧ v i ≤ highI) (hx : lowI ≤ x ∧ x ≤ highI) :
    (vcFun (EPL n m f v x) 20 8 [.rof n (fun i => .int .i64 (f i)) false, .rof m (fun i => .int .i64 (v i)) false, .int .i64 x] .nil 0 (isBool true)).sat := by
  refine (predLeast_vc n m f v x).mpr ?_
  simp only [EqI, imp_self, true_and, and_true, implies_true, Int.toNat_natCast, List.length_cons, List.length_nil, opOf_agg, valOf_agg, condsB_agg, decide_true, Bool.and_self, NB_t, or_self, or_true, true_or, Nat.zero_add, Bool.true_and, Bool.and_true, Bool.or_true]
  refine ⟨⟨(0, 0), by simp⟩, fun p hp => ?_⟩
  obtain ⟨q, g⟩ := p
  simp only at hp ⊢
  obtain ⟨hq1, hq2, hq3⟩ := hp
  refine VB_intro (fun h => ?_) (fun h => ?_)
  · simp only [Bool.and_eq_true, decide_eq_true_eq] at h
    obtain ⟨⟨h1, h2⟩, h3⟩ := h
    refine NB_intro (decide_eq_true (by omega)) (NB_intro (decide_eq_true (by omega)) (NB_intro ?_ ?_))
    · simp only [room]
      exact decide_eq_true (by omega)
    · refine ⟨(q + 1, g + 1), ⟨by simp only; omega, by simp only; omega, by simp only; omega⟩, by simp only [invPL]; omega, ?_, rfl, rfl, fun k hk => ?_⟩
      · refine ⟨⟨rfl, rfl⟩, ?_⟩
        rw [wrap_i64_id (by omega) (by omega)]; simp
      · by_cases hkq : k < q
        · rw [if_pos hkq]
          exact ⟨⟨rfl, rfl, trivial⟩, rfl⟩
        · obtain rfl : k = q := by omega
          rw [if_neg hkq, Nat.sub_self]
          exact ⟨⟨rfl, rfl, trivial⟩, rfl⟩
  · have hk : chkS q (opNum f) = 0 := by simp [chkS, opNum_ok]; omega
    have hn : decide (q ≤ 1000000) = true := decide_eq_true (by omega)
    have hr : rngAll q v = true := rngAll_iff.2 fun i hi => hv i (by omega)
    have e1 : chkS q (fun i => opNum f i) = 0 := hk
    have e2 : ∀ y, AllS q (fun i => opNum f i) (fun i => v i) y = allS q (opNum f) v y := fun y => by simp [AllS, hk]
    have e3 : LeastS q (fun i => opNum f i) (fun i => v i) = lstV q (opNum f) v := by simp [LeastS, hk]
    have e4 : LeastE q (fun i => opNum f i) (fun i => v i) = if lstB q (opNum f) v = true then 0 else 7 := by simp [LeastE, hk]
    have e5 : rngAll q (fun i => v i) = true := hr
    simp only [hn, e1, e2, e3, e4, e5, Bool.true_and, NB_t, bne_self_eq_false, Bool.false_or, beq_self_eq_true]
    cases hb : lstB q (opNum f) v with
    | false =>
      have := lst_no hb hx.1 hx.2
      simp [this, VB]
    | true =>
      obtain ⟨h1, h2, h3, h4⟩ := lst_yes hb
      have : (!allS q (opNum f) v x || decide (x ≥ lstV q (opNum f) v)) = true := by
        cases ha : allS q (opNum f) v x with
        | false => rfl
        | true =>
          simp only [Bool.not_true, Bool.false_or, decide_eq_true_eq]
          rcases Int.lt_or_le x (lstV q (opNum f) v) with h | h
          · have := h4 x hx.1 h
            rw [ha] at this; cases this
          · exact h
      simp only [h3, this, VB, if_true, Bool.and_self, Bool.true_and]
      rfl
end Go.Proofs.YtjkkkldkimdajaaDoor
