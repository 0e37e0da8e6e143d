/- NODES 25: which matches are right: contracts of both codes. -/
import Derived.Test.YtamcloifhjafcaaDoorAN24
namespace Go.Proofs.YtamcloifhjafcaaDoor
open Pw Go
set_option maxRecDepth 100000
set_option linter.unusedSimpArgs false
theorem rng_no {n : Nat} {p : Nat → Bool} {i : Nat} (hi : i < n) (h : p i = false) : (List.range n).all p = false := by
 rw [Bool.eq_false_iff]
 intro hc
 have := List.all_eq_true.1 hc i (by simpa using hi)
 rw [h] at this
 cases this
theorem rng_yes {n : Nat} {p : Nat → Bool} (h : ∀ i, i < n → p i = true) : (List.range n).all p = true := List.all_eq_true.2 fun i hi => h i (by simpa using hi)
theorem mErr_c {c : Int} {nE : Nat} {N : List Bool} {ps : List PlG} (h : c ≠ 0) : mErr c nE N ps = c := if_pos h
theorem mErr_2 {c : Int} {nE : Nat} {N : List Bool} {ps : List PlG} {i : Nat} (h : c = 0) (hi : i < ps.length) (ho : outB nE N.length (ps.getD i plD) = true) : mErr c nE N ps = 2 := by
 have : allOut nE N.length ps = false := rng_no hi (by rw [ho]; rfl)
 simp [mErr, h, this]
theorem mErr_3 {c : Int} {nE : Nat} {N : List Bool} {ps : List PlG} {i : Nat} (h : c = 0) (ha : ∀ j, j < ps.length → outB nE N.length (ps.getD j plD) = false) (hi : i < ps.length) (ho : badB N ps i = true) : mErr c nE N ps = 3 := by
 have h1 : allOut nE N.length ps = true := rng_yes fun j hj => by rw [ha j hj]; rfl
 have : allBad N ps = false := rng_no hi (by rw [ho]; rfl)
 simp [mErr, h, h1, this]
theorem mErr_0 {c : Int} {nE : Nat} {N : List Bool} {ps : List PlG} (h : c = 0) (ha : ∀ j, j < ps.length → outB nE N.length (ps.getD j plD) = false) (hb : ∀ j, j < ps.length → badB N ps j = false) : mErr c nE N ps = if ps.length = 0 then 3 else 0 := by
 have h1 : allOut nE N.length ps = true := rng_yes fun j hj => by rw [ha j hj]; rfl
 have h2 : allBad N ps = true := rng_yes fun j hj => by rw [hb j hj]; rfl
 simp [mErr, h, h1, h2]
theorem out_in {nE nN : Nat} {p : PlG} (h : outB nE nN p = false) : 0 ≤ p.1 ∧ p.1 < nE ∧ 0 ≤ p.2.1 ∧ p.2.1 < nN := by
 simp only [outB, Bool.or_eq_false_iff, decide_eq_false_iff_not] at h
 omega
theorem given_sat (x : NodeG) (w : Int) (hs : List HaveG) (es : List AggG) (ev : List EvG) (ps : List PlG) (c e1 e2 : Int) (A : List AtomG) (N : List Bool) (hAN : A.length = N.length) (hp : ps.length ≤ 9223372036854775807) :
    (vcFun (mkG Tryd.prog gN (tblOf (tblGv x w hs es c e1 e2 A N)) (fun f b => if f = 47 ∧ b = 0 then some (invG1 ev ps A N) else if f = 47 ∧ b = 2 then some (invG2 ev ps A N) else none) 0) 20 47 [qA x w hs es, evsA ev, mA ps] .nil 0
      (retP 4 (.tup [.rof (if mErr c ev.length N ps = 0 then A.length else 0) (fun k => atomA (A.getD k atomD)) false, .rof (if mErr c ev.length N ps = 0 then N.length else 0) (fun k => .bool (N.getD k false)) false, .int .i64 (mErr c ev.length N ps)]))).sat := by
  refine (given_vc x w hs es ev ps c e1 e2 A N _ _ _).mpr ?_
  simp only [EqI, true_and, and_true, imp_self, implies_true, Int.toNat_natCast, Nat.zero_add, or_self]
  refine NB_intro (atB_self _) ?_
  simp only [atB_self, NB_t]
  generalize hE : mErr c ev.length N ps = E
  refine VB_intro (fun h => ?_) (fun h => ⟨⟨0, ⟨by omega, fun j hj => by omega⟩, rfl⟩, fun i ⟨hi1, hi2⟩ => VB_intro (fun h1 => ?_) (fun h1 => ?_)⟩)
  · have hc : c ≠ 0 := by simpa using h
    rw [mErr_c hc] at hE
    subst hE
    rw [if_neg hc, if_neg hc]
    exact ⟨rfl, rfl, rfl⟩
  · have hc : c = 0 := by simpa using h
    have hlt : i < ps.length := by have := of_decide_eq_true h1; omega
    refine NB_intro (decide_eq_true (by omega)) (VB_intro (fun h2 => ?_) (fun h2 => ?_))
    · have h2 : outB ev.length A.length (ps.getD i plD) = true := h2
      rw [hAN] at h2
      rw [mErr_2 hc hlt h2] at hE
      subst hE
      exact ⟨rfl, rfl, rfl⟩
    · have h2 : outB ev.length A.length (ps.getD i plD) = false := h2
      refine ⟨i + 1, ⟨by omega, fun j hj => ?_⟩, by simp only [invG1]; omega, by rw [wrap_i64_id (by omega) (by omega)]; omega⟩
      rcases Nat.lt_or_ge j i with h' | h'
      · exact hi2 j h'
      · obtain rfl : j = i := by omega
        exact h2
  · have hc : c = 0 := by simpa using h
    have hie : i = ps.length := by have := of_decide_eq_false h1; omega
    subst hie
    have hall := hi2
    rw [hAN] at hall
    refine ⟨⟨0, ⟨by omega, hi2, fun j hj => by omega⟩, rfl⟩, fun i ⟨hj1, _, hj2⟩ => VB_intro (fun h3 => ?_) (fun h3 => ?_)⟩
    · have hlt : i < ps.length := by have := of_decide_eq_true h3; omega
      obtain ⟨o1, o2, o3, o4⟩ := out_in (hall i hlt)
      have hw : 0 < i → IntKind.i64.wrap ((i : Int) - 1) = ((i - 1 : Nat) : Int) := fun h0 => by rw [wrap_i64_id (by omega) (by omega)]; omega
      refine NB_intro (decide_eq_true (by omega)) (NB_intro (decide_eq_true ⟨o3, o4⟩) (NB_intro ?_ ?_))
      · by_cases h0 : 0 < i
        · rw [hw h0, decide_eq_true (show (0 : Int) ≤ ((i - 1 : Nat) : Int) ∧ ((i - 1 : Nat) : Int) < ps.length by omega)]
          simp [impB]
        · rw [decide_eq_false (show ¬ (i : Int) > 0 by omega)]
          exact impB_t.2 fun h => by simp [isW] at h
      · have hbd : (N.getD (ps.getD i plD).2.1.toNat false || decide ((i : Int) > 0) && decide ((ps.getD i plD).1 ≤ (ps.getD (IntKind.i64.wrap ((i : Int) - 1)).toNat plD).1)) = badB N ps i := by
          unfold badB
          by_cases h0 : 0 < i
          · rw [hw h0, decide_eq_true h0, decide_eq_true (show (i : Int) > 0 by omega), Int.toNat_natCast]
          · rw [decide_eq_false h0, decide_eq_false (show ¬ (i : Int) > 0 by omega)]
            simp
        rw [hbd]
        refine VB_intro (fun h4 => ?_) (fun h4 => ?_)
        · rw [mErr_3 hc hall hlt h4] at hE
          subst hE
          exact ⟨rfl, rfl, rfl⟩
        · refine ⟨i + 1, ⟨by omega, hi2, fun j hj => ?_⟩, by simp only [invG2]; omega, by rw [wrap_i64_id (by omega) (by omega)]; omega⟩
          rcases Nat.lt_or_ge j i with h' | h'
          · exact hj2 j h'
          · obtain rfl : j = i := by omega
            exact h4
    · have hie : i = ps.length := by have := of_decide_eq_false h3; omega
      subst hie
      have h0 := mErr_0 hc hall hj2
      rw [hE] at h0
      refine VB_intro (fun h5 => ?_) (fun h5 => ?_)
      · have h5 : ps.length = 0 := by have : (ps.length : Int) = 0 := beq_iff_eq.1 h5
                                      omega
        rw [if_pos h5] at h0
        subst h0
        exact ⟨rfl, rfl, rfl⟩
      · have h5 : ps.length ≠ 0 := by have : (ps.length : Int) ≠ 0 := beq_eq_false_iff_ne.1 h5
                                      omega
        rw [if_neg h5] at h0
        subst h0
        exact ⟨⟨rfl, fun i _ => atomA_refl _⟩, rfl, rfl⟩
theorem refchk_sat (x : NodeG) (w : Int) (hs : List HaveG) (es : List AggG) (ev : List EvG) (ps : List PlG) (c e1 e2 : Int) (A : List AtomG) (N : List Bool) (hp : ps.length ≤ 60) :
    (vcFun (mkG Tryd.prog gN (tblOf (tblGv x w hs es c e1 e2 A N)) (fun f b => if f = 17 ∧ b = 0 then some (invK1 ev ps N) else if f = 17 ∧ b = 2 then some (invK2 ev ps N) else none) 0) 20 17 [qA x w hs es, evsA ev, mA ps] .nil 0 (retP 4 (.int .i64 (mErr c ev.length N ps)))).sat := by
  refine (refchk_vc x w hs es ev ps c e1 e2 A N _).mpr ?_
  simp only [EqI, true_and, and_true, imp_self, implies_true, Int.toNat_natCast, Nat.zero_add, or_self]
  refine NB_intro (atB_self _) ?_
  simp only [atB_self, NB_t]
  generalize hE : mErr c ev.length N ps = E
  refine VB_intro (fun h => ?_) (fun h => ⟨⟨0, ⟨by omega, fun j hj => by omega⟩, rfl⟩, fun i ⟨hi1, hi2⟩ => VB_intro (fun h1 => ?_) (fun h1 => ?_)⟩)
  · have hc : c ≠ 0 := by simpa using h
    rw [mErr_c hc] at hE
    exact hE
  · have hc : c = 0 := by simpa using h
    have hlt : i < ps.length := by have := of_decide_eq_true h1; omega
    refine NB_intro (decide_eq_true (by omega)) (VB_intro (fun h2 => ?_) (fun h2 => ?_))
    · have h2 : outB ev.length N.length (ps.getD i plD) = true := h2
      rw [mErr_2 hc hlt h2] at hE
      exact hE
    · have h2 : outB ev.length N.length (ps.getD i plD) = false := h2
      refine ⟨i + 1, ⟨by omega, fun j hj => ?_⟩, by simp only [invK1]; omega, by rw [wrap_i64_id (by omega) (by omega)]; omega⟩
      rcases Nat.lt_or_ge j i with h' | h'
      · exact hi2 j h'
      · obtain rfl : j = i := by omega
        exact h2
  · have hc : c = 0 := by simpa using h
    have hie : i = ps.length := by have := of_decide_eq_false h1; omega
    subst hie
    have hall := hi2
    refine ⟨⟨0, ⟨by omega, hi2, fun j hj => by omega⟩, rfl⟩, fun i ⟨hj1, _, hj2⟩ => VB_intro (fun h3 => ?_) (fun h3 => ?_)⟩
    · have hlt : i < ps.length := by have := of_decide_eq_true h3; omega
      obtain ⟨o1, o2, o3, o4⟩ := out_in (hall i hlt)
      have hw : 0 < i → IntKind.i64.wrap ((i : Int) - 1) = ((i - 1 : Nat) : Int) := fun h0 => by rw [wrap_i64_id (by omega) (by omega)]; omega
      have hd : decide ((0 : Int) ≤ (i : Int) ∧ (i : Int) < ps.length) = true := decide_eq_true (by omega)
      rw [hd]
      refine NB_intro rfl (NB_intro (decide_eq_true ⟨o3, o4⟩) (NB_intro (impB_t.2 fun _ => rfl) (NB_intro ?_ ?_)))
      · by_cases h0 : 0 < i
        · rw [hw h0, decide_eq_true (show (0 : Int) ≤ ((i - 1 : Nat) : Int) ∧ ((i - 1 : Nat) : Int) < ps.length by omega)]
          exact impB_t.2 fun _ => rfl
        · rw [decide_eq_false (show ¬ (i : Int) > 0 by omega)]
          exact impB_t.2 fun h => by simp [isW] at h
      · have hbd : (N.getD (ps.getD i plD).2.1.toNat false || decide ((i : Int) > 0) && decide ((ps.getD i plD).1 ≤ (ps.getD (IntKind.i64.wrap ((i : Int) - 1)).toNat plD).1)) = badB N ps i := by
          unfold badB
          by_cases h0 : 0 < i
          · rw [hw h0, decide_eq_true h0, decide_eq_true (show (i : Int) > 0 by omega), Int.toNat_natCast]
          · rw [decide_eq_false h0, decide_eq_false (show ¬ (i : Int) > 0 by omega)]
            simp
        rw [hbd]
        refine VB_intro (fun h4 => ?_) (fun h4 => ?_)
        · rw [mErr_3 hc hall hlt h4] at hE
          exact hE
        · refine ⟨i + 1, ⟨by omega, hi2, fun j hj => ?_⟩, by simp only [invK2]; omega, by rw [wrap_i64_id (by omega) (by omega)]; omega⟩
          rcases Nat.lt_or_ge j i with h' | h'
          · exact hj2 j h'
          · obtain rfl : j = i := by omega
            exact h4
    · have hie : i = ps.length := by have := of_decide_eq_false h3; omega
      subst hie
      have h0 := mErr_0 hc hall hj2
      rw [hE] at h0
      refine VB_intro (fun h5 => ?_) (fun h5 => ?_)
      · have h5 : ps.length = 0 := by have : (ps.length : Int) = 0 := beq_iff_eq.1 h5
                                      omega
        rw [if_pos h5] at h0
        exact h0.symm
      · have h5 : ps.length ≠ 0 := by have : (ps.length : Int) ≠ 0 := beq_eq_false_iff_ne.1 h5
                                      omega
        rw [if_neg h5] at h0
        exact h0.symm
end Go.Proofs.YtamcloifhjafcaaDoor
