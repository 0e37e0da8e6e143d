/- NODES 14: the checks of queries, contracts. -/
import Derived.Test.YtamcloifhjafcaaDoorAN13
namespace Go.Proofs.YtamcloifhjafcaaDoor
open Pw Go
set_option maxRecDepth 100000
set_option linter.unusedSimpArgs false
theorem chkI_pure (x : NodeG) (w : Int) (hs : List HaveG) (es : List AggG) (hx : litB 8 x = true) (hn : namesB hs es) : PureC Tryd.prog gN 65 [qA x w hs es] (.int .i64 (chkE x w hs es)) := by
  refine pure_vcG mix (tblG_cons sndI_ok (tblG_cons (cAt_ok (hc_pure hs hn.1 hn.2.2.1)) (tblG_cons (cAt_ok (ac_pure es hn.2.1 hn.2.2.2)) (tblG_nil _ _)))) ((chkI_vc x w hs es _).mpr ?_)
  rw [isNode_of hx (by decide), nodeOf_of hx (by decide)]
  have e1 : ∀ b, impB b (atB [havesA hs, .fn (.func 101) [] []] [havesA hs, .fn (.func 101) [] []]) = true := fun b => by rw [atB_self]; cases b <;> rfl
  have e2 : ∀ b, impB b (atB [aggsA es, .fn (.func 105) [] []] [aggsA es, .fn (.func 105) [] []]) = true := fun b => by rw [atB_self]; cases b <;> rfl
  refine NB_intro rfl (VB_intro (fun h => ?_) (fun h => NB_intro (e1 _) (NB_intro (e2 _) (VB_intro (fun h1 => ?_) (fun h1 => ?_)))))
  · have hs' : sndE x ≠ 0 := by simpa using h
    unfold sndE at hs' ⊢
    unfold chkE
    cases hq : sndB x with
    | true => rw [hq] at hs'; exact absurd rfl hs'
    | false => rfl
  · have hs' : sndE x = 0 := by simpa using h
    simp only [Bool.or_eq_true, decide_eq_true_eq, Bool.not_eq_true'] at h1
    unfold chkE
    rw [if_neg]
    rintro ⟨_, a, b, c⟩
    rw [b, c] at h1
    rcases h1 with (h1 | h1) | h1
    · omega
    · cases h1
    · cases h1
  · have hs' : sndE x = 0 := by simpa using h
    simp only [Bool.or_eq_false_iff, decide_eq_false_iff_not, Bool.not_eq_false'] at h1
    have hsn : sndB x = true := by
      unfold sndE at hs'
      cases hq : sndB x with
      | true => rfl
      | false => rw [hq] at hs'; cases hs'
    unfold chkE
    rw [if_pos ⟨hsn, by omega, h1.1.2, h1.2⟩]
theorem chkR_pure (x : NodeG) (w : Int) (hs : List HaveG) (es : List AggG) (hx : litB 8 x = true) (hn : namesB hs es) : PureC Tryd.prog gN 49 [qA x w hs es] (.int .i64 (chkE x w hs es)) := by
  refine pure_vcG mix (tblG_cons (cSoundR_ok 8) (tblG_cons aggR_ok (tblG_nil _ _))) ((chkR_vc x w hs es _).mpr ?_)
  obtain ⟨hn1, hn2, hn3, hn4⟩ := hn
  rw [isNode_of hx (by decide), nodeOf_of hx (by decide)]
  simp only [qA_refl, EqI, true_and, and_true, imp_self, implies_true, Int.toNat_natCast, isW_t, isW_f, Bool.not_not, Bool.or_true, VB_t]
  refine NB_intro rfl (VB_intro (fun h => ?_) (fun h => ?_))
  · simp only [Bool.or_eq_true, decide_eq_true_eq, Bool.not_eq_true'] at h
    unfold chkE
    rw [if_neg]
    rintro ⟨a, b, _⟩
    rcases h with h | h
    · have h : sndB x = false := h
      rw [a] at h; cases h
    · omega
  · simp only [Bool.or_eq_false_iff, decide_eq_false_iff_not, Bool.not_eq_false'] at h
    obtain ⟨h1, h2⟩ := h
    have h1 : sndB x = true := h1
    have hE : chkE x w hs es = if hs.all haveB = true ∧ es.all aggBG = true then 0 else 3 := by
      unfold chkE
      simp only [h1, true_and, show w ≤ 99999 by omega]
    rw [hE]
    refine ⟨⟨0, ⟨by omega, fun j hj => by omega⟩, rfl⟩, fun i ⟨hi1, hi2⟩ => VB_intro (fun h => ?_) (fun h => ?_)⟩
    · have hlt : i < hs.length := by have := of_decide_eq_true h; omega
      have hb : haveB (hs.getD i haveD) = (aggB (hs.getD i haveD).1.1 (hs.getD i haveD).1.2.1 && (decide ((hs.getD i haveD).2.1.1 ≥ 1) && decide ((hs.getD i haveD).2.1.1 ≤ 6))) := rfl
      have go : haveB (hs.getD i haveD) = true → ∃ i' : Nat, (i' ≤ hs.length ∧ ∀ j, j < i' → haveB (hs.getD j haveD) = true) ∧ (invCR1 x w hs es).μ i' < (invCR1 x w hs es).μ i ∧ IntKind.i64.wrap ((i : Int) + 1) = i' := fun hh =>
        ⟨i + 1, ⟨by omega, fun j hj => by
          rcases Nat.lt_or_ge j i with h' | h'
          · exact hi2 j h'
          · obtain rfl : j = i := by omega
            exact hh⟩, by simp only [invCR1]; omega, by rw [wrap_i64_id (by omega) (by omega)]; omega⟩
      have no : haveB (hs.getD i haveD) = false → (3 : Int) = if hs.all haveB = true ∧ es.all aggBG = true then 0 else 3 := fun hh => by rw [all_no (d := haveD) hlt hh]; rfl
      have hd : decide ((0 : Int) ≤ i ∧ (i : Int) < hs.length) = true := decide_eq_true (by omega)
      rw [hd]
      refine NB_intro rfl (NB_intro (decide_eq_true (by have := hn3 i hlt; omega)) (NB_intro (by simp [impB]) ?_))
      generalize aggB (hs.getD i haveD).1.1 (hs.getD i haveD).1.2.1 = A at hb ⊢
      generalize (decide ((hs.getD i haveD).2.1.1 ≥ 1) && decide ((hs.getD i haveD).2.1.1 ≤ 6)) = B at hb ⊢
      cases A <;> cases B <;> simp only [VB, Bool.not_true, Bool.not_false, Bool.or_true, Bool.or_false, Bool.true_or] <;> first | exact go hb | exact no hb
    · have hie : i = hs.length := by have := of_decide_eq_false h; omega
      subst hie
      have ha : hs.all haveB = true := (all_at (d := haveD)).2 hi2
      simp only [ha, true_and]
      refine ⟨⟨0, ⟨by omega, hi2, fun j hj => by omega⟩, rfl⟩, fun i ⟨hj1, _, hj2⟩ => VB_intro (fun h => ?_) (fun h => ?_)⟩
      · have hlt : i < es.length := by have := of_decide_eq_true h; omega
        refine NB_intro (decide_eq_true (by omega)) (NB_intro (decide_eq_true (by have := hn4 i hlt; omega)) (VB_intro (fun hh => ?_) (fun hh => ?_)))
        · have hh : aggBG (es.getD i aggD) = false := (Bool.not_eq_true' _).mp hh
          rw [all_no (d := aggD) hlt hh]; rfl
        · have hh : aggBG (es.getD i aggD) = true := (Bool.not_eq_false' _).mp hh
          exact ⟨i + 1, ⟨by omega, hi2, fun j hj => by
            rcases Nat.lt_or_ge j i with h' | h'
            · exact hj2 j h'
            · obtain rfl : j = i := by omega
              exact hh⟩, by simp only [invCR2]; omega, by rw [wrap_i64_id (by omega) (by omega)]; omega⟩
      · have hie : i = es.length := by have := of_decide_eq_false h; omega
        subst hie
        rw [(all_at (d := aggD)).2 hj2]
        rfl
theorem light_lit {x : NodeG} {hs : List HaveG} {es : List AggG} (h : lightQ x hs es = true) : litB 8 x = true ∧ namesB hs es := by
  simp only [lightQ, Bool.and_eq_true, decide_eq_true_eq] at h
  obtain ⟨⟨⟨⟨h1, h2⟩, h3⟩, h4⟩, h5⟩ := h
  refine ⟨weigh_lit 8 x (of_decide_eq_true h1), h2, h3, fun i hi => ?_, fun i hi => ?_⟩
  · exact of_decide_eq_true ((all_at (d := haveD)).1 h4 i hi)
  · exact of_decide_eq_true ((all_at (d := aggD)).1 h5 i hi)
end Go.Proofs.YtamcloifhjafcaaDoor
