/- NODES 41: AggregateGives: its condition holds. -/
import Derived.Test.YtamcloifhjafcaaDoorAN39
namespace Go.Proofs.YtamcloifhjafcaaDoor
open Pw Go
set_option maxRecDepth 100000
set_option linter.unusedSimpArgs false

theorem least_rng {a : Nat → Int} : ∀ m, (∀ i, i ≤ m → rng64 (a i)) → rng64 (leastS a m)
  | 0, h => h 0 (Nat.le_refl _)
  | m + 1, h => by
    have h1 := least_rng m fun i hi => h i (by omega)
    have h2 := h (m + 1) (Nat.le_refl _)
    show rng64 (minI (leastS a m) (a (m + 1)))
    unfold minI
    split <;> assumption
theorem most_rng {a : Nat → Int} : ∀ m, (∀ i, i ≤ m → rng64 (a i)) → rng64 (mostS a m)
  | 0, h => h 0 (Nat.le_refl _)
  | m + 1, h => by
    have h1 := most_rng m fun i hi => h i (by omega)
    have h2 := h (m + 1) (Nat.le_refl _)
    show rng64 (maxI (mostS a m) (a (m + 1)))
    unfold maxI
    split <;> assumption
theorem ofV_rng {f : Int} {n : Nat} {a : Nat → Int} (hn : n ≤ 1000000) (ha : ∀ i, i < n → rng64 (a i)) : rng64 (ofV f n a) := by
  have hz : rng64 0 := by simp [rng64]
  unfold ofV
  split
  · simp [rng64]; omega
  · split
    · unfold sumV
      split
      · exact okTo_sum (by assumption)
      · exact hz
    · split
      · exact hz
      · split
        · exact least_rng _ fun i hi => ha i (by omega)
        · split
          · exact most_rng _ fun i hi => ha i (by omega)
          · split
            · exact ha 0 (by omega)
            · split
              · exact ha _ (by omega)
              · exact hz
section
variable {x : NodeG} {w : Int} {hs : List HaveG} {es : List AggG} {ev : List EvG}
theorem emV_ok {ps : List PlG} (hp : ps.length ≤ 40) (h10 : es.length ≤ 10) (he : evR ev) : (emV x w hs es ev ps).length ≤ 10 ∧ ∀ i, i < (emV x w hs es ev ps).length → rng64 ((emV x w hs es ev ps).getD i 0) := by
  unfold emV
  split
  · exact ⟨Nat.zero_le _, fun i hi => by simp at hi⟩
  · refine ⟨by simpa using h10, fun i hi => ?_⟩
    have hi' : i < es.length := by simpa using hi
    rw [mapR_getD _ hi']
    have := nV_ok (x := x) (w := w) (hs := hs) (es := es) (es.getD i aggD).2.1 hp he
    exact ofV_rng (Nat.le_trans this.1 (by decide)) this.2
theorem same_need {L : List Int} (h : L.length ≤ 10) (hv : ∀ i, i < L.length → rng64 (L.getD i 0)) : (decide (L.length ≤ 1000000) && (intsB L.length fun k => AV.int .i64 (L.getD k 0)) && (intsB L.length fun k => AV.int .i64 (L.getD k 0)) &&
    (sameB L.length (fun k => AV.int .i64 (L.getD k 0)) fun k => AV.int .i64 (L.getD k 0))) = true := by
  simp only [Bool.and_eq_true, decide_eq_true_eq]
  have hb : intsB L.length (fun k => AV.int .i64 (L.getD k 0)) = true := List.all_eq_true.2 fun i hi => inR_iff.2 (hv i (by simpa using hi))
  exact ⟨⟨⟨by omega, hb⟩, hb⟩, List.all_eq_true.2 fun i _ => decide_eq_true rfl⟩
end
theorem sM_ok : PureG Tryd.prog gN 20 cSM := by
  intro args nd v he hnd
  unfold cSM at he
  split at he <;> cases he
  rename_i a c
  simp only [Bool.and_eq_true, decide_eq_true_eq] at hnd
  obtain ⟨⟨h1, h2⟩, h3⟩ := hnd
  have k1 := isM_sub h1
  have k2 := isM_sub h2
  rw [← h3] at k2
  exact PureC.args (args' := [mA (psOf a), mA (psOf a)]) rfl (fun i hi => by
    match i, hi with
    | 0, _ => exact k1.1
    | 1, _ => exact k2.1
    | i + 2, hi => exact absurd hi (by simp)) (sameM_pure _ k1.2)
def okG (x : NodeG) (hs : List HaveG) (es : List AggG) (ev : List EvG) (l : List MatG) : Bool := lightQ x hs es && decide (ev.length ≤ 60) && decide (l.length ≤ 20) && l.all fun m => decide (m.1.length ≤ 40)
theorem okG_l {x : NodeG} {hs : List HaveG} {es : List AggG} {ev : List EvG} {l : List MatG} (h : okG x hs es ev l = true) : Lt x hs es ∧ l.length ≤ 20 ∧ ∀ i, i < l.length → (l.getD i mtD).1.length ≤ 40 := by
  simp only [okG, Bool.and_eq_true, decide_eq_true_eq, List.all_eq_true] at h
  refine ⟨Lt.of h.1.1.1, h.1.2, fun i hi => ?_⟩
  rw [List.getD_eq_getElem?_getD, List.getElem?_eq_getElem hi]
  exact h.2 _ (List.getElem_mem hi)
theorem EG_ok (x : NodeG) (w : Int) (hs : List HaveG) (es : List AggG) (ev : List EvG) (l : List MatG) (he : evR ev) (hr : hsR hs) (hr2 : esR' es) :
    TblOK Tryd.prog gN (tblOf (tblGi x w hs es ev l (okG x hs es ev l) (lightQ x hs es) (selV x w hs es ev l) (selE x w hs es ev l))) := by
  have k : okG x hs es ev l = true → Lt x hs es := fun hb => (okG_l hb).1
  exact tblG_cons (cAt_ok (lightQ_pure x w hs es)) (tblG_cons awake_ok (tblG_cons same_ok.up (tblG_cons sM_ok (tblG_cons (wanI_ok k he hr) (tblG_cons (wanR_ok k he hr) (tblG_cons (emI_ok k he hr2) (tblG_cons (emR_ok k he hr2)
    (tblG_cons (cWh_ok fun hb => selI_pure (k hb) he hr l (okG_l hb).2.1 (okG_l hb).2.2) (tblG_cons (cWh_ok fun hb => selR_pure (k hb) he hr l (okG_l hb).2.1 (okG_l hb).2.2) (tblG_nil _ _))))))))))
noncomputable def EGx (x : NodeG) (w : Int) (hs : List HaveG) (es : List AggG) (ev : List EvG) (l : List MatG) : Env := EG x w hs es ev l (okG x hs es ev l) (lightQ x hs es) (selV x w hs es ev l) (selE x w hs es ev l)
theorem selV_ok {x : NodeG} {w : Int} {hs : List HaveG} {es : List AggG} {ev : List EvG} {l : List MatG} (hp : ∀ m ∈ l, m.1.length ≤ 40) : ∀ i, i < (selV x w hs es ev l).length → ((selV x w hs es ev l).getD i mtD).1.length ≤ 40 := by
  intro i hi
  rw [List.getD_eq_getElem?_getD, List.getElem?_eq_getElem hi]
  show ((selV x w hs es ev l)[i]).1.length ≤ 40
  have hm := List.getElem_mem hi
  generalize (selV x w hs es ev l)[i] = m at hm
  unfold selV at hm
  split at hm
  · cases hm
  · exact hp m (List.mem_of_mem_take (List.mem_filter.1 hm).1)
theorem selV_len {x : NodeG} {w : Int} {hs : List HaveG} {es : List AggG} {ev : List EvG} {l : List MatG} : (selV x w hs es ev l).length ≤ l.length := by
  unfold selV
  split
  · exact Nat.zero_le _
  · exact kpt_len _
theorem gives_sat (x : NodeG) (w : Int) (hs : List HaveG) (es : List AggG) (ev : List EvG) (l : List MatG) (he : evR ev) :
    (vcFun (EGx x w hs es ev l) 40 6 [qA x w hs es, evsA ev, msA l] .nil 0 (isBool true)).sat := by
  refine (gives_vc x w hs es ev l _ _ _ _).mpr ?_
  simp only [qA_refl, evsR, msR, EqI, true_and, and_true, imp_self, implies_true, Int.toNat_natCast, Nat.zero_add, or_self, psOf_mA, NB_t, Bool.true_and, Bool.and_true, decide_true]
  refine VB_intro (fun h0 => NB_intro (atB_self _) (VB_intro (fun _ => trivial) (fun h => ?_))) (fun h0 => VB_intro (fun _ => trivial) (fun h => by simp at h))
  simp only [Bool.or_eq_false_iff, Bool.not_eq_false', Bool.and_eq_true, decide_eq_true_eq, decide_eq_false_iff_not] at h
  have h20 : l.length ≤ 20 := by omega
  refine ⟨⟨0, ⟨Nat.zero_le _, fun j hj => by omega⟩, rfl⟩, fun i ⟨hi1, hi2⟩ => VB_intro (fun h1 => NB_intro (decide_eq_true ?_) (VB_intro (fun _ => trivial) (fun h2 => ?_))) (fun h1 => ?_)⟩
  · have := of_decide_eq_true h1; omega
  · have hlt : i < l.length := by have := of_decide_eq_true h1; omega
    have h2 := of_decide_eq_false h2
    refine ⟨i + 1, ⟨hlt, fun j hj => ?_⟩, by show l.length - (i + 1) < l.length - i; omega, by rw [wrap_i64_id (by omega) (by omega)]; rfl⟩
    rcases Nat.lt_or_ge j i with h3 | h3
    · exact hi2 j h3
    · obtain rfl : j = i := by omega
      omega
  · obtain rfl : i = l.length := by have := of_decide_eq_false h1; omega
    have hall : ∀ m ∈ l, m.1.length ≤ 40 := fun m hm => by
      obtain ⟨j, hj, rfl⟩ := List.mem_iff_getElem.1 hm
      have := hi2 j hj
      rwa [List.getD_eq_getElem?_getD, List.getElem?_eq_getElem hj] at this
    have hb : okG x hs es ev l = true := by
      simp only [okG, Bool.and_eq_true, decide_eq_true_eq, List.all_eq_true]
      exact ⟨⟨⟨h.2.1, by omega⟩, h20⟩, hall⟩
    have hlq := okG_l hb
    rw [hb]
    have at' : ∀ l : List AV, (true && atB l l) = true := fun l => by rw [Bool.true_and]; exact atB_self l
    simp only [Bool.true_and]
    refine ⟨⟨0, Nat.zero_le _, rfl⟩, fun i hi => VB_intro (fun h1 => ?_) (fun _ => NB_intro (atB_self _) (NB_intro (atB_self _) (VB_intro (fun h => by simp at h) (fun _ => ⟨⟨0, Nat.zero_le _, rfl⟩, fun i hi => VB_intro (fun h1 => ?_) (fun _ => trivial)⟩))))⟩
    · have hlt : i < l.length := by have := of_decide_eq_true h1; omega
      have hd : decide ((0 : Int) ≤ (i : Int) ∧ (i : Int) < l.length) = true := decide_eq_true (by omega)
      have hg : gd x w hs es ev true (qA x w hs es) (evsA ev) (mA (l.getD i mtD).1) = true := gd_mA (hi2 i hlt) rfl
      have hem := emV_ok (x := x) (w := w) (hs := hs) (es := es) (hi2 i hlt) hlq.1.nms.2.1 he
      rw [hd, hg]
      simp only [NB_t]
      refine VB_intro (fun h => by simp at h) (fun _ => NB_intro (same_need hem.1 hem.2) (VB_intro (fun h => by simp at h) (fun _ => ⟨i + 1, hlt, by show l.length - (i + 1) < l.length - i; omega, by rw [wrap_i64_id (by omega) (by omega)]; rfl⟩)))
    · have hle := selV_len (x := x) (w := w) (hs := hs) (es := es) (ev := ev) (l := l)
      have hlt : i < (selV x w hs es ev l).length := by have := of_decide_eq_true h1; omega
      have hM := isM_mA (selV_ok (x := x) (w := w) (hs := hs) (es := es) (ev := ev) hall i hlt)
      have hd : decide ((0 : Int) ≤ (i : Int) ∧ (i : Int) < (selV x w hs es ev l).length) = true := decide_eq_true (by omega)
      rw [hd, hM]
      simp only [NB_t, Bool.true_and, decide_true]
      exact ⟨i + 1, hlt, by show (selV x w hs es ev l).length - (i + 1) < (selV x w hs es ev l).length - i; omega, by rw [wrap_i64_id (by omega) (by omega)]; rfl⟩
end Go.Proofs.YtamcloifhjafcaaDoor
