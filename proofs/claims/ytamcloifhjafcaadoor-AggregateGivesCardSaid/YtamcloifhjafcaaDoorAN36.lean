/- NODES 36: emitted values: contracts of both codes. -/
import Derived.Test.YtamcloifhjafcaaDoorAN35
namespace Go.Proofs.YtamcloifhjafcaaDoor
open Pw Go
set_option maxRecDepth 100000
set_option linter.unusedSimpArgs false

theorem evsR (ev : List EvG) : (evsA ev).sub (evsA ev) = True := eq_true evsA_refl
theorem esR (es : List AggG) : (esA es).sub (esA es) = True := eq_true ⟨rfl, fun _ _ => ⟨⟨by simp [AV.sub], by simp [AV.sub], trivial⟩, rfl⟩, fun h => h⟩
theorem isR (L : List Int) : (isA L).sub (isA L) = True := eq_true ⟨rfl, fun _ _ => ⟨by simp [AV.sub], rfl⟩, fun h => h⟩
theorem mR (ps : List PlG) : (mA ps).sub (mA ps) = True := eq_true ⟨⟨rfl, fun _ _ => ⟨plA_refl _, rfl⟩, fun h => h⟩, trivial⟩
theorem app_fn {F : Nat → AV} {a : AV} {j q : Nat} (hq : q < j + 1) (ha : a = F j) (hF : ∀ k, (F k).sub (F k)) :
    (if q < j then F q else ((Sq.lst [a]).sub 0 1).get (q - j)).sub (F q) ∧ (if q < j then F q else ((Sq.lst [a]).sub 0 1).get (q - j)).cells.length = (F q).cells.length := by
  by_cases h : q < j
  · rw [if_pos h]
    exact ⟨hF _, rfl⟩
  · obtain rfl : q = j := by omega
    rw [if_neg h, Nat.sub_self]
    show a.sub (F q) ∧ _ = _
    subst ha
    exact ⟨hF _, rfl⟩
section
variable {x : NodeG} {w : Int} {hs : List HaveG} {es : List AggG} {ev : List EvG} {ps : List PlG}
theorem emE_m (h : mE x w hs es ev ps ≠ 0) : emE x w hs es ev ps = mE x w hs es ev ps := if_pos h
theorem emE_f (h : mE x w hs es ev ps = 0) : emE x w hs es ev ps = firE (emEi x w hs es ev ps) es.length := if_neg (by simp [h])
theorem emS_n (h : emE x w hs es ev ps ≠ 0) : emS x w hs es ev ps = 0 := if_pos h
theorem emS_f (h : emE x w hs es ev ps = 0) : emS x w hs es ev ps = firE (emSi x w hs es ev ps) es.length := if_neg (by simp [h])
theorem emV_n (h : emE x w hs es ev ps ≠ 0 ∨ emS x w hs es ev ps ≠ 0) : (emV x w hs es ev ps).length = 0 := by rw [emV, if_pos h]; rfl
theorem emV_f (h : emE x w hs es ev ps = 0) (h2 : emS x w hs es ev ps = 0) : emV x w hs es ev ps = (List.range es.length).map (emVi x w hs es ev ps) := if_neg (by simp [h, h2])
theorem mapR_getD (f : Nat → Int) {n i : Nat} (h : i < n) : ((List.range n).map f).getD i 0 = f i := by
  rw [List.getD_eq_getElem?_getD, List.getElem?_map, List.getElem?_range h]
  rfl
end
theorem emI_sat (x : NodeG) (w : Int) (hs : List HaveG) (es : List AggG) (ev : List EvG) (ps : List PlG) (hp : ps.length ≤ 40) (h10 : es.length ≤ 10) (hn : ∀ i, i < es.length → ofNeed (es.getD i aggD).1 (emL x w hs es ev ps i)) :
    (vcFun (EEm x w hs es ev ps) 20 34 [qA x w hs es, evsA ev, mA ps] .nil 0 (retP 4 (.tup [isA (emV x w hs es ev ps), .int .i64 (emS x w hs es ev ps), .int .i64 (emE x w hs es ev ps)]))).sat := by
  refine (emI_vc x w hs es ev ps _ _ _).mpr ?_
  have e : psOf (AV.agg [AV.rof ps.length (fun k => plA (ps.getD k plD)) false]) = ps := psOf_mA ps
  simp only [qA_refl, evsR, esR, isR, mR, EqI, true_and, and_true, imp_self, implies_true, Int.toNat_natCast, Nat.zero_add, or_self, psOf_mA, e, decide_true, NB_t, Bool.true_and, Bool.and_true]
  refine NB_intro (gd_mA hp rfl) (VB_intro (fun h => ?_) (fun h => ⟨⟨(0, 0), ⟨Nat.zero_le _, rfl⟩, ?_⟩, fun p ⟨hi1, hi2⟩ => VB_intro (fun h1 => ?_) (fun h1 => ?_)⟩))
  · have h : mE x w hs es ev ps ≠ 0 := bne_iff_ne.1 h
    have h2 := emE_m h
    have h3 : emE x w hs es ev ps ≠ 0 := by rw [h2]; exact h
    exact ⟨emV_n (Or.inl h3), (emS_n h3).symm, h2.symm⟩
  · exact ⟨⟨⟨rfl, rfl⟩, rfl⟩, rfl⟩
  · have h : mE x w hs es ev ps = 0 := bne_eq_false_iff_eq.1 h
    obtain ⟨i, g⟩ := p
    have hlt : i < es.length := by have := of_decide_eq_true h1; simp only at this; omega
    refine NB_intro (decide_eq_true (by simp only; omega)) (NB_intro (gd_mA hp rfl) (VB_intro (fun h2 => ?_) (fun h2 => NB_intro (by simp [room]; omega) ?_)))
    · have h2 : emEi x w hs es ev ps i ≠ 0 := bne_iff_ne.1 h2
      have h3 := firE_stop hi2 hlt h2
      rw [← emE_f h] at h3
      have h4 : emE x w hs es ev ps ≠ 0 := by rw [h3]; exact h2
      exact ⟨emV_n (Or.inl h4), (emS_n h4).symm, h3.symm⟩
    · have h2 : emEi x w hs es ev ps i = 0 := bne_eq_false_iff_eq.1 h2
      exact ⟨(i + 1, g + 1), ⟨hlt, by rw [firE_succ hi2]; exact h2⟩, by show es.length - (i + 1) < es.length - i; omega, ⟨⟨rfl, rfl⟩, by rw [wrap_i64_id (by simp only; omega) (by simp only; omega)]; rfl⟩, rfl, rfl, fun q hq => app_fn (F := fun k => isA (emL x w hs es ev ps k)) hq rfl (fun _ => (isR _) ▸ trivial)⟩
  · have h : mE x w hs es ev ps = 0 := bne_eq_false_iff_eq.1 h
    obtain ⟨i, g⟩ := p
    obtain rfl : i = es.length := by have := of_decide_eq_false h1; simp only at this hi1; omega
    have he : emE x w hs es ev ps = 0 := (emE_f h).trans hi2
    refine ⟨⟨(0, g, 0), ⟨Nat.zero_le _, rfl⟩, ⟨⟨rfl, rfl⟩, ⟨rfl, rfl⟩, rfl⟩, ⟨rfl, rfl⟩, rfl⟩, fun p ⟨hj1, hj2⟩ => VB_intro (fun h5 => ?_) (fun h5 => ?_)⟩
    · obtain ⟨i, g, g'⟩ := p
      have hlt : i < es.length := by have := of_decide_eq_true h5; simp only at this; omega
      refine NB_intro (decide_eq_true (by simp only; omega)) (NB_intro (decide_eq_true (by simp only; omega)) (NB_intro (of_need (hn i hlt)) (VB_intro (fun h2 => ?_) (fun h2 => NB_intro (by simp [room]; omega) ?_))))
      · have h2 : emSi x w hs es ev ps i ≠ 0 := bne_iff_ne.1 h2
        have h3 := firE_stop hj2 hlt h2
        rw [← emS_f he] at h3
        exact ⟨emV_n (Or.inr (by rw [h3]; exact h2)), h3.symm, he.symm⟩
      · have h2 : emSi x w hs es ev ps i = 0 := bne_eq_false_iff_eq.1 h2
        exact ⟨(i + 1, g, g' + 1), ⟨hlt, by rw [firE_succ hj2]; exact h2⟩, by show es.length - (i + 1) < es.length - i; omega, ⟨⟨rfl, rfl⟩, rfl, by rw [wrap_i64_id (by simp only; omega) (by simp only; omega)]; rfl⟩, rfl, rfl, rfl, fun q hq => app_fn (F := fun k => AV.int .i64 (emVi x w hs es ev ps k)) hq rfl (fun _ => by simp [AV.sub])⟩
    · obtain ⟨i, g, g'⟩ := p
      obtain rfl : i = es.length := by have := of_decide_eq_false h5; simp only at this hj1; omega
      have h3 := (emS_f he).trans hj2
      rw [emV_f he h3, h3, he]
      exact ⟨⟨by simp, fun q hq => ⟨(mapR_getD _ hq).symm, rfl⟩, fun h => by cases h⟩, rfl, rfl⟩
theorem emR_sat (x : NodeG) (w : Int) (hs : List HaveG) (es : List AggG) (ev : List EvG) (ps : List PlG) (hp : ps.length ≤ 40) (h10 : es.length ≤ 10) (hn : ∀ i, i < es.length → ofNeed (es.getD i aggD).1 (emL x w hs es ev ps i)) :
    (vcFun (EEm x w hs es ev ps) 20 35 [qA x w hs es, evsA ev, mA ps] .nil 0 (retP 4 (.tup [isA (emV x w hs es ev ps), .int .i64 (emS x w hs es ev ps), .int .i64 (emE x w hs es ev ps)]))).sat := by
  refine (emR_vc x w hs es ev ps _ _ _).mpr ?_
  have e : psOf (AV.agg [AV.rof ps.length (fun k => plA (ps.getD k plD)) false]) = ps := psOf_mA ps
  simp only [qA_refl, evsR, esR, isR, mR, EqI, true_and, and_true, imp_self, implies_true, Int.toNat_natCast, Nat.zero_add, or_self, psOf_mA, e, decide_true, NB_t, Bool.true_and, Bool.and_true]
  refine NB_intro (gd_mA hp rfl) (VB_intro (fun h => ?_) (fun h => ⟨⟨(0, 0), ⟨Nat.zero_le _, rfl⟩, ⟨⟨rfl, rfl⟩, rfl, rfl⟩, rfl⟩, fun p ⟨hi1, hi2⟩ => VB_intro (fun h1 => ?_) (fun h1 => ?_)⟩))
  · have h : mE x w hs es ev ps ≠ 0 := bne_iff_ne.1 h
    have h2 := emE_m h
    have h3 : emE x w hs es ev ps ≠ 0 := by rw [h2]; exact h
    exact ⟨emV_n (Or.inl h3), (emS_n h3).symm, h2.symm⟩
  · have h : mE x w hs es ev ps = 0 := bne_eq_false_iff_eq.1 h
    obtain ⟨i, g⟩ := p
    have hlt : i < es.length := by have := of_decide_eq_true h1; simp only at this; omega
    have hap : ∀ q, q < i + 1 → _ := fun q hq => app_fn (F := fun k => AV.int .i64 (emVi x w hs es ev ps k)) (a := AV.int .i64 (emVi x w hs es ev ps i)) hq rfl (fun _ => by simp [AV.sub])
    refine NB_intro (decide_eq_true (by simp only; omega)) (NB_intro (Bool.and_eq_true_iff.2 ⟨gd_mA hp rfl, decide_eq_true h⟩) (VB_intro (fun h2 => ?_) (fun h2 => NB_intro (decide_eq_true (by simp only; omega)) (NB_intro (of_need (hn i hlt)) ?_))))
    · have h2 : emEi x w hs es ev ps i ≠ 0 := bne_iff_ne.1 h2
      have h3 := firE_stop hi2 hlt h2
      rw [← emE_f h] at h3
      have h4 : emE x w hs es ev ps ≠ 0 := by rw [h3]; exact h2
      exact ⟨emV_n (Or.inl h4), (emS_n h4).symm, h3.symm⟩
    · have h2 : emEi x w hs es ev ps i = 0 := bne_eq_false_iff_eq.1 h2
      refine VB_intro (fun h6 => NB_intro (by simp [room]; omega) ?_) (fun h6 => NB_intro (by simp [room]; omega) ?_)
      · have h6 : firE (emSi x w hs es ev ps) i = 0 := beq_iff_eq.1 h6
        exact ⟨(i + 1, g + 1), ⟨hlt, by rw [firE_succ hi2]; exact h2⟩, by show es.length - (i + 1) < es.length - i; omega, ⟨⟨rfl, rfl⟩, (firE_succ h6).symm, by rw [wrap_i64_id (by simp only; omega) (by simp only; omega)]; rfl⟩, rfl, rfl, hap⟩
      · have h6 : firE (emSi x w hs es ev ps) i ≠ 0 := by simpa using h6
        exact ⟨(i + 1, g + 1), ⟨hlt, by rw [firE_succ hi2]; exact h2⟩, by show es.length - (i + 1) < es.length - i; omega, ⟨⟨rfl, rfl⟩, (if_pos h6).symm, by rw [wrap_i64_id (by simp only; omega) (by simp only; omega)]; rfl⟩, rfl, rfl, hap⟩
  · have h : mE x w hs es ev ps = 0 := bne_eq_false_iff_eq.1 h
    obtain ⟨i, g⟩ := p
    obtain rfl : i = es.length := by have := of_decide_eq_false h1; simp only at this hi1; omega
    have he : emE x w hs es ev ps = 0 := (emE_f h).trans hi2
    have hs' := emS_f he
    refine VB_intro (fun h2 => ?_) (fun h2 => ?_)
    · have h2 : firE (emSi x w hs es ev ps) es.length ≠ 0 := bne_iff_ne.1 h2
      exact ⟨emV_n (Or.inr (by rw [hs']; exact h2)), hs'.symm, he.symm⟩
    · have h2 : firE (emSi x w hs es ev ps) es.length = 0 := bne_eq_false_iff_eq.1 h2
      have h3 := hs'.trans h2
      rw [emV_f he h3, h3, he]
      exact ⟨⟨by simp, fun q hq => ⟨(mapR_getD _ hq).symm, rfl⟩, fun h => by cases h⟩, rfl, rfl⟩
end Go.Proofs.YtamcloifhjafcaaDoor
