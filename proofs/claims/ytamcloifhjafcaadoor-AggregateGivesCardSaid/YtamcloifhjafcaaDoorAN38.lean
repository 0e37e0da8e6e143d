/- NODES 38: selected matches: contracts of both codes. -/
import Derived.Test.YtamcloifhjafcaaDoorAN37
namespace Go.Proofs.YtamcloifhjafcaaDoor
open Pw Go
set_option maxRecDepth 100000
set_option linter.unusedSimpArgs false

theorem msR (l : List MatG) : (msA l).sub (msA l) = True := eq_true ⟨rfl, fun _ _ => ⟨(mR _) ▸ trivial, rfl⟩, fun h => h⟩
section
variable {x : NodeG} {w : Int} {hs : List HaveG} {es : List AggG} {ev : List EvG} {l : List MatG}
theorem selE_c (h : chkE x w hs es ≠ 0) : selE x w hs es ev l = chkE x w hs es := if_pos h
theorem selE_m (h : chkE x w hs es = 0) (h2 : firE (mEi x w hs es ev l) l.length ≠ 0) : selE x w hs es ev l = firE (mEi x w hs es ev l) l.length := by rw [selE, if_neg (by simp [h]), if_pos h2]
theorem selE_w (h : chkE x w hs es = 0) (h2 : firE (mEi x w hs es ev l) l.length = 0) : selE x w hs es ev l = firE (wnEi x w hs es ev l) l.length := by rw [selE, if_neg (by simp [h]), if_neg (by simp [h2])]
theorem selV_n (h : selE x w hs es ev l ≠ 0) : (selV x w hs es ev l).length = 0 := by rw [selV, if_pos h]; rfl
theorem selV_f (h : selE x w hs es ev l = 0) : selV x w hs es ev l = kpt x w hs es ev l l.length := if_neg (by simp [h])
theorem kpt_succ {j : Nat} (hj : j < l.length) : kpt x w hs es ev l (j + 1) = if wnB x w hs es ev (l.getD j mtD).1 = true then kpt x w hs es ev l j ++ [l.getD j mtD] else kpt x w hs es ev l j := by
  have := take_getD l mtD hj
  simp only [kpt, this, List.filter_append]
  generalize l.getD j mtD = p
  cases h : wnB x w hs es ev p.1 <;> simp [List.filter_cons, h]
theorem kpt_len (j : Nat) : (kpt x w hs es ev l j).length ≤ l.length := by
  have h1 := List.length_filter_le (fun m : MatG => wnB x w hs es ev m.1) (l.take j)
  have h2 := List.length_take_le' j l
  show ((l.take j).filter _).length ≤ _
  omega
end
theorem selI_sat (x : NodeG) (w : Int) (hs : List HaveG) (es : List AggG) (ev : List EvG) (l : List MatG) (h20 : l.length ≤ 20) (hp : ∀ i, i < l.length → (l.getD i mtD).1.length ≤ 40) :
    (vcFun (ESl x w hs es ev l) 20 36 [qA x w hs es, evsA ev, msA l] .nil 0 (retP 5 (.tup [msA (selV x w hs es ev l), .int .i64 (selE x w hs es ev l)]))).sat := by
  refine (selI_vc x w hs es ev l _ _).mpr (NB_intro (atB_self _) ?_)
  simp only [qA_refl, evsR, msR, EqI, true_and, and_true, imp_self, implies_true, Int.toNat_natCast, Nat.zero_add, or_self, psOf_mA, decide_true, NB_t, Bool.true_and, Bool.and_true]
  refine VB_intro (fun h => ?_) (fun h => ⟨⟨0, ⟨Nat.zero_le _, rfl⟩, rfl⟩, fun i ⟨hi1, hi2⟩ => VB_intro (fun h1 => NB_intro (decide_eq_true ?_) (NB_intro (gd_mA (hp _ ?_) rfl) (VB_intro (fun h2 => ?_) (fun h2 => ?_)))) (fun h1 => ?_)⟩)
  · have h : chkE x w hs es ≠ 0 := bne_iff_ne.1 h
    have h3 := selE_c (ev := ev) (l := l) h
    exact ⟨selV_n (by rw [h3]; exact h), h3.symm⟩
  · have := of_decide_eq_true h1; omega
  · have := of_decide_eq_true h1; omega
  · have h : chkE x w hs es = 0 := bne_eq_false_iff_eq.1 h
    have h2 : mEi x w hs es ev l i ≠ 0 := bne_iff_ne.1 h2
    have h3 := firE_stop hi2 (by have := of_decide_eq_true h1; omega : i < l.length) h2
    have h4 := selE_m h (by rw [h3]; exact h2)
    rw [h3] at h4
    exact ⟨selV_n (by rw [h4]; exact h2), h4.symm⟩
  · have h2 : mEi x w hs es ev l i = 0 := bne_eq_false_iff_eq.1 h2
    have hlt : i < l.length := by have := of_decide_eq_true h1; omega
    exact ⟨i + 1, ⟨hlt, by rw [firE_succ hi2]; exact h2⟩, by show l.length - (i + 1) < l.length - i; omega, by rw [wrap_i64_id (by omega) (by omega)]; rfl⟩
  · have h : chkE x w hs es = 0 := bne_eq_false_iff_eq.1 h
    obtain rfl : i = l.length := by have := of_decide_eq_false h1; omega
    have hsE := selE_w h hi2
    refine ⟨⟨(0, 0), ⟨Nat.zero_le _, rfl⟩, ⟨⟨rfl, rfl⟩, rfl⟩, rfl⟩, fun p ⟨hj1, hj2⟩ => ?_⟩
    obtain ⟨i, g⟩ := p
    have hle := kpt_len (x := x) (w := w) (hs := hs) (es := es) (ev := ev) (l := l) i
    refine VB_intro (fun h5 => NB_intro (decide_eq_true ?_) (NB_intro (gd_mA (hp _ ?_) rfl) (VB_intro (fun h2 => ?_) (fun h2 => VB_intro (fun h6 => NB_intro ?_ (NB_intro ?_ ?_)) (fun h6 => ?_))))) (fun h5 => ?_)
    · have := of_decide_eq_true h5; simp only at *; omega
    · have := of_decide_eq_true h5; simp only at *; omega
    · have h2 : wnEi x w hs es ev l i ≠ 0 := bne_iff_ne.1 h2
      have h3 := firE_stop hj2 (by have := of_decide_eq_true h5; simp only at *; omega : i < l.length) h2
      rw [← hsE] at h3
      exact ⟨selV_n (by rw [h3]; exact h2), h3.symm⟩
    · have hlt : i < l.length := by have := of_decide_eq_true h5; simp only at *; omega
      simp only [Bool.and_eq_true, decide_eq_true_eq]
      exact ⟨Nat.le_trans (hp i hlt) (by decide), List.all_eq_true.2 fun _ _ => rfl⟩
    · simp [room]; omega
    · have h2 : wnEi x w hs es ev l i = 0 := bne_eq_false_iff_eq.1 h2
      have hlt : i < l.length := by have := of_decide_eq_true h5; simp only at *; omega
      have hsu := kpt_succ (x := x) (w := w) (hs := hs) (es := es) (ev := ev) hlt
      rw [if_pos h6] at hsu
      have hsl : (kpt x w hs es ev l (i + 1)).length = (kpt x w hs es ev l i).length + 1 := by rw [hsu]; simp
      refine ⟨(i + 1, g + 1), ⟨hlt, by rw [firE_succ hj2]; exact h2⟩, by show l.length - (i + 1) < l.length - i; omega, ⟨⟨rfl, hsl.symm⟩, by rw [wrap_i64_id (by simp only; omega) (by simp only; omega)]; rfl⟩, rfl, hsl.symm, fun q hq => ?_⟩
      simp only [hsu]
      exact app_row (F := fun m : MatG => mA m.1) (L := kpt x w hs es ev l i) (a := l.getD i mtD) (d := mtD) hq (fun a => (mR _) ▸ trivial)
    · have h2 : wnEi x w hs es ev l i = 0 := bne_eq_false_iff_eq.1 h2
      have hlt : i < l.length := by have := of_decide_eq_true h5; simp only at *; omega
      have hsu := kpt_succ (x := x) (w := w) (hs := hs) (es := es) (ev := ev) hlt
      rw [if_neg (by simpa using h6)] at hsu
      refine ⟨(i + 1, g), ⟨hlt, by rw [firE_succ hj2]; exact h2⟩, by show l.length - (i + 1) < l.length - i; omega, ?_⟩
      simp only [hsu]
      exact ⟨⟨⟨trivial, trivial⟩, by rw [wrap_i64_id (by omega) (by omega)]; rfl⟩, trivial, trivial, fun q hq => ⟨⟨trivial, fun _ _ => ⟨plA_refl _, trivial⟩⟩, trivial⟩⟩
    · obtain rfl : i = l.length := by have := of_decide_eq_false h5; simp only at this hj1; omega
      have h0 := hsE.trans hj2
      rw [selV_f h0, h0]
      exact ⟨⟨rfl, fun q hq => ⟨⟨rfl, fun _ _ => ⟨plA_refl _, rfl⟩⟩, rfl⟩, fun h => by cases h⟩, rfl⟩
theorem selR_sat (x : NodeG) (w : Int) (hs : List HaveG) (es : List AggG) (ev : List EvG) (l : List MatG) (h20 : l.length ≤ 20) (hp : ∀ i, i < l.length → (l.getD i mtD).1.length ≤ 40) :
    (vcFun (ESl x w hs es ev l) 20 37 [qA x w hs es, evsA ev, msA l] .nil 0 (retP 5 (.tup [msA (selV x w hs es ev l), .int .i64 (selE x w hs es ev l)]))).sat := by
  refine (selR_vc x w hs es ev l _ _).mpr (NB_intro (atB_self _) ?_)
  simp only [qA_refl, evsR, msR, EqI, true_and, and_true, imp_self, implies_true, Int.toNat_natCast, Nat.zero_add, or_self, psOf_mA, decide_true, NB_t, Bool.true_and, Bool.and_true]
  refine VB_intro (fun h => ?_) (fun h => ⟨⟨0, ⟨Nat.zero_le _, rfl⟩, rfl⟩, fun i ⟨hi1, hi2⟩ => VB_intro (fun h1 => NB_intro (decide_eq_true ?_) (NB_intro (gd_mA (hp _ ?_) rfl) (VB_intro (fun h2 => ?_) (fun h2 => ?_)))) (fun h1 => ?_)⟩)
  · have h : chkE x w hs es ≠ 0 := bne_iff_ne.1 h
    have h3 := selE_c (ev := ev) (l := l) h
    exact ⟨selV_n (by rw [h3]; exact h), h3.symm⟩
  · have := of_decide_eq_true h1; omega
  · have := of_decide_eq_true h1; omega
  · have h : chkE x w hs es = 0 := bne_eq_false_iff_eq.1 h
    have h2 : mEi x w hs es ev l i ≠ 0 := bne_iff_ne.1 h2
    have h3 := firE_stop hi2 (by have := of_decide_eq_true h1; omega : i < l.length) h2
    have h4 := selE_m h (by rw [h3]; exact h2)
    rw [h3] at h4
    exact ⟨selV_n (by rw [h4]; exact h2), h4.symm⟩
  · have h2 : mEi x w hs es ev l i = 0 := bne_eq_false_iff_eq.1 h2
    have hlt : i < l.length := by have := of_decide_eq_true h1; omega
    exact ⟨i + 1, ⟨hlt, by rw [firE_succ hi2]; exact h2⟩, by show l.length - (i + 1) < l.length - i; omega, by rw [wrap_i64_id (by omega) (by omega)]; rfl⟩
  · have h : chkE x w hs es = 0 := bne_eq_false_iff_eq.1 h
    obtain rfl : i = l.length := by have := of_decide_eq_false h1; omega
    have hsE := selE_w h hi2
    refine ⟨⟨(0, 0), ⟨Nat.zero_le _, rfl⟩, ⟨⟨rfl, rfl⟩, rfl⟩, rfl⟩, fun p ⟨hj1, hj2⟩ => ?_⟩
    obtain ⟨i, g⟩ := p
    have hle := kpt_len (x := x) (w := w) (hs := hs) (es := es) (ev := ev) (l := l) i
    refine VB_intro (fun h5 => NB_intro (decide_eq_true ?_) (NB_intro (gd_mA (hp _ ?_) rfl) (VB_intro (fun h2 => ?_) (fun h2 => VB_intro (fun h6 => NB_intro (decide_eq_true ?_) (NB_intro ?_ (NB_intro ?_ ?_))) (fun h6 => ?_))))) (fun h5 => ?_)
    · have := of_decide_eq_true h5; simp only at *; omega
    · have := of_decide_eq_true h5; simp only at *; omega
    · have h2 : wnEi x w hs es ev l i ≠ 0 := bne_iff_ne.1 h2
      have h3 := firE_stop hj2 (by have := of_decide_eq_true h5; simp only at *; omega : i < l.length) h2
      rw [← hsE] at h3
      exact ⟨selV_n (by rw [h3]; exact h2), h3.symm⟩
    · have hlt : i < l.length := by have := of_decide_eq_true h5; simp only at *; omega
      simp only; omega
    · have hlt : i < l.length := by have := of_decide_eq_true h5; simp only at *; omega
      have := hp i hlt
      simp only [List.getD_eq_getElem?_getD] at this
      simp [room]; omega
    · simp [room]; omega
    · have h2 : wnEi x w hs es ev l i = 0 := bne_eq_false_iff_eq.1 h2
      have hlt : i < l.length := by have := of_decide_eq_true h5; simp only at *; omega
      have hsu := kpt_succ (x := x) (w := w) (hs := hs) (es := es) (ev := ev) hlt
      rw [if_pos h6] at hsu
      have hsl : (kpt x w hs es ev l (i + 1)).length = (kpt x w hs es ev l i).length + 1 := by rw [hsu]; simp
      refine ⟨(i + 1, g + 1), ⟨hlt, by rw [firE_succ hj2]; exact h2⟩, by show l.length - (i + 1) < l.length - i; omega, ⟨⟨rfl, hsl.symm⟩, by rw [wrap_i64_id (by simp only; omega) (by simp only; omega)]; rfl⟩, rfl, hsl.symm, fun q hq => ?_⟩
      simp only [hsu]
      exact app_row (F := fun m : MatG => mA m.1) (L := kpt x w hs es ev l i) (a := l.getD i mtD) (d := mtD) hq (fun a => (mR _) ▸ trivial)
    · have h2 : wnEi x w hs es ev l i = 0 := bne_eq_false_iff_eq.1 h2
      have hlt : i < l.length := by have := of_decide_eq_true h5; simp only at *; omega
      have hsu := kpt_succ (x := x) (w := w) (hs := hs) (es := es) (ev := ev) hlt
      rw [if_neg (by simpa using h6)] at hsu
      refine ⟨(i + 1, g), ⟨hlt, by rw [firE_succ hj2]; exact h2⟩, by show l.length - (i + 1) < l.length - i; omega, ?_⟩
      simp only [hsu]
      exact ⟨⟨⟨trivial, trivial⟩, by rw [wrap_i64_id (by omega) (by omega)]; rfl⟩, trivial, trivial, fun q hq => ⟨⟨trivial, fun _ _ => ⟨plA_refl _, trivial⟩⟩, trivial⟩⟩
    · obtain rfl : i = l.length := by have := of_decide_eq_false h5; simp only at this hj1; omega
      have h0 := hsE.trans hj2
      rw [selV_f h0, h0]
      exact ⟨⟨rfl, fun q hq => ⟨⟨rfl, fun _ _ => ⟨plA_refl _, rfl⟩⟩, rfl⟩, fun h => by cases h⟩, rfl⟩
end Go.Proofs.YtamcloifhjafcaaDoor
