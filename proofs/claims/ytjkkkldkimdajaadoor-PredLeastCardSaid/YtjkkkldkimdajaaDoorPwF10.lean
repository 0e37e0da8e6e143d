/- ENGINE, part F10: states that are less well known. -/
import Derived.Test.YtjkkkldkimdajaaDoorPwF9
namespace Pw
set_option linter.unusedSimpArgs false
open Go

theorem subL_at : ∀ (l m : List AV), AV.subL l m → l.length = m.length ∧ ∀ i, i < m.length → AV.sub (l.getD i .undef) (m.getD i .undef)
  | [], [], _ => ⟨rfl, fun i hi => by simp at hi⟩
  | [], _ :: _, h => by simp [AV.subL] at h
  | _ :: _, [], h => by simp [AV.subL] at h
  | x :: l, y :: m, h => by
    simp only [AV.subL] at h
    obtain ⟨k1, k2⟩ := subL_at l m h.2
    refine ⟨by simp [k1], fun i hi => ?_⟩
    cases i with
    | zero => simpa using h.1
    | succ i => simpa using k2 i (by simpa using hi)
theorem subE_at : ∀ (l m : List AV), AV.subE l m → l.length = m.length ∧ ∀ i, i < m.length → AV.sub (l.getD i .undef) (m.getD i .undef) ∧ (l.getD i .undef).cells.length = (m.getD i .undef).cells.length
  | [], [], _ => ⟨rfl, fun i hi => by simp at hi⟩
  | [], _ :: _, h => by simp [AV.subE] at h
  | _ :: _, [], h => by simp [AV.subE] at h
  | x :: l, y :: m, h => by
    simp only [AV.subE] at h
    obtain ⟨k1, k2⟩ := subE_at l m h.2
    refine ⟨by simp [k1], fun i hi => ?_⟩
    cases i with
    | zero => simpa using h.1
    | succ i => simpa using k2 i (by simpa using hi)
theorem subF_at : ∀ (l : List AV) (k : Nat) (f : Nat → AV), AV.subF l k f → ∀ i, i < l.length → AV.sub (l.getD i .undef) (f (k + i)) ∧ (l.getD i .undef).cells.length = (f (k + i)).cells.length
  | [], _, _, _ => fun i hi => by simp at hi
  | x :: l, k, f, h => by
    simp only [AV.subF] at h
    have k2 := subF_at l (k + 1) f h.2
    intro i hi
    cases i with
    | zero => simpa using h.1
    | succ i =>
      have := k2 i (by simpa using hi)
      have e : k + 1 + i = k + (i + 1) := by omega
      rw [e] at this
      simpa using this

theorem sub_cells {x y : AV} (h : AV.sub x y) (hl : x.cells.length = y.cells.length) : ∀ j, j < y.cells.length → AV.sub (x.cells.getD j .undef) (y.cells.getD j .undef) := by
  intro j hj
  by_cases hy : y = .undef
  · subst hy
    have : j = 0 := by simp [AV.cells] at hj; exact hj
    subst this
    have : ([AV.undef] : List AV).getD 0 .undef = .undef := rfl
    simp only [AV.cells, this]
    unfold AV.sub; trivial
  cases y with
  | agg m =>
    cases x <;> first | (simp [AV.sub] at h; done) | skip
    rename_i l
    simp only [AV.sub] at h
    exact (subL_at l m h).2 j hj
  | undef => exact absurd rfl hy
  | _ =>
    have : j = 0 := by simp [AV.cells] at hj; exact hj
    subst this
    cases x <;> first | (simp [AV.sub] at h; done) | (simpa [AV.cells] using h)

theorem RelP.sub {M : Mem} {v : Value} {x : AV} (h : RelP M v x) : ∀ y, AV.sub x y → RelP M v y := by
  have elem : ∀ {x y : AV} {M : Mem} {vals : Nat → Value} {sz : Nat} (_ : x.cells.length = sz) (_ : AV.sub x y ∧ x.cells.length = y.cells.length) (_ : ∀ j, j < sz → ∀ y', AV.sub (x.cells.getD j .undef) y' → RelP M (vals j) y'),
      y.cells.length = sz ∧ ∀ j, j < sz → RelP M (vals j) (y.cells.getD j .undef) := by
    intro x y M vals sz h1 h2 h3
    have hy : y.cells.length = sz := by rw [← h2.2, h1]
    exact ⟨hy, fun j hj => h3 j hj _ (sub_cells h2.1 h2.2 j (by rw [hy]; exact hj))⟩
  induction h with
  | undef v => intro y hs; cases y <;> first | exact .undef v | (simp [AV.sub] at hs; done)
  | opt v m j w x => intro y hs; cases y <;> first | exact .undef v | (simp [AV.sub] at hs; done)
  | int k n => intro y hs; cases y <;> first | exact .undef _ | (simp [AV.sub] at hs; done) | (simp only [AV.sub] at hs; split at hs; (rename_i e; subst e; subst hs; exact .int _ _); exact hs.elim)
  | bool b => intro y hs; cases y <;> first | exact .undef _ | (simp [AV.sub] at hs; done) | (simp only [AV.sub] at hs; subst hs; exact .bool _)
  | str l => intro y hs; cases y <;> first | exact .undef _ | (simp [AV.sub] at hs; done) | (simp only [AV.sub] at hs; subst hs; exact .str _)
  | nilp => intro y hs; cases y <;> first | exact .undef _ | (simp [AV.sub] at hs; done) | exact .nilp
  | nils =>
    intro y hs
    cases y with
    | undef => exact .undef _
    | nils => exact .nils
    | rol l ex =>
      cases l with
      | nil => exact .rol0 none 0 ex (by simp [maxLen]) (fun _ => rfl) (fun _ => rfl)
      | cons x l => simp [AV.sub] at hs
    | rof n f ex => simp only [AV.sub] at hs; subst hs; exact .rof0 none 0 f ex (by simp [maxLen]) (fun _ => rfl) (fun _ => rfl)
    | _ => simp [AV.sub] at hs
  | nilf => intro y hs; cases y <;> first | exact .undef _ | (simp [AV.sub] at hs; done) | exact .nilf
  | nilm => intro y hs; cases y <;> first | exact .undef _ | (simp [AV.sub] at hs; done) | exact .nilm
  | rptr B o j x vals hm hr ih =>
    intro y hs
    cases y <;> first | exact .undef _ | (simp [AV.sub] at hs; done) | skip
    rename_i y j'
    simp only [AV.sub] at hs
    obtain ⟨hs, rfl⟩ := hs
    obtain ⟨k1, k2⟩ := elem (vals := vals) rfl hs (fun i hi y' hy' => ih i hi y' hy')
    exact .rptr B o j y vals (fun i hi => hm i (by rw [← k1]; exact hi)) (fun i hi => k2 i (by rw [← k1]; exact hi))
  | rol B o cap sz l ex vals hc hcm hex hz hm hr ih =>
    intro y hs
    cases y <;> first | exact .undef _ | (simp [AV.sub] at hs; done) | skip
    · rename_i m ex'
      simp only [AV.sub] at hs
      obtain ⟨k1, k2⟩ := subE_at l m hs.1
      rw [k1]
      have k3 : ∀ i, i < m.length → _ := fun i hi => elem (vals := vals i) (hz i (by omega)) (k2 i hi) (fun j hj y' hy' => ih i j (by omega) hj y' hy')
      exact .rol B o cap sz m ex' vals (by omega) hcm (fun e => by rw [← k1]; exact hex (hs.2 e)) (fun i hi => (k3 i hi).1) (fun i j hi hj => hm i j (by omega) hj) (fun i j hi hj => (k3 i hi).2 j hj)
    · rename_i n f ex'
      simp only [AV.sub] at hs
      obtain ⟨k1, k2, k4⟩ := hs
      have k2 := subF_at l 0 f k2
      simp only [Nat.zero_add] at k2
      rw [k1]
      have k3 : ∀ i, i < n → _ := fun i hi => elem (vals := vals i) (hz i (by omega)) (k2 i (by omega)) (fun j hj y' hy' => ih i j (by omega) hj y' hy')
      exact .rof B o cap sz n f ex' vals (by omega) hcm (fun e => by rw [← k1]; exact hex (k4 e)) (fun i hi => (k3 i hi).1) (fun i j hi hj => hm i j (by omega) hj) (fun i j hi hj => (k3 i hi).2 j hj)
  | rof B o cap sz n f ex vals hc hcm hex hz hm hr ih =>
    intro y hs
    cases y <;> first | exact .undef _ | (simp [AV.sub] at hs; done) | skip
    rename_i n' f' ex'
    simp only [AV.sub] at hs
    obtain ⟨rfl, k2, k4⟩ := hs
    have k3 : ∀ i, i < n → _ := fun i hi => elem (vals := vals i) (hz i hi) (k2 i hi) (fun j hj y' hy' => ih i j hi hj y' hy')
    exact .rof B o cap sz n f' ex' vals hc hcm (fun e => hex (k4 e)) (fun i hi => (k3 i hi).1) (fun i j hi hj => hm i j hi hj) (fun i j hi hj => (k3 i hi).2 j hj)
  | rol0 a cap ex h1 h2 h3 =>
    intro y hs
    cases y <;> first | exact .undef _ | (simp [AV.sub] at hs; done) | skip
    · rename_i m ex'
      simp only [AV.sub] at hs
      obtain ⟨k1, _⟩ := subE_at _ m hs.1
      have : m = [] := List.eq_nil_of_length_eq_zero k1.symm
      subst this
      exact .rol0 a cap ex' h1 (fun e => h2 (hs.2 e)) h3
    · rename_i n f ex'
      simp only [AV.sub] at hs
      obtain ⟨k1, _, k4⟩ := hs
      have k1 : n = 0 := k1.symm
      subst k1
      exact .rof0 a cap f ex' h1 (fun e => h2 (k4 e)) h3
  | rof0 a cap f ex h1 h2 h3 =>
    intro y hs
    cases y <;> first | exact .undef _ | (simp [AV.sub] at hs; done) | skip
    rename_i n f' ex'
    simp only [AV.sub] at hs
    obtain ⟨k1, _, k4⟩ := hs
    subst k1
    exact .rof0 a cap f' ex' h1 (fun e => h2 (k4 e)) h3
  | fn f =>
    intro y hs
    cases y <;> first | exact .undef _ | (simp [AV.sub] at hs; done) | skip
    rename_i f' a b
    simp only [AV.sub] at hs
    obtain ⟨rfl, h1, h2⟩ := hs
    have ha : a = [] := List.eq_nil_of_length_eq_zero (subL_at _ _ h1).1.symm
    have hb : b = [] := List.eq_nil_of_length_eq_zero (subL_at _ _ h2).1.symm
    subst ha; subst hb
    exact .fn _
  | agg cs l hsz hr ih =>
    intro y hs
    cases y <;> first | exact .undef _ | (simp [AV.sub] at hs; done) | skip
    rename_i m
    simp only [AV.sub] at hs
    obtain ⟨k1, k2⟩ := subL_at l m hs
    exact .agg cs m (by omega) (fun i hi => ih i (by omega) _ (k2 i hi))
  | tup cs l hsz hr ih =>
    intro y hs
    cases y <;> first | exact .undef _ | (simp [AV.sub] at hs; done) | skip
    rename_i m
    simp only [AV.sub] at hs
    obtain ⟨k1, k2⟩ := subL_at l m hs
    exact .tup cs m (by omega) (fun i hi => ih i (by omega) _ (k2 i hi))

theorem Rel.sub {ρ : Rho} {M : Mem} {v : Value} {x : AV} (h : Rel ρ M v x) : ∀ y, AV.sub x y → Rel ρ M v y := by
  induction h with
  | pure h =>
    intro y hs
    exact .pure (h.sub y hs)
  | ptr L b g i j h hi =>
    intro y hs
    cases y <;> first | exact .undef _ | (simp [AV.sub] at hs; done) | skip
    simp only [AV.sub] at hs
    split at hs
    · rename_i e
      obtain ⟨rfl, rfl, rfl⟩ := hs
      subst e
      exact .ptr L _ _ _ _ h hi
    · exact hs.elim
  | sl L b g i len cap c h hv hl hc hb hcm hn =>
    intro y hs
    cases y <;> first | exact .undef _ | (simp [AV.sub] at hs; done) | skip
    simp only [AV.sub] at hs
    split at hs
    · rename_i e
      obtain ⟨rfl, rfl, rfl, hcc⟩ := hs
      subst e
      refine .sl L _ _ _ _ cap _ h hv hl (fun k hk => ?_) hb hcm hn
      rcases hcc with e | e
      · exact hc k (e.trans hk)
      · rw [e] at hk; cases hk
    · exact hs.elim
  | slv L a b g i c h hc =>
    intro y hs
    cases y <;> first | exact .undef _ | (simp [AV.sub] at hs; done) | skip
    simp only [AV.sub] at hs
    split at hs
    · rename_i e
      obtain ⟨rfl, rfl, rfl, hcc⟩ := hs
      subst e
      refine .slv L a _ _ _ _ h (fun k hk => ?_)
      rcases hcc with e | e
      · exact hc k (e.trans hk)
      · rw [e] at hk; cases hk
    · exact hs.elim
  | fn f fs cs fl cl h1 h2 _ _ ih1 ih2 =>
    intro y hs
    cases y <;> first | exact .undef _ | (simp [AV.sub] at hs; done) | skip
    rename_i f' a b
    simp only [AV.sub] at hs
    obtain ⟨rfl, k1, k2⟩ := hs
    obtain ⟨m1, m2⟩ := subL_at _ _ k1
    obtain ⟨m3, m4⟩ := subL_at _ _ k2
    exact .fn f fs cs a b (by omega) (by omega) (fun i hi => ih1 i (by omega) _ (m2 i hi)) (fun i hi => ih2 i (by omega) _ (m4 i hi))
  | agg cs l h _ ih =>
    intro y hs
    cases y <;> first | exact .undef _ | (simp [AV.sub] at hs; done) | skip
    rename_i m
    simp only [AV.sub] at hs
    obtain ⟨k1, k2⟩ := subL_at l m hs
    exact .agg cs m (by omega) (fun i hi => ih i (by omega) _ (k2 i hi))
  | tup cs l h _ ih =>
    intro y hs
    cases y <;> first | exact .undef _ | (simp [AV.sub] at hs; done) | skip
    rename_i m
    simp only [AV.sub] at hs
    obtain ⟨k1, k2⟩ := subL_at l m hs
    exact .tup cs m (by omega) (fun i hi => ih i (by omega) _ (k2 i hi))

theorem idsBL_at {nx : Nat} : ∀ (l : List AV), AV.idsBL nx l = true → ∀ i, i < l.length → AV.idsB nx (l.getD i .undef) = true
  | [], _, i, hi => by simp at hi
  | x :: l, h, i, hi => by
    simp only [AV.idsBL, Bool.and_eq_true] at h
    cases i with
    | zero => simpa using h.1
    | succ i => simpa using idsBL_at l h.2 i (by simpa using hi)

/-- Blocks from nx on are let go. -/
theorem Rel.cut {ρ ρ' : Rho} {M : Mem} {nx : Nat} (hρ : ∀ b g L, b < nx → ρ b g = some L → ρ' b g = some L) {v : Value} {x : AV} (h : Rel ρ M v x) : AV.idsB nx x = true → Rel ρ' M v x := by
  induction h with
  | pure h => exact fun _ => .pure h
  | ptr L b g i j h hi => intro hb; simp only [AV.idsB, decide_eq_true_eq] at hb; exact .ptr L b g i j (hρ _ _ _ hb h) hi
  | sl L b g i len cap c h hv hl hc hb hcm hn => intro hx; simp only [AV.idsB, decide_eq_true_eq] at hx; exact .sl L b g i len cap c (hρ _ _ _ hx h) hv hl hc hb hcm hn
  | slv L a b g i c h hc => intro hx; simp only [AV.idsB, decide_eq_true_eq] at hx; exact .slv L a b g i c (hρ _ _ _ hx h) hc
  | fn f fs cs fl cl h1 h2 _ _ ih1 ih2 =>
    intro hx
    simp only [AV.idsB, Bool.and_eq_true] at hx
    exact .fn f fs cs fl cl h1 h2 (fun i hi => ih1 i hi (idsBL_at fl hx.1 i hi)) (fun i hi => ih2 i hi (idsBL_at cl hx.2 i hi))
  | agg cs l h _ ih => intro hx; simp only [AV.idsB] at hx; exact .agg cs l h (fun i hi => ih i hi (idsBL_at l hx i hi))
  | tup cs l h _ ih => intro hx; simp only [AV.idsB] at hx; exact .tup cs l h (fun i hi => ih i hi (idsBL_at l hx i hi))
end Pw
