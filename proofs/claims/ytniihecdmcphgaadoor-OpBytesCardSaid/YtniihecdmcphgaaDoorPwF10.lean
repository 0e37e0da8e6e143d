/- ENGINE, part F10: states that are less well known. -/
import Derived.Test.YtniihecdmcphgaaDoorPwF5
import Derived.LoopN
import Derived.Deep.LoopGhost
import Derived.Scope
namespace Pw
set_option linter.unusedSimpArgs false
open Go

theorem subL_at : ∀ (l m : List AV), AV.subL l m → l.length = m.length ∧ ∀ i, i < m.length → AV.sub (l.getD i .undef) (m.getD i .undef)
  | [], [], _ => ⟨rfl, fun i hi => by simp at hi⟩
  | [], _ :: _, h => by simp [AV.subL] at h
  | _ :: _, [], h => by simp [AV.subL] at h
  | x :: l, y :: m, h => by
    simp only [AV.subL] at h
    obtain ⟨k1, k2⟩ := subL_at l m h.2
    refine ⟨by simp [k1], fun i hi => ?_⟩
    cases i with
    | zero => simpa using h.1
    | succ i => simpa using k2 i (by simpa using hi)
theorem subE_at : ∀ (l m : List AV), AV.subE l m → l.length = m.length ∧ ∀ i, i < m.length → AV.sub (l.getD i .undef) (m.getD i .undef) ∧ (l.getD i .undef).cells.length = (m.getD i .undef).cells.length
  | [], [], _ => ⟨rfl, fun i hi => by simp at hi⟩
  | [], _ :: _, h => by simp [AV.subE] at h
  | _ :: _, [], h => by simp [AV.subE] at h
  | x :: l, y :: m, h => by
    simp only [AV.subE] at h
    obtain ⟨k1, k2⟩ := subE_at l m h.2
    refine ⟨by simp [k1], fun i hi => ?_⟩
    cases i with
    | zero => simpa using h.1
    | succ i => simpa using k2 i (by simpa using hi)
theorem subF_at : ∀ (l : List AV) (k : Nat) (f : Nat → AV), AV.subF l k f → ∀ i, i < l.length → AV.sub (l.getD i .undef) (f (k + i)) ∧ (l.getD i .undef).cells.length = (f (k + i)).cells.length
  | [], _, _, _ => fun i hi => by simp at hi
  | x :: l, k, f, h => by
    simp only [AV.subF] at h
    have k2 := subF_at l (k + 1) f h.2
    intro i hi
    cases i with
    | zero => simpa using h.1
    | succ i =>
      have := k2 i (by simpa using hi)
      have e : k + 1 + i = k + (i + 1) := by omega
      rw [e] at this
      simpa using this

theorem sub_cells {x y : AV} (h : AV.sub x y) (hl : x.cells.length = y.cells.length) : ∀ j, j < y.cells.length → AV.sub (x.cells.getD j .undef) (y.cells.getD j .undef) := by
  intro j hj
  by_cases hy : y = .undef
  · subst hy
    have : j = 0 := by simp [AV.cells] at hj; exact hj
    subst this
    have : ([AV.undef] : List AV).getD 0 .undef = .undef := rfl
    simp only [AV.cells, this]
    unfold AV.sub; trivial
  cases y with
  | agg m =>
    cases x <;> first | (simp [AV.sub] at h; done) | skip
    rename_i l
    simp only [AV.sub] at h
    exact (subL_at l m h).2 j hj
  | undef => exact absurd rfl hy
  | _ =>
    have : j = 0 := by simp [AV.cells] at hj; exact hj
    subst this
    cases x <;> first | (simp [AV.sub] at h; done) | (simpa [AV.cells] using h)

theorem RelP.sub {M : Mem} {v : Value} {x : AV} (h : RelP M v x) : ∀ y, AV.sub x y → RelP M v y := by
  have elem : ∀ {x y : AV} {M : Mem} {vals : Nat → Value} {sz : Nat} (_ : x.cells.length = sz) (_ : AV.sub x y ∧ x.cells.length = y.cells.length) (_ : ∀ j, j < sz → ∀ y', AV.sub (x.cells.getD j .undef) y' → RelP M (vals j) y'),
      y.cells.length = sz ∧ ∀ j, j < sz → RelP M (vals j) (y.cells.getD j .undef) := by
    intro x y M vals sz h1 h2 h3
    have hy : y.cells.length = sz := by rw [← h2.2, h1]
    exact ⟨hy, fun j hj => h3 j hj _ (sub_cells h2.1 h2.2 j (by rw [hy]; exact hj))⟩
  induction h with
  | undef v => intro y hs; cases y <;> first | exact .undef v | (simp [AV.sub] at hs; done)
  | opt v m j w x => intro y hs; cases y <;> first | exact .undef v | (simp [AV.sub] at hs; done)
  | int k n => intro y hs; cases y <;> first | exact .undef _ | (simp [AV.sub] at hs; done) | (simp only [AV.sub] at hs; split at hs; (rename_i e; subst e; subst hs; exact .int _ _); exact hs.elim)
  | bool b => intro y hs; cases y <;> first | exact .undef _ | (simp [AV.sub] at hs; done) | (simp only [AV.sub] at hs; subst hs; exact .bool _)
  | str l => intro y hs; cases y <;> first | exact .undef _ | (simp [AV.sub] at hs; done) | (simp only [AV.sub] at hs; subst hs; exact .str _)
  | nilp => intro y hs; cases y <;> first | exact .undef _ | (simp [AV.sub] at hs; done) | exact .nilp
  | nils =>
    intro y hs
    cases y with
    | undef => exact .undef _
    | nils => exact .nils
    | rol l ex =>
      cases l with
      | nil => exact .rol0 none 0 ex (by simp [maxLen]) (fun _ => rfl) (fun _ => rfl)
      | cons x l => simp [AV.sub] at hs
    | rof n f ex => simp only [AV.sub] at hs; subst hs; exact .rof0 none 0 f ex (by simp [maxLen]) (fun _ => rfl) (fun _ => rfl)
    | _ => simp [AV.sub] at hs
  | nilf => intro y hs; cases y <;> first | exact .undef _ | (simp [AV.sub] at hs; done) | exact .nilf
  | nilm => intro y hs; cases y <;> first | exact .undef _ | (simp [AV.sub] at hs; done) | exact .nilm
  | rptr B o j x vals hm hr ih =>
    intro y hs
    cases y <;> first | exact .undef _ | (simp [AV.sub] at hs; done) | skip
    rename_i y j'
    simp only [AV.sub] at hs
    obtain ⟨hs, rfl⟩ := hs
    obtain ⟨k1, k2⟩ := elem (vals := vals) rfl hs (fun i hi y' hy' => ih i hi y' hy')
    exact .rptr B o j y vals (fun i hi => hm i (by rw [← k1]; exact hi)) (fun i hi => k2 i (by rw [← k1]; exact hi))
  | rol B o cap sz l ex vals hc hcm hex hz hm hr ih =>
    intro y hs
    cases y <;> first | exact .undef _ | (simp [AV.sub] at hs; done) | skip
    · rename_i m ex'
      simp only [AV.sub] at hs
      obtain ⟨k1, k2⟩ := subE_at l m hs.1
      rw [k1]
      have k3 : ∀ i, i < m.length → _ := fun i hi => elem (vals := vals i) (hz i (by omega)) (k2 i hi) (fun j hj y' hy' => ih i j (by omega) hj y' hy')
      exact .rol B o cap sz m ex' vals (by omega) hcm (fun e => by rw [← k1]; exact hex (hs.2 e)) (fun i hi => (k3 i hi).1) (fun i j hi hj => hm i j (by omega) hj) (fun i j hi hj => (k3 i hi).2 j hj)
    · rename_i n f ex'
      simp only [AV.sub] at hs
      obtain ⟨k1, k2, k4⟩ := hs
      have k2 := subF_at l 0 f k2
      simp only [Nat.zero_add] at k2
      rw [k1]
      have k3 : ∀ i, i < n → _ := fun i hi => elem (vals := vals i) (hz i (by omega)) (k2 i (by omega)) (fun j hj y' hy' => ih i j (by omega) hj y' hy')
      exact .rof B o cap sz n f ex' vals (by omega) hcm (fun e => by rw [← k1]; exact hex (k4 e)) (fun i hi => (k3 i hi).1) (fun i j hi hj => hm i j (by omega) hj) (fun i j hi hj => (k3 i hi).2 j hj)
  | rof B o cap sz n f ex vals hc hcm hex hz hm hr ih =>
    intro y hs
    cases y <;> first | exact .undef _ | (simp [AV.sub] at hs; done) | skip
    rename_i n' f' ex'
    simp only [AV.sub] at hs
    obtain ⟨rfl, k2, k4⟩ := hs
    have k3 : ∀ i, i < n → _ := fun i hi => elem (vals := vals i) (hz i hi) (k2 i hi) (fun j hj y' hy' => ih i j hi hj y' hy')
    exact .rof B o cap sz n f' ex' vals hc hcm (fun e => hex (k4 e)) (fun i hi => (k3 i hi).1) (fun i j hi hj => hm i j hi hj) (fun i j hi hj => (k3 i hi).2 j hj)
  | rol0 a cap ex h1 h2 h3 =>
    intro y hs
    cases y <;> first | exact .undef _ | (simp [AV.sub] at hs; done) | skip
    · rename_i m ex'
      simp only [AV.sub] at hs
      obtain ⟨k1, _⟩ := subE_at _ m hs.1
      have : m = [] := List.eq_nil_of_length_eq_zero k1.symm
      subst this
      exact .rol0 a cap ex' h1 (fun e => h2 (hs.2 e)) h3
    · rename_i n f ex'
      simp only [AV.sub] at hs
      obtain ⟨k1, _, k4⟩ := hs
      have k1 : n = 0 := k1.symm
      subst k1
      exact .rof0 a cap f ex' h1 (fun e => h2 (k4 e)) h3
  | rof0 a cap f ex h1 h2 h3 =>
    intro y hs
    cases y <;> first | exact .undef _ | (simp [AV.sub] at hs; done) | skip
    rename_i n f' ex'
    simp only [AV.sub] at hs
    obtain ⟨k1, _, k4⟩ := hs
    subst k1
    exact .rof0 a cap f' ex' h1 (fun e => h2 (k4 e)) h3
  | fn f =>
    intro y hs
    cases y <;> first | exact .undef _ | (simp [AV.sub] at hs; done) | skip
    rename_i f' a b
    simp only [AV.sub] at hs
    obtain ⟨rfl, h1, h2⟩ := hs
    have ha : a = [] := List.eq_nil_of_length_eq_zero (subL_at _ _ h1).1.symm
    have hb : b = [] := List.eq_nil_of_length_eq_zero (subL_at _ _ h2).1.symm
    subst ha; subst hb
    exact .fn _
  | agg cs l hsz hr ih =>
    intro y hs
    cases y <;> first | exact .undef _ | (simp [AV.sub] at hs; done) | skip
    rename_i m
    simp only [AV.sub] at hs
    obtain ⟨k1, k2⟩ := subL_at l m hs
    exact .agg cs m (by omega) (fun i hi => ih i (by omega) _ (k2 i hi))
  | tup cs l hsz hr ih =>
    intro y hs
    cases y <;> first | exact .undef _ | (simp [AV.sub] at hs; done) | skip
    rename_i m
    simp only [AV.sub] at hs
    obtain ⟨k1, k2⟩ := subL_at l m hs
    exact .tup cs m (by omega) (fun i hi => ih i (by omega) _ (k2 i hi))

theorem Rel.sub {ρ : Rho} {M : Mem} {v : Value} {x : AV} (h : Rel ρ M v x) : ∀ y, AV.sub x y → Rel ρ M v y := by
  induction h with
  | pure h =>
    intro y hs
    exact .pure (h.sub y hs)
  | ptr L b g i j h hi =>
    intro y hs
    cases y <;> first | exact .undef _ | (simp [AV.sub] at hs; done) | skip
    simp only [AV.sub] at hs
    split at hs
    · rename_i e
      obtain ⟨rfl, rfl, rfl⟩ := hs
      subst e
      exact .ptr L _ _ _ _ h hi
    · exact hs.elim
  | sl L b g i len cap c h hv hl hc hb hcm hn =>
    intro y hs
    cases y <;> first | exact .undef _ | (simp [AV.sub] at hs; done) | skip
    simp only [AV.sub] at hs
    split at hs
    · rename_i e
      obtain ⟨rfl, rfl, rfl, hcc⟩ := hs
      subst e
      refine .sl L _ _ _ _ cap _ h hv hl (fun k hk => ?_) hb hcm hn
      rcases hcc with e | e
      · exact hc k (e.trans hk)
      · rw [e] at hk; cases hk
    · exact hs.elim
  | slv L a b g i c h hc =>
    intro y hs
    cases y <;> first | exact .undef _ | (simp [AV.sub] at hs; done) | skip
    simp only [AV.sub] at hs
    split at hs
    · rename_i e
      obtain ⟨rfl, rfl, rfl, hcc⟩ := hs
      subst e
      refine .slv L a _ _ _ _ h (fun k hk => ?_)
      rcases hcc with e | e
      · exact hc k (e.trans hk)
      · rw [e] at hk; cases hk
    · exact hs.elim
  | fn f fs cs fl cl h1 h2 _ _ ih1 ih2 =>
    intro y hs
    cases y <;> first | exact .undef _ | (simp [AV.sub] at hs; done) | skip
    rename_i f' a b
    simp only [AV.sub] at hs
    obtain ⟨rfl, k1, k2⟩ := hs
    obtain ⟨m1, m2⟩ := subL_at _ _ k1
    obtain ⟨m3, m4⟩ := subL_at _ _ k2
    exact .fn f fs cs a b (by omega) (by omega) (fun i hi => ih1 i (by omega) _ (m2 i hi)) (fun i hi => ih2 i (by omega) _ (m4 i hi))
  | agg cs l h _ ih =>
    intro y hs
    cases y <;> first | exact .undef _ | (simp [AV.sub] at hs; done) | skip
    rename_i m
    simp only [AV.sub] at hs
    obtain ⟨k1, k2⟩ := subL_at l m hs
    exact .agg cs m (by omega) (fun i hi => ih i (by omega) _ (k2 i hi))
  | tup cs l h _ ih =>
    intro y hs
    cases y <;> first | exact .undef _ | (simp [AV.sub] at hs; done) | skip
    rename_i m
    simp only [AV.sub] at hs
    obtain ⟨k1, k2⟩ := subL_at l m hs
    exact .tup cs m (by omega) (fun i hi => ih i (by omega) _ (k2 i hi))

theorem idsBL_at {nx : Nat} : ∀ (l : List AV), AV.idsBL nx l = true → ∀ i, i < l.length → AV.idsB nx (l.getD i .undef) = true
  | [], _, i, hi => by simp at hi
  | x :: l, h, i, hi => by
    simp only [AV.idsBL, Bool.and_eq_true] at h
    cases i with
    | zero => simpa using h.1
    | succ i => simpa using idsBL_at l h.2 i (by simpa using hi)

/-- Blocks from nx on are let go. -/
theorem Rel.cut {ρ ρ' : Rho} {M : Mem} {nx : Nat} (hρ : ∀ b g L, b < nx → ρ b g = some L → ρ' b g = some L) {v : Value} {x : AV} (h : Rel ρ M v x) : AV.idsB nx x = true → Rel ρ' M v x := by
  induction h with
  | pure h => exact fun _ => .pure h
  | ptr L b g i j h hi => intro hb; simp only [AV.idsB, decide_eq_true_eq] at hb; exact .ptr L b g i j (hρ _ _ _ hb h) hi
  | sl L b g i len cap c h hv hl hc hb hcm hn => intro hx; simp only [AV.idsB, decide_eq_true_eq] at hx; exact .sl L b g i len cap c (hρ _ _ _ hx h) hv hl hc hb hcm hn
  | slv L a b g i c h hc => intro hx; simp only [AV.idsB, decide_eq_true_eq] at hx; exact .slv L a b g i c (hρ _ _ _ hx h) hc
  | fn f fs cs fl cl h1 h2 _ _ ih1 ih2 =>
    intro hx
    simp only [AV.idsB, Bool.and_eq_true] at hx
    exact .fn f fs cs fl cl h1 h2 (fun i hi => ih1 i hi (idsBL_at fl hx.1 i hi)) (fun i hi => ih2 i hi (idsBL_at cl hx.2 i hi))
  | agg cs l h _ ih => intro hx; simp only [AV.idsB] at hx; exact .agg cs l h (fun i hi => ih i hi (idsBL_at l hx i hi))
  | tup cs l h _ ih => intro hx; simp only [AV.idsB] at hx; exact .tup cs l h (fun i hi => ih i hi (idsBL_at l hx i hi))
end Pw
namespace Pw
set_option linter.unusedSimpArgs false
open Go

theorem foldl_get {α : Type} (d : α) : ∀ (l : List (Nat × α)) (t : T α), nodupKeys l = true →
    (∀ p ∈ l, (l.foldl (fun t p => t.set d p.1 p.2) t).get d p.1 = p.2) ∧ (∀ k, (∀ p ∈ l, p.1 ≠ k) → (l.foldl (fun t p => t.set d p.1 p.2) t).get d k = t.get d k)
  | [], t, _ => ⟨fun p hp => (by cases hp), fun k _ => rfl⟩
  | (b, y) :: r, t, h => by
    simp only [nodupKeys, Bool.and_eq_true, List.all_eq_true, bne_iff_ne] at h
    obtain ⟨k1, k2⟩ := foldl_get d r (t.set d b y) h.2
    refine ⟨fun p hp => ?_, fun k hk => ?_⟩
    · rcases List.mem_cons.1 hp with rfl | hp
      · simp only [List.foldl_cons]
        rw [k2 b (fun q hq => h.1 q hq), T.set_get]; simp
      · exact k1 p hp
    · simp only [List.foldl_cons]
      rw [k2 k (fun q hq => hk q (List.mem_cons_of_mem _ hq)), T.set_get]
      have := hk (b, y) (List.mem_cons_self ..)
      simp only [ne_eq] at this
      rw [if_neg (Ne.symm this)]

theorem frMeets_at {s : St} {nx : Nat} {hp' : Nat → Blk} : ∀ (l : List (Nat × AV)), Spec.frMeets s nx hp' l → ∀ p ∈ l, AV.idsB nx p.2 = true ∧ slotMeets s.nx hp' (s.tmf p.1) p.2
  | [], _, p, hp => by cases hp
  | (t, y) :: r, h, p, hp => by
    simp only [Spec.frMeets] at h
    rcases List.mem_cons.1 hp with rfl | hp
    · exact NB.inv h.1
    · exact frMeets_at r h.2 p hp
theorem hpMeets_at {s : St} {nx : Nat} : ∀ (l : List (Nat × Blk)), Spec.hpMeets s nx l → ∀ p ∈ l, Blk.idsB nx p.2 = true ∧ p.1 < nx ∧ blkMeets s.nx p.1 (s.hpf p.1) p.2
  | [], _, p, hp => by cases hp
  | (t, y) :: r, h, p, hp => by
    simp only [Spec.hpMeets] at h
    rcases List.mem_cons.1 hp with rfl | hp
    · obtain ⟨h1, h2⟩ := NB.inv h.1
      simp only [Bool.and_eq_true, decide_eq_true_eq] at h1
      exact ⟨h1.1, h1.2, h2⟩
    · exact hpMeets_at r h.2 p hp

/-- Where the blocks lie once those from nx on are let go, and those that are free below are rows of nothing. -/
def metRho (ρ : Rho) (hp' : Nat → Blk) (snx nx : Nat) : Rho := fun b g =>
  if b < nx then
    match ρ b g with
    | some L => some L
    | none => if snx ≤ b then (match hp' b with | .row g' sz _ _ => if g = g' then some ⟨0, 0, 0, sz, 0, true⟩ else none | .dead => none) else none
  else none

theorem sub_row {g sz pu s g' sz' pu' s'} (h : Blk.sub (.row g sz pu s) (.row g' sz' pu' s')) : sz = sz' ∧ g = g' ∧ (pu' = true → pu = true) ∧ s.sub' s' := by
  simp only [Blk.sub] at h
  split at h
  · exact ⟨‹_›, h⟩
  · exact h.elim

theorem sq_sub {s s' : Sq} (h : s.sub' s') : s.len = s'.len ∧ ∀ i, i < s'.len → AV.sub (s.get i) (s'.get i) ∧ (s.get i).cells.length = (s'.get i).cells.length := by
  cases s with
  | lst l =>
    cases s' with
    | lst m => exact subE_at l m h
    | fn n f =>
      refine ⟨h.1, fun i hi => ?_⟩
      have := subF_at l 0 f h.2 i (by rw [h.1]; exact hi)
      rwa [Nat.zero_add] at this
  | fn n f =>
    cases s' with
    | lst m => exact h.elim
    | fn m f' => exact ⟨h.1, fun i hi => h.2 i (by have := h.1; simp only [Sq.len] at hi; omega)⟩

/-- The ids of an element's cells. -/
theorem idsB_cell {nx : Nat} {x : AV} (h : AV.idsB nx x = true) (j : Nat) (hj : j < x.cells.length) : AV.idsB nx (x.cells.getD j .undef) = true := by
  cases x with
  | agg l => simp only [AV.idsB] at h; exact idsBL_at l h j hj
  | _ =>
    have : j = 0 := by simp [AV.cells] at hj; exact hj
    subst this
    simpa [AV.cells] using h

/-- **A STATE THAT MEETS A SPECIFICATION.** -/
theorem met_sound {U : Base} {w0 : World} {n : Nat} {ρ : Rho} {M : Mem} {s : St} {a : Act} {w : World} (h : SRel U w0 n ρ M s.tmf s.hpf s.nx a w) {p : Spec} {nx : Nat} (hm : p.met nx s) :
    SRel U w0 n (metRho ρ (p.mk' nx).hpf s.nx nx) M (p.mk' nx).tmf (p.mk' nx).hpf nx a w ∧
    (∀ b g L, b < nx → ρ b g = some L → metRho ρ (p.mk' nx).hpf s.nx nx b g = some L) ∧
    (∀ b, b < s.nx → s.hpf b = .dead → (p.mk' nx).hpf b = .dead) ∧ (∀ b g, b < s.nx → b < nx → metRho ρ (p.mk' nx).hpf s.nx nx b g = ρ b g) := by
  obtain ⟨hnd, hfr, hhp⟩ := NB.inv hm
  simp only [Bool.and_eq_true] at hnd
  have fr := frMeets_at p.fr hfr
  have hb := hpMeets_at p.hp hhp
  have getF := foldl_get AV.undef p.fr .nil hnd.1
  have getB := foldl_get Blk.dead p.hp .nil hnd.2
  have hpf_of : ∀ b, (∃ y, (b, y) ∈ p.hp ∧ (p.mk' nx).hpf b = y) ∨ ((p.mk' nx).hpf b = .dead) := by
    intro b
    by_cases hx : ∃ y, (b, y) ∈ p.hp
    · obtain ⟨y, hy⟩ := hx
      exact .inl ⟨y, hy, getB.1 (b, y) hy⟩
    · refine .inr ?_
      have := getB.2 b (fun q hq e => hx ⟨q.2, e ▸ hq⟩)
      simpa [Spec.mk', Spec.hpT, St.hpf, T.get] using this
  have hext : ∀ b g L, b < nx → ρ b g = some L → metRho ρ (p.mk' nx).hpf s.nx nx b g = some L := by
    intro b g L hlt e
    simp only [metRho, if_pos hlt, e]
  have hold : ∀ b g, b < s.nx → b < nx → metRho ρ (p.mk' nx).hpf s.nx nx b g = ρ b g := by
    intro b g h1 h2
    simp only [metRho, if_pos h2]
    cases e : ρ b g with
    | some L => rfl
    | none => simp only [if_neg (Nat.not_le.2 h1)]
  -- a row of the specification
  have row : ∀ b g sz pu sq, (p.mk' nx).hpf b = .row g sz pu sq → b < nx ∧ Blk.idsB nx (.row g sz pu sq) = true ∧
      ((∃ s0 pu0, s.hpf b = .row g sz pu0 s0 ∧ (pu = true → pu0 = true) ∧ s0.sub' sq) ∨ (s.nx ≤ b ∧ pu = true ∧ 1 ≤ sz ∧ sq.len = 0)) := by
    intro b g sz pu sq hr
    rcases hpf_of b with ⟨y, hy, e⟩ | e
    · rw [hr] at e
      subst e
      obtain ⟨k1, k2, k3⟩ := hb _ hy
      refine ⟨k2, k1, ?_⟩
      simp only at k3
      cases e0 : s.hpf b with
      | dead =>
        rw [e0] at k3
        simp only [blkMeets] at k3
        obtain ⟨m1, m2⟩ := NB.inv k3
        simp only [Bool.and_eq_true, decide_eq_true_eq] at m1
        exact .inr ⟨m1.1.1, m1.1.2, m1.2, m2⟩
      | row g0 sz0 pu0 s0 =>
        rw [e0] at k3
        simp only [blkMeets] at k3
        obtain ⟨rfl, rfl, m3, m4⟩ := sub_row k3
        exact .inl ⟨s0, pu0, rfl, m3, m4⟩
    · rw [hr] at e; cases e
  have virt : ∀ b g sz pu sq, (p.mk' nx).hpf b = .row g sz pu sq → s.nx ≤ b → b < nx → metRho ρ (p.mk' nx).hpf s.nx nx b g = some ⟨0, 0, 0, sz, 0, true⟩ := by
    intro b g sz pu sq hr h1 h2
    simp only [metRho, if_pos h2, h.free b g h1, if_pos h1, hr, if_true]
  have live : ∀ b g sz pu sq L, (p.mk' nx).hpf b = .row g sz pu sq → metRho ρ (p.mk' nx).hpf s.nx nx b g = some L → L.virt = false → ∃ s0 pu0, s.hpf b = .row g sz pu0 s0 ∧ ρ b g = some L := by
    intro b g sz pu sq L hr hL hv
    obtain ⟨k1, k2, k3⟩ := row b g sz pu sq hr
    rcases k3 with ⟨s0, pu0, k4, _⟩ | ⟨k4, _⟩
    · obtain ⟨L0, e, _⟩ := h.hok.row b g sz pu0 s0 k4
      rw [hext b g L0 k1 e] at hL
      cases hL
      exact ⟨s0, pu0, k4, e⟩
    · rw [virt b g sz pu sq hr k4 k1] at hL
      cases hL
      cases hv
  refine ⟨⟨h.size, fun t => ?_, ⟨h.hok.mem, fun b g sz pu sq hr => ?_, ?_, fun b g sz pu sq hr g' hg' => ?_⟩, fun b hbb => ?_, fun b g hbb => ?_, h.keep, h.memN, h.memE, ?_, h.defers⟩, hext, fun b h1 h2 => ?_, hold⟩
  · -- slots
    by_cases hx : ∃ y, (t, y) ∈ p.fr
    · obtain ⟨y, hy⟩ := hx
      have e : (p.mk' nx).tmf t = y := getF.1 (t, y) hy
      rw [e]
      obtain ⟨k1, k2⟩ := fr _ hy
      have hrel := h.tm t
      simp only at k1 k2
      have plain : AV.sub (s.tmf t) y → Rel (metRho ρ (p.mk' nx).hpf s.nx nx) M (a.tmps.getD t Go.undef) y := fun hs => (hrel.sub y hs).cut hext k1
      generalize hxx : s.tmf t = x at k2 hrel plain
      by_cases hn : x = .nils
      · subst hn
        cases y <;> first | exact plain k2 | skip
        rename_i b g i len cc
        simp only [slotMeets] at k2
        obtain ⟨m1, m2⟩ := NB.inv k2
        simp only [Bool.and_eq_true, decide_eq_true_eq] at m1
        obtain ⟨⟨m3, rfl⟩, m5⟩ := m1
        obtain ⟨m2, m6⟩ := m2
        have hc : cc = none := by cases cc <;> simp_all
        subst hc
        subst m2
        cases hr : (p.mk' nx).hpf b with
        | dead => rw [hr] at m6; cases m6
        | row g' sz' pu' s' =>
          rw [hr] at m6
          obtain ⟨rfl, _⟩ := m6
          have hlt : b < nx := by simpa [AV.idsB] using k1
          have hnil : ∀ v, Rel ρ M v .nils → v = .slice none 0 0 := fun v hr => by cases hr with | pure hr => cases hr; rfl
          have hv := hnil _ hrel
          rw [hv]
          exact .slv _ none b g 0 none (virt b g sz' pu' s' hr m3 hlt) (by simp)
      · have : AV.sub x y := by
          cases x <;> first | exact absurd rfl hn | exact k2
        exact plain this
    · have e : (p.mk' nx).tmf t = .undef := by
        have := getF.2 t (fun q hq e => hx ⟨q.2, e ▸ hq⟩)
        simpa [Spec.mk', Spec.tmT, St.tmf, T.get] using this
      rw [e]; exact .undef _
  · obtain ⟨k1, k2, k3⟩ := row b g sz pu sq hr
    rcases k3 with ⟨s0, pu0, k4, k5, k6⟩ | ⟨k4, k5, k6, k7⟩
    · obtain ⟨L, e1, e2, e3, e4⟩ := h.hok.row b g sz pu0 s0 k4
      obtain ⟨m1, m2⟩ := sq_sub k6
      refine ⟨L, hext b g L k1 e1, e2, by rw [← m1]; exact e3, ?_⟩
      rw [← m1]
      rcases e4 with e4 | ⟨hv, c, e, h5, h6, h7, h8, h9⟩
      · exact .inl e4
      · refine .inr ⟨hv, c, e, h5, h6, h7, h8, fun i hi => ?_⟩
        obtain ⟨q1, q2⟩ := h9 i hi
        obtain ⟨m3, m4⟩ := m2 i (by omega)
        refine ⟨by omega, fun j hj => ?_⟩
        obtain ⟨v, r1, r2, r3, r4⟩ := q2 j hj
        have hsub := sub_cells m3 m4 j (by omega)
        have hpure : pu = true → RelP M v ((sq.get i).cells.getD j .undef) := fun hp => (r4 (k5 hp)).sub _ hsub
        refine ⟨v, r1, r2, ?_, hpure⟩
        cases pu with
        | true => exact .pure (hpure rfl)
        | false =>
          cases sq with
          | lst l =>
            refine (r3.sub _ hsub).cut hext ?_
            simp only [Blk.idsB] at k2
            have hle : (Sq.lst l).len = l.length := rfl
            have := idsBL_at l k2 i (by omega)
            exact idsB_cell this j (by have hge : (Sq.lst l).get i = l.getD i .undef := rfl; rw [← hge]; omega)
          | fn n f => simp [Blk.idsB] at k2
    · exact ⟨_, virt b g sz pu sq hr k4 k1, rfl, ⟨k6, k7⟩, .inl ⟨rfl, k7⟩⟩
  · intro b b' g g' sz sz' pu pu' s1 s2 L L' h1 h2 e1 e2 v1 v2 hB
    obtain ⟨s0, pu0, q1, q2⟩ := live b g sz pu s1 L h1 e1 v1
    obtain ⟨s0', pu0', q3, q4⟩ := live b' g' sz' pu' s2 L' h2 e2 v2
    exact h.hok.inj b b' g g' sz sz' pu0 pu0' s0 s0' L L' q1 q3 q2 q4 v1 v2 hB
  · obtain ⟨k1, k2, k3⟩ := row b g sz pu sq hr
    rcases k3 with ⟨s0, pu0, k4, _⟩ | ⟨k4, _⟩
    · have hlt : b < s.nx := by
        rcases Nat.lt_or_ge b s.nx with h1 | h1
        · exact h1
        · rw [h.dead b h1] at k4; cases k4
      rw [hold b g' hlt k1]
      exact h.hok.gen b g sz pu0 s0 k4 g' hg'
    · simp only [metRho, if_pos k1, h.free b g' k4, if_pos k4, hr]
      rw [if_neg (by omega)]
  · cases hr : (p.mk' nx).hpf b with
    | dead => rfl
    | row g sz pu sq => have := (row b g sz pu sq hr).1; omega
  · simp only [metRho]
    rw [if_neg (by omega)]
  · intro b g sz pu sq L hr hL hv hU
    obtain ⟨s0, pu0, q1, q2⟩ := live b g sz pu sq L hr hL hv
    exact h.own b g sz pu0 s0 L q1 q2 hv hU
  · cases hr : (p.mk' nx).hpf b with
    | dead => rfl
    | row g sz pu sq =>
      obtain ⟨k1, k2, k3⟩ := row b g sz pu sq hr
      rcases k3 with ⟨s0, pu0, k4, _⟩ | ⟨k4, _⟩
      · rw [h2] at k4; cases k4
      · omega
end Pw
namespace Pw
set_option linter.unusedSimpArgs false
open Go

def exOf : Ex → Exit
  | .normal => .normal
  | .exit id => .exit id
  | .ret => .ret

/-- What code leads to. -/
def CodeK (U : Base) (w0 : World) (n : Nat) (ρ : Rho) (M : Mem) (s : St) (K : Ex → St → VT) (Q : Exit → Act → World → Prop) : Prop :=
  ∀ ex s' ρ' M' a' w', Grow ρ ρ' s.hpf s'.hpf s.nx s'.nx → MExt M M' → SRel U w0 n ρ' M' s'.tmf s'.hpf s'.nx a' w' → (K ex s').sat → Q (exOf ex) a' w'

theorem CodeK.trans {U w0 n ρ ρ1 M M1} {s s1 : St} {K Q} (h : CodeK U w0 n ρ M s K Q) (hg : Grow ρ ρ1 s.hpf s1.hpf s.nx s1.nx) (hM : MExt M M1) : CodeK U w0 n ρ1 M1 s1 K Q :=
  fun ex s' ρ' M' a' w' k1 k2 k3 k4 => h ex s' ρ' M' a' w' (hg.trans k1) (hM.trans k2) k3 k4

section
variable {E : Env} {call : CallH} (hm : E.P.follows .mixedOrders = true) (hc : CallS E.P E.gl call) (hctr : CtrOK E) {U : Base} {w0 : World} {n : Nat} (hG : GlobOK U.M0 E.gl) (f : FuncId)
include hm hc hctr hG

/-- **CODE.** -/
theorem vcCode_sound : ∀ (c : Code) (lk : Option Nat) (K : Ex → St → VT) (s : St) (ρ : Rho) (M : Mem) (a : Act) (w : World) (Q : Exit → Act → World → Prop), (vcCode E n f call c lk K s).sat → SRel U w0 n ρ M s.tmf s.hpf s.nx a w →
    CodeK U w0 n ρ M s K Q → c.wp E.P Q a w
  | .skip, lk, K, s, ρ, M, a, w, Q, hs, h, hK => wp_skip (hK .normal s ρ M a w (Grow.refl _ _ _) (MExt.refl M) h hs)
  | .label _, lk, K, s, ρ, M, a, w, Q, hs, h, hK => wp_label (hK .normal s ρ M a w (Grow.refl _ _ _) (MExt.refl M) h hs)
  | .ret, lk, K, s, ρ, M, a, w, Q, hs, h, hK => wp_ret (hK .ret s ρ M a w (Grow.refl _ _ _) (MExt.refl M) h hs)
  | .exit id, lk, K, s, ρ, M, a, w, Q, hs, h, hK => wp_exit (hK (.exit id) s ρ M a w (Grow.refl _ _ _) (MExt.refl M) h hs)
  | .region id ops dr, lk, K, s, ρ, M, a, w, Q, hs, h, hK => vcRegion_sound hm hc hctr hG hs h (fun s' ρ' M' a' w' k1 k2 k3 k4 => hK .normal s' ρ' M' a' w' k1 k2 k3 k4)
  | .seq x y, lk, K, s, ρ, M, a, w, Q, hs, h, hK => by
    simp only [vcCode] at hs
    split at hs
    · rename_i I _
      simp only [VT.sat] at hs
      obtain ⟨hs1, hall⟩ := hs
      refine wp_seq (vcCode_sound x none _ s ρ M a w _ hs1 h fun ex s' ρ' M' a' w' k1 k2 k3 k4 => ?_)
      cases ex with
      | normal =>
        obtain ⟨hle, i, hi, hmet⟩ := NB.inv k4
        have hle : s'.nx ≤ I.nx := by simpa using hle
        have free : ∀ b g L, ρ' b g = some L → b < s'.nx := fun b g L e => by
          rcases Nat.lt_or_ge b s'.nx with h1 | h1
          · exact h1
          · rw [k3.free b g h1] at e; cases e
        obtain ⟨m1, m2, m3, m4⟩ := met_sound k3 hmet
        exact vcCode_sound y none K ((I.st i).mk' I.nx) _ M' a' w' Q (hall i hi) m1
          (hK.trans (k1.trans ⟨⟨fun b g L e => m2 b g L (Nat.lt_of_lt_of_le (free b g L e) hle) e, fun b g h1 _ => m4 b g h1 (Nat.lt_of_lt_of_le h1 hle)⟩, hle, m3⟩) k2)
      | exit id => exact hK (.exit id) s' ρ' M' a' w' k1 k2 k3 k4
      | ret => exact hK .ret s' ρ' M' a' w' k1 k2 k3 k4
    · refine wp_seq (vcCode_sound x none _ s ρ M a w _ hs h fun ex s' ρ' M' a' w' k1 k2 k3 k4 => ?_)
      cases ex with
      | normal => exact vcCode_sound y none K s' ρ' M' a' w' Q k4 k3 (hK.trans k1 k2)
      | exit id => exact hK (.exit id) s' ρ' M' a' w' k1 k2 k3 k4
      | ret => exact hK .ret s' ρ' M' a' w' k1 k2 k3 k4
  | .cond c x y, lk, K, s, ρ, M, a, w, Q, hs, h, hK => by
    simp only [vcCode] at hs
    split at hs
    · rename_i t ht
      have hcond : a.eval c = .bool t := by
        have : Rel ρ M (a.eval c) (evOf E.gl s.tmf c) := by
          cases c with
          | tmp t => exact h.tm t
          | const v => exact .pure (avOf_rel M v)
          | global g => exact .pure ((hG g).mono h.memE)
          | func f => exact .pure (.fn _)
        rw [ht] at this
        exact this.boolInv
      rcases VB.inv hs with ⟨hb, hs⟩ | ⟨hb, hs⟩
      · subst hb; exact wp_cond_true hcond (vcCode_sound x none K s ρ M a w Q hs h hK)
      · subst hb; exact wp_cond_false hcond (vcCode_sound y none K s ρ M a w Q hs h hK)
    · exact hs.elim
  | .block id c, lk, K, s, ρ, M, a, w, Q, hs, h, hK => by
    refine wp_block (vcCode_sound c (some id) _ s ρ M a w _ hs h fun ex s' ρ' M' a' w' k1 k2 k3 k4 => ?_)
    cases ex with
    | normal => exact hK .normal s' ρ' M' a' w' k1 k2 k3 k4
    | exit id' =>
      simp only [exOf, Exit.inBlock]
      simp only at k4
      split
      · rename_i e
        rw [if_pos e] at k4
        exact hK .normal s' ρ' M' a' w' k1 k2 k3 k4
      · rename_i e
        rw [if_neg e] at k4
        exact hK (.exit id') s' ρ' M' a' w' k1 k2 k3 k4
    | ret => exact hK .ret s' ρ' M' a' w' k1 k2 k3 k4
  | .scope c, lk, K, s, ρ, M, a, w, Q, hs, h, hK => by
    refine wp_scope_straight (vcCode_sound c none K s ρ M a w _ hs h fun ex s' ρ' M' a' w' k1 k2 k3 k4 => ?_)
    have := hK ex s' ρ' M' a' w' k1 k2 k3 k4
    cases ex <;> exact this
  | .loop c, lk, K, s, ρ, M, a, w, Q, hs, h, hK => by
    simp only [vcCode] at hs
    split at hs
    · rename_i I _
      simp only [VT.sat] at hs
      obtain ⟨hle, ⟨i0, hi0, hm0⟩, hall⟩ := NB.inv hs
      have hle : s.nx ≤ I.nx := by simpa using hle
      have free : ∀ {ρ : Rho} {M : Mem} {s : St} {a : Act} {w : World}, SRel U w0 n ρ M s.tmf s.hpf s.nx a w → ∀ b g L, ρ b g = some L → b < s.nx := fun hh b g L e => by
        rcases Nat.lt_or_ge b _ with h1 | h1
        · exact h1
        · rw [hh.free b g h1] at e; cases e
      let J : Nat → Act → World → Prop := fun k a w => ∃ i ρ' M', I.pre i ∧ I.μ i = k ∧ Grow ρ ρ' s.hpf ((I.st i).mk' I.nx).hpf s.nx I.nx ∧ MExt M M' ∧ SRel U w0 n ρ' M' ((I.st i).mk' I.nx).tmf ((I.st i).mk' I.nx).hpf I.nx a w
      refine wp_loop_ghost J (I.μ i0) ?_ ?_
      · obtain ⟨k1, k2, k3, k4⟩ := met_sound h hm0
        refine ⟨i0, _, M, hi0, rfl, ⟨⟨fun b g L e => k2 b g L (Nat.lt_of_lt_of_le (free h b g L e) hle) e, fun b g h1 _ => k4 b g h1 (Nat.lt_of_lt_of_le h1 hle)⟩, hle, k3⟩, MExt.refl M, k1⟩
      · rintro k a w ⟨i, ρ1, M1, hi, rfl, hg, hM, hS⟩
        refine vcCode_sound c none _ ((I.st i).mk' I.nx) ρ1 M1 a w _ (hall i hi) hS fun ex s' ρ' M' a' w' k1 k2 k3 k4 => ?_
        cases ex with
        | normal =>
          obtain ⟨i', hi', hmu, hmet⟩ := k4
          obtain ⟨m1, m2, m3, m4⟩ := met_sound k3 hmet
          have hnx : I.nx ≤ s'.nx := k1.le
          refine ⟨I.μ i', hmu, i', _, M', hi', rfl, hg.trans ⟨⟨fun b g L e => ?_, fun b g h1 h2 => ?_⟩, Nat.le_refl _, fun b h1 h2 => ?_⟩, hM.trans k2, m1⟩
          · have hb : b < I.nx := free (s := (I.st i).mk' I.nx) hS b g L e
            exact m2 b g L hb (k1.rx.ext b g L e)
          · rw [m4 b g (Nat.lt_of_lt_of_le h1 hnx) h1]
            exact k1.rx.dead b g h1 h2
          · exact m3 b (Nat.lt_of_lt_of_le h1 hnx) (k1.dead b h1 h2)
        | exit id => exact hK (.exit id) s' ρ' M' a' w' (hg.trans k1) (hM.trans k2) k3 k4
        | ret => exact hK .ret s' ρ' M' a' w' (hg.trans k1) (hM.trans k2) k3 k4
    · refine wp_loop_rounds E.fuelL ?_
      have : ∀ (k : Nat) (s : St) (ρ : Rho) (M : Mem) (a : Act) (w : World), (unroll (fun K' s' => vcCode E n f call c none K' s') k K s).sat → SRel U w0 n ρ M s.tmf s.hpf s.nx a w → CodeK U w0 n ρ M s K Q → Code.rounds E.P c Q k a w := by
        intro k
        induction k with
        | zero => intro s ρ M a w hs; exact hs.elim
        | succ k ih =>
          intro s ρ M a w hs h hK
          rw [rounds_succ]
          refine vcCode_sound c none _ s ρ M a w _ hs h fun ex s' ρ' M' a' w' k1 k2 k3 k4 => ?_
          cases ex with
          | normal => exact ih s' ρ' M' a' w' k4 k3 (hK.trans k1 k2)
          | exit id => exact hK (.exit id) s' ρ' M' a' w' k1 k2 k3 k4
          | ret => exact hK .ret s' ρ' M' a' w' k1 k2 k3 k4
      exact this E.fuelL s ρ M a w hs h hK
  | .goto .., lk, K, s, ρ, M, a, w, Q, hs, h, hK => hs.elim
  | .refuse .., lk, K, s, ρ, M, a, w, Q, hs, h, hK => hs.elim
end
end Pw
namespace Pw
set_option linter.unusedSimpArgs false
open Go

def resRun (tmps : Array Value) : ResultVar → Sem Value
  | .tmp t => pure (tmps.getD t Go.undef)
  | .cell a t => do loadVar t (← asAddr (tmps.getD a Go.undef))

theorem mapM_run {α : Type} (g : α → Sem Value) (P : Program) (w : World) : ∀ (l : List α) (us : List Value), us.length = l.length → (∀ (i : Nat) x u, l[i]? = some x → us[i]? = some u → (g x).run P w = .ok u w) → (l.mapM g).run P w = .ok us w
  | [], [], _, _ => by simp
  | [], _ :: _, h, _ => by simp at h
  | _ :: _, [], h, _ => by simp at h
  | x :: l, u :: us, h, hr => by
    rw [List.mapM_cons]
    have h0 := hr 0 x u rfl rfl
    have h1 := mapM_run g P w l us (by simpa using h) (fun i x u hx hu => hr (i + 1) x u (by simpa using hx) (by simpa using hu))
    simp [h0, h1]

def tupV : List Value → Value
  | [u] => u
  | us => .tuple us.toArray

theorem results_run {P : Program} {w : World} {fn : Func} {tmps : Array Value} {us : List Value} (hl : us.length = fn.results.toList.length)
    (hr : ∀ (i : Nat) x u, fn.results.toList[i]? = some x → us[i]? = some u → (resRun tmps x).run P w = .ok u w) : (results fn tmps).run P w = .ok (tupV us) w := by
  have h1 := mapM_run (resRun tmps) P w fn.results.toList us hl hr
  have h2 : (fn.results.mapM (resRun tmps)).run P w = .ok us.toArray w := by
    rw [Array.mapM_eq_mapM_toList]
    simp [h1]
  have e : results fn tmps = (do let vs ← fn.results.mapM (resRun tmps); pure (if h : vs.size = 1 then vs[0] else .tuple vs)) := by
    unfold results
    congr 1
  rw [e, Sem.run_bind, h2]
  simp only [Result.andThen_ok, Sem.run_pure]
  congr 1
  match us with
  | [] => rfl
  | [u] => rfl
  | u :: v :: r => simp [tupV]

section
variable {E : Env} {U : Base} {w0 : World} {n : Nat} {ρ : Rho} {M : Mem} {tm : Nat → AV} {hp : Nat → Blk} {nx : Nat} {a : Act} {w : World}

theorem load_val {P : Program} (t : TypeId) (x : AV) (B off j : Nat) (vals : Nat → Value) {v : AV}
    (hp' : partAV P t x j = some v) (hv : ∀ k, k < x.cells.length → w.cell? ⟨B, off + k, none⟩ = some (vals k) ∧ Rel ρ M (vals k) (x.cells.getD k .undef)) :
    ∃ u, (loadVar t ⟨B, off + j, none⟩).run P w = .ok u w ∧ Rel ρ M u v := by
  obtain ⟨hu, hc⟩ := rel_part (P := P) (ρ := ρ) (M := M) t j vals hp' (fun k hk => (hv k hk).2)
  rcases hc with ⟨ha, hle, hr⟩ | ⟨ha, hlt, hr⟩
  · refine ⟨_, ?_, hr⟩
    have := run_loadVar (P := P) (w := w) t hu B (off + j) (fun k => vals (j + k)) (fun k hk => by
      have := (hv (j + k) (by omega)).1
      rwa [← Nat.add_assoc] at this) (.inl ha)
    rw [ha, if_pos rfl] at this
    exact this
  · refine ⟨_, ?_, hr⟩
    have hcell := (hv j hlt).1
    obtain ⟨d, hu⟩ := hu
    unfold loadVar
    rw [Sem.run_bind, eq_isAgg w hu, ha]
    simp only [Result.andThen_ok, Bool.false_eq_true, if_false]
    rw [run_load]
    simp [hcell]

theorem res_run {s : St} (h : SRel U w0 n ρ M s.tmf s.hpf s.nx a w) (x : ResultVar) {v : AV} (hx : resAV E s x = some v) : ∃ u, (resRun a.tmps x).run E.P w = .ok u w ∧ Rel ρ M u v := by
  cases x with
  | tmp t =>
    simp only [resAV, Option.some.injEq] at hx
    subst hx
    exact ⟨_, by simp [resRun], h.tm t⟩
  | cell ad t =>
    simp only [resAV] at hx
    split at hx
    · rename_i b g i j hptr
      have hrel := h.tm ad
      rw [show s.tmf ad = .ptr b g i j from hptr] at hrel
      obtain ⟨L, hL, hq, hi⟩ := hrel.ptrInv
      split at hx
      · rename_i g' sz pu q hb
        split at hx
        · rename_i hg
          subst hg
          split at hx
          · rename_i hlt
            obtain ⟨L', e1, e2, hv, vals, e4, e5⟩ := row_cells h hb i (by simpa using hlt)
            rw [hL] at e1; cases e1
            obtain ⟨u, hu, hr⟩ := load_val t (q.get i) L.B (L.o + i * L.sz) j vals hx e5
            refine ⟨u, ?_, hr⟩
            simp only [resRun, Sem.run_bind, hq]
            simp [asAddr, hu]
          · cases hx
        · cases hx
      · cases hx
    · cases hx

theorem res_runs {s : St} (h : SRel U w0 n ρ M s.tmf s.hpf s.nx a w) : ∀ (l : List ResultVar) (vs : List AV), resAVs E s l = some vs →
    ∃ us : List Value, us.length = l.length ∧ vs.length = l.length ∧ (∀ (i : Nat) x u, l[i]? = some x → us[i]? = some u → (resRun a.tmps x).run E.P w = .ok u w) ∧ ∀ i, i < us.length → Rel ρ M (us.getD i Go.undef) (vs.getD i .undef)
  | [], vs, hv => by
    simp only [resAVs, Option.some.injEq] at hv
    subst hv
    exact ⟨[], rfl, rfl, fun i x u hx => by simp at hx, fun i hi => by simp at hi⟩
  | x :: l, vs, hv => by
    simp only [resAVs] at hv
    split at hv
    · rename_i v r hx hr
      simp only [Option.some.injEq] at hv
      subst hv
      obtain ⟨u, hu1, hu2⟩ := res_run h x hx
      obtain ⟨us, k1, k2, k3, k4⟩ := res_runs h l r hr
      refine ⟨u :: us, by simp [k1], by simp [k2], fun i y z hy hz => ?_, fun i hi => ?_⟩
      · cases i with
        | zero => simp at hy hz; subst hy; subst hz; exact hu1
        | succ i => exact k3 i y z (by simpa using hy) (by simpa using hz)
      · cases i with
        | zero => simpa using hu2
        | succ i => simpa using k4 i (by simpa using hi)
    · cases hv

theorem tup_rel {us : List Value} {vs : List AV} (hl : us.length = vs.length) (h : ∀ i, i < us.length → Rel ρ M (us.getD i Go.undef) (vs.getD i .undef)) : Rel ρ M (tupV us) (tupAV vs) := by
  have gen : ∀ (us : List Value) (vs : List AV), us.length = vs.length → (∀ i, i < us.length → Rel ρ M (us.getD i Go.undef) (vs.getD i .undef)) → Rel ρ M (.tuple us.toArray) (.tup vs) := by
    intro us vs hl h
    refine .tup _ _ (by simpa using hl) (fun i hi => ?_)
    have := h i (by omega)
    have hi' : i < us.length := by omega
    simpa [hi'] using this
  match us, vs, hl, h with
  | [], [], hl, h => exact gen [] [] hl h
  | [u], [v], hl, h =>
    show Rel ρ M u v
    simpa using h 0 (by simp)
  | u :: u' :: us, v :: v' :: vs, hl, h => exact gen _ _ hl h

theorem argsK_eq (cl : Bool) : ∀ (l : List AV) (tm : T AV) (k : Nat), ∃ tm', (∀ K : T AV → VT, argsK cl tm l k K = K tm') ∧ ∀ t, tm'.get .undef t = if k ≤ t ∧ t < k + l.length then (l.getD (t - k) .undef).norm cl else tm.get .undef t
  | [], tm, k => ⟨tm, fun _ => rfl, fun t => by
      rw [if_neg]; simp only [List.length_nil]; omega⟩
  | x :: r, tm, k => by
    simp only [argsK, AV.force_eq, T.setK_eq]
    obtain ⟨tm', h1, h2⟩ := argsK_eq cl r (tm.set .undef k (x.norm cl)) (k + 1)
    refine ⟨tm', h1, fun t => ?_⟩
    rw [h2 t]
    by_cases e : t = k
    · subst e
      rw [if_neg (by omega), T.set_get, if_pos rfl, if_pos (by simp)]
      simp
    · by_cases hin : k + 1 ≤ t ∧ t < k + 1 + r.length
      · rw [if_pos hin, if_pos (by simp only [List.length_cons]; omega)]
        have : t - k = (t - (k + 1)) + 1 := by omega
        rw [this]
        simp
      · rw [if_neg hin, T.set_get, if_neg e, if_neg (by simp only [List.length_cons]; omega)]

/-- **FUNCTIONS.** -/
theorem vcFun_sound (hm : E.P.follows .mixedOrders = true) (hctr : CtrOK E) : ∀ (k : Nat), CallS E.P E.gl (vcFun E k) := by
  intro k
  induction k with
  | zero => intro f args hp nx K hs; exact hs.elim
  | succ k ih =>
    intro f args hp nx K hs U w0 n ρ M tm a w vals hG h hargs
    unfold vcFun at hs
    simp only at hs
    split at hs
    · rename_i fn hfn
      split at hs
      · rename_i c hbody
        split at hs
        · rename_i hchk
          simp only [Bool.and_eq_true, decide_eq_true_eq, Bool.not_eq_true'] at hchk
          obtain ⟨tm', h1, h2⟩ := argsK_eq E.cl args .nil 0
          rw [h1] at hs
          refine ⟨⟨fn, hfn, by simp [hbody], hchk.2⟩, calls_of_wp hfn hbody ?_⟩
          have hcall : CallS E.P E.gl (fun g as hp nx K => match E.ctr g as (fun b => hp.get .dead b) nx with
            | some out => outVT E.cl hp nx K out
            | none => vcFun E k g as hp nx K) := by
            intro g as hp nx K hs U w0 n ρ M tm a w vals hG h hargs
            simp only at hs
            split at hs
            · rename_i out ho
              exact out_call out hs (hctr g as _ nx out ho U w0 n ρ M tm a w vals hG h hargs)
            · exact ih g as hp nx K hs U w0 n ρ M tm a w vals hG h hargs
          have hstart : SRel U w0 fn.ntmps ρ M (St.tmf ⟨tm', hp, nx⟩) (St.hpf ⟨tm', hp, nx⟩) nx { tmps := vals ++ Array.replicate (fn.ntmps - vals.size) Go.undef, defers := [] } w := by
            refine ⟨?_, fun t => ?_, h.hok, h.dead, h.free, h.keep, h.memN, h.memE, h.own, rfl⟩
            · simp only [Array.size_append, Array.size_replicate, hargs.1]; omega
            · show Rel ρ M _ (tm'.get .undef t)
              rw [h2 t]
              split
              · rename_i hin
                have hlt : t < vals.size := by rw [hargs.1]; omega
                have := hargs.2 t (by omega)
                have e : (vals ++ Array.replicate (fn.ntmps - vals.size) Go.undef).getD t Go.undef = vals.getD t Go.undef := by
                  rw [Array.getD_eq_getD_getElem?, Array.getElem?_append_left hlt, Array.getD_eq_getD_getElem?]
                rw [e]
                simpa using this.norm E.cl
              · simp only [T.get]; exact .undef _
          refine vcCode_sound hm hcall hctr hG f c none _ _ ρ M _ w _ hs hstart ?_
          intro ex s' ρ' M' a' w' k1 k2 k3 k4
          have fin : (match resAVs E s' fn.results.toList with
                | some l => (tupAV l).force E.cl fun v => K v s'.hp s'.nx
                | none => (VT.fail 16 "")).sat → ∃ v, (results fn a'.tmps).run E.P w' = .ok v w' ∧ CallPost U w0 n ρ M tm (fun b => hp.get .dead b) nx a (fun x hp' nx' _ _ => ∃ hpt : T Blk, (∀ b, hpt.get .dead b = hp' b) ∧ (K x hpt nx').sat) (.returned v) w' := by
            intro hf
            split at hf
            · rename_i l hres
              rw [AV.force_eq] at hf
              obtain ⟨us, m1, m2, m3, m4⟩ := res_runs k3 _ l hres
              refine ⟨tupV us, results_run m1 m3, tupV us, (tupAV l).norm E.cl, ρ', M', s'.hpf, s'.nx, rfl, k1, k2, (tup_rel (by omega) m4).norm E.cl, ?_, s'.hp, fun _ => rfl, hf⟩
              exact ⟨h.size, fun t => (h.tm t).mono k1.rx.ext k2, k3.hok, k3.dead, k3.free, k3.keep, k3.memN, k3.memE, k3.own, h.defers⟩
            · exact hf.elim
          cases ex with
          | normal => exact ⟨k3.defers, fin k4⟩
          | ret => exact ⟨k3.defers, fin k4⟩
          | exit id => exact k4.elim
        · exact hs.elim
      · exact hs.elim
    · exact hs.elim
end
end Pw
