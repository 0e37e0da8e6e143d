/- ENGINE, part F11: states that meet a specification. -/
import Derived.Test.YtjkkkldkimdajaaDoorPwF10
namespace Pw
set_option linter.unusedSimpArgs false
open Go

theorem foldl_get {α : Type} (d : α) : ∀ (l : List (Nat × α)) (t : T α), nodupKeys l = true →
    (∀ p ∈ l, (l.foldl (fun t p => t.set d p.1 p.2) t).get d p.1 = p.2) ∧ (∀ k, (∀ p ∈ l, p.1 ≠ k) → (l.foldl (fun t p => t.set d p.1 p.2) t).get d k = t.get d k)
  | [], t, _ => ⟨fun p hp => (by cases hp), fun k _ => rfl⟩
  | (b, y) :: r, t, h => by
    simp only [nodupKeys, Bool.and_eq_true, List.all_eq_true, bne_iff_ne] at h
    obtain ⟨k1, k2⟩ := foldl_get d r (t.set d b y) h.2
    refine ⟨fun p hp => ?_, fun k hk => ?_⟩
    · rcases List.mem_cons.1 hp with rfl | hp
      · simp only [List.foldl_cons]
        rw [k2 b (fun q hq => h.1 q hq), T.set_get]; simp
      · exact k1 p hp
    · simp only [List.foldl_cons]
      rw [k2 k (fun q hq => hk q (List.mem_cons_of_mem _ hq)), T.set_get]
      have := hk (b, y) (List.mem_cons_self ..)
      simp only [ne_eq] at this
      rw [if_neg (Ne.symm this)]

theorem frMeets_at {s : St} {nx : Nat} {hp' : Nat → Blk} : ∀ (l : List (Nat × AV)), Spec.frMeets s nx hp' l → ∀ p ∈ l, AV.idsB nx p.2 = true ∧ slotMeets s.nx hp' (s.tmf p.1) p.2
  | [], _, p, hp => by cases hp
  | (t, y) :: r, h, p, hp => by
    simp only [Spec.frMeets] at h
    rcases List.mem_cons.1 hp with rfl | hp
    · exact NB.inv h.1
    · exact frMeets_at r h.2 p hp
theorem hpMeets_at {s : St} {nx : Nat} : ∀ (l : List (Nat × Blk)), Spec.hpMeets s nx l → ∀ p ∈ l, Blk.idsB nx p.2 = true ∧ p.1 < nx ∧ blkMeets s.nx p.1 (s.hpf p.1) p.2
  | [], _, p, hp => by cases hp
  | (t, y) :: r, h, p, hp => by
    simp only [Spec.hpMeets] at h
    rcases List.mem_cons.1 hp with rfl | hp
    · obtain ⟨h1, h2⟩ := NB.inv h.1
      simp only [Bool.and_eq_true, decide_eq_true_eq] at h1
      exact ⟨h1.1, h1.2, h2⟩
    · exact hpMeets_at r h.2 p hp

/-- Where the blocks lie once those from nx on are let go, and those that are free below are rows of nothing. -/
def metRho (ρ : Rho) (hp' : Nat → Blk) (snx nx : Nat) : Rho := fun b g =>
  if b < nx then
    match ρ b g with
    | some L => some L
    | none => if snx ≤ b then (match hp' b with | .row g' sz _ _ => if g = g' then some ⟨0, 0, 0, sz, 0, true⟩ else none | .dead => none) else none
  else none

theorem sub_row {g sz pu s g' sz' pu' s'} (h : Blk.sub (.row g sz pu s) (.row g' sz' pu' s')) : sz = sz' ∧ g = g' ∧ (pu' = true → pu = true) ∧ s.sub' s' := by
  simp only [Blk.sub] at h
  split at h
  · exact ⟨‹_›, h⟩
  · exact h.elim

theorem sq_sub {s s' : Sq} (h : s.sub' s') : s.len = s'.len ∧ ∀ i, i < s'.len → AV.sub (s.get i) (s'.get i) ∧ (s.get i).cells.length = (s'.get i).cells.length := by
  cases s with
  | lst l =>
    cases s' with
    | lst m => exact subE_at l m h
    | fn n f =>
      refine ⟨h.1, fun i hi => ?_⟩
      have := subF_at l 0 f h.2 i (by rw [h.1]; exact hi)
      rwa [Nat.zero_add] at this
  | fn n f =>
    cases s' with
    | lst m => exact h.elim
    | fn m f' => exact ⟨h.1, fun i hi => h.2 i (by have := h.1; simp only [Sq.len] at hi; omega)⟩

/-- The ids of an element's cells. -/
theorem idsB_cell {nx : Nat} {x : AV} (h : AV.idsB nx x = true) (j : Nat) (hj : j < x.cells.length) : AV.idsB nx (x.cells.getD j .undef) = true := by
  cases x with
  | agg l => simp only [AV.idsB] at h; exact idsBL_at l h j hj
  | _ =>
    have : j = 0 := by simp [AV.cells] at hj; exact hj
    subst this
    simpa [AV.cells] using h

/-- **A STATE THAT MEETS A SPECIFICATION.** -/
theorem met_sound {U : Base} {w0 : World} {n : Nat} {ρ : Rho} {M : Mem} {s : St} {a : Act} {w : World} (h : SRel U w0 n ρ M s.tmf s.hpf s.nx a w) {p : Spec} {nx : Nat} (hm : p.met nx s) :
    SRel U w0 n (metRho ρ (p.mk' nx).hpf s.nx nx) M (p.mk' nx).tmf (p.mk' nx).hpf nx a w ∧
    (∀ b g L, b < nx → ρ b g = some L → metRho ρ (p.mk' nx).hpf s.nx nx b g = some L) ∧
    (∀ b, b < s.nx → s.hpf b = .dead → (p.mk' nx).hpf b = .dead) ∧ (∀ b g, b < s.nx → b < nx → metRho ρ (p.mk' nx).hpf s.nx nx b g = ρ b g) := by
  obtain ⟨hnd, hfr, hhp⟩ := NB.inv hm
  simp only [Bool.and_eq_true] at hnd
  have fr := frMeets_at p.fr hfr
  have hb := hpMeets_at p.hp hhp
  have getF := foldl_get AV.undef p.fr .nil hnd.1
  have getB := foldl_get Blk.dead p.hp .nil hnd.2
  have hpf_of : ∀ b, (∃ y, (b, y) ∈ p.hp ∧ (p.mk' nx).hpf b = y) ∨ ((p.mk' nx).hpf b = .dead) := by
    intro b
    by_cases hx : ∃ y, (b, y) ∈ p.hp
    · obtain ⟨y, hy⟩ := hx
      exact .inl ⟨y, hy, getB.1 (b, y) hy⟩
    · refine .inr ?_
      have := getB.2 b (fun q hq e => hx ⟨q.2, e ▸ hq⟩)
      simpa [Spec.mk', Spec.hpT, St.hpf, T.get] using this
  have hext : ∀ b g L, b < nx → ρ b g = some L → metRho ρ (p.mk' nx).hpf s.nx nx b g = some L := by
    intro b g L hlt e
    simp only [metRho, if_pos hlt, e]
  have hold : ∀ b g, b < s.nx → b < nx → metRho ρ (p.mk' nx).hpf s.nx nx b g = ρ b g := by
    intro b g h1 h2
    simp only [metRho, if_pos h2]
    cases e : ρ b g with
    | some L => rfl
    | none => simp only [if_neg (Nat.not_le.2 h1)]
  -- a row of the specification
  have row : ∀ b g sz pu sq, (p.mk' nx).hpf b = .row g sz pu sq → b < nx ∧ Blk.idsB nx (.row g sz pu sq) = true ∧
      ((∃ s0 pu0, s.hpf b = .row g sz pu0 s0 ∧ (pu = true → pu0 = true) ∧ s0.sub' sq) ∨ (s.nx ≤ b ∧ pu = true ∧ 1 ≤ sz ∧ sq.len = 0)) := by
    intro b g sz pu sq hr
    rcases hpf_of b with ⟨y, hy, e⟩ | e
    · rw [hr] at e
      subst e
      obtain ⟨k1, k2, k3⟩ := hb _ hy
      refine ⟨k2, k1, ?_⟩
      simp only at k3
      cases e0 : s.hpf b with
      | dead =>
        rw [e0] at k3
        simp only [blkMeets] at k3
        obtain ⟨m1, m2⟩ := NB.inv k3
        simp only [Bool.and_eq_true, decide_eq_true_eq] at m1
        exact .inr ⟨m1.1.1, m1.1.2, m1.2, m2⟩
      | row g0 sz0 pu0 s0 =>
        rw [e0] at k3
        simp only [blkMeets] at k3
        obtain ⟨rfl, rfl, m3, m4⟩ := sub_row k3
        exact .inl ⟨s0, pu0, rfl, m3, m4⟩
    · rw [hr] at e; cases e
  have virt : ∀ b g sz pu sq, (p.mk' nx).hpf b = .row g sz pu sq → s.nx ≤ b → b < nx → metRho ρ (p.mk' nx).hpf s.nx nx b g = some ⟨0, 0, 0, sz, 0, true⟩ := by
    intro b g sz pu sq hr h1 h2
    simp only [metRho, if_pos h2, h.free b g h1, if_pos h1, hr, if_true]
  have live : ∀ b g sz pu sq L, (p.mk' nx).hpf b = .row g sz pu sq → metRho ρ (p.mk' nx).hpf s.nx nx b g = some L → L.virt = false → ∃ s0 pu0, s.hpf b = .row g sz pu0 s0 ∧ ρ b g = some L := by
    intro b g sz pu sq L hr hL hv
    obtain ⟨k1, k2, k3⟩ := row b g sz pu sq hr
    rcases k3 with ⟨s0, pu0, k4, _⟩ | ⟨k4, _⟩
    · obtain ⟨L0, e, _⟩ := h.hok.row b g sz pu0 s0 k4
      rw [hext b g L0 k1 e] at hL
      cases hL
      exact ⟨s0, pu0, k4, e⟩
    · rw [virt b g sz pu sq hr k4 k1] at hL
      cases hL
      cases hv
  refine ⟨⟨h.size, fun t => ?_, ⟨h.hok.mem, fun b g sz pu sq hr => ?_, ?_, fun b g sz pu sq hr g' hg' => ?_⟩, fun b hbb => ?_, fun b g hbb => ?_, h.keep, h.memN, h.memE, ?_, h.defers⟩, hext, fun b h1 h2 => ?_, hold⟩
  · -- slots
    by_cases hx : ∃ y, (t, y) ∈ p.fr
    · obtain ⟨y, hy⟩ := hx
      have e : (p.mk' nx).tmf t = y := getF.1 (t, y) hy
      rw [e]
      obtain ⟨k1, k2⟩ := fr _ hy
      have hrel := h.tm t
      simp only at k1 k2
      have plain : AV.sub (s.tmf t) y → Rel (metRho ρ (p.mk' nx).hpf s.nx nx) M (a.tmps.getD t Go.undef) y := fun hs => (hrel.sub y hs).cut hext k1
      generalize hxx : s.tmf t = x at k2 hrel plain
      by_cases hn : x = .nils
      · subst hn
        cases y <;> first | exact plain k2 | skip
        rename_i b g i len cc
        simp only [slotMeets] at k2
        obtain ⟨m1, m2⟩ := NB.inv k2
        simp only [Bool.and_eq_true, decide_eq_true_eq] at m1
        obtain ⟨⟨m3, rfl⟩, m5⟩ := m1
        obtain ⟨m2, m6⟩ := m2
        have hc : cc = none := by cases cc <;> simp_all
        subst hc
        subst m2
        cases hr : (p.mk' nx).hpf b with
        | dead => rw [hr] at m6; cases m6
        | row g' sz' pu' s' =>
          rw [hr] at m6
          obtain ⟨rfl, _⟩ := m6
          have hlt : b < nx := by simpa [AV.idsB] using k1
          have hnil : ∀ v, Rel ρ M v .nils → v = .slice none 0 0 := fun v hr => by cases hr with | pure hr => cases hr; rfl
          have hv := hnil _ hrel
          rw [hv]
          exact .slv _ none b g 0 none (virt b g sz' pu' s' hr m3 hlt) (by simp)
      · have : AV.sub x y := by
          cases x <;> first | exact absurd rfl hn | exact k2
        exact plain this
    · have e : (p.mk' nx).tmf t = .undef := by
        have := getF.2 t (fun q hq e => hx ⟨q.2, e ▸ hq⟩)
        simpa [Spec.mk', Spec.tmT, St.tmf, T.get] using this
      rw [e]; exact .undef _
  · obtain ⟨k1, k2, k3⟩ := row b g sz pu sq hr
    rcases k3 with ⟨s0, pu0, k4, k5, k6⟩ | ⟨k4, k5, k6, k7⟩
    · obtain ⟨L, e1, e2, e3, e4⟩ := h.hok.row b g sz pu0 s0 k4
      obtain ⟨m1, m2⟩ := sq_sub k6
      refine ⟨L, hext b g L k1 e1, e2, by rw [← m1]; exact e3, ?_⟩
      rw [← m1]
      rcases e4 with e4 | ⟨hv, c, e, h5, h6, h7, h8, h9⟩
      · exact .inl e4
      · refine .inr ⟨hv, c, e, h5, h6, h7, h8, fun i hi => ?_⟩
        obtain ⟨q1, q2⟩ := h9 i hi
        obtain ⟨m3, m4⟩ := m2 i (by omega)
        refine ⟨by omega, fun j hj => ?_⟩
        obtain ⟨v, r1, r2, r3, r4⟩ := q2 j hj
        have hsub := sub_cells m3 m4 j (by omega)
        have hpure : pu = true → RelP M v ((sq.get i).cells.getD j .undef) := fun hp => (r4 (k5 hp)).sub _ hsub
        refine ⟨v, r1, r2, ?_, hpure⟩
        cases pu with
        | true => exact .pure (hpure rfl)
        | false =>
          cases sq with
          | lst l =>
            refine (r3.sub _ hsub).cut hext ?_
            simp only [Blk.idsB] at k2
            have hle : (Sq.lst l).len = l.length := rfl
            have := idsBL_at l k2 i (by omega)
            exact idsB_cell this j (by have hge : (Sq.lst l).get i = l.getD i .undef := rfl; rw [← hge]; omega)
          | fn n f => simp [Blk.idsB] at k2
    · exact ⟨_, virt b g sz pu sq hr k4 k1, rfl, ⟨k6, k7⟩, .inl ⟨rfl, k7⟩⟩
  · intro b b' g g' sz sz' pu pu' s1 s2 L L' h1 h2 e1 e2 v1 v2 hB
    obtain ⟨s0, pu0, q1, q2⟩ := live b g sz pu s1 L h1 e1 v1
    obtain ⟨s0', pu0', q3, q4⟩ := live b' g' sz' pu' s2 L' h2 e2 v2
    exact h.hok.inj b b' g g' sz sz' pu0 pu0' s0 s0' L L' q1 q3 q2 q4 v1 v2 hB
  · obtain ⟨k1, k2, k3⟩ := row b g sz pu sq hr
    rcases k3 with ⟨s0, pu0, k4, _⟩ | ⟨k4, _⟩
    · have hlt : b < s.nx := by
        rcases Nat.lt_or_ge b s.nx with h1 | h1
        · exact h1
        · rw [h.dead b h1] at k4; cases k4
      rw [hold b g' hlt k1]
      exact h.hok.gen b g sz pu0 s0 k4 g' hg'
    · simp only [metRho, if_pos k1, h.free b g' k4, if_pos k4, hr]
      rw [if_neg (by omega)]
  · cases hr : (p.mk' nx).hpf b with
    | dead => rfl
    | row g sz pu sq => have := (row b g sz pu sq hr).1; omega
  · simp only [metRho]
    rw [if_neg (by omega)]
  · intro b g sz pu sq L hr hL hv hU
    obtain ⟨s0, pu0, q1, q2⟩ := live b g sz pu sq L hr hL hv
    exact h.own b g sz pu0 s0 L q1 q2 hv hU
  · cases hr : (p.mk' nx).hpf b with
    | dead => rfl
    | row g sz pu sq =>
      obtain ⟨k1, k2, k3⟩ := row b g sz pu sq hr
      rcases k3 with ⟨s0, pu0, k4, _⟩ | ⟨k4, _⟩
      · rw [h2] at k4; cases k4
      · omega
end Pw
