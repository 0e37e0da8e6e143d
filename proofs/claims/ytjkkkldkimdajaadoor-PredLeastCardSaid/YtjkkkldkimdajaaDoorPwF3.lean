/- ENGINE, part F3: calls, events. -/
import Derived.Test.YtjkkkldkimdajaaDoorPwF2
namespace Pw
set_option linter.unusedSimpArgs false
open Go

/-! ### States that grow -/
structure Grow (ρ ρ' : Rho) (hp hp' : Nat → Blk) (nx nx' : Nat) : Prop where
  rx : RX ρ ρ' hp nx
  le : nx ≤ nx'
  dead : ∀ b, b < nx → hp b = .dead → hp' b = .dead

theorem Grow.refl (ρ : Rho) (hp : Nat → Blk) (nx : Nat) : Grow ρ ρ hp hp nx nx := ⟨RX.refl ρ hp nx, Nat.le_refl _, fun _ _ h => h⟩
theorem Grow.trans {ρ ρ' ρ'' hp hp' hp'' nx nx' nx''} (h : Grow ρ ρ' hp hp' nx nx') (k : Grow ρ' ρ'' hp' hp'' nx' nx'') : Grow ρ ρ'' hp hp'' nx nx'' :=
  ⟨⟨h.rx.ext.trans k.rx.ext, fun b g h1 h2 => by rw [k.rx.dead b g (Nat.lt_of_lt_of_le h1 h.le) (h.dead b h1 h2), h.rx.dead b g h1 h2]⟩, Nat.le_trans h.le k.le,
    fun b h1 h2 => k.dead b (Nat.lt_of_lt_of_le h1 h.le) (h.dead b h1 h2)⟩

theorem newOf_le : ∀ (eff : List (Nat × Blk)) (nx : Nat), nx ≤ newOf nx eff
  | [], _ => Nat.le_refl _
  | (b, x) :: r, nx => by
    simp only [newOf]
    refine Nat.le_trans ?_ (newOf_le r _)
    split <;> omega

theorem setEffF_keeps : ∀ (eff : List (Nat × Blk)) (hp : Nat → Blk) (b : Nat), (∀ p ∈ eff, p.1 ≠ b) → setEffF hp eff b = hp b
  | [], _, _, _ => rfl
  | (b0, x) :: r, hp, b, h => by
    simp only [setEffF]
    rw [setEffF_keeps r _ b (fun p hp => h p (List.mem_cons_of_mem _ hp))]
    have := h (b0, x) (List.mem_cons_self ..)
    simp only [ne_eq] at this
    simp [updH, Ne.symm this]

theorem effOK_dead {hp : Nat → Blk} {nx : Nat} {eff : List (Nat × Blk)} (h : effOK hp nx eff = true) (b : Nat) (hb : b < nx) (hd : hp b = .dead) : setEffF hp eff b = .dead := by
  rw [setEffF_keeps eff hp b, hd]
  intro p hp' e
  simp only [effOK, List.all_eq_true] at h
  have := h p hp'
  rw [e, hd] at this
  simp at this
  omega

/-! ### Out of sight, and back -/
section
variable {P : Program} {o : Oper} {U : Base} {w0 : World} {n : Nat} {ρ : Rho} {M : Mem} {tm tmX : Nat → AV} {hp : Nat → Blk} {nx : Nat} {a : Act} {w : World}

def maskBase (U : Base) (w0 : World) (ρ : Rho) (M : Mem) (hp : Nat → Blk) (R : List Nat) : Base :=
  ⟨fun B => (∃ b g sz pu s L, b ∈ R ∧ hp b = .row g sz pu s ∧ ρ b g = some L ∧ L.virt = false ∧ L.B = B) ∨ (U.U B ∧ B < w0.heap.size), M⟩

theorem SRel.mask (h : SRel U w0 n ρ M tm hp nx a w) (R : List Nat) {hpm : Nat → Blk} (hm : ∀ b, hpm b = if b ∈ R then .dead else hp b) : SRel (maskBase U w0 ρ M hp R) w n ρ M tm hpm nx a w := by
  have key : ∀ b g sz pu s, hpm b = .row g sz pu s → hp b = .row g sz pu s ∧ b ∉ R := by
    intro b g sz pu s hb
    rw [hm b] at hb
    split at hb
    · cases hb
    · exact ⟨hb, ‹_›⟩
  refine ⟨h.size, h.tm, ⟨h.hok.mem, fun b g sz pu s hb => h.hok.row b g sz pu s (key _ _ _ _ _ hb).1, ?_, fun b g sz pu s hb => h.hok.gen b g sz pu s (key _ _ _ _ _ hb).1⟩, fun b hb => ?_, h.free,
    Keep.refl _ w, fun B i v hv => .inl hv, MExt.refl M, ?_, h.defers⟩
  · intro b b' g g' sz sz' pu pu' s s' L L' h1 h2
    exact h.hok.inj b b' g g' sz sz' pu pu' s s' L L' (key _ _ _ _ _ h1).1 (key _ _ _ _ _ h2).1
  · rw [hm b]
    split
    · rfl
    · exact h.dead b hb
  · intro b g sz pu s L hb hL hv hU
    obtain ⟨h1, h2⟩ := key _ _ _ _ _ hb
    rcases hU with ⟨b', g', sz', pu', s', L', h3, h4, h5, h6, h7⟩ | ⟨hU, hlt⟩
    · have := h.hok.inj b b' g g' sz sz' pu pu' s s' L L' h1 h4 hL h5 hv h6 h7.symm
      exact absurd (this ▸ h3) h2
    · have := h.own b g sz pu s L h1 hL hv hU
      omega

theorem SRel.unmask (h : SRel U w0 n ρ M tm hp nx a w) (R : List Nat) {hpm hpm' hp' : Nat → Blk} {ρ' : Rho} {M' : Mem} {nx' : Nat} {w' : World} (hm : ∀ b, hpm b = if b ∈ R then .dead else hp b)
    (h' : SRel (maskBase U w0 ρ M hp R) w n ρ' M' tm hpm' nx' a w') (hg : Grow ρ ρ' hpm hpm' nx nx') (hM : MExt M M') (hb : ∀ b, hp' b = if b ∈ R then hp b else hpm' b) :
    SRel U w0 n ρ' M' tm hp' nx' a w' ∧ Grow ρ ρ' hp hp' nx nx' := by
  have lt : ∀ b g sz pu s, hp b = .row g sz pu s → b < nx := fun b g sz pu s hr => by
    rcases Nat.lt_or_ge b nx with h1 | h1
    · exact h1
    · rw [h.dead b h1] at hr; cases hr
  have sameρ : ∀ b g, b ∈ R → b < nx → ρ' b g = ρ b g := fun b g hbR hlt => hg.rx.dead b g hlt (by rw [hm b, if_pos hbR])
  -- the rows that were out of sight
  have back : ∀ b g sz pu s, b ∈ R → hp b = .row g sz pu s → RowOK ρ' M' w' b g sz pu s ∧ (∀ L, ρ b g = some L → L.virt = false → L.B < w.heap.size ∧ (maskBase U w0 ρ M hp R).U L.B) := by
    intro b g sz pu s hbR hr
    obtain ⟨L, h1, h2, h3, h4⟩ := h.hok.row b g sz pu s hr
    rcases h4 with h4 | ⟨hv, c, e, h5, h6, h7, h8, h9⟩
    · refine ⟨⟨L, hg.rx.ext _ _ _ h1, h2, h3, .inl h4⟩, fun L' hL' hv' => ?_⟩
      rw [h1] at hL'; cases hL'
      rw [h4.1] at hv'; cases hv'
    · have hlt := heap_lt h5
      have hU : (maskBase U w0 ρ M hp R).U L.B := .inl ⟨b, g, sz, pu, s, L, hbR, hr, h1, hv, rfl⟩
      refine ⟨⟨L, hg.rx.ext _ _ _ h1, h2, h3, .inr ⟨hv, c, e, ?_, h6, h7, fun i => ?_, fun i hi => ⟨(h9 i hi).1, fun j hj => ?_⟩⟩⟩, fun L' hL' hv' => ?_⟩
      · rw [h'.keep.block L.B hU hlt]; exact h5
      · cases hmm : M' L.B i with
        | none => rfl
        | some v =>
          rcases h'.memN L.B i v hmm with h10 | h10
          · have h11 : M L.B i = some v := h10
            rw [h8 i] at h11; cases h11
          · omega
      · obtain ⟨v, m1, m2, m3, m4⟩ := (h9 i hi).2 j hj
        exact ⟨v, m1, m2, m3.mono hg.rx.ext hM, fun hp => (m4 hp).mono hM⟩
      · rw [h1] at hL'; cases hL'
        exact ⟨hlt, hU⟩
  have rowAt : ∀ b g sz pu s, hp' b = .row g sz pu s → (b ∈ R ∧ hp b = .row g sz pu s) ∨ (b ∉ R ∧ hpm' b = .row g sz pu s) := by
    intro b g sz pu s hr
    rw [hb b] at hr
    split at hr
    · exact .inl ⟨‹_›, hr⟩
    · exact .inr ⟨‹_›, hr⟩
  have cross : ∀ b b' g g' sz sz' pu pu' s s' L L', b ∈ R → hp b = .row g sz pu s → hpm' b' = .row g' sz' pu' s' → ρ' b g = some L → ρ' b' g' = some L' → L.virt = false → L'.virt = false → L.B ≠ L'.B := by
    intro b b' g g' sz sz' pu pu' s s' L L' hbR hr hr' e e' hv hv' hB
    have e0 : ρ b g = some L := by rw [← sameρ b g hbR (lt _ _ _ _ _ hr)]; exact e
    obtain ⟨hlt, hU⟩ := (back b g sz pu s hbR hr).2 L e0 hv
    have := h'.own b' g' sz' pu' s' L' hr' e' hv' (hB ▸ hU)
    omega
  refine ⟨⟨h'.size, h'.tm, ⟨h'.hok.mem, fun b g sz pu s hr => ?_, ?_, ?_⟩, fun b hbb => ?_, h'.free, ?_, ?_, h.memE.trans hM, ?_, h'.defers⟩, ⟨⟨hg.rx.ext, ?_⟩, hg.le, ?_⟩⟩
  · rcases rowAt b g sz pu s hr with ⟨h1, h2⟩ | ⟨h1, h2⟩
    · exact (back b g sz pu s h1 h2).1
    · exact h'.hok.row b g sz pu s h2
  · intro b b' g g' sz sz' pu pu' s s' L L' h1 h2 e1 e2 v1 v2 hB
    rcases rowAt b g sz pu s h1 with ⟨k1, k2⟩ | ⟨k1, k2⟩ <;> rcases rowAt b' g' sz' pu' s' h2 with ⟨k3, k4⟩ | ⟨k3, k4⟩
    · rw [sameρ b g k1 (lt _ _ _ _ _ k2)] at e1
      rw [sameρ b' g' k3 (lt _ _ _ _ _ k4)] at e2
      exact h.hok.inj b b' g g' sz sz' pu pu' s s' L L' k2 k4 e1 e2 v1 v2 hB
    · exact absurd hB (cross b b' g g' sz sz' pu pu' s s' L L' k1 k2 k4 e1 e2 v1 v2)
    · exact absurd hB.symm (cross b' b g' g sz' sz pu' pu s' s L' L k3 k4 k2 e2 e1 v2 v1)
    · exact h'.hok.inj b b' g g' sz sz' pu pu' s s' L L' k2 k4 e1 e2 v1 v2 hB
  · intro b g sz pu s hr g' hg'
    rcases rowAt b g sz pu s hr with ⟨k1, k2⟩ | ⟨k1, k2⟩
    · rw [sameρ b g' k1 (lt _ _ _ _ _ k2)]
      exact h.hok.gen b g sz pu s k2 g' hg'
    · exact h'.hok.gen b g sz pu s k2 g' hg'
  · rw [hb b]
    split
    · exact h.dead b (Nat.le_trans hg.le hbb)
    · exact h'.dead b hbb
  · refine ⟨h'.keep.os.trans h.keep.os, h'.keep.tape.trans h.keep.tape, h'.keep.output.trans h.keep.output, Nat.le_trans h.keep.size h'.keep.size, fun B hU hB => ?_⟩
    rw [h'.keep.block B (.inr ⟨hU, hB⟩) (Nat.lt_of_lt_of_le hB h.keep.size)]
    exact h.keep.block B hU hB
  · intro B i v hv
    rcases h'.memN B i v hv with h1 | h1
    · exact h.memN B i v h1
    · exact .inr (Nat.le_trans h.keep.size h1)
  · intro b g sz pu s L hr hL hv hU
    rcases rowAt b g sz pu s hr with ⟨k1, k2⟩ | ⟨k1, k2⟩
    · rw [sameρ b g k1 (lt _ _ _ _ _ k2)] at hL
      exact h.own b g sz pu s L k2 hL hv hU
    · rcases Nat.lt_or_ge L.B w0.heap.size with hlt | hge
      · have := h'.own b g sz pu s L k2 hL hv (.inr ⟨hU, hlt⟩)
        have := h.keep.size
        omega
      · exact hge
  · intro b g h1 h2
    by_cases hbR : b ∈ R
    · exact sameρ b g hbR h1
    · exact hg.rx.dead b g h1 (by rw [hm b, if_neg hbR]; exact h2)
  · intro b h1 h2
    rw [hb b]
    split
    · exact h2
    · rename_i hbR
      exact hg.dead b h1 (by rw [hm b, if_neg hbR]; exact h2)
end

theorem maskK_eq : ∀ (R : List Nat) (hp : T Blk) (K : T Blk → VT), ∃ hp', maskK hp R K = K hp' ∧ ∀ b, hp'.get .dead b = if b ∈ R then .dead else hp.get .dead b
  | [], hp, K => ⟨hp, rfl, fun b => by simp⟩
  | b0 :: r, hp, K => by
    simp only [maskK, T.setK_eq]
    obtain ⟨hp', h1, h2⟩ := maskK_eq r (hp.set .dead b0 .dead) K
    refine ⟨hp', h1, fun b => ?_⟩
    rw [h2 b, T.set_get]
    by_cases hb : b = b0 <;> by_cases hr : b ∈ r <;> simp [hb, hr]
theorem backK_eq (old : T Blk) : ∀ (R : List Nat) (hp : T Blk) (K : T Blk → VT), ∃ hp', backK old hp R K = K hp' ∧ ∀ b, hp'.get .dead b = if b ∈ R then old.get .dead b else hp.get .dead b
  | [], hp, K => ⟨hp, rfl, fun b => by simp⟩
  | b0 :: r, hp, K => by
    simp only [backK, T.setK_eq]
    obtain ⟨hp', h1, h2⟩ := backK_eq old r (hp.set .dead b0 (old.get .dead b0)) K
    refine ⟨hp', h1, fun b => ?_⟩
    rw [h2 b, T.set_get]
    by_cases hb : b = b0 <;> by_cases hr : b ∈ r <;> simp [hb, hr]
end Pw
