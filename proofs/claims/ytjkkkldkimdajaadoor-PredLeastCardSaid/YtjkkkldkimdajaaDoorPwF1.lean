/- ENGINE, part F1: what is laid bare is the same; stores. -/
import Derived.Test.YtjkkkldkimdajaaDoorPwE11
namespace Pw
set_option linter.unusedSimpArgs false
open Go

theorem VT.sat_of_chk : ∀ (t : VT), t.chk = true → t.sat
  | .leafB b, h => h
  | .need b t, h => by
    cases b with
    | true => exact VT.sat_of_chk t h
    | false => simp [VT.chk] at h
  | .vb b t e, h => by
    cases b with
    | true => exact VT.sat_of_chk t h
    | false => exact VT.sat_of_chk e h
  | .both t e, h => by
    simp only [VT.chk, Bool.and_eq_true] at h
    exact ⟨VT.sat_of_chk t h.1, VT.sat_of_chk e h.2⟩
  | .fail _ _, h => by simp [VT.chk] at h
  | .leaf _, h => by simp [VT.chk] at h
  | .all _ _, h => by simp [VT.chk] at h
  | .imp _ _, h => by simp [VT.chk] at h
  | .and _ _, h => by simp [VT.chk] at h

theorem NB.inv {b : Bool} {p : Prop} (h : NB b p) : b = true ∧ p := by
  cases b with
  | true => exact ⟨rfl, h⟩
  | false => exact h.elim
theorem VB.inv {b : Bool} {p q : Prop} (h : VB b p q) : (b = true ∧ p) ∨ (b = false ∧ q) := by
  cases b with
  | true => exact .inl ⟨rfl, h⟩
  | false => exact .inr ⟨rfl, h⟩

/-! ### Trees -/
section
variable {α : Type} (d : α)
theorem T.path_get : ∀ (f i : Nat) (x : α) (k : Nat), i < f → (T.path d f i x).get d k = if k = i then x else d
  | 0, _, _, _, h => by omega
  | f + 1, i, x, k, h => by
    simp only [T.path]
    split
    · rename_i hi
      subst hi
      simp only [T.get]
      split <;> simp_all
    · rename_i hi
      split
      · rename_i ho
        simp only [T.get]
        split
        · rename_i hk; subst hk; rw [if_neg (by omega)]
        · rename_i hk
          split
          · rename_i hk2
            rw [T.path_get f (i / 2) x (k / 2) (by omega)]
            by_cases hki : k = i
            · subst hki; simp
            · rw [if_neg (by omega), if_neg hki]
          · rename_i hk2
            rw [if_neg (by omega)]
      · rename_i ho
        simp only [T.get]
        split
        · rename_i hk; subst hk; rw [if_neg (by omega)]
        · rename_i hk
          split
          · rename_i hk2
            rw [if_neg (by omega)]
          · rename_i hk2
            rw [T.path_get f (i / 2 - 1) x (k / 2 - 1) (by omega)]
            by_cases hki : k = i
            · subst hki; simp
            · rw [if_neg (by omega), if_neg hki]

theorem T.set_get : ∀ (t : T α) (i : Nat) (x : α) (k : Nat), (t.set d i x).get d k = if k = i then x else t.get d k
  | .nil, i, x, k => by
    simp only [T.set]
    rw [T.path_get d (i + 1) i x k (by omega)]
    simp only [T.get]
  | .node v l r, i, x, k => by
    simp only [T.set]
    split
    · rename_i hi
      subst hi
      simp only [T.get]
      split <;> simp_all
    · rename_i hi
      split
      · rename_i ho
        simp only [T.get]
        split
        · rename_i hk; subst hk; rw [if_neg (by omega)]
        · rename_i hk
          split
          · rename_i hk2
            rw [T.set_get l (i / 2) x (k / 2)]
            by_cases hki : k = i
            · subst hki; simp
            · rw [if_neg (by omega), if_neg hki]
          · rename_i hk2
            rw [if_neg (by omega)]
      · rename_i ho
        simp only [T.get]
        split
        · rename_i hk; subst hk; rw [if_neg (by omega)]
        · rename_i hk
          split
          · rename_i hk2
            rw [if_neg (by omega)]
          · rename_i hk2
            rw [T.set_get r (i / 2 - 1) x (k / 2 - 1)]
            by_cases hki : k = i
            · subst hki; simp
            · rw [if_neg (by omega), if_neg hki]

theorem T.pathK_eq : ∀ (f i : Nat) (x : α) (K : T α → VT), T.pathK d f i x K = K (T.path d f i x)
  | 0, _, _, _ => rfl
  | f + 1, i, x, K => by
    simp only [T.pathK, T.path]
    split
    · rfl
    · split
      · rw [T.pathK_eq f]
      · rw [T.pathK_eq f]
theorem T.setK_eq : ∀ (t : T α) (i : Nat) (x : α) (K : T α → VT), T.setK d t i x K = K (t.set d i x)
  | .nil, i, x, K => by simp only [T.setK, T.set]; exact T.pathK_eq d _ _ _ _
  | .node v l r, i, x, K => by
    simp only [T.setK, T.set]
    split
    · rfl
    · split
      · rw [T.setK_eq l]
      · rw [T.setK_eq r]
end

theorem forceN_eq (n : Nat) (K : Nat → VT) : forceN n K = K n := by cases n <;> rfl

/-! ### What is laid bare -/
mutual
def AV.norm (cl : Bool) : AV → AV
  | .agg l => .agg (AV.normL cl l)
  | .tup l => .tup (AV.normL cl l)
  | .rol l ex => .rol (AV.normL cl l) ex
  | .rptr x j => .rptr (AV.norm cl x) j
  | .fn f a b => .fn f (AV.normL cl a) (AV.normL cl b)
  | .opt m j w x => .opt m j w (AV.norm cl x)
  | .rof n f ex => match cl with | true => .rol ((List.range n).map f) ex | false => .rof n f ex
  | .undef => .undef
  | .int k n => .int k n
  | .bool b => .bool b
  | .str s => .str s
  | .nils => .nils
  | .nilp => .nilp
  | .nilf => .nilf
  | .nilm => .nilm
  | .ptr b g i j => .ptr b g i j
  | .sl b g i len cap => .sl b g i len cap
  | .map b => .map b
def AV.normL (cl : Bool) : List AV → List AV
  | [] => []
  | x :: l => AV.norm cl x :: AV.normL cl l
end

theorem AV.normL_eq (cl : Bool) : ∀ l, AV.normL cl l = l.map (AV.norm cl)
  | [] => rfl
  | x :: l => by simp [AV.normL, AV.normL_eq cl l]

theorem force0_eq (x : AV) (K : AV → VT) : AV.force0 x K = K x := by
  cases x <;> simp only [AV.force0]
  case int k n => cases n <;> simp [forceN_eq]
  case bool b => cases b <;> rfl
theorem forceT_eq : ∀ (l : List AV) (K : List AV → VT), forceT l K = K l
  | [], _ => rfl
  | x :: l, K => by simp only [forceT, force0_eq, forceT_eq l]

mutual
theorem AV.force_eq (cl : Bool) : ∀ (x : AV) (K : AV → VT), AV.force cl x K = K (x.norm cl)
  | .int k n, K => by cases cl <;> cases n <;> simp [AV.force, AV.norm, forceN_eq]
  | .bool b, K => by cases cl <;> cases b <;> rfl
  | .agg l, K => by simp only [AV.force, AV.norm]; exact AV.forceL_eq cl l _
  | .tup l, K => by simp only [AV.force, AV.norm]; exact AV.forceL_eq cl l _
  | .rol l ex, K => by simp only [AV.force, AV.norm]; exact AV.forceL_eq cl l _
  | .rptr x j, K => by simp only [AV.force, AV.norm]; exact AV.force_eq cl x _
  | .fn f a b, K => by
    simp only [AV.force, AV.norm]
    rw [AV.forceL_eq cl a, AV.forceL_eq cl b]
  | .opt m j w x, K => by simp only [AV.force, AV.norm]; exact AV.force_eq cl x _
  | .rof n f ex, K => by cases cl <;> simp [AV.force, AV.norm, forceT_eq]
  | .undef, _ => rfl
  | .str _, _ => rfl
  | .nils, _ => rfl
  | .nilp, _ => rfl
  | .nilf, _ => rfl
  | .nilm, _ => rfl
  | .ptr .., _ => rfl
  | .sl .., _ => rfl
  | .map _, _ => rfl
theorem AV.forceL_eq (cl : Bool) : ∀ (l : List AV) (K : List AV → VT), AV.forceL cl l K = K (AV.normL cl l)
  | [], _ => rfl
  | x :: l, K => by
    simp only [AV.forceL, AV.normL]
    rw [AV.force_eq cl x, AV.forceL_eq cl l]
end

theorem AV.norm_undef (cl : Bool) : AV.norm cl .undef = .undef := by simp [AV.norm]
theorem AV.normL_length (cl : Bool) (l : List AV) : (AV.normL cl l).length = l.length := by simp [AV.normL_eq]
theorem getD_map_norm (cl : Bool) (l : List AV) (i : Nat) : (l.map (AV.norm cl)).getD i .undef = (l.getD i .undef).norm cl := by
  simp only [List.getD_eq_getElem?_getD, List.getElem?_map]
  cases l[i]? <;> simp [AV.norm_undef]
theorem AV.normL_getD (cl : Bool) (l : List AV) (i : Nat) : (AV.normL cl l).getD i .undef = (l.getD i .undef).norm cl := by
  rw [AV.normL_eq, getD_map_norm]
theorem AV.norm_cells (cl : Bool) (x : AV) : (x.norm cl).cells = x.cells.map (AV.norm cl) := by
  cases x <;> simp only [AV.norm, AV.cells, List.map_cons, List.map_nil, AV.normL_eq]
  case rof n f ex => cases cl <;> simp [AV.cells]

theorem RelP.norm (cl : Bool) {M : Mem} {v : Value} {x : AV} (h : RelP M v x) : RelP M v (x.norm cl) := by
  induction h with
  | undef v => exact .undef v
  | opt v m j w x => exact .opt v m j w _
  | int k n => exact .int k n
  | bool b => exact .bool b
  | str l => exact .str l
  | nilp => exact .nilp
  | nils => exact .nils
  | nilf => exact .nilf
  | nilm => exact .nilm
  | rptr B o j x vals hm hr ih =>
    refine .rptr B o j _ vals (fun i hi => hm i ?_) (fun i hi => ?_)
    · simpa [AV.norm_cells] using hi
    · rw [AV.norm_cells, getD_map_norm]
      exact ih i (by simpa [AV.norm_cells] using hi)
  | rol B o cap sz l ex vals hc hcm hex hz hm hr ih =>
    have hl : (AV.normL cl l).length = l.length := AV.normL_length cl l
    simp only [AV.norm]
    rw [← hl]
    refine .rol B o cap sz _ ex vals (by rw [hl]; exact hc) hcm (by rw [hl]; exact hex) (fun i hi => ?_) (fun i j hi hj => hm i j (by rwa [hl] at hi) hj) (fun i j hi hj => ?_)
    · rw [AV.normL_getD, AV.norm_cells, List.length_map]
      exact hz i (by rwa [hl] at hi)
    · rw [AV.normL_getD, AV.norm_cells, getD_map_norm]
      exact ih i j (by rwa [hl] at hi) hj
  | rof B o cap sz n f ex vals hc hcm hex hz hm hr ih =>
    cases cl with
    | false => exact .rof B o cap sz n f ex vals hc hcm hex hz hm hr
    | true =>
      have hl : ((List.range n).map f).length = n := by simp
      have hg : ∀ i, i < n → ((List.range n).map f).getD i .undef = f i := fun i hi => by simp [List.getD_eq_getElem?_getD, List.getElem?_map, hi]
      have := RelP.rol (M := M) B o cap sz ((List.range n).map f) ex vals (by rw [hl]; exact hc) hcm (by rw [hl]; exact hex)
        (fun i hi => by rw [hl] at hi; rw [hg i hi]; exact hz i hi) (fun i j hi hj => hm i j (by rwa [hl] at hi) hj) (fun i j hi hj => by rw [hl] at hi; rw [hg i hi]; exact hr i j hi hj)
      rw [hl] at this
      exact this
  | rol0 a cap ex h1 h2 h3 => exact .rol0 a cap ex h1 h2 h3
  | rof0 a cap f ex h1 h2 h3 =>
    cases cl with
    | false => exact .rof0 a cap f ex h1 h2 h3
    | true => exact .rol0 a cap ex h1 h2 h3
  | fn f => exact .fn f
  | agg cs l hs hr ih =>
    refine .agg cs _ (by rw [AV.normL_length]; exact hs) (fun i hi => ?_)
    rw [AV.normL_getD]
    exact ih i (by rwa [AV.normL_length] at hi)
  | tup cs l hs hr ih =>
    refine .tup cs _ (by rw [AV.normL_length]; exact hs) (fun i hi => ?_)
    rw [AV.normL_getD]
    exact ih i (by rwa [AV.normL_length] at hi)

theorem Rel.norm (cl : Bool) {ρ : Rho} {M : Mem} {v : Value} {x : AV} (h : Rel ρ M v x) : Rel ρ M v (x.norm cl) := by
  induction h with
  | pure h => exact .pure (h.norm cl)
  | ptr L b g i j h hi => exact .ptr L b g i j h hi
  | sl L b g i len cap c h hv hl hc hb hcm hn => exact .sl L b g i len cap c h hv hl hc hb hcm hn
  | slv L a b g i c h hc => exact .slv L a b g i c h hc
  | fn f fs cs fl cl' h1 h2 _ _ ih1 ih2 =>
    refine .fn f fs cs _ _ (by rw [AV.normL_length]; exact h1) (by rw [AV.normL_length]; exact h2) (fun i hi => ?_) (fun i hi => ?_)
    · rw [AV.normL_getD]; exact ih1 i (by rwa [AV.normL_length] at hi)
    · rw [AV.normL_getD]; exact ih2 i (by rwa [AV.normL_length] at hi)
  | agg cs l h _ ih =>
    refine .agg cs _ (by rw [AV.normL_length]; exact h) (fun i hi => ?_)
    rw [AV.normL_getD]; exact ih i (by rwa [AV.normL_length] at hi)
  | tup cs l h _ ih =>
    refine .tup cs _ (by rw [AV.normL_length]; exact h) (fun i hi => ?_)
    rw [AV.normL_getD]; exact ih i (by rwa [AV.normL_length] at hi)

/-! ### Blocks -/
def Sq.norm (cl : Bool) : Sq → Sq
  | .lst l => .lst (AV.normL cl l)
  | .fn n f => match cl with | true => .lst ((List.range n).map f) | false => .fn n f
def Blk.norm (cl : Bool) : Blk → Blk
  | .dead => .dead
  | .row g sz pu s => .row g sz pu (s.norm cl)

theorem Blk.force_eq (cl : Bool) (x : Blk) (K : Blk → VT) : Blk.force cl x K = K (x.norm cl) := by
  cases x with
  | dead => rfl
  | row g sz pu s =>
    cases s with
    | lst l => simp only [Blk.force, Blk.norm, Sq.norm]; rw [AV.forceL_eq]; cases pu <;> rfl
    | fn n f => cases cl <;> cases pu <;> simp [Blk.force, Blk.norm, Sq.norm, forceT_eq]

theorem Sq.norm_len (cl : Bool) (s : Sq) : (s.norm cl).len = s.len := by
  cases s with
  | lst l => simp [Sq.norm, Sq.len, AV.normL_length]
  | fn n f => cases cl <;> simp [Sq.norm, Sq.len]
theorem Sq.norm_get (cl : Bool) (s : Sq) (i : Nat) (hi : i < s.len) : (s.norm cl).get i = s.get i ∨ (s.norm cl).get i = (s.get i).norm cl := by
  cases s with
  | lst l => exact .inr (AV.normL_getD cl l i)
  | fn n f =>
    simp only [Sq.len] at hi
    cases cl with
    | true => exact .inl (by simp [Sq.norm, Sq.get, List.getD_eq_getElem?_getD, List.getElem?_map, hi])
    | false => exact .inl rfl

theorem RowOK.norm (cl : Bool) {ρ M w b g sz pu s} (h : RowOK ρ M w b g sz pu s) : RowOK ρ M w b g sz pu (s.norm cl) := by
  obtain ⟨L, h1, h2, h3, h4⟩ := h
  refine ⟨L, h1, h2, ?_, ?_⟩
  · rw [Sq.norm_len]; exact h3
  · rw [Sq.norm_len]
    rcases h4 with h4 | ⟨hv, c, e, h5, h6, h7, h8, h9⟩
    · exact .inl h4
    · refine .inr ⟨hv, c, e, h5, h6, h7, h8, fun i hi => ?_⟩
      obtain ⟨k1, k2⟩ := h9 i hi
      rcases Sq.norm_get cl s i hi with hg | hg
      · rw [hg]; exact ⟨k1, k2⟩
      · rw [hg, AV.norm_cells]
        refine ⟨by rw [List.length_map]; exact k1, fun j hj => ?_⟩
        obtain ⟨v, m1, m2, m3, m4⟩ := k2 j hj
        rw [getD_map_norm]
        exact ⟨v, m1, m2, m3.norm cl, fun hp => (m4 hp).norm cl⟩

theorem SRel.hpNorm (cl : Bool) {U w0 n ρ M tm hp hp' nx a w} (h : SRel U w0 n ρ M tm hp nx a w) (hh : ∀ b, hp' b = hp b ∨ hp' b = (hp b).norm cl) : SRel U w0 n ρ M tm hp' nx a w := by
  have key : ∀ b g sz pu s, hp' b = .row g sz pu s → ∃ s0, hp b = .row g sz pu s0 ∧ (s = s0 ∨ s = s0.norm cl) := by
    intro b g sz pu s hb
    rcases hh b with h1 | h1
    · exact ⟨s, h1 ▸ hb, .inl rfl⟩
    · rw [hb] at h1
      cases h0 : hp b with
      | dead => rw [h0] at h1; simp [Blk.norm] at h1
      | row g0 sz0 pu0 s0 =>
        rw [h0] at h1
        simp only [Blk.norm, Blk.row.injEq] at h1
        obtain ⟨rfl, rfl, rfl, rfl⟩ := h1
        exact ⟨s0, rfl, .inr rfl⟩
  refine ⟨h.size, h.tm, ⟨h.hok.mem, fun b g sz pu s hb => ?_, ?_, fun b g sz pu s hb => ?_⟩, fun b hb => ?_, h.free, h.keep, h.memN, h.memE, ?_, h.defers⟩
  · obtain ⟨s0, h0, hs⟩ := key b g sz pu s hb
    have hr := h.hok.row b g sz pu s0 h0
    rcases hs with rfl | rfl
    · exact hr
    · exact hr.norm cl
  · intro b b' g g' sz sz' pu pu' s s' L L' h1 h2 e1 e2 v1 v2 hB
    obtain ⟨s0, h0, _⟩ := key b g sz pu s h1
    obtain ⟨s0', h0', _⟩ := key b' g' sz' pu' s' h2
    exact h.hok.inj b b' g g' sz sz' pu pu' s0 s0' L L' h0 h0' e1 e2 v1 v2 hB
  · obtain ⟨s0, h0, _⟩ := key b g sz pu s hb
    exact h.hok.gen b g sz pu s0 h0
  · rcases hh b with h1 | h1
    · rw [h1]; exact h.dead b hb
    · rw [h1, h.dead b hb]; rfl
  · intro b g sz pu s L hb hL hv hU
    obtain ⟨s0, h0, _⟩ := key b g sz pu s hb
    exact h.own b g sz pu s0 L h0 hL hv hU

theorem setEffF_norm (cl : Bool) : ∀ (r : List (Nat × Blk)) (f g : Nat → Blk), (∀ b, f b = g b ∨ f b = (g b).norm cl) → ∀ b,
    setEffF f (r.map fun p => (p.1, p.2.norm cl)) b = setEffF g r b ∨ setEffF f (r.map fun p => (p.1, p.2.norm cl)) b = (setEffF g r b).norm cl
  | [], _, _, h, b => h b
  | (b1, y) :: r, f, g, h, b => by
    simp only [List.map_cons, setEffF]
    refine setEffF_norm cl r _ _ (fun b' => ?_) b
    simp only [updH]
    split
    · exact .inr rfl
    · exact h b'

theorem effK_eq (cl : Bool) : ∀ (eff : List (Nat × Blk)) (hp : T Blk) (K : T Blk → VT),
    ∃ hp', effK cl hp eff K = K hp' ∧ ∀ b, hp'.get .dead b = setEffF (fun b => hp.get .dead b) (eff.map fun p => (p.1, p.2.norm cl)) b
  | [], hp, K => ⟨hp, rfl, fun b => rfl⟩
  | (b0, x) :: r, hp, K => by
    simp only [effK, Blk.force_eq, T.setK_eq, setEffF, List.map_cons]
    obtain ⟨hp', h1, h2⟩ := effK_eq cl r (hp.set .dead b0 (x.norm cl)) K
    refine ⟨hp', h1, fun b => ?_⟩
    rw [h2 b]
    congr 1
    funext b'
    simp only [T.set_get, updH]

/-- The memory after blocks were written. -/
theorem effK_spec (cl : Bool) (eff : List (Nat × Blk)) (hp : T Blk) (K : T Blk → VT) :
    ∃ hp', effK cl hp eff K = K hp' ∧ ∀ b, hp'.get .dead b = setEffF (fun b => hp.get .dead b) eff b ∨ hp'.get .dead b = (setEffF (fun b => hp.get .dead b) eff b).norm cl := by
  obtain ⟨hp', h1, h2⟩ := effK_eq cl eff hp K
  refine ⟨hp', h1, fun b => ?_⟩
  rw [h2 b]
  exact setEffF_norm cl eff _ _ (fun _ => .inl rfl) b
end Pw
