/- ENGINE, part D: abstract memory and the world; what a change of one block does to all. -/
import Derived.Test.YtjkkkldkimdajaaDoorPwC
import Derived.Laws.AppendOwn
namespace Pw
open Go

def RowOK (ρ : Rho) (M : Mem) (w : World) (b g sz : Nat) (pu : Bool) (s : Sq) : Prop :=
  ∃ L, ρ b g = some L ∧ L.sz = sz ∧ (1 ≤ sz ∧ s.len = L.n) ∧
    ((L.virt = true ∧ s.len = 0) ∨
     (L.virt = false ∧ ∃ c e, w.heap[L.B]? = some (.cells c e (0, 0)) ∧ c.size = L.csz ∧ L.o + s.len * sz ≤ L.csz ∧ (∀ i, M L.B i = none) ∧
       ∀ i, i < s.len → (s.get i).cells.length = sz ∧ ∀ j, j < sz → ∃ v, c[L.o + i * sz + j]? = some v ∧ v.oneCell' = true ∧
         Rel ρ M v ((s.get i).cells.getD j .undef) ∧ (pu = true → RelP M v ((s.get i).cells.getD j .undef))))

structure HOK (ρ : Rho) (M : Mem) (hp : Nat → Blk) (w : World) : Prop where
  mem : ∀ B i v, M B i = some v → w.cell? ⟨B, i, none⟩ = some v ∧ v.oneCell' = true
  row : ∀ b g sz pu s, hp b = .row g sz pu s → RowOK ρ M w b g sz pu s
  inj : ∀ b b' g g' sz sz' pu pu' s s' L L', hp b = .row g sz pu s → hp b' = .row g' sz' pu' s' → ρ b g = some L → ρ b' g' = some L' → L.virt = false → L'.virt = false → L.B = L'.B → b = b'
  gen : ∀ b g sz pu s, hp b = .row g sz pu s → ∀ g', g < g' → ρ b g' = none

/-- What a call starts from: the blocks that it must leave as they are, and the memory known to stand. -/
structure Base where
  U : Nat → Prop
  M0 : Mem

structure Keep (U : Nat → Prop) (w0 w : World) : Prop where
  os : w.os = w0.os
  tape : w.tape = w0.tape
  output : w.output = w0.output
  size : w0.heap.size ≤ w.heap.size
  block : ∀ B, U B → B < w0.heap.size → w.heap[B]? = w0.heap[B]?

theorem Keep.refl (U : Nat → Prop) (w : World) : Keep U w w := ⟨rfl, rfl, rfl, Nat.le_refl _, fun _ _ _ => rfl⟩

/-- The abstract state and the act and world. -/
structure SRel (U : Base) (w0 : World) (n : Nat) (ρ : Rho) (M : Mem) (tm : Nat → AV) (hp : Nat → Blk) (nx : Nat) (a : Act) (w : World) : Prop where
  size : a.tmps.size = n
  tm : ∀ t, Rel ρ M (a.tmps.getD t undef) (tm t)
  hok : HOK ρ M hp w
  dead : ∀ b, nx ≤ b → hp b = .dead
  free : ∀ b g, nx ≤ b → ρ b g = none
  keep : Keep U.U w0 w
  memN : ∀ B i v, M B i = some v → U.M0 B i = some v ∨ w0.heap.size ≤ B
  memE : MExt U.M0 M
  own : ∀ b g sz pu s L, hp b = .row g sz pu s → ρ b g = some L → L.virt = false → U.U L.B → w0.heap.size ≤ L.B
  defers : a.defers = []

theorem heap_lt {w : World} {B : Nat} {o : Obj} (h : w.heap[B]? = some o) : B < w.heap.size := (Array.getElem?_eq_some_iff.1 h).1

theorem HOK.mem_lt {ρ M hp w} (h : HOK ρ M hp w) {B i v} (hm : M B i = some v) : B < w.heap.size :=
  World.block_lt_of_cell? w ⟨B, i, none⟩ (h.mem B i v hm).1

theorem cell_congr {w w' : World} {B : Nat} (h : w'.heap[B]? = w.heap[B]?) (i : Nat) : w'.cell? ⟨B, i, none⟩ = w.cell? ⟨B, i, none⟩ := by
  simp [World.cell?, h]

/-- One row is new, or changed in its place; what else there was stands. -/
theorem HOK.upd {ρ ρ' : Rho} {M : Mem} {hp hp' : Nat → Blk} {w w' : World} (h : HOK ρ M hp w) (b g sz : Nat) (pu : Bool) (s : Sq) (L : Loc)
    (hρ : RExt ρ ρ') (hρ' : ∀ b' g', ¬ (b' = b ∧ g' = g) → ρ' b' g' = ρ b' g') (hL : ρ' b g = some L)
    (hb : hp' b = .row g sz pu s) (hb' : ∀ b', b' ≠ b → hp' b' = hp b')
    (hrow : RowOK ρ' M w' b g sz pu s)
    (hcase : L.virt = true ∨ w.heap.size ≤ L.B ∨ ∃ g0 sz0 pu0 s0 L0, hp b = .row g0 sz0 pu0 s0 ∧ ρ b g0 = some L0 ∧ L0.virt = false ∧ L0.B = L.B)
    (hgen : ∀ g', g < g' → ρ b g' = none)
    (hw : ∀ B, B < w.heap.size → (L.virt = true ∨ B ≠ L.B) → w'.heap[B]? = w.heap[B]?) : HOK ρ' M hp' w' := by
  have hM : ∀ B i v, M B i = some v → L.virt = true ∨ B ≠ L.B := by
    intro B i v hm
    rcases hcase with h1 | h1 | ⟨g0, sz0, pu0, s0, L0, h2, h3, h4, h5⟩
    · exact .inl h1
    · exact .inr (by have := h.mem_lt hm; omega)
    · obtain ⟨L1, e1, _, _, h6⟩ := h.row b g0 sz0 pu0 s0 h2
      rw [h3] at e1; cases e1
      rcases h6 with h6 | ⟨_, c, e, _, _, _, h7, _⟩
      · rw [h4] at h6; cases h6.1
      · refine .inr fun e => ?_
        rw [e, ← h5, h7] at hm; cases hm
  have other : ∀ b' g' sz' pu' s' L', b' ≠ b → hp b' = .row g' sz' pu' s' → ρ b' g' = some L' → L'.virt = false → (L.virt = true ∨ L'.B ≠ L.B) ∧ L'.B < w.heap.size := by
    intro b' g' sz' pu' s' L' hne h1 h2 h3
    obtain ⟨L1, e1, _, _, h6⟩ := h.row b' g' sz' pu' s' h1
    rw [h2] at e1; cases e1
    rcases h6 with h6 | ⟨_, c, e, h7, _, _, _, _⟩
    · rw [h3] at h6; cases h6.1
    have hlt := heap_lt h7
    refine ⟨?_, hlt⟩
    rcases hcase with h4 | h4 | ⟨g0, sz0, pu0, s0, L0, h8, h9, h10, h11⟩
    · exact .inl h4
    · exact .inr (by omega)
    · refine .inr fun e => hne ?_
      exact h.inj b' b g' g0 sz' sz0 pu' pu0 s' s0 L' L0 h1 h8 h2 h9 h3 h10 (by rw [e, h11])
  refine ⟨fun B i v hm => ?_, fun b' g' sz' pu' s' h1 => ?_, ?_, ?_⟩
  · have := h.mem B i v hm
    rw [cell_congr (hw B (h.mem_lt hm) (hM B i v hm))]
    exact this
  · by_cases hbb : b' = b
    · subst hbb
      rw [hb] at h1; cases h1
      exact hrow
    · rw [hb' b' hbb] at h1
      obtain ⟨L1, e1, e2, e3, h6⟩ := h.row b' g' sz' pu' s' h1
      refine ⟨L1, hρ _ _ _ e1, e2, e3, ?_⟩
      rcases h6 with h6 | ⟨hv, c, e, h7, h8, h9, h10, h11⟩
      · exact .inl h6
      · have ho := other b' g' sz' pu' s' L1 hbb h1 e1 hv
        refine .inr ⟨hv, c, e, ?_, h8, h9, h10, fun i hi => ⟨(h11 i hi).1, fun j hj => ?_⟩⟩
        · rw [hw L1.B ho.2 ho.1]; exact h7
        · obtain ⟨v, k1, k2, k3, k4⟩ := (h11 i hi).2 j hj
          exact ⟨v, k1, k2, k3.mono hρ (MExt.refl M), k4⟩
  · intro b1 b2 g1 g2 sz1 sz2 pu1 pu2 s1 s2 L1 L2 h1 h2 e1 e2 v1 v2 hB
    by_cases hb1 : b1 = b <;> by_cases hb2 : b2 = b
    · rw [hb1, hb2]
    · subst hb1
      rw [hb] at h1; cases h1
      rw [hb' b2 hb2] at h2
      rw [hL] at e1; cases e1
      have e2' : ρ b2 g2 = some L2 := by rw [← hρ' b2 g2 (fun x => hb2 x.1)]; exact e2
      have ho := other b2 g2 sz2 pu2 s2 L2 hb2 h2 e2' v2
      rcases ho.1 with h3 | h3
      · rw [v1] at h3; cases h3
      · exact absurd hB.symm h3
    · subst hb2
      rw [hb] at h2; cases h2
      rw [hb' b1 hb1] at h1
      rw [hL] at e2; cases e2
      have e1' : ρ b1 g1 = some L1 := by rw [← hρ' b1 g1 (fun x => hb1 x.1)]; exact e1
      have ho := other b1 g1 sz1 pu1 s1 L1 hb1 h1 e1' v1
      rcases ho.1 with h3 | h3
      · rw [v2] at h3; cases h3
      · exact absurd hB h3
    · rw [hb' b1 hb1] at h1
      rw [hb' b2 hb2] at h2
      have e1' : ρ b1 g1 = some L1 := by rw [← hρ' b1 g1 (fun x => hb1 x.1)]; exact e1
      have e2' : ρ b2 g2 = some L2 := by rw [← hρ' b2 g2 (fun x => hb2 x.1)]; exact e2
      exact h.inj b1 b2 g1 g2 sz1 sz2 pu1 pu2 s1 s2 L1 L2 h1 h2 e1' e2' v1 v2 hB
  · intro b' g' sz' pu' s' h1 g'' hg
    by_cases hbb : b' = b
    · subst hbb
      rw [hb] at h1; cases h1
      rw [hρ' _ _ (fun x => by omega)]
      exact hgen g'' hg
    · rw [hb' b' hbb] at h1
      rw [hρ' _ _ (fun x => hbb x.1)]
      exact h.gen b' g' sz' pu' s' h1 g'' hg

def updH (hp : Nat → Blk) (b : Nat) (x : Blk) : Nat → Blk := fun k => if k = b then x else hp k
def updR (ρ : Rho) (b g : Nat) (L : Loc) : Rho := fun b' g' => if b' = b ∧ g' = g then some L else ρ b' g'
theorem updR_same (ρ : Rho) (b g : Nat) (L : Loc) : updR ρ b g L b g = some L := by simp [updR]
theorem updR_ne (ρ : Rho) (b g : Nat) (L : Loc) {b' g' : Nat} (h : ¬ (b' = b ∧ g' = g)) : updR ρ b g L b' g' = ρ b' g' := by simp [updR, h]
theorem updR_ext {ρ : Rho} {b g : Nat} (L : Loc) (h : ρ b g = none) : RExt ρ (updR ρ b g L) := by
  intro b' g' L' h'
  by_cases hc : b' = b ∧ g' = g
  · rw [hc.1, hc.2, h] at h'; cases h'
  · rw [updR_ne _ _ _ _ hc]; exact h'

end Pw
namespace Pw
open Go

def setEffF (hp : Nat → Blk) : List (Nat × Blk) → Nat → Blk
  | [] => hp
  | (b, x) :: r => setEffF (updH hp b x) r

/-- More is known of where the blocks lie; of those that are dead nothing more. -/
structure RX (ρ ρ' : Rho) (hp : Nat → Blk) (nx : Nat) : Prop where
  ext : RExt ρ ρ'
  dead : ∀ b g, b < nx → hp b = .dead → ρ' b g = ρ b g
theorem RX.refl (ρ : Rho) (hp : Nat → Blk) (nx : Nat) : RX ρ ρ hp nx := ⟨RExt.refl ρ, fun _ _ _ _ => rfl⟩
theorem RX.upd {ρ : Rho} {hp : Nat → Blk} {nx b g : Nat} {L : Loc} (h : RExt ρ (updR ρ b g L)) (hb : nx ≤ b ∨ hp b ≠ .dead) : RX ρ (updR ρ b g L) hp nx :=
  ⟨h, fun b' g' h1 h2 => updR_ne _ _ _ _ (fun e => by
    rcases hb with hb | hb
    · omega
    · exact hb (e.1 ▸ h2))⟩

/-- What an operation comes to. -/
def OpOut (P : Program) (o : Oper) (U : Base) (w0 : World) (n : Nat) (ρ : Rho) (M : Mem) (tm : Nat → AV) (hp : Nat → Blk) (nx : Nat) (a : Act) (w : World) (v : AV) (eff : List (Nat × Blk)) : Prop :=
  ∃ u w' ρ' M', ((execOp a.eval o).run P w = .ok (.value u) w' ∨ ((execOp a.eval o).run P w = .ok .skip w' ∧ u = undef)) ∧
    RX ρ ρ' hp nx ∧ MExt M M' ∧ Rel ρ' M' u v ∧ SRel U w0 n ρ' M' tm (setEffF hp eff) (newOf nx eff) a w'

section
variable {P : Program} {o : Oper} {U : Base} {w0 : World} {n : Nat} {ρ : Rho} {M : Mem} {tm : Nat → AV} {hp : Nat → Blk} {nx : Nat} {a : Act} {w : World}

theorem OpOut.same (h : SRel U w0 n ρ M tm hp nx a w) {u : Value} {v : AV} (hr : (execOp a.eval o).run P w = .ok (.value u) w) (hv : Rel ρ M u v) :
    OpOut P o U w0 n ρ M tm hp nx a w v [] :=
  ⟨u, w, ρ, M, .inl hr, RX.refl ρ hp nx, MExt.refl M, hv, h⟩

/-- One row is new, or changed in its place. -/
theorem SRel.upd (h : SRel U w0 n ρ M tm hp nx a w) {ρ' : Rho} {w' : World} (b g sz : Nat) (pu : Bool) (s : Sq) (L : Loc)
    (hρ : RExt ρ ρ') (hρ' : ∀ b' g', ¬ (b' = b ∧ g' = g) → ρ' b' g' = ρ b' g') (hL : ρ' b g = some L)
    (hrow : RowOK ρ' M w' b g sz pu s)
    (hcase : L.virt = true ∨ w.heap.size ≤ L.B ∨ ∃ g0 sz0 pu0 s0 L0, hp b = .row g0 sz0 pu0 s0 ∧ ρ b g0 = some L0 ∧ L0.virt = false ∧ L0.B = L.B)
    (hgen : ∀ g', g < g' → ρ b g' = none)
    (hos : w'.os = w.os) (htape : w'.tape = w.tape) (hout : w'.output = w.output) (hsz : w.heap.size ≤ w'.heap.size)
    (hw : ∀ B, B < w.heap.size → (L.virt = true ∨ B ≠ L.B) → w'.heap[B]? = w.heap[B]?) :
    SRel U w0 n ρ' M tm (updH hp b (.row g sz pu s)) (newOf nx [(b, .row g sz pu s)]) a w' where
  size := h.size
  tm := fun t => (h.tm t).mono hρ (MExt.refl M)
  hok := h.hok.upd b g sz pu s L hρ hρ' hL (by simp [updH]) (fun b' hb' => by simp [updH, hb']) hrow hcase hgen hw
  dead := fun b' hb' => by
    simp only [newOf] at hb'
    have h1 : b' ≠ b := by split at hb' <;> omega
    have h2 : nx ≤ b' := by split at hb' <;> omega
    simp only [updH, if_neg h1]
    exact h.dead b' h2
  free := fun b' g' hb' => by
    simp only [newOf] at hb'
    have h1 : b' ≠ b := by split at hb' <;> omega
    have h2 : nx ≤ b' := by split at hb' <;> omega
    rw [hρ' b' g' (fun x => h1 x.1)]
    exact h.free b' g' h2
  keep := by
    refine ⟨hos.trans h.keep.os, htape.trans h.keep.tape, hout.trans h.keep.output, Nat.le_trans h.keep.size hsz, fun B hU hB => ?_⟩
    have hlt : B < w.heap.size := Nat.lt_of_lt_of_le hB h.keep.size
    rw [hw B hlt ?_]
    · exact h.keep.block B hU hB
    · rcases hcase with h1 | h1 | ⟨g0, sz0, pu0, s0, L0, h2, h3, h4, h5⟩
      · exact .inl h1
      · exact .inr (by omega)
      · refine .inr fun e => ?_
        have := h.own b g0 sz0 pu0 s0 L0 h2 h3 h4 (by rw [h5, ← e]; exact hU)
        omega
  memN := h.memN
  memE := h.memE
  own := fun b' g' sz' pu' s' L' h1 h2 h3 h4 => by
    by_cases hb : b' = b
    · subst hb
      simp only [updH, if_true] at h1
      cases h1
      rw [hL] at h2; cases h2
      rcases hcase with h5 | h5 | ⟨g0, sz0, pu0, s0, L0, h6, h7, h8, h9⟩
      · rw [h3] at h5; cases h5
      · exact Nat.le_trans h.keep.size h5
      · rw [← h9]; exact h.own b' g0 sz0 pu0 s0 L0 h6 h7 h8 (by rw [h9]; exact h4)
    · simp only [updH, if_neg hb] at h1
      rw [hρ' b' g' (fun x => hb x.1)] at h2
      exact h.own b' g' sz' pu' s' L' h1 h2 h3 h4
  defers := h.defers

theorem SRel.rowLoc (h : SRel U w0 n ρ M tm hp nx a w) {b g sz pu s} (hb : hp b = .row g sz pu s) : RowOK ρ M w b g sz pu s := h.hok.row b g sz pu s hb

theorem info_of_underlying {t : TypeId} {d : TypeDesc} (h : P.underlying t = some d) : ∃ i, P.info? t = some i := by
  unfold Program.underlying at h
  cases hi : P.info? t with
  | none => rw [hi] at h; cases h
  | some i => exact ⟨i, rfl⟩
theorem info_of_cells {t : TypeId} (h : 1 ≤ P.cellsOf t) : ∃ i, P.info? t = some i ∧ i.size = P.cellsOf t := by
  unfold Program.cellsOf at *
  cases hi : P.info? t with
  | none => rw [hi] at h; simp at h
  | some i => exact ⟨i, rfl, by simp⟩
theorem run_sizeOf' {t : TypeId} {i : TypeInfo} (h : P.info? t = some i) (w : World) : (Go.sizeOf t).run P w = .ok (P.cellsOf t) w := by
  simp [Go.sizeOf, typeInfo, h, Program.cellsOf]

/-- A new row of the call's own. -/
theorem SRel.alloc (h : SRel U w0 n ρ M tm hp nx a w) (sz : Nat) (pu : Bool) (s : Sq) (c : Array Value) (e : TypeId) (w1 : World) (hd : w1.heap = w.heap) (hos : w1.os = w.os) (htape : w1.tape = w.tape) (hout : w1.output = w.output)
    (h1 : 1 ≤ sz) (hsz : s.len * sz ≤ c.size)
    (hc : ∀ i, i < s.len → (s.get i).cells.length = sz ∧ ∀ j, j < sz → ∃ v, c[i * sz + j]? = some v ∧ v.oneCell' = true ∧
         Rel ρ M v ((s.get i).cells.getD j .undef) ∧ (pu = true → RelP M v ((s.get i).cells.getD j .undef))) :
    SRel U w0 n (updR ρ nx 0 ⟨w.heap.size, 0, c.size, sz, s.len, false⟩) M tm (updH hp nx (.row 0 sz pu s)) (newOf nx [(nx, .row 0 sz pu s)]) a (w1.alloc (.cells c e)) := by
  have hfree : ∀ g, ρ nx g = none := fun g => h.free nx g (Nat.le_refl _)
  have hext := updR_ext ⟨w.heap.size, 0, c.size, sz, s.len, false⟩ (hfree 0)
  refine h.upd nx 0 sz pu s ⟨w.heap.size, 0, c.size, sz, s.len, false⟩ hext (fun b' g' hne => updR_ne _ _ _ _ hne) (updR_same _ _ _ _)
    ⟨_, updR_same _ _ _ _, rfl, ⟨h1, rfl⟩, .inr ⟨rfl, c, e, ?_, rfl, by simpa using hsz, ?_, ?_⟩⟩ (.inr (.inl (Nat.le_refl _))) (fun g' _ => hfree g') hos htape hout (by simp [hd]) ?_
  · have := heap_alloc_new w1 (.cells c e); rw [hd] at this; exact this
  · intro i
    cases hm : M w.heap.size i with
    | none => rfl
    | some v => have := h.hok.mem_lt hm; omega
  · intro i hi
    refine ⟨(hc i hi).1, fun j hj => ?_⟩
    obtain ⟨v, k1, k2, k3, k4⟩ := (hc i hi).2 j hj
    exact ⟨v, by simpa using k1, k2, k3.mono hext (MExt.refl M), k4⟩
  · intro B hB _
    rw [heap_alloc_old w1 _ B (by rw [hd]; exact hB), hd]
end
end Pw
