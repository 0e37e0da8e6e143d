/- ENGINE, part G4: contracts of functions that leave all as it was; what a call has made stands when it ends. -/
import Derived.Test.YtjkkkldkimdajaaDoorPwG3
namespace Pw
set_option linter.unusedSimpArgs false
open Go

/-! ### A call that leaves all as it was -/
def MemOK (M : Mem) (W : World) : Prop := ∀ B i v, M B i = some v → W.cell? ⟨B, i, none⟩ = some v ∧ v.oneCell' = true

theorem SRel.frame {U : Base} {w0 : World} {n : Nat} {ρ : Rho} {M M' : Mem} {tm : Nat → AV} {hp : Nat → Blk} {nx : Nat} {a : Act} {w w' : World} (h : SRel U w0 n ρ M tm hp nx a w) (hk : Keep (fun _ => True) w w')
    (hM : MExt M M') (hmem : MemOK M' w') (hnew : ∀ B i v, M' B i = some v → M B i = some v ∨ w.heap.size ≤ B) : SRel U w0 n ρ M' tm hp nx a w' := by
  have h' : SRel (maskBase U w0 ρ M hp (List.range nx)) w n ρ M' tm (fun b => if b ∈ List.range nx then .dead else hp b) nx a w' := by
    have dead : ∀ b, (if b ∈ List.range nx then Blk.dead else hp b) = .dead := fun b => by
      by_cases hb : b ∈ List.range nx
      · simp [hb]
      · simp only [hb, if_false]
        exact h.dead b (by simpa using hb)
    have ab : ∀ b g sz pu s, (if b ∈ List.range nx then Blk.dead else hp b) = .row g sz pu s → False := fun b g sz pu s e => by
      rw [dead b] at e
      cases e
    exact ⟨h.size, fun t => (h.tm t).mono (RExt.refl ρ) hM, ⟨hmem, fun b g sz pu s e => (ab _ _ _ _ _ e).elim, fun b b' g g' sz sz' pu pu' s s' L L' e => (ab _ _ _ _ _ e).elim, fun b g sz pu s e => (ab _ _ _ _ _ e).elim⟩,
      fun b _ => dead b, h.free, ⟨hk.os, hk.tape, hk.output, hk.size, fun B _ hB => hk.block B trivial hB⟩, hnew, hM, fun b g sz pu s L e => (ab _ _ _ _ _ e).elim, h.defers⟩
  refine (SRel.unmask h (List.range nx) (hpm := fun b => if b ∈ List.range nx then .dead else hp b) (fun _ => rfl) h' ⟨⟨RExt.refl ρ, fun _ _ _ _ => rfl⟩, Nat.le_refl _, fun _ _ h => h⟩ hM (hp' := hp) fun b => ?_).1
  by_cases hb : b ∈ List.range nx <;> simp [hb]

/-! ### What a call has made, as it stands -/
def Sq.map (h : AV → AV) : Sq → Sq
  | .lst l => .lst (l.map h)
  | .fn n f => .fn n (fun k => h (f k))
theorem Sq.map_len (h : AV → AV) (s : Sq) : (s.map h).len = s.len := by cases s <;> simp [Sq.map, Sq.len]
theorem Sq.map_get (h : AV → AV) (s : Sq) (i : Nat) (hi : i < s.len) : (s.map h).get i = h (s.get i) := by
  cases s with
  | lst l =>
    simp only [Sq.len] at hi
    simp [Sq.map, Sq.get, List.getD, hi]
  | fn n f => rfl

def frzC : Nat → (Nat → Blk) → AV → AV
  | 0, _, x => bif x.isPureCell then x else .undef
  | d + 1, hp, x =>
    match x with
    | .sl b g i len c =>
      match hp b with
      | .row g' _ pu s => if g = g' then ((match pu with | true => s.sub i len | false => (s.sub i len).map fun y => match y with | .agg l => .agg (l.map (frzC d hp)) | y => frzC d hp y).ro (decide (c = some len))) else .undef
      | .dead => .undef
    | .ptr b g i j =>
      match hp b with
      | .row g' _ pu s => if g = g' ∧ i < s.len then .rptr (match pu with | true => s.get i | false => match s.get i with | .agg l => .agg (l.map (frzC d hp)) | y => frzC d hp y) j else .undef
      | .dead => .undef
    | x => bif x.isPureCell then x else .undef
def frzE (d : Nat) (hp : Nat → Blk) : AV → AV
  | .agg l => .agg (l.map (frzC d hp))
  | y => frzC d hp y
def frz (d : Nat) (hp : Nat → Blk) : AV → AV
  | .tup l => .tup (l.map (frzE d hp))
  | y => frzE d hp y

/-! .. where the row's stage is asked beside -/
def frzXC (d : Nat) (hp : Nat → Blk) : AV → AV
  | .sl b _ i len c =>
    match d with
    | 0 => .undef
    | d + 1 =>
      match hp b with
      | .row _ _ pu s => (match pu with | true => s.sub i len | false => (s.sub i len).map fun y => match y with | .agg l => .agg (l.map (frzC d hp)) | y => frzC d hp y).ro (decide (c = some len))
      | .dead => .undef
  | x => frzC d hp x
def gensC (hp : Nat → Blk) : AV → Bool
  | .sl b g _ _ _ => match hp b with | .row g' _ _ _ => decide (g = g') | .dead => true
  | _ => true
def gensCL (hp : Nat → Blk) : List AV → Bool
  | [] => true
  | x :: l => gensC hp x && gensCL hp l
def frzXE (d : Nat) (hp : Nat → Blk) : AV → AV
  | .agg l => .agg (l.map (frzXC d hp))
  | y => frzXC d hp y
def gensE (hp : Nat → Blk) : AV → Bool
  | .agg l => gensCL hp l
  | y => gensC hp y
def gensEL (hp : Nat → Blk) : List AV → Bool
  | [] => true
  | x :: l => gensE hp x && gensEL hp l
def frzX (d : Nat) (hp : Nat → Blk) : AV → AV
  | .tup l => .tup (l.map (frzXE d hp))
  | y => frzXE d hp y
def gensX (hp : Nat → Blk) : AV → Bool
  | .tup l => gensEL hp l
  | y => gensE hp y
def gensAll (hp : Nat → Blk) : List AV → Bool
  | [] => true
  | x :: l => gensX hp x && gensAll hp l

theorem frzXC_eq {d : Nat} {hp : Nat → Blk} {x : AV} (h : gensC hp x = true) : frzXC d hp x = frzC d hp x := by
  cases x with
  | sl b g i len c =>
    cases d with
    | zero => rfl
    | succ d =>
      simp only [gensC] at h
      simp only [frzXC, frzC]
      split
      · rename_i hb
        rw [hb] at h
        rw [if_pos (of_decide_eq_true h)]
      · rfl
  | _ => rfl
theorem frzXC_map {d : Nat} {hp : Nat → Blk} : ∀ {l : List AV}, gensCL hp l = true → l.map (frzXC d hp) = l.map (frzC d hp)
  | [], _ => rfl
  | x :: l, h => by
    simp only [gensCL, Bool.and_eq_true] at h
    rw [List.map_cons, List.map_cons, frzXC_eq h.1, frzXC_map h.2]
theorem frzXE_eq {d : Nat} {hp : Nat → Blk} {x : AV} (h : gensE hp x = true) : frzXE d hp x = frzE d hp x := by
  cases x
  case agg l => exact congrArg AV.agg (frzXC_map h)
  case sl b g i len c => exact frzXC_eq (x := .sl b g i len c) h
  all_goals rfl
theorem frzXE_map {d : Nat} {hp : Nat → Blk} : ∀ {l : List AV}, gensEL hp l = true → l.map (frzXE d hp) = l.map (frzE d hp)
  | [], _ => rfl
  | x :: l, h => by
    simp only [gensEL, Bool.and_eq_true] at h
    rw [List.map_cons, List.map_cons, frzXE_eq h.1, frzXE_map h.2]
theorem frzX_eq {d : Nat} {hp : Nat → Blk} {x : AV} (h : gensX hp x = true) : frzX d hp x = frz d hp x := by
  cases x
  case tup l => exact congrArg AV.tup (frzXE_map h)
  case agg l => exact frzXE_eq (x := .agg l) h
  case sl b g i len c => exact frzXE_eq (x := .sl b g i len c) h
  all_goals rfl
theorem frzX_map {d : Nat} {hp : Nat → Blk} : ∀ {l : List AV}, gensAll hp l = true → l.map (frzX d hp) = l.map (frz d hp)
  | [], _ => rfl
  | x :: l, h => by
    simp only [gensAll, Bool.and_eq_true] at h
    rw [List.map_cons, List.map_cons, frzX_eq h.1, frzX_map h.2]

theorem isPureCell_cell {x : AV} (h : x.isPureCell = true) : x.cells = [x] := by cases x <;> simp_all [AV.isPureCell, AV.cells]
theorem Sq.ro_cells (s : Sq) (ex : Bool) : (s.ro ex).cells = [s.ro ex] := by cases s <;> rfl
theorem frzC_cells (d : Nat) (hp : Nat → Blk) (x : AV) : (frzC d hp x).cells = [frzC d hp x] := by
  have pc : ∀ y : AV, (bif y.isPureCell then y else AV.undef).cells = [bif y.isPureCell then y else AV.undef] := fun y => by
    cases h : y.isPureCell
    · rfl
    · exact isPureCell_cell h
  cases d with
  | zero => exact pc x
  | succ d =>
    cases x with
    | sl b g i len c =>
      simp only [frzC]
      split
      · split
        · exact Sq.ro_cells _ _
        · rfl
      · rfl
    | ptr b g i j =>
      simp only [frzC]
      split
      · split <;> rfl
      · rfl
    | _ => simp only [frzC]; exact pc _
theorem frzE_cells (d : Nat) (hp : Nat → Blk) (x : AV) : (frzE d hp x).cells = x.cells.map (frzC d hp) := by
  cases x with
  | agg l => rfl
  | _ => simp only [frzE]; rw [frzC_cells]; rfl

theorem ro_rel {M : Mem} {B o cap sz : Nat} {s : Sq} {ex : Bool} (hc : s.len ≤ cap) (hcm : cap ≤ maxLen) (hex : ex = true → cap = s.len)
    (hz : ∀ i, i < s.len → (s.get i).cells.length = sz) (hm : ∀ i j, i < s.len → j < sz → ∃ v, M B (o + i * sz + j) = some v ∧ RelP M v ((s.get i).cells.getD j .undef)) :
    RelP M (.slice (some ⟨B, o, none⟩) s.len cap) (s.ro ex) := by
  have h1 : ∀ i j, i < s.len → j < sz → M B (o + i * sz + j) = some ((M B (o + i * sz + j)).getD undef) := fun i j hi hj => by
    obtain ⟨v, hv, _⟩ := hm i j hi hj
    rw [hv]
    rfl
  have h2 : ∀ i j, i < s.len → j < sz → RelP M ((M B (o + i * sz + j)).getD undef) ((s.get i).cells.getD j .undef) := fun i j hi hj => by
    obtain ⟨v, hv, hr⟩ := hm i j hi hj
    rw [hv]
    exact hr
  cases s with
  | lst l => exact .rol B o cap sz l ex (fun i j => (M B (o + i * sz + j)).getD undef) hc hcm hex hz h1 h2
  | fn n f => exact .rof B o cap sz n f ex (fun i j => (M B (o + i * sz + j)).getD undef) hc hcm hex hz h1 h2

theorem ro_rel0 {M : Mem} {a : Option Addr} {s : Sq} {ex : Bool} (hs : s.len = 0) : RelP M (.slice a 0 0) (s.ro ex) := by
  cases s with
  | lst l =>
    obtain rfl : l = [] := List.eq_nil_of_length_eq_zero hs
    exact .rol0 a 0 ex (by simp) (fun _ => rfl) (fun _ => rfl)
  | fn n f =>
    obtain rfl : n = 0 := hs
    exact .rof0 a 0 f ex (by simp) (fun _ => rfl) (fun _ => rfl)

section
variable {ρ : Rho} {M M2 : Mem} {hp : Nat → Blk} {w : World}

theorem Rel.elemCell {v : Value} {x : AV} (h : Rel ρ M v x) (hx : x.isPureCell = true) : RelP M v x := h.pureCell hx

theorem frzC_rel (hok : HOK ρ M hp w) (hM : MExt M M2) (hrow : ∀ b g sz pu s L, hp b = .row g sz pu s → ρ b g = some L → L.virt = false → ∀ i v, w.cell? ⟨L.B, i, none⟩ = some v → v.oneCell' = true → M2 L.B i = some v) :
    ∀ (d : Nat) (v : Value) (x : AV), Rel ρ M v x → RelP M2 v (frzC d hp x) := by
  have pc : ∀ (v : Value) (y : AV), Rel ρ M v y → RelP M2 v (bif y.isPureCell then y else AV.undef) := fun v y hr => by
    cases h : y.isPureCell
    · exact .undef v
    · exact (hr.pureCell h).mono hM
  intro d
  induction d with
  | zero => exact fun v x hr => pc v x hr
  | succ d ih =>
    -- an element of a row
    have el : ∀ b g sz pu s, hp b = .row g sz pu s → ∀ L, ρ b g = some L → L.virt = false → ∀ i, i < s.len → ∀ y, y = (bif pu then s.get i else frzE d hp (s.get i)) →
        y.cells.length = sz ∧ ∀ j, j < sz → ∃ v, M2 L.B (L.o + i * sz + j) = some v ∧ RelP M2 v (y.cells.getD j .undef) := by
      intro b g sz pu s hb L hL hv i hi y hy
      obtain ⟨L', e1, e2, e3, e4⟩ := hok.row b g sz pu s hb
      rw [hL] at e1
      cases e1
      rcases e4 with e4 | ⟨_, c, e, h5, h6, h7, h8, h9⟩
      · rw [hv] at e4
        cases e4.1
      obtain ⟨k1, k2⟩ := h9 i hi
      have hcells : y.cells = bif pu then (s.get i).cells else (s.get i).cells.map (frzC d hp) := by
        cases pu with
        | true => rw [hy]; rfl
        | false => rw [hy]; exact frzE_cells d hp (s.get i)
      refine ⟨by rw [hcells]; cases pu <;> simp [k1], fun j hj => ?_⟩
      obtain ⟨v, m1, m2, m3, m4⟩ := k2 j hj
      refine ⟨v, hrow b g sz pu s L hb hL hv _ v ?_ m2, ?_⟩
      · simp [World.cell?, h5, m1]
      · rw [hcells]
        cases pu with
        | true => exact (m4 rfl).mono hM
        | false =>
          have hlt : j < (s.get i).cells.length := by omega
          have := ih v _ m3
          simp only [cond_false, List.getD_eq_getElem?_getD, List.getElem?_map, List.getElem?_eq_getElem hlt, Option.map_some, Option.getD_some] at this ⊢
          exact this
    intro v x hr
    cases x with
    | sl b g i len c =>
      simp only [frzC]
      cases hb : hp b with
      | dead => exact .undef v
      | row g' sz pu s =>
        simp only []
        by_cases hg : g = g'
        · subst hg
          simp only [if_true]
          have hlen : ∀ q : Sq, (match pu with | true => q | false => q.map fun y => match y with | .agg l => .agg (l.map (frzC d hp)) | y => frzC d hp y).len = q.len := fun q => by
            cases pu
            · exact Sq.map_len _ _
            · rfl
          cases hr with
          | pure h => cases h
          | sl L _ _ _ _ cap _ h hv hl hc hbb hcm hn =>
            obtain ⟨L', e1, e2, e3, e4⟩ := hok.row b g sz pu s hb
            rw [h] at e1
            cases e1
            have hsub : i + len ≤ s.len := by omega
            have hl' := (hlen (s.sub i len)).trans (Sq.sub_len s i len hsub)
            subst e2
            generalize hq : (match pu with | true => s.sub i len | false => (s.sub i len).map fun y => match y with | .agg l => .agg (l.map (frzC d hp)) | y => frzC d hp y) = q at hl' ⊢
            have get : ∀ k, k < len → q.get k = (bif pu then s.get (i + k) else frzE d hp (s.get (i + k))) := fun k hk => by
              rw [← hq]
              cases pu
              · simp only [cond_false]
                rw [Sq.map_get _ _ _ (by rw [Sq.sub_len s i len hsub]; exact hk), Sq.sub_get s i len k hk]
                cases s.get (i + k) <;> rfl
              · simp only [cond_true]
                rw [Sq.sub_get s i len k hk]
            have hres := ro_rel (M := M2) (B := L.B) (o := L.o + i * L.sz) (cap := cap) (sz := L.sz) (s := q) (ex := decide (c = some len)) (by omega) hcm (fun hex => by
                rw [hl']
                exact hc len (of_decide_eq_true hex))
              (fun k hk => (el b g L.sz pu s hb L h hv (i + k) (by omega) _ (get k (by omega))).1)
              (fun k j hk hj => by
                obtain ⟨v, hv1, hv2⟩ := (el b g L.sz pu s hb L h hv (i + k) (by omega) _ (get k (by omega))).2 j hj
                refine ⟨v, ?_, hv2⟩
                rw [← hv1]
                congr 1
                rw [Nat.add_mul]
                omega)
            rw [hl'] at hres
            exact hres
          | slv L a _ _ _ _ h hc =>
            refine ro_rel0 ((hlen _).trans ?_)
            cases s <;> simp [Sq.sub, Sq.len]
        · simp only [hg, if_false]
          exact .undef v
    | ptr b g i j =>
      simp only [frzC]
      cases hb : hp b with
      | dead => exact .undef v
      | row g' sz pu s =>
        simp only []
        by_cases hg : g = g' ∧ i < s.len
        · obtain ⟨rfl, hi⟩ := hg
          simp only [hi, and_self, if_true]
          obtain ⟨L, h, rfl, _⟩ := hr.ptrInv
          obtain ⟨L', e1, e2, e3, e4⟩ := hok.row b g sz pu s hb
          rw [h] at e1
          cases e1
          have hv : L.virt = false := by
            rcases e4 with e4 | e4
            · omega
            · exact e4.1
          generalize hy : (match pu with | true => s.get i | false => match s.get i with | .agg l => .agg (l.map (frzC d hp)) | y => frzC d hp y) = y
          have hy' : y = bif pu then s.get i else frzE d hp (s.get i) := by
            rw [← hy]
            cases pu
            · simp only [cond_false]
              cases s.get i <;> rfl
            · rfl
          obtain ⟨k1, k2⟩ := el b g sz pu s hb L h hv i hi y hy'
          rw [e2]
          refine .rptr L.B (L.o + i * sz) j y (fun k => (M2 L.B (L.o + i * sz + k)).getD undef) (fun k hk => ?_) (fun k hk => ?_)
          · obtain ⟨v, hv1, _⟩ := k2 k (by omega)
            rw [hv1]
            rfl
          · obtain ⟨v, hv1, hv2⟩ := k2 k (by omega)
            rw [hv1]
            exact hv2
        · simp only [hg, if_false]
          exact .undef v
    | _ => simp only [frzC]; exact pc v _ hr

theorem frzE_rel (hok : HOK ρ M hp w) (hM : MExt M M2) (hrow : ∀ b g sz pu s L, hp b = .row g sz pu s → ρ b g = some L → L.virt = false → ∀ i v, w.cell? ⟨L.B, i, none⟩ = some v → v.oneCell' = true → M2 L.B i = some v)
    (d : Nat) (v : Value) (x : AV) (h : Rel ρ M v x) : RelP M2 v (frzE d hp x) := by
  cases x with
  | agg l =>
    obtain ⟨cs, rfl, hs, hr⟩ := h.aggInv
    refine .agg cs _ (by simp [hs]) fun i hi => ?_
    have hi' : i < l.length := by simpa using hi
    have := frzC_rel hok hM hrow d _ _ (hr i hi')
    simpa [List.getD_eq_getElem?_getD, hi'] using this
  | _ => simp only [frzE]; exact frzC_rel hok hM hrow d v _ h

theorem frz_rel (hok : HOK ρ M hp w) (hM : MExt M M2) (hrow : ∀ b g sz pu s L, hp b = .row g sz pu s → ρ b g = some L → L.virt = false → ∀ i v, w.cell? ⟨L.B, i, none⟩ = some v → v.oneCell' = true → M2 L.B i = some v)
    (d : Nat) (v : Value) (x : AV) (h : Rel ρ M v x) : RelP M2 v (frz d hp x) := by
  cases x with
  | tup l =>
    obtain ⟨cs, rfl, hs, hr⟩ := h.tupInv
    refine .tup cs _ (by simp [hs]) fun i hi => ?_
    have hi' : i < l.length := by simpa using hi
    have := frzE_rel hok hM hrow d _ _ (hr i hi')
    simpa [List.getD_eq_getElem?_getD, hi'] using this
  | _ => simp only [frz]; exact frzE_rel hok hM hrow d v _ h
end

/-! ### Contracts of functions that leave all as it was -/
def ArgsP (M : Mem) (vals : Array Value) (args : List AV) : Prop := vals.size = args.length ∧ ∀ i, i < args.length → RelP M (vals.getD i undef) (args.getD i .undef)

def PureC (P : Program) (gl : Nat → AV) (f : FuncId) (args : List AV) (v : AV) : Prop :=
  ∀ M W vals, GlobOK M gl → MemOK M W → ArgsP M vals args → FnOK P f ∧ Calls P f vals W fun e W' =>
    ∃ u M', e = .returned u ∧ RelP M' u v ∧ MExt M M' ∧ MemOK M' W' ∧ (∀ B i v, M' B i = some v → M B i = some v ∨ W.heap.size ≤ B) ∧ Keep (fun _ => True) W W'

/-- From the conditions of the code. -/
theorem PureC.of_vc {E : Env} {f : FuncId} {k d : Nat} {args : List AV} {v : AV} (hm : E.P.follows .mixedOrders = true) (hctr : CtrOK E)
    (hs : (vcFun E k f args .nil 0 fun x hp _ => .need (gensX (fun b => hp.get .dead b) x) (.leaf ((frzX d (fun b => hp.get .dead b) x).sub v))).sat) : PureC E.P E.gl f args v := by
  intro M W vals hG hM hargs
  have hS : SRel ⟨fun _ => True, M⟩ W 0 (fun _ _ => none) M (fun _ => .undef) (fun b => (T.nil : T Blk).get .dead b) 0 { tmps := #[], defers := [] } W := by
    refine ⟨rfl, fun t => .undef _, ⟨hM, fun b g sz pu s h => ?_, fun b b' g g' sz sz' pu pu' s s' L L' h => ?_, fun b g sz pu s h => ?_⟩, fun b _ => rfl, fun b g _ => rfl, Keep.refl _ W, fun B i v h => .inl h, MExt.refl M, fun b g sz pu s L h => ?_, rfl⟩
    all_goals simp [T.get] at h
  obtain ⟨hfn, hc⟩ := vcFun_sound hm hctr k f args .nil 0 _ hs _ W 0 _ M _ _ W vals hG hS ⟨hargs.1, fun i hi => .pure (hargs.2 i hi)⟩
  refine ⟨hfn, hc.mono fun e W' ⟨u, x, ρ', M', hp', nx', h1, h2, h3, h4, h5, hpt, h6, h7⟩ => ?_⟩
  have h6' : (fun b => hpt.get .dead b) = hp' := funext h6
  rw [h6'] at h7
  obtain ⟨hgn, h7⟩ := NB.inv h7
  rw [frzX_eq hgn] at h7
  refine ⟨u, fun B i => if W.heap.size ≤ B then memOf W' B i else M B i, h1, ?_, ?_, ?_, ?_, h5.keep⟩
  · have hext : MExt M' (fun B i => if W.heap.size ≤ B then memOf W' B i else M B i) := fun B i v hv => by
      show (if W.heap.size ≤ B then memOf W' B i else M B i) = some v
      split
      · exact memOf_mk (h5.hok.mem B i v hv).1 (h5.hok.mem B i v hv).2
      · rcases h5.memN B i v hv with h8 | h8
        · exact h8
        · exact absurd h8 ‹_›
    refine RelP.sub (frz_rel h5.hok hext (fun b g sz pu s L hb hL hv i c hc hc1 => ?_) d u x h4) v h7
    have := h5.own b g sz pu s L hb hL hv trivial
    show (if W.heap.size ≤ L.B then memOf W' L.B i else M L.B i) = some c
    rw [if_pos this]
    exact memOf_mk hc hc1
  · intro B i v hv
    show (if W.heap.size ≤ B then memOf W' B i else M B i) = some v
    have := World.block_lt_of_cell? W ⟨B, i, none⟩ (hM B i v hv).1
    rw [if_neg (by simp at this; omega)]
    exact hv
  · intro B i v hv
    simp only [] at hv
    split at hv
    · exact memOf_some hv
    · refine ⟨?_, (hM B i v hv).2⟩
      rw [cell_congr (h5.keep.block B trivial (by omega))]
      exact (hM B i v hv).1
  · intro B i v hv
    simp only [] at hv
    split at hv
    · exact .inr ‹_›
    · exact .inl hv

/-- Values in which no memory is. -/
def AV.flatC : AV → Bool
  | .int .. | .bool _ | .str _ | .nils | .nilp | .nilf | .nilm => true
  | .fn _ [] [] => true
  | _ => false
def AV.flatE : AV → Bool
  | .agg l => l.all AV.flatC
  | x => x.flatC
def AV.flat : AV → Bool
  | .tup l => l.all AV.flatE
  | x => x.flatE

theorem RelP.flatC {M M' : Mem} {v : Value} {x : AV} (h : RelP M v x) (hx : x.flatC = true) : RelP M' v x := by
  cases h <;> first | (simp [AV.flatC] at hx; done) | constructor
theorem all_getD {l : List AV} {p : AV → Bool} (h : l.all p = true) {i : Nat} (hi : i < l.length) : p (l.getD i .undef) = true := by
  rw [List.getD_eq_getElem?_getD, List.getElem?_eq_getElem hi]
  exact List.all_eq_true.1 h _ (List.getElem_mem hi)
theorem RelP.flatE {M M' : Mem} {v : Value} {x : AV} (h : RelP M v x) (hx : x.flatE = true) : RelP M' v x := by
  cases x with
  | agg l =>
    cases h with
    | agg cs _ hs hr => exact .agg cs l hs fun i hi => (hr i hi).flatC (all_getD hx hi)
  | _ => exact h.flatC hx
theorem RelP.flat {M M' : Mem} {v : Value} {x : AV} (h : RelP M v x) (hx : x.flat = true) : RelP M' v x := by
  cases x with
  | tup l =>
    cases h with
    | tup cs _ hs hr => exact .tup cs l hs fun i hi => (hr i hi).flatE (all_getD hx hi)
  | _ => exact h.flatE hx

def AV.isPureE : AV → Bool
  | .agg m => m.all AV.isPureCell
  | x => x.isPureCell
theorem Rel.isPureE {ρ : Rho} {M : Mem} {v : Value} {x : AV} (h : Rel ρ M v x) (hx : x.isPureE = true) : RelP M v x := by
  cases x with
  | agg l =>
    obtain ⟨cs, rfl, hs, hr⟩ := h.aggInv
    exact .agg cs l hs fun i hi => (hr i hi).pureCell (all_getD hx hi)
  | _ => exact h.pureCell hx
theorem Rel.isPure {ρ : Rho} {M : Mem} {v : Value} {x : AV} (h : Rel ρ M v x) (hx : x.isPure = true) : RelP M v x := by
  cases x with
  | tup l =>
    obtain ⟨cs, rfl, hs, hr⟩ := h.tupInv
    exact .tup cs l hs fun i hi => (hr i hi).isPureE (all_getD (p := AV.isPureE) hx hi)
  | agg l => exact h.isPureE hx
  | _ => exact h.pureCell hx

theorem ArgsRel.pureP {ρ M vals args} (h : ArgsRel ρ M vals args) (hp : args.all AV.isPure = true) : ArgsP M vals args :=
  ⟨h.1, fun i hi => (h.2 i hi).isPure (all_getD hp hi)⟩

abbrev Tbl := FuncId → List AV → Option (Bool × AV)
def TblOK (P : Program) (gl : Nat → AV) (t : Tbl) : Prop := ∀ f args nd v, t f args = some (nd, v) → nd = true → PureC P gl f args v

/-- A table, as contracts: an argument that the call's own memory holds is read as it stands; what comes of it then holds no memory. -/
def ctrOf (t : Tbl) (f : FuncId) (args : List AV) (hp : Nat → Blk) (_ : Nat) : Option Out :=
  match args.all AV.isPure with
  | true => (t f args).map fun q => .ret q.1 q.2 []
  | false => match t f (args.map (frzX 9 hp)) with
    | some (nd, v) => match v.flat with | true => some (.ret (nd && gensAll hp args) v []) | false => none
    | none => none

theorem ctrOf_ok {E : Env} {t : Tbl} (ht : TblOK E.P E.gl t) (he : E.ctr = ctrOf t) : CtrOK E := by
  intro f args hp nx out ho U w0 n ρ M tm a w vals hG hS hA
  rw [he] at ho
  unfold ctrOf at ho
  split at ho
  · rename_i hpu
    obtain ⟨⟨nd, v⟩, h1, rfl⟩ := Option.map_eq_some_iff.1 ho
    intro hnd _
    obtain ⟨hfn, hc⟩ := ht f args nd v h1 hnd M w vals (fun g => (hG g).mono hS.memE) hS.hok.mem (hA.pureP hpu)
    exact ⟨hfn, hc.mono fun e w' ⟨u, M', h2, h3, h4, h5, h6, h7⟩ => ⟨u, ρ, M', h2, RX.refl ρ hp nx, h4, .pure h3, hS.frame h7 h4 h5 h6⟩⟩
  · split at ho
    · rename_i nd v h1
      split at ho
      · rename_i hfl
        cases ho
        intro hnd _
        simp only [Bool.and_eq_true] at hnd
        obtain ⟨hnd, hgn⟩ := hnd
        rw [frzX_map hgn] at h1
        have hext : MExt M (memOf w) := fun B i v hv => memOf_mk (hS.hok.mem B i v hv).1 (hS.hok.mem B i v hv).2
        have hA' : ArgsP (memOf w) vals (args.map (frz 9 hp)) := by
          refine ⟨by simpa using hA.1, fun i hi => ?_⟩
          have hi' : i < args.length := by simpa using hi
          have := frz_rel hS.hok hext (fun b g sz pu s L _ _ _ i v h1 h2 => memOf_mk h1 h2) 9 _ _ (hA.2 i hi')
          simpa [List.getD_eq_getElem?_getD, hi'] using this
        obtain ⟨hfn, hc⟩ := ht f _ nd v h1 hnd (memOf w) w vals (fun g => ((hG g).mono hS.memE).mono hext) (fun B i v h => memOf_some h) hA'
        refine ⟨hfn, hc.mono fun e w' ⟨u, M', h2, h3, h4, h5, h6, h7⟩ => ⟨u, ρ, M, h2, RX.refl ρ hp nx, MExt.refl M, .pure (h3.flat hfl), hS.frame h7 (MExt.refl M) (fun B i v hv => h5 B i v (h4 B i v (hext B i v hv))) fun B i v hv => .inl hv⟩⟩
      · cases ho
    · cases ho
end Pw
