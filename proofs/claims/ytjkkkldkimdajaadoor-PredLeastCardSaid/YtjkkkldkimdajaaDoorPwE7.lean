/- ENGINE, part E7: slice expressions, conversions, make. -/
import Derived.Test.YtjkkkldkimdajaaDoorPwE6
namespace Pw
set_option linter.unusedSimpArgs false
open Go

section
variable {P : Program} {o : Oper} {U : Base} {w0 : World} {n : Nat} {ρ : Rho} {M : Mem} {tm : Nat → AV} {hp : Nat → Blk} {nx : Nat} {a : Act} {w : World}

/-- A bound that is not written, or an integer. -/
theorem bound_inv {d : Nat} {q : Option Operand} {ev : Operand → AV} {r : Int × Bool} (hq : ∀ x ∈ q.toList, Rel ρ M (a.eval x) (ev x)) (h : bound d (q.map ev) = some r) :
    (q = none ∧ r = ((d : Int), true)) ∨ (∃ x k i, q = some x ∧ a.eval x = .int k i ∧ r = (i, false)) := by
  cases q with
  | none => simp only [Option.map_none, bound, Option.some.injEq] at h; exact .inl ⟨rfl, h.symm⟩
  | some x =>
    simp only [Option.map_some] at h
    have hx := hq x (by simp)
    generalize ev x = y at h hx
    cases y <;> simp only [bound, reduceCtorEq, Option.some.injEq] at h
    exact .inr ⟨x, _, _, rfl, hx.intInv, h.symm⟩

theorem run_bounds (isS : Bool) (len cap : Nat) (lo hi mx : Option Operand) (l h m : Int) (hn : Bool)
    (hlo : (lo = none ∧ l = 0) ∨ ∃ x k, lo = some x ∧ a.eval x = .int k l)
    (hhi : (hi = none ∧ h = len ∧ hn = true) ∨ ∃ x k, hi = some x ∧ a.eval x = .int k h ∧ hn = false)
    (hmx : (mx = none ∧ m = cap) ∨ ∃ x k, mx = some x ∧ a.eval x = .int k m) (hmh : mx ≠ none → hi ≠ none)
    (h0 : 0 ≤ l) (h1 : l ≤ h) (h2 : h ≤ m) (h3 : m ≤ cap) :
    (Instr.sliceBounds isS len cap (lo.map a.eval) (hi.map a.eval) (mx.map a.eval)).run P w = .ok (l.toNat, h.toNat, m.toNat) w := by
  have em : (m.toNat : Int) = m := Int.toNat_of_nonneg (by omega)
  have eh : (h.toNat : Int) = h := Int.toNat_of_nonneg (by omega)
  have hh0 : 0 ≤ h := by omega
  have hm0 : 0 ≤ m := by omega
  have hhc : h ≤ cap := by omega
  rcases hlo with ⟨rfl, rfl⟩ | ⟨x, k, rfl, hx⟩ <;> rcases hhi with ⟨rfl, rfl, rfl⟩ | ⟨y, k', rfl, hy, rfl⟩ <;> rcases hmx with ⟨rfl, rfl⟩ | ⟨z, k'', rfl, hz⟩
  all_goals first
    | (refine absurd rfl (hmh ?_); simp; done)
    | (simp only [Instr.sliceBounds, Option.map_none, Option.map_some, *]
       simp [run_sliceBound, h0, h1, h2, h3, em, eh, hh0, hm0, hhc, -Int.ofNat_toNat]; done)
    | (simp only [Instr.sliceBounds, Option.map_none, Option.map_some, *]
       simp [run_sliceBound, h0, h1, h2, h3, em, eh, hh0, hm0, hhc, -Int.ofNat_toNat]; omega)

theorem run_sliceS (t e : TypeId) (x : Operand) (lo hi mx : Option Operand) (hu : P.underlying t = some (.slice e)) {i : TypeInfo} (he : P.info? e = some i)
    (ho : o.op = .slice t x lo hi mx) (ad : Option Addr) (len cap : Nat) (hx : a.eval x = .slice ad len cap) (l h m : Nat)
    (hb : (Instr.sliceBounds true len cap (lo.map a.eval) (hi.map a.eval) (mx.map a.eval)).run P w = .ok (l, h, m) w) :
    (execOp a.eval o).run P w = .ok (.value (.slice (if m = l then ad else ad.map (·.add (l * P.cellsOf e))) (h - l) (m - l))) w := by
  simp only [execOp, ho]
  rw [run_v]
  simp [Instr.sliceAt, run_underlying hu, Instr.slice, hx, hb, run_sizeOf' he]

theorem run_slice0 (t : TypeId) (x : Operand) (lo hi : Option Operand) (hu : P.underlying t = some .string)
    (ho : o.op = .slice t x lo hi none) (s : List UInt8) (hx : a.eval x = .string ⟨⟨s⟩⟩) (l h m : Nat)
    (hb : (Instr.sliceBounds false s.length s.length (lo.map a.eval) (hi.map a.eval) none).run P w = .ok (l, h, m) w) :
    (execOp a.eval o).run P w = .ok (.value (.string ⟨⟨(s.drop l).take (h - l)⟩⟩)) w := by
  have e1 : (ByteArray.mk ⟨s⟩).size = s.length := rfl
  have e2 : (ByteArray.mk ⟨s⟩).extract l h = ⟨⟨(s.drop l).take (h - l)⟩⟩ := by
    apply ByteArray.ext
    apply Array.ext'
    simp [ByteArray.data_extract, Array.toList_extract, List.extract]
  simp only [execOp, ho]
  rw [run_v]
  simp [Instr.sliceAt, run_underlying hu, Instr.slice, hx, e1, hb, e2]

theorem step_slice (h : SRel U w0 n ρ M tm hp nx a w) (t : TypeId) (x : Operand) (lo hi mx : Option Operand) (ho : o.op = .slice t x lo hi mx) (ev : Operand → AV) (hx : Rel ρ M (a.eval x) (ev x))
    (hlo : ∀ y ∈ lo.toList, Rel ρ M (a.eval y) (ev y)) (hhi : ∀ y ∈ hi.toList, Rel ρ M (a.eval y) (ev y)) (hmx : ∀ y ∈ mx.toList, Rel ρ M (a.eval y) (ev y)) (need v eff ob)
    (hs : stepOp P (.slice t x lo hi mx) ev hp nx = some ⟨need, v, eff, ob⟩) (hn : need = true) : OpOut P o U w0 n ρ M tm hp nx a w v eff := by
  simp only [stepOp, sliceAV] at hs
  have L0 : ∀ {l : Int} {b : Bool}, bound 0 (lo.map ev) = some (l, b) → (lo = none ∧ l = 0) ∨ ∃ x k, lo = some x ∧ a.eval x = .int k l := by
    intro l b hb
    rcases bound_inv hlo hb with ⟨h1, h2⟩ | ⟨y, k, i, h1, h2, h3⟩
    · cases h2; exact .inl ⟨h1, rfl⟩
    · cases h3; exact .inr ⟨y, k, h1, h2⟩
  have H0 : ∀ {d : Nat} {l : Int} {b : Bool}, bound d (hi.map ev) = some (l, b) → (hi = none ∧ l = d ∧ b = true) ∨ ∃ x k, hi = some x ∧ a.eval x = .int k l ∧ b = false := by
    intro d l b hb
    rcases bound_inv hhi hb with ⟨h1, h2⟩ | ⟨y, k, i, h1, h2, h3⟩
    · cases h2; exact .inl ⟨h1, rfl, rfl⟩
    · cases h3; exact .inr ⟨y, k, h1, h2, rfl⟩
  have M0 : ∀ {q : Operand} {l : Int} {b : Bool}, mx = some q → bound 0 (some (ev q)) = some (l, b) → ∃ x k, mx = some x ∧ a.eval x = .int k l := by
    intro q l b hq hb
    subst hq
    rcases bound_inv (q := some q) hmx (by simpa using hb) with ⟨h1, h2⟩ | ⟨y, k, i, h1, h2, h3⟩
    · cases h1
    · cases h3; exact ⟨y, k, h1, h2⟩
  split at hs
  · rename_i s hu he
    cases mx with
    | some q => simp at hs
    | none =>
      simp only [Option.map_none, Option.bind_eq_some_iff, okN, Option.some.injEq, SR.mk.injEq] at hs
      obtain ⟨⟨l, b1⟩, e1, ⟨hh, b2⟩, e2, h0, rfl, rfl, rfl⟩ := hs
      rw [← h0] at hn
      have hn' : 0 ≤ l ∧ l ≤ hh ∧ hh ≤ s.length := by simpa using hn
      rw [he] at hx
      have hq := hx.strInv
      have hb := run_bounds (P := P) (w := w) (a := a) false s.length s.length lo hi none l hh s.length b2 (L0 e1) (H0 e2) (.inl ⟨rfl, rfl⟩) (by simp) hn'.1 hn'.2.1 hn'.2.2 (by omega)
      exact OpOut.same h (run_slice0 t x lo hi hu ho s hq _ _ _ hb) (.pure (.str _))
  · rename_i e s ex hu he
    split at hs
    case isFalse => cases hs
    rename_i hc
    simp only [Bool.and_eq_true] at hc
    obtain ⟨d, hd⟩ := Option.isSome_iff_exists.1 hc.1
    obtain ⟨ii, hii⟩ := info_of_underlying hd
    rw [he] at hx
    have hro := hx.rolInv
    have hs0 : 0 < s.length → (s.getD 0 .undef).cells.length = P.cellsOf e := by
      intro hl
      have h2 := hc.2
      simp only [Sq.sized, List.all_eq_true, beq_iff_eq] at h2
      have : s.getD 0 .undef = s[0] := by simp [List.getD, hl]
      rw [this]; exact h2 _ (List.getElem_mem hl)
    generalize hq : a.eval x = q at hro
    have hshape : ∃ ad cap, q = .slice ad s.length cap ∧ s.length ≤ cap ∧ (ex = true → cap = s.length) := by
      rcases hro with ⟨h1, ad, cap, h2, h3, h4, h5⟩ | ⟨h1, B, off, cap, sz, vals, h2, h3, h4, h5, _⟩
      · exact ⟨ad, cap, by rw [h2, h1], by omega, fun he => by rw [h4 he, h1]⟩
      · exact ⟨_, cap, h2, h3, h5⟩
    obtain ⟨ad, cap, rfl, hcap, hcex⟩ := hshape
    simp only [Option.bind_eq_some_iff] at hs
    obtain ⟨⟨l, b1⟩, e1, ⟨hh, b2⟩, e2, hs⟩ := hs
    have fin : ∀ (l hh m : Int) (ex' : Bool), (Instr.sliceBounds true s.length cap (lo.map a.eval) (hi.map a.eval) (mx.map a.eval)).run P w = .ok (l.toNat, hh.toNat, m.toNat) w →
        0 ≤ l → l ≤ hh → hh ≤ s.length → hh ≤ m → m ≤ cap → (ex' = true → m = hh) → OpOut P o U w0 n ρ M tm hp nx a w (.rol ((s.drop l.toNat).take (hh.toNat - l.toNat)) ex') [] := by
      intro l hh m ex' hb k0 k1 k2 k3 k4 k5
      refine OpOut.same h (run_sliceS t e x lo hi mx hu hii ho ad s.length cap hq _ _ _ hb) (.pure ?_)
      have hsub := hro.sub l.toNat hh.toNat m.toNat (P.cellsOf e) ex' (by omega) (by omega) (by omega) (by omega) hs0 (fun he => by have := k5 he; omega)
      have hlen : ((s.drop l.toNat).take (hh.toNat - l.toNat)).length = hh.toNat - l.toNat := by simp; omega
      refine ROf.toRol (f := fun k => s.getD (l.toNat + k) .undef) (by rw [hlen]; exact hsub) (fun i hi => ?_)
      rw [hlen] at hi
      simp [List.getD, List.getElem?_take, hi, List.getElem?_drop]
    cases mx with
    | none =>
      simp only [Option.map_none, okN, Option.some.injEq, SR.mk.injEq] at hs
      obtain ⟨h0, rfl, rfl, rfl⟩ := hs
      rw [← h0] at hn
      have hn' : 0 ≤ l ∧ l ≤ hh ∧ hh ≤ s.length := by simpa using hn
      have hb := run_bounds (P := P) (w := w) (a := a) true s.length cap lo hi none l hh cap b2 (L0 e1) (H0 e2) (.inl ⟨rfl, rfl⟩) (by simp) hn'.1 hn'.2.1 (by omega) (by omega)
      refine fin l hh cap (ex && b2) hb hn'.1 hn'.2.1 hn'.2.2 (by omega) (by omega) (fun he => ?_)
      simp only [Bool.and_eq_true] at he
      rcases H0 e2 with ⟨_, k1, _⟩ | ⟨_, _, _, _, k2⟩
      · have := hcex he.1; omega
      · rw [he.2] at k2; cases k2
    | some q =>
      simp only [Option.map_some, Option.bind_eq_some_iff] at hs
      obtain ⟨⟨mm, b3⟩, e3, hs⟩ := hs
      split at hs
      · cases hs
      rename_i hb2
      simp only [okN, Option.some.injEq, SR.mk.injEq] at hs
      obtain ⟨h0, rfl, rfl, rfl⟩ := hs
      rw [← h0] at hn
      have hn' : 0 ≤ l ∧ l ≤ hh ∧ hh = mm ∧ hh ≤ s.length := by simpa using hn
      have hb := run_bounds (P := P) (w := w) (a := a) true s.length cap lo hi (some q) l hh mm b2 (L0 e1) (H0 e2) (.inr (M0 rfl e3)) (by
        intro _ hnone
        rcases H0 e2 with ⟨_, _, k⟩ | ⟨_, _, k, _⟩
        · rw [k] at hb2; simp at hb2
        · rw [hnone] at k; cases k) hn'.1 hn'.2.1 (by omega) (by omega)
      exact fin l hh mm true hb hn'.1 hn'.2.1 hn'.2.2.2 (by omega) (by omega) (fun _ => by omega)
  · rename_i e nn f ex hu he
    split at hs
    case isFalse => cases hs
    rename_i hc
    simp only [Bool.and_eq_true] at hc
    obtain ⟨d, hd⟩ := Option.isSome_iff_exists.1 hc.1
    obtain ⟨ii, hii⟩ := info_of_underlying hd
    rw [he] at hx
    have hro := hx.rofInv
    have hs0 : 0 < nn → (f 0).cells.length = P.cellsOf e := by
      intro _
      simpa [Sq.sized] using hc.2
    generalize hq : a.eval x = q at hro
    have hshape : ∃ ad cap, q = .slice ad nn cap ∧ nn ≤ cap ∧ (ex = true → cap = nn) := by
      rcases hro with ⟨h1, ad, cap, h2, h3, h4, h5⟩ | ⟨h1, B, off, cap, sz, vals, h2, h3, h4, h5, _⟩
      · exact ⟨ad, cap, by rw [h2, h1], by omega, fun he => by rw [h4 he, h1]⟩
      · exact ⟨_, cap, h2, h3, h5⟩
    obtain ⟨ad, cap, rfl, hcap, hcex⟩ := hshape
    simp only [Option.bind_eq_some_iff] at hs
    obtain ⟨⟨l, b1⟩, e1, ⟨hh, b2⟩, e2, hs⟩ := hs
    have fin : ∀ (l hh m : Int) (ex' : Bool), (Instr.sliceBounds true nn cap (lo.map a.eval) (hi.map a.eval) (mx.map a.eval)).run P w = .ok (l.toNat, hh.toNat, m.toNat) w →
        0 ≤ l → l ≤ hh → hh ≤ nn → hh ≤ m → m ≤ cap → (ex' = true → m = hh) → OpOut P o U w0 n ρ M tm hp nx a w (.rof (hh.toNat - l.toNat) (fun k => f (l.toNat + k)) ex') [] := by
      intro l hh m ex' hb k0 k1 k2 k3 k4 k5
      refine OpOut.same h (run_sliceS t e x lo hi mx hu hii ho ad nn cap hq _ _ _ hb) (.pure ?_)
      have hsub := hro.sub l.toNat hh.toNat m.toNat (P.cellsOf e) ex' (by omega) (by omega) (by omega) (by omega) hs0 (fun he => by have := k5 he; omega)
      exact hsub.toRof
    cases mx with
    | none =>
      simp only [Option.map_none, okN, Option.some.injEq, SR.mk.injEq] at hs
      obtain ⟨h0, rfl, rfl, rfl⟩ := hs
      rw [← h0] at hn
      have hn' : 0 ≤ l ∧ l ≤ hh ∧ hh ≤ nn := by simpa using hn
      have hb := run_bounds (P := P) (w := w) (a := a) true nn cap lo hi none l hh cap b2 (L0 e1) (H0 e2) (.inl ⟨rfl, rfl⟩) (by simp) hn'.1 hn'.2.1 (by omega) (by omega)
      refine fin l hh cap (ex && b2) hb hn'.1 hn'.2.1 hn'.2.2 (by omega) (by omega) (fun he => ?_)
      simp only [Bool.and_eq_true] at he
      rcases H0 e2 with ⟨_, k1, _⟩ | ⟨_, _, _, _, k2⟩
      · have := hcex he.1; omega
      · rw [he.2] at k2; cases k2
    | some q =>
      simp only [Option.map_some, Option.bind_eq_some_iff] at hs
      obtain ⟨⟨mm, b3⟩, e3, hs⟩ := hs
      split at hs
      · cases hs
      rename_i hb2
      simp only [okN, Option.some.injEq, SR.mk.injEq] at hs
      obtain ⟨h0, rfl, rfl, rfl⟩ := hs
      rw [← h0] at hn
      have hn' : 0 ≤ l ∧ l ≤ hh ∧ hh = mm ∧ hh ≤ nn := by simpa using hn
      have hb := run_bounds (P := P) (w := w) (a := a) true nn cap lo hi (some q) l hh mm b2 (L0 e1) (H0 e2) (.inr (M0 rfl e3)) (by
        intro _ hnone
        rcases H0 e2 with ⟨_, _, k⟩ | ⟨_, _, k, _⟩
        · rw [k] at hb2; simp at hb2
        · rw [hnone] at k; cases k) hn'.1 hn'.2.1 (by omega) (by omega)
      exact fin l hh mm true hb hn'.1 hn'.2.1 hn'.2.2.2 (by omega) (by omega) (fun _ => by omega)
  · rename_i e hu he
    split at hs
    case isFalse => cases hs
    rename_i hc
    obtain ⟨d, hd⟩ := Option.isSome_iff_exists.1 hc
    obtain ⟨ii, hii⟩ := info_of_underlying hd
    rw [he] at hx
    have hq : a.eval x = .slice none 0 0 := by
      generalize a.eval x = q at hx
      cases hx with | pure h => cases h; rfl
    simp only [Option.bind_eq_some_iff] at hs
    obtain ⟨⟨l, b1⟩, e1, ⟨hh, b2⟩, e2, hs⟩ := hs
    have fin : (Instr.sliceBounds true 0 0 (lo.map a.eval) (hi.map a.eval) (mx.map a.eval)).run P w = .ok (0, 0, 0) w → OpOut P o U w0 n ρ M tm hp nx a w .nils [] := by
      intro hb
      exact OpOut.same h (run_sliceS t e x lo hi mx hu hii ho none 0 0 hq _ _ _ hb) (.pure .nils)
    cases mx with
    | none =>
      simp only [Option.map_none, okN, Option.some.injEq, SR.mk.injEq] at hs
      obtain ⟨h0, rfl, rfl, rfl⟩ := hs
      rw [← h0] at hn
      have hn' : l = 0 ∧ hh = 0 := by simpa using hn
      obtain ⟨rfl, rfl⟩ := hn'
      exact fin (run_bounds (P := P) (w := w) (a := a) true 0 0 lo hi none 0 0 0 b2 (L0 e1) (H0 e2) (.inl ⟨rfl, rfl⟩) (by simp) (by omega) (by omega) (by omega) (by simp))
    | some q =>
      simp only [Option.map_some, Option.bind_eq_some_iff] at hs
      obtain ⟨⟨mm, b3⟩, e3, hs⟩ := hs
      split at hs
      · cases hs
      rename_i hb2
      simp only [okN, Option.some.injEq, SR.mk.injEq] at hs
      obtain ⟨h0, rfl, rfl, rfl⟩ := hs
      rw [← h0] at hn
      have hn' : l = 0 ∧ hh = 0 ∧ mm = 0 := by simpa using hn
      obtain ⟨rfl, rfl, rfl⟩ := hn'
      exact fin (run_bounds (P := P) (w := w) (a := a) true 0 0 lo hi (some q) 0 0 0 b2 (L0 e1) (H0 e2) (.inr (M0 rfl e3)) (by
        intro _ hnone
        rcases H0 e2 with ⟨_, _, k⟩ | ⟨_, _, k, _⟩
        · rw [k] at hb2; simp at hb2
        · rw [hnone] at k; cases k) (by omega) (by omega) (by omega) (by simp))
  · rename_i e b g i len c hu he
    split at hs
    case h_2 => cases hs
    rename_i g' sz pu s hb
    split at hs
    case isFalse => cases hs
    rename_i hsz
    have hg : g = g' := by
      simp only [Option.bind_eq_some_iff] at hs
      obtain ⟨⟨l, b1⟩, e1, ⟨hh, b2⟩, e2, hs⟩ := hs
      cases mx with
      | none =>
        simp only [Option.map_none, okN, Option.some.injEq, SR.mk.injEq] at hs
        rw [← hs.1] at hn
        simp only [Bool.and_eq_true, decide_eq_true_eq] at hn
        exact hn.1
      | some q =>
        simp only [Option.map_some, Option.bind_eq_some_iff] at hs
        obtain ⟨⟨mm, b3⟩, e3, hs⟩ := hs
        split at hs
        · cases hs
        simp only [okN, Option.some.injEq, SR.mk.injEq] at hs
        rw [← hs.1] at hn
        simp only [Bool.and_eq_true, decide_eq_true_eq] at hn
        exact hn.1
    subst hg
    rw [he] at hx
    obtain ⟨L, hL, hcase⟩ := hx.slInv
    obtain ⟨L', el1, el2, el3, _⟩ := h.rowLoc hb
    rw [hL] at el1; cases el1
    obtain ⟨ii, hii, _⟩ := info_of_cells (P := P) (t := e) (by omega)
    simp only [Option.bind_eq_some_iff] at hs
    obtain ⟨⟨l, b1⟩, e1, ⟨hh, b2⟩, e2, hs⟩ := hs
    have shape : ∃ ad cap, a.eval x = .slice ad len cap ∧ len ≤ cap ∧ (∀ k, c = some k → cap = k) ∧
        (∀ (l h m : Nat) (c' : Option Nat), l ≤ h → h ≤ len → h ≤ m → m ≤ cap → (∀ k, c' = some k → m - l = k) →
          Rel ρ M (.slice (if m = l then ad else ad.map (·.add (l * P.cellsOf e))) (h - l) (m - l)) (.sl b g (i + l) (h - l) c')) := by
      rcases hcase with ⟨hv, cap, hq, k1, k2, k3, k4, k5⟩ | ⟨h1, k2, ad, hq⟩
      · refine ⟨_, cap, hq, k1, k2, fun l h m c' q1 q2 q3 q4 q5 => ?_⟩
        by_cases hml : m = l
        · rw [if_pos hml]
          have e0 : h - l = 0 := by omega
          have e00 : m - l = 0 := by omega
          rw [e0, e00]
          exact .slv L _ b g (i + l) c' hL (fun k hk => by have := q5 k hk; omega)
        · rw [if_neg hml]
          simp only [Option.map_some, add_eq]
          have : L.o + i * L.sz + l * P.cellsOf e = L.o + (i + l) * L.sz := by rw [← hsz, ← el2, Nat.add_mul]; omega
          rw [this]
          refine .sl L b g (i + l) (h - l) (m - l) c' hL hv (by omega) q5 ?_ (by omega) (by omega)
          have hle : (i + l + (m - l)) * L.sz ≤ (i + cap) * L.sz := Nat.mul_le_mul_right _ (by omega)
          omega
      · subst h1
        refine ⟨ad, 0, hq, by omega, fun k hk => (k2 k hk).symm, fun l h m c' q1 q2 q3 q4 q5 => ?_⟩
        have e0 : l = 0 := by omega
        have e1 : h = 0 := by omega
        have e2 : m = 0 := by omega
        subst e0; subst e1; subst e2
        exact .slv L _ b g (i + 0) c' hL (fun k hk => by have := q5 k hk; omega)
    obtain ⟨ad, cap, hq, hcap, hck, hrel⟩ := shape
    cases mx with
    | none =>
      simp only [Option.map_none, okN, Option.some.injEq, SR.mk.injEq] at hs
      obtain ⟨h0, rfl, rfl, rfl⟩ := hs
      rw [← h0] at hn
      have hn' : 0 ≤ l ∧ l ≤ hh ∧ hh ≤ len := by simpa using hn
      have hb := run_bounds (P := P) (w := w) (a := a) true len cap lo hi none l hh cap b2 (L0 e1) (H0 e2) (.inl ⟨rfl, rfl⟩) (by simp) hn'.1 hn'.2.1 (by omega) (by omega)
      refine OpOut.same h (run_sliceS t e x lo hi none hu hii ho ad len cap hq _ _ _ hb) (hrel _ _ _ _ (by omega) (by omega) (by omega) (by omega) (fun k hk => ?_))
      cases hcc : c with
      | none => rw [hcc] at hk; cases hk
      | some q => rw [hcc] at hk; cases hk; have := hck q hcc; subst this; simp only; omega
    | some q =>
      simp only [Option.map_some, Option.bind_eq_some_iff] at hs
      obtain ⟨⟨mm, b3⟩, e3, hs⟩ := hs
      split at hs
      · cases hs
      rename_i hb2
      simp only [okN, Option.some.injEq, SR.mk.injEq] at hs
      obtain ⟨h0, rfl, rfl, rfl⟩ := hs
      rw [← h0] at hn
      have hn' : 0 ≤ l ∧ l ≤ hh ∧ hh = mm ∧ hh ≤ len := by simpa using hn
      have hb := run_bounds (P := P) (w := w) (a := a) true len cap lo hi (some q) l hh mm b2 (L0 e1) (H0 e2) (.inr (M0 rfl e3)) (by
        intro _ hnone
        rcases H0 e2 with ⟨_, _, k⟩ | ⟨_, _, k, _⟩
        · rw [k] at hb2; simp at hb2
        · rw [hnone] at k; cases k) hn'.1 hn'.2.1 (by omega) (by omega)
      exact OpOut.same h (run_sliceS t e x lo hi (some q) hu hii ho ad len cap hq _ _ _ hb) (hrel _ _ _ _ (by omega) (by omega) (by omega) (by omega) (fun k hk => by cases hk; rfl))
  · cases hs

end
end Pw
