/- ENGINE, part E6: elements' addresses, and slices of slices. -/
import Derived.Test.YtjkkkldkimdajaaDoorPwE5
namespace Pw
set_option linter.unusedSimpArgs false
open Go

/-- A slice value over memory that does not change: n elements, given by f. -/
def ROf (M : Mem) (v : Value) (n : Nat) (f : Nat → AV) (ex : Bool) : Prop :=
  (n = 0 ∧ ∃ a cap, v = .slice a 0 cap ∧ cap ≤ maxLen ∧ (ex = true → cap = 0) ∧ (a = none → cap = 0)) ∨
  (0 < n ∧ ∃ B o cap sz, ∃ vals : Nat → Nat → Value, v = .slice (some ⟨B, o, none⟩) n cap ∧ n ≤ cap ∧ cap ≤ maxLen ∧ (ex = true → cap = n) ∧
    (∀ i, i < n → (f i).cells.length = sz) ∧ (∀ i j, i < n → j < sz → M B (o + i * sz + j) = some (vals i j)) ∧
    (∀ i j, i < n → j < sz → RelP M (vals i j) ((f i).cells.getD j .undef)))

theorem ROf.ofRol {M v l ex} (h : RelP M v (.rol l ex)) : ROf M v l.length (fun i => l.getD i .undef) ex := by
  cases h with
  | rol B o cap sz l ex vals hc hcm hex hz hm hr =>
    rcases Nat.eq_zero_or_pos l.length with h0 | h0
    · exact .inl ⟨h0, some ⟨B, o, none⟩, cap, by rw [h0], hcm, fun he => by rw [hex he, h0], by simp⟩
    · exact .inr ⟨h0, B, o, cap, sz, vals, rfl, hc, hcm, hex, hz, hm, hr⟩
  | rol0 a cap ex h1 h2 h3 => exact .inl ⟨rfl, a, cap, rfl, h1, h2, h3⟩

theorem ROf.ofRof {M v n f ex} (h : RelP M v (.rof n f ex)) : ROf M v n f ex := by
  cases h with
  | rof B o cap sz n f ex vals hc hcm hex hz hm hr =>
    rcases Nat.eq_zero_or_pos n with h0 | h0
    · exact .inl ⟨h0, some ⟨B, o, none⟩, cap, by rw [h0], hcm, fun he => by rw [hex he, h0], by simp⟩
    · exact .inr ⟨h0, B, o, cap, sz, vals, rfl, hc, hcm, hex, hz, hm, hr⟩
  | rof0 a cap f ex h1 h2 h3 => exact .inl ⟨rfl, a, cap, rfl, h1, h2, h3⟩

theorem ROf.toRof {M v n f ex} (h : ROf M v n f ex) : RelP M v (.rof n f ex) := by
  rcases h with ⟨rfl, a, cap, rfl, h1, h2, h3⟩ | ⟨h0, B, o, cap, sz, vals, rfl, hc, hcm, hex, hz, hm, hr⟩
  · exact .rof0 a cap f ex h1 h2 h3
  · exact .rof B o cap sz n f ex vals hc hcm hex hz hm hr

theorem ROf.toRol {M v l ex} {f : Nat → AV} (h : ROf M v l.length f ex) (hf : ∀ i, i < l.length → f i = l.getD i .undef) : RelP M v (.rol l ex) := by
  rcases h with ⟨h0, a, cap, rfl, h1, h2, h3⟩ | ⟨h0, B, o, cap, sz, vals, rfl, hc, hcm, hex, hz, hm, hr⟩
  · have : l = [] := List.eq_nil_of_length_eq_zero h0
    subst this
    exact .rol0 a cap ex h1 h2 h3
  · refine .rol B o cap sz l ex vals hc hcm hex (fun i hi => by rw [← hf i hi]; exact hz i hi) hm (fun i j hi hj => by rw [← hf i hi]; exact hr i j hi hj)

/-- A part of it. -/
theorem ROf.sub {M n f ex} {a : Option Addr} {len cap : Nat} (h : ROf M (.slice a len cap) n f ex) (l hh m s : Nat) (ex' : Bool) (hl : l ≤ hh) (hn : hh ≤ n) (hm : hh ≤ m) (hmc : m ≤ cap)
    (hs : 0 < n → (f 0).cells.length = s) (hex : ex' = true → m = hh) :
    ROf M (.slice (if m = l then a else a.map (·.add (l * s))) (hh - l) (m - l)) (hh - l) (fun k => f (l + k)) ex' := by
  rcases h with ⟨rfl, a', cap', h1, h2, h3, h4⟩ | ⟨h0, B, o, cap', sz, vals, h1, hc, hcm, hex0, hz, hmm, hr⟩
  · cases h1
    have e1 : hh = 0 := by omega
    have e2 : l = 0 := by omega
    subst e1; subst e2
    refine .inl ⟨rfl, _, m, rfl, by omega, fun he => by rw [hex he], fun ha => ?_⟩
    by_cases hm0 : m = 0
    · exact hm0
    · rw [if_neg hm0] at ha
      simp at ha
      have := h4 ha
      omega
  · cases h1
    have hsz : sz = s := by rw [← hs h0, ← hz 0 h0]
    subst hsz
    rcases Nat.eq_zero_or_pos (hh - l) with h5 | h5
    · refine .inl ⟨h5, _, m - l, by rw [h5], by omega, fun he => by rw [hex he]; exact h5, fun ha => ?_⟩
      split at ha <;> simp at ha
    · refine .inr ⟨h5, B, o + l * sz, m - l, sz, fun i j => vals (l + i) j, ?_, by omega, by omega, fun he => by rw [hex he], fun i hi => hz _ (by omega), fun i j hi hj => ?_, fun i j hi hj => hr _ _ (by omega) hj⟩
      · rw [if_neg (by omega)]
        simp [add_eq]
      · have := hmm (l + i) j (by omega) hj
        rw [Nat.add_mul] at this
        rw [← this]; congr 1; omega

section
variable {P : Program} {o : Oper} {U : Base} {w0 : World} {n : Nat} {ρ : Rho} {M : Mem} {tm : Nat → AV} {hp : Nat → Blk} {nx : Nat} {a : Act} {w : World}

theorem Rel.rolInv {ρ M} {v : Value} {l ex} (h : Rel ρ M v (.rol l ex)) : ROf M v l.length (fun i => l.getD i .undef) ex := by
  cases h with | pure h => exact .ofRol h
theorem Rel.rofInv {ρ M} {v : Value} {n f ex} (h : Rel ρ M v (.rof n f ex)) : ROf M v n f ex := by
  cases h with | pure h => exact .ofRof h
theorem Rel.slInv {ρ M} {v : Value} {b g i len c} (h : Rel ρ M v (.sl b g i len c)) : ∃ L, ρ b g = some L ∧
    ((L.virt = false ∧ ∃ cap, v = .slice (some ⟨L.B, L.o + i * L.sz, none⟩) len cap ∧ len ≤ cap ∧ (∀ k, c = some k → cap = k) ∧ L.o + (i + cap) * L.sz ≤ L.csz ∧ cap ≤ maxLen ∧ i + len ≤ L.n) ∨
     (len = 0 ∧ (∀ k, c = some k → k = 0) ∧ ∃ a, v = .slice a 0 0)) := by
  cases h with
  | pure h => cases h
  | sl L b g i len cap c h hv hl hc hb hcm hn => exact ⟨L, h, .inl ⟨hv, cap, rfl, hl, hc, hb, hcm, hn⟩⟩
  | slv L a b g i c h hc => exact ⟨L, h, .inr ⟨rfl, hc, a, rfl⟩⟩

theorem out_indexRo (h : SRel U w0 n ρ M tm hp nx a w) (t e : TypeId) (x ix : Operand) (ho : o.op = .indexAddr t x ix) (hu : P.underlying t = some (.slice e)) (he : (P.underlying e).isSome = true)
    (nn : Nat) (f : Nat → AV) (ex : Bool) (hx : ROf M (a.eval x) nn f ex) (k : IntKind) (i : Int) (hi : a.eval ix = .int k i) (h0 : 0 ≤ i) (h1 : i < nn) (hs : (f 0).cells.length = P.cellsOf e) :
    OpOut P o U w0 n ρ M tm hp nx a w (.rptr (f i.toNat) 0) [] := by
  generalize hq : a.eval x = q at hx
  rcases hx with ⟨rfl, _⟩ | ⟨h2, B, off, cap, sz, vals, rfl, hc, hcm, hex, hz, hm, hr⟩
  · omega
  obtain ⟨d, hd⟩ := Option.isSome_iff_exists.1 he
  obtain ⟨ii, hii⟩ := info_of_underlying hd
  have hsz : sz = P.cellsOf e := by rw [← hs, ← hz 0 h2]
  subst hsz
  have hlt : i.toNat < nn := by omega
  refine OpOut.same h (u := .pointer (some ⟨B, off + i.toNat * P.cellsOf e + 0, none⟩)) ?_ (.pure (.rptr B (off + i.toNat * P.cellsOf e) 0 (f i.toNat) (vals i.toNat) (fun j hj => hm _ _ hlt (by rw [hz _ hlt] at hj; exact hj)) (fun j hj => hr _ _ hlt (by rw [hz _ hlt] at hj; exact hj))))
  simp [execOp, ho, hq, hi, Instr.indexAt, asIntOf, run_underlying hu, h0, h1, run_sizeOf' hii, add_eq]

theorem step_indexAddr (h : SRel U w0 n ρ M tm hp nx a w) (t : TypeId) (x ix : Operand) (ho : o.op = .indexAddr t x ix) (ev : Operand → AV) (hx : Rel ρ M (a.eval x) (ev x)) (hix : Rel ρ M (a.eval ix) (ev ix)) (need v eff ob)
    (hs : stepOp P (.indexAddr t x ix) ev hp nx = some ⟨need, v, eff, ob⟩) (hn : need = true) : OpOut P o U w0 n ρ M tm hp nx a w v eff := by
  simp only [stepOp, indexAddrAV] at hs
  split at hs
  · rename_i e l ex k i hu he hei
    split at hs
    case isFalse => cases hs
    rename_i hc
    simp only [Bool.and_eq_true] at hc
    simp only [okN, Option.some.injEq, SR.mk.injEq] at hs
    obtain ⟨h0, rfl, rfl, rfl⟩ := hs
    rw [← h0] at hn
    have hn' : 0 ≤ i ∧ i < l.length := by simpa using hn
    rw [he] at hx; rw [hei] at hix
    refine out_indexRo h t e x ix ho hu hc.1 _ _ ex hx.rolInv k i hix.intInv hn'.1 hn'.2 ?_
    have h2 := hc.2
    simp only [Sq.sized, List.all_eq_true, beq_iff_eq] at h2
    have hl : 0 < l.length := by omega
    have : l.getD 0 .undef = l[0] := by simp [List.getD, hl]
    rw [this]; exact h2 _ (List.getElem_mem hl)
  · rename_i e nn f ex k i hu he hei
    split at hs
    case isFalse => cases hs
    rename_i hc
    simp only [Bool.and_eq_true] at hc
    simp only [okN, Option.some.injEq, SR.mk.injEq] at hs
    obtain ⟨h0, rfl, rfl, rfl⟩ := hs
    rw [← h0] at hn
    have hn' : 0 ≤ i ∧ i < nn := by simpa using hn
    rw [he] at hx; rw [hei] at hix
    refine out_indexRo h t e x ix ho hu hc.1 _ _ ex hx.rofInv k i hix.intInv hn'.1 hn'.2 ?_
    have h2 := hc.2
    simpa [Sq.sized] using h2
  · rename_i e b g i0 len c k i hu he hei
    split at hs
    case h_2 => cases hs
    rename_i g' sz pu s hb
    split at hs
    case isFalse => cases hs
    rename_i hsz
    simp only [okN, Option.some.injEq, SR.mk.injEq] at hs
    obtain ⟨h0, rfl, rfl, rfl⟩ := hs
    rw [← h0] at hn
    simp only [Bool.and_eq_true, decide_eq_true_eq] at hn
    obtain ⟨hg, hn'⟩ := hn
    subst hg
    rw [he] at hx; rw [hei] at hix
    have hi := hix.intInv
    obtain ⟨L, hL, hc⟩ := hx.slInv
    rcases hc with ⟨hv, cap, hq, hlc, hck, hb2, hcm, hnn⟩ | ⟨h1, _⟩
    · obtain ⟨L', e1, e2, e3, _⟩ := h.rowLoc hb
      rw [hL] at e1; cases e1
      obtain ⟨ii, hii, _⟩ := info_of_cells (P := P) (t := e) (by omega)
      refine OpOut.same h (u := .pointer (some ⟨L.B, L.o + (i0 + i.toNat) * L.sz + 0, none⟩)) ?_ (.ptr L b g (i0 + i.toNat) 0 hL (by omega))
      simp [execOp, ho, hq, hi, Instr.indexAt, asIntOf, run_underlying hu, hn'.1, hn'.2, run_sizeOf' hii, add_eq]
      rw [e2, hsz, Nat.add_mul, Nat.add_assoc]
    · omega
  · rename_i nn e b g i0 j k i hu he hei
    split at hs
    case isFalse => cases hs
    rename_i hc
    simp only [okN, Option.some.injEq, SR.mk.injEq] at hs
    obtain ⟨h0, rfl, rfl, rfl⟩ := hs
    rw [← h0] at hn
    have hn' : 0 ≤ i ∧ i < nn := by simpa using hn
    rw [he] at hx; rw [hei] at hix
    have hi := hix.intInv
    obtain ⟨L, hL, hq, hiL⟩ := hx.ptrInv
    obtain ⟨ii, hii, _⟩ := info_of_cells (P := P) (t := e) hc
    refine OpOut.same h (u := .pointer (some ⟨L.B, L.o + i0 * L.sz + (j + i.toNat * P.cellsOf e), none⟩)) ?_ (.ptr L b g i0 _ hL hiL)
    simp [execOp, ho, hq, hi, Instr.indexAt, asIntOf, run_underlying hu, hn'.1, hn'.2, run_sizeOf' hii, add_eq, Instr.sureAddr]
    omega
  · rename_i nn e y j k i hu he hei
    split at hs
    case isFalse => cases hs
    rename_i hc
    simp only [okN, Option.some.injEq, SR.mk.injEq] at hs
    obtain ⟨h0, rfl, rfl, rfl⟩ := hs
    rw [← h0] at hn
    have hn' : 0 ≤ i ∧ i < nn := by simpa using hn
    rw [he] at hx; rw [hei] at hix
    have hi := hix.intInv
    obtain ⟨B, o', vals, hq, hm, hr⟩ := hx.rptrInv
    obtain ⟨ii, hii, _⟩ := info_of_cells (P := P) (t := e) hc
    refine OpOut.same h (u := .pointer (some ⟨B, o' + (j + i.toNat * P.cellsOf e), none⟩)) ?_ (.pure (.rptr B o' _ y vals hm hr))
    simp [execOp, ho, hq, hi, Instr.indexAt, asIntOf, run_underlying hu, hn'.1, hn'.2, run_sizeOf' hii, add_eq, Instr.sureAddr]
    omega
  · cases hs

end
end Pw
