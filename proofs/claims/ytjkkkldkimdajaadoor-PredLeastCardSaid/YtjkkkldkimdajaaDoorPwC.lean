/- ENGINE, part C: how abstract values and memory stand to the model's. -/
import Derived.Test.YtjkkkldkimdajaaDoorPwB
import Derived.Laws.Cells
import GoSem.ClaimData
import Derived.Laws.CopyRow
import Derived.Laws.Sem
import Derived.Laws.World
namespace Pw
open Go

structure Loc where
  B : Nat
  o : Nat
  csz : Nat
  sz : Nat
  n : Nat
  virt : Bool
abbrev Mem := Nat → Nat → Option Value
abbrev Rho := Nat → Nat → Option Loc

/-- What stands in memory that does not change. -/
inductive RelP (M : Mem) : Value → AV → Prop
  | undef (v : Value) : RelP M v .undef
  | opt (v : Value) (m : Bool) (j : Nat) (w : Bool) (x : AV) : RelP M v (.opt m j w x)
  | int (k : IntKind) (n : Int) : RelP M (.int k n) (.int k n)
  | bool (b : Bool) : RelP M (.bool b) (.bool b)
  | str (l : List UInt8) : RelP M (.string ⟨⟨l⟩⟩) (.str l)
  | nilp : RelP M (.pointer none) .nilp
  | nils : RelP M (.slice none 0 0) .nils
  | nilf : RelP M .nilFunc .nilf
  | nilm : RelP M (.map none) .nilm
  | rptr (B o j : Nat) (x : AV) (vals : Nat → Value) (hm : ∀ i, i < x.cells.length → M B (o + i) = some (vals i))
      (hr : ∀ i, i < x.cells.length → RelP M (vals i) (x.cells.getD i .undef)) : RelP M (.pointer (some ⟨B, o + j, none⟩)) (.rptr x j)
  | rol (B o cap sz : Nat) (l : List AV) (ex : Bool) (vals : Nat → Nat → Value) (hc : l.length ≤ cap) (hcm : cap ≤ maxLen) (hex : ex = true → cap = l.length)
      (hz : ∀ i, i < l.length → (l.getD i .undef).cells.length = sz)
      (hm : ∀ i j, i < l.length → j < sz → M B (o + i * sz + j) = some (vals i j))
      (hr : ∀ i j, i < l.length → j < sz → RelP M (vals i j) ((l.getD i .undef).cells.getD j .undef)) : RelP M (.slice (some ⟨B, o, none⟩) l.length cap) (.rol l ex)
  | rof (B o cap sz n : Nat) (f : Nat → AV) (ex : Bool) (vals : Nat → Nat → Value) (hc : n ≤ cap) (hcm : cap ≤ maxLen) (hex : ex = true → cap = n)
      (hz : ∀ i, i < n → (f i).cells.length = sz)
      (hm : ∀ i j, i < n → j < sz → M B (o + i * sz + j) = some (vals i j))
      (hr : ∀ i j, i < n → j < sz → RelP M (vals i j) ((f i).cells.getD j .undef)) : RelP M (.slice (some ⟨B, o, none⟩) n cap) (.rof n f ex)
  | rol0 (a : Option Addr) (cap : Nat) (ex : Bool) (hcm : cap ≤ maxLen) (hex : ex = true → cap = 0) (hn : a = none → cap = 0) : RelP M (.slice a 0 cap) (.rol [] ex)
  | rof0 (a : Option Addr) (cap : Nat) (f : Nat → AV) (ex : Bool) (hcm : cap ≤ maxLen) (hex : ex = true → cap = 0) (hn : a = none → cap = 0) : RelP M (.slice a 0 cap) (.rof 0 f ex)
  | fn (f : Fn) : RelP M (.func f #[] #[]) (.fn f [] [])
  | agg (cs : Array Value) (l : List AV) (h : cs.size = l.length) (hr : ∀ i, i < l.length → RelP M (cs.getD i undef) (l.getD i .undef)) : RelP M (.agg cs) (.agg l)
  | tup (cs : Array Value) (l : List AV) (h : cs.size = l.length) (hr : ∀ i, i < l.length → RelP M (cs.getD i undef) (l.getD i .undef)) : RelP M (.tuple cs) (.tup l)

inductive Rel (ρ : Rho) (M : Mem) : Value → AV → Prop
  | pure {v : Value} {x : AV} (h : RelP M v x) : Rel ρ M v x
  | ptr (L : Loc) (b g i j : Nat) (h : ρ b g = some L) (hi : i < L.n) : Rel ρ M (.pointer (some ⟨L.B, L.o + i * L.sz + j, none⟩)) (.ptr b g i j)
  | sl (L : Loc) (b g i len cap : Nat) (c : Option Nat) (h : ρ b g = some L) (hv : L.virt = false) (hl : len ≤ cap) (hc : ∀ k, c = some k → cap = k)
      (hb : L.o + (i + cap) * L.sz ≤ L.csz) (hcm : cap ≤ maxLen) (hn : i + len ≤ L.n) : Rel ρ M (.slice (some ⟨L.B, L.o + i * L.sz, none⟩) len cap) (.sl b g i len c)
  | slv (L : Loc) (a : Option Addr) (b g i : Nat) (c : Option Nat) (h : ρ b g = some L) (hc : ∀ k, c = some k → k = 0) : Rel ρ M (.slice a 0 0) (.sl b g i 0 c)
  | fn (f : Fn) (fs cs : Array Value) (fl cl : List AV) (h1 : fs.size = fl.length) (h2 : cs.size = cl.length)
      (hr1 : ∀ i, i < fl.length → Rel ρ M (fs.getD i undef) (fl.getD i .undef)) (hr2 : ∀ i, i < cl.length → Rel ρ M (cs.getD i undef) (cl.getD i .undef)) : Rel ρ M (.func f fs cs) (.fn f fl cl)
  | agg (cs : Array Value) (l : List AV) (h : cs.size = l.length) (hr : ∀ i, i < l.length → Rel ρ M (cs.getD i undef) (l.getD i .undef)) : Rel ρ M (.agg cs) (.agg l)
  | tup (cs : Array Value) (l : List AV) (h : cs.size = l.length) (hr : ∀ i, i < l.length → Rel ρ M (cs.getD i undef) (l.getD i .undef)) : Rel ρ M (.tuple cs) (.tup l)

theorem Rel.undef {ρ M} (v : Value) : Rel ρ M v .undef := .pure (.undef v)

theorem RelP.mono {M M' : Mem} (h : ∀ B i v, M B i = some v → M' B i = some v) {v : Value} {x : AV} (hr : RelP M v x) : RelP M' v x := by
  induction hr with
  | undef v => exact .undef v
  | opt v m j w x => exact .opt v m j w x
  | int k n => exact .int k n
  | bool b => exact .bool b
  | str l => exact .str l
  | nilp => exact .nilp
  | nils => exact .nils
  | nilf => exact .nilf
  | nilm => exact .nilm
  | rptr B o j x vals hm hr ih => exact .rptr B o j x vals (fun i hi => h _ _ _ (hm i hi)) ih
  | rol B o cap sz l ex vals hc hcm hex hz hm hr ih => exact .rol B o cap sz l ex vals hc hcm hex hz (fun i j hi hj => h _ _ _ (hm i j hi hj)) ih
  | rof B o cap sz n f ex vals hc hcm hex hz hm hr ih => exact .rof B o cap sz n f ex vals hc hcm hex hz (fun i j hi hj => h _ _ _ (hm i j hi hj)) ih
  | rol0 a cap ex h1 h2 h3 => exact .rol0 a cap ex h1 h2 h3
  | rof0 a cap f ex h1 h2 h3 => exact .rof0 a cap f ex h1 h2 h3
  | fn f => exact .fn f
  | agg cs l hs hr ih => exact .agg cs l hs ih
  | tup cs l hs hr ih => exact .tup cs l hs ih

def RExt (ρ ρ' : Rho) : Prop := ∀ b g L, ρ b g = some L → ρ' b g = some L
def MExt (M M' : Mem) : Prop := ∀ B i v, M B i = some v → M' B i = some v
theorem RExt.refl (ρ : Rho) : RExt ρ ρ := fun _ _ _ h => h
theorem MExt.refl (M : Mem) : MExt M M := fun _ _ _ h => h
theorem RExt.trans {a b c : Rho} (h : RExt a b) (k : RExt b c) : RExt a c := fun _ _ _ x => k _ _ _ (h _ _ _ x)
theorem MExt.trans {a b c : Mem} (h : MExt a b) (k : MExt b c) : MExt a c := fun _ _ _ x => k _ _ _ (h _ _ _ x)

theorem Rel.mono {ρ ρ' : Rho} {M M' : Mem} (hρ : RExt ρ ρ') (hM : MExt M M') {v : Value} {x : AV} (hr : Rel ρ M v x) : Rel ρ' M' v x := by
  induction hr with
  | pure h => exact .pure (h.mono hM)
  | ptr L b g i j h hi => exact .ptr L b g i j (hρ _ _ _ h) hi
  | sl L b g i len cap c h hv hl hc hb hcm hn => exact .sl L b g i len cap c (hρ _ _ _ h) hv hl hc hb hcm hn
  | slv L a b g i c h hc => exact .slv L a b g i c (hρ _ _ _ h) hc
  | fn f fs cs fl cl h1 h2 _ _ ih1 ih2 => exact .fn f fs cs fl cl h1 h2 ih1 ih2
  | agg cs l h _ ih => exact .agg cs l h ih
  | tup cs l h _ ih => exact .tup cs l h ih

theorem Rel.oneCell {ρ M} {v : Value} {x : AV} (h : Rel ρ M v x) (hx : x.isCell = true) : v.oneCell' = true := by
  cases h with
  | pure h => cases h <;> first | rfl | (simp [AV.isCell] at hx)
  | ptr | sl | slv | fn => rfl
  | agg => simp [AV.isCell] at hx
  | tup => simp [AV.isCell] at hx

theorem oneCell_cells {v : Value} (h : v.oneCell' = true) : v.cells = #[v] := by
  cases v <;> first | rfl | (simp [Value.oneCell'] at h)

theorem cells_isCell {x : AV} (h : x.isCell = true) : x.cells = [x] := by
  cases x <;> first | rfl | (simp [AV.isCell] at h)

theorem Rel.aggInv {ρ M} {v : Value} {l : List AV} (h : Rel ρ M v (.agg l)) : ∃ cs, v = .agg cs ∧ cs.size = l.length ∧ ∀ i, i < l.length → Rel ρ M (cs.getD i Go.undef) (l.getD i .undef) := by
  cases h with
  | pure h => cases h with | agg cs l hs hr => exact ⟨cs, rfl, hs, fun i hi => .pure (hr i hi)⟩
  | agg cs l hs hr => exact ⟨cs, rfl, hs, hr⟩
theorem Rel.tupInv {ρ M} {v : Value} {l : List AV} (h : Rel ρ M v (.tup l)) : ∃ cs, v = .tuple cs ∧ cs.size = l.length ∧ ∀ i, i < l.length → Rel ρ M (cs.getD i Go.undef) (l.getD i .undef) := by
  cases h with
  | pure h => cases h with | tup cs l hs hr => exact ⟨cs, rfl, hs, fun i hi => .pure (hr i hi)⟩
  | tup cs l hs hr => exact ⟨cs, rfl, hs, hr⟩
theorem Rel.intInv {ρ M} {v : Value} {k n} (h : Rel ρ M v (.int k n)) : v = .int k n := by cases h with | pure h => cases h; rfl
theorem Rel.boolInv {ρ M} {v : Value} {b} (h : Rel ρ M v (.bool b)) : v = .bool b := by cases h with | pure h => cases h; rfl
theorem Rel.strInv {ρ M} {v : Value} {s} (h : Rel ρ M v (.str s)) : v = .string ⟨⟨s⟩⟩ := by cases h with | pure h => cases h; rfl
theorem Rel.ptrInv {ρ M} {v : Value} {b g i j} (h : Rel ρ M v (.ptr b g i j)) : ∃ L, ρ b g = some L ∧ v = .pointer (some ⟨L.B, L.o + i * L.sz + j, none⟩) ∧ i < L.n := by
  cases h with
  | pure h => cases h
  | ptr L _ _ _ _ h hi => exact ⟨L, h, rfl, hi⟩
theorem Rel.fnInv {ρ M} {v : Value} {f fl cl} (h : Rel ρ M v (.fn f fl cl)) : ∃ fs cs, v = .func f fs cs ∧ fs.size = fl.length ∧ cs.size = cl.length ∧
    (∀ i, i < fl.length → Rel ρ M (fs.getD i Go.undef) (fl.getD i .undef)) ∧ (∀ i, i < cl.length → Rel ρ M (cs.getD i Go.undef) (cl.getD i .undef)) := by
  cases h with
  | pure h => cases h; exact ⟨#[], #[], rfl, rfl, rfl, fun i hi => by simp at hi, fun i hi => by simp at hi⟩
  | fn f fs cs fl cl h1 h2 h3 h4 => exact ⟨fs, cs, rfl, h1, h2, h3, h4⟩

/-- An element of the size sz: its cells. -/
theorem Rel.elem {ρ M} {v : Value} {x : AV} {sz : Nat} (h : Rel ρ M v x) (hx : x.okElem sz = true) :
    v.cells.size = sz ∧ x.cells.length = sz ∧ ∀ j, j < sz → ((v.cells.getD j Go.undef).oneCell' = true ∧ Rel ρ M (v.cells.getD j Go.undef) (x.cells.getD j .undef)) := by
  have one : ∀ (y : AV), x = y → y.isCell = true → sz = 1 → v.cells.size = sz ∧ x.cells.length = sz ∧ ∀ j, j < sz → ((v.cells.getD j Go.undef).oneCell' = true ∧ Rel ρ M (v.cells.getD j Go.undef) (x.cells.getD j .undef)) := by
    intro y hy hc hs
    subst hy; subst hs
    have h1 := h.oneCell hc
    rw [oneCell_cells h1, cells_isCell hc]
    refine ⟨rfl, rfl, fun j hj => ?_⟩
    have : j = 0 := by omega
    subst this
    exact ⟨h1, h⟩
  cases x with
  | agg l =>
    obtain ⟨cs, rfl, hs, hr⟩ := h.aggInv
    simp only [AV.okElem, Bool.and_eq_true, beq_iff_eq, List.all_eq_true] at hx
    refine ⟨by simp [Value.cells]; omega, hx.1, fun j hj => ?_⟩
    have hj' : j < l.length := by omega
    have h2 := hr j hj'
    refine ⟨h2.oneCell (hx.2 _ ?_), h2⟩
    have e : l.getD j .undef = l[j] := by simp [List.getD, hj']
    rw [e]
    exact List.getElem_mem hj'
  | undef => simp [AV.okElem, AV.isCell] at hx
  | tup l => simp [AV.okElem, AV.isCell] at hx
  | opt m j w x => simp [AV.okElem, AV.isCell] at hx
  | _ => simp only [AV.okElem, Bool.and_eq_true, beq_iff_eq] at hx; exact one _ rfl hx.2 hx.1

end Pw
