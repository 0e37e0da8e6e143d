/- ENGINE, part G3: what an argument reads as is data of Lean. -/
import Derived.Test.YtjkkkldkimdajaaDoorPwG2
import Derived.Deep.Slices
namespace Pw
set_option linter.unusedSimpArgs false
open Go Go.ChangeShapes Go.Deep

def memOf (W : World) : Mem := fun B i => match W.cell? ⟨B, i, none⟩ with
  | some v => if v.oneCell' then some v else none
  | none => none

theorem memOf_some {W : World} {B i : Nat} {v : Value} (h : memOf W B i = some v) : W.cell? ⟨B, i, none⟩ = some v ∧ v.oneCell' = true := by
  unfold memOf at h
  split at h
  · rename_i w hw
    split at h
    · cases h; exact ⟨hw, by assumption⟩
    · cases h
  · cases h

theorem memOf_mk {W : World} {B i : Nat} {v : Value} (h : W.cell? ⟨B, i, none⟩ = some v) (hv : v.oneCell' = true) : memOf W B i = some v := by
  simp [memOf, h, hv]

/-- A row of cells is that data. -/
def CellsAre (M : Mem) (T : Ty) (cs : List Value) (g : Gen T) : Prop :=
  cs.length = T.sz ∧ (Ty.av T g).cells.length = T.sz ∧ ∀ i, i < T.sz → (cs.getD i undef).oneCell' = true ∧ RelP M (cs.getD i undef) ((Ty.av T g).cells.getD i .undef)
def CellsAreL (M : Mem) (l : List Ty) (cs : List Value) (g : GenL l) : Prop :=
  cs.length = Ty.szL l ∧ (Ty.avL l g).length = Ty.szL l ∧ ∀ i, i < Ty.szL l → (cs.getD i undef).oneCell' = true ∧ RelP M (cs.getD i undef) ((Ty.avL l g).getD i .undef)

theorem CellsAre.one {M : Mem} {T : Ty} {v : Value} {g : Gen T} (hs : T.sz = 1) (hx : (Ty.av T g).cells = [Ty.av T g]) (hv : v.oneCell' = true) (h : RelP M v (Ty.av T g)) : CellsAre M T [v] g := by
  refine ⟨by rw [hs]; rfl, by rw [hx, hs]; rfl, fun i hi => ?_⟩
  obtain rfl : i = 0 := by omega
  rw [hx]
  exact ⟨hv, h⟩

section
variable {H : Type} {enc : TypeId × Value → H} {P : Program} {W : World}

theorem CellsAreL.cons {M : Mem} {T : Ty} {l : List Ty} {c1 c2 : List Value} {g : Gen T} {gl : GenL l} (h1 : CellsAre M T c1 g) (h2 : CellsAreL M l c2 gl) : CellsAreL M (T :: l) (c1 ++ c2) (g, gl) := by
  obtain ⟨a1, a2, a3⟩ := h1
  obtain ⟨b1, b2, b3⟩ := h2
  refine ⟨by simp [Ty.szL, a1, b1], by simp [Ty.avL, Ty.szL, a2, b2], fun i hi => ?_⟩
  simp only [Ty.szL] at hi
  by_cases h : i < T.sz
  · have := a3 i h
    simp only [Ty.avL, List.getD_eq_getElem?_getD] at this ⊢
    rw [List.getElem?_append_left (by omega), List.getElem?_append_left (by omega)]
    exact this
  · have := b3 (i - T.sz) (by omega)
    simp only [Ty.avL, List.getD_eq_getElem?_getD] at this ⊢
    rw [List.getElem?_append_right (by omega), List.getElem?_append_right (by omega), a1, a2]
    exact this

theorem fields_link {d n : Nat} (ih : ∀ (t : TypeId) (T : Ty), tyOf P d t = some T → ∀ (cs : List Value) (x : DataW H × List MemPlace), DataW.trod enc P W 0 (fun _ => true) true n t cs = some x → ∃ g : Gen T, T.wf g ∧ CellsAre (memOf W) T cs g) :
    ∀ (fs : List Field) (l : List Ty) (k : Nat) (cs : List Value), tyFs (tyOf P d) P fs k = some l →
      (∀ (f : Field), f ∈ fs → ∃ x, DataW.trod enc P W 0 (fun _ => true) true n f.type ((cs.drop f.offset).take (P.cellsOf f.type)) = some x) →
      ∃ g : GenL l, Ty.wfL l g ∧ CellsAreL (memOf W) l ((cs.drop k).take (Ty.szL l)) g
  | [], l, k, cs, h, _ => by
    simp [tyFs] at h
    subst h
    exact ⟨(), trivial, by simp [Ty.szL], rfl, fun i hi => by simp [Ty.szL] at hi⟩
  | f :: r, l, k, cs, h, hx => by
    simp only [tyFs] at h
    split at h
    · rename_i ho
      split at h
      · rename_i T hT
        split at h
        · rename_i hc
          obtain ⟨l', hl', rfl⟩ := Option.map_eq_some_iff.1 h
          obtain ⟨x, hx0⟩ := hx f (by simp)
          obtain ⟨g, hw, hg⟩ := ih _ _ hT _ _ hx0
          obtain ⟨gl, hwl, hgl⟩ := fields_link ih r l' _ cs hl' (fun f' hf' => hx f' (by simp [hf']))
          refine ⟨(g, gl), ⟨hw, hwl⟩, ?_⟩
          have : (cs.drop k).take (Ty.szL (T :: l')) = (cs.drop f.offset).take (P.cellsOf f.type) ++ (cs.drop (k + P.cellsOf f.type)).take (Ty.szL l') := by
            rw [Ty.szL, List.take_add, List.drop_drop, ho, hc]
          rw [this]
          exact CellsAreL.cons hg hgl
        · cases h
      · cases h
    · cases h

theorem trod_bool' {fuel : Nat} {t : TypeId} {cs : List Value} {x : DataW H × List MemPlace} (ht : P.underlying t = some .bool) (h : DataW.trod enc P W 0 (fun _ => true) true fuel t cs = some x) : ∃ b, cs = [.bool b] := by
  cases fuel with
  | zero => simp [DataW.trod] at h
  | succ n =>
    unfold DataW.trod at h
    rw [ht] at h
    split at h <;> simp_all

theorem elems_choose {T : Ty} : ∀ (len : Nat) (p : Nat → Gen T → Prop), (∀ i, i < len → ∃ g, p i g) → ∃ l : List (Gen T), l.length = len ∧ ∀ i, i < len → p i (l.getD i (Ty.dflt T))
  | 0, p, _ => ⟨[], rfl, fun i hi => by omega⟩
  | len + 1, p, h => by
    obtain ⟨l, hl, hp⟩ := elems_choose len p (fun i hi => h i (by omega))
    obtain ⟨g, hg⟩ := h len (by omega)
    refine ⟨l ++ [g], by simp [hl], fun i hi => ?_⟩
    by_cases hi' : i < len
    · have := hp i hi'
      simp only [List.getD_eq_getElem?_getD] at this ⊢
      rw [List.getElem?_append_left (by omega)]
      exact this
    · obtain rfl : i = len := by omega
      simp only [List.getD_eq_getElem?_getD]
      rw [List.getElem?_append_right (by omega)]
      simpa [hl] using hg

theorem link : ∀ (d n : Nat) (t : TypeId) (T : Ty), tyOf P d t = some T → ∀ (cs : List Value) (x : DataW H × List MemPlace), DataW.trod enc P W 0 (fun _ => true) true n t cs = some x →
    ∃ g : Gen T, T.wf g ∧ CellsAre (memOf W) T cs g
  | 0, _, _, _, h, _, _, _ => by simp [tyOf] at h
  | d + 1, n, t, T, h, cs, x, hx => by
    simp only [tyOf] at h
    split at h
    · rename_i hu
      cases h
      obtain ⟨b, rfl⟩ := trod_bool' hu hx
      exact ⟨b, trivial, CellsAre.one rfl rfl rfl (.bool b)⟩
    · rename_i k hu
      cases h
      obtain ⟨m, rfl, _, hw⟩ := DataW.trod_int hu hx
      exact ⟨m, hw, CellsAre.one rfl rfl rfl (.int k m)⟩
    · rename_i hu
      cases h
      obtain ⟨s, rfl, _, hw⟩ := DataW.trod_string hu hx
      exact ⟨s.data.toList, by simpa [Ty.wf] using hw, CellsAre.one rfl rfl rfl (.str s.data.toList)⟩
    · rename_i e hu
      split at h
      · rename_i T' hT
        split at h
        · rename_i hsz
          cases h
          rcases open_slice hu hx with ⟨rfl, _⟩ | ⟨a, len, cap, m, n', D, Pl, rfl, hb, hl, hm, hmm, _, hel⟩
          · refine ⟨([] : List (Gen T')), ⟨by simp, fun i hi => by simp at hi⟩, CellsAre.one rfl rfl rfl ?_⟩
            exact .rof0 none 0 _ false (by simp) (by simp) (fun _ => rfl)
          · simp only [if_true] at hmm
            subst hmm
            obtain ⟨l, hll, hp⟩ := elems_choose (T := T') len (fun i g => T'.wf g ∧ ∃ cs', W.cells? 0 (a.add (i * P.cellsOf e)) (P.cellsOf e) = some cs' ∧ CellsAre (memOf W) T' cs' g) (fun i hi => by
              obtain ⟨cs', h1, h2⟩ := hel i (by omega)
              obtain ⟨g, hw, hg⟩ := link d n' e T' hT cs' _ h2
              exact ⟨g, hw, cs', h1, hg⟩)
            refine ⟨l, ⟨by omega, fun i hi => (hp i (by omega)).1⟩, CellsAre.one rfl rfl rfl ?_⟩
            cases len with
            | zero =>
              have : l = [] := List.eq_nil_of_length_eq_zero hll
              subst this
              exact .rof0 (some a) m _ false hm (by simp) (by simp)
            | succ len' =>
              obtain ⟨-, cs0, h0, hc0⟩ := hp 0 (by omega)
              obtain ⟨-, hcl0, hg0⟩ := World.cells?_some h0
              have hspot : a.spot = none := by
                have := hg0 0 (by omega)
                rw [List.getElem?_eq_getElem (by omega)] at this
                unfold World.cell? at this
                split at this
                · split at this
                  · cases this
                  · rename_i hs
                    simpa [Addr.add] using hs
                · cases this
              obtain ⟨B, o, sp⟩ := a
              obtain rfl : sp = none := hspot
              have key : ∀ i j, i < len' + 1 → j < T'.sz → ∃ v, memOf W B (o + i * T'.sz + j) = some v ∧ RelP (memOf W) v ((Ty.av T' (l.getD i (Ty.dflt T'))).cells.getD j .undef) := fun i j hi hj => by
                obtain ⟨-, cs', h1, h2, h3, h4⟩ := hp i hi
                obtain ⟨-, hc1, hg1⟩ := World.cells?_some h1
                have h5 := hg1 j (by omega)
                rw [List.getElem?_eq_getElem (by omega)] at h5
                have h6 := h4 j hj
                rw [List.getD_eq_getElem?_getD, List.getElem?_eq_getElem (by omega), Option.getD_some] at h6
                refine ⟨cs'[j]'(by omega), memOf_mk ?_ h6.1, h6.2⟩
                rw [← h5, hsz.1]
                congr 1
                simp only [Addr.add]
                split <;> split <;> simp_all [Nat.add_assoc]
              have := RelP.rof (M := memOf W) B o m T'.sz (len' + 1) (fun i => Ty.av T' (l.getD i (Ty.dflt T'))) false (fun i j => (memOf W B (o + i * T'.sz + j)).getD undef) hl hm (by simp)
                (fun i hi => by obtain ⟨-, cs', h1, h2⟩ := hp i hi; exact h2.2.1)
                (fun i j hi hj => by obtain ⟨v, hv, _⟩ := key i j hi hj; rw [hv]; rfl)
                (fun i j hi hj => by obtain ⟨v, hv, hr⟩ := key i j hi hj; rw [hv]; exact hr)
              show RelP _ _ (.rof (List.length (α := Gen T') l) _ false)
              rw [hll]
              exact this
        · cases h
      · cases h
    · rename_i fs hu
      split at h
      · rename_i l hl
        split at h
        · rename_i hsz
          cases h
          obtain ⟨xs, n', hn', _, hcl, hxl, hf⟩ := DataW.trod_struct hu hx
          obtain ⟨g, hw, h1, h2, h3⟩ := fields_link (fun t T hT cs x hx => link d n' t T hT cs x hx) fs.toList l 0 cs hl (fun f hf' => by
            obtain ⟨i, hi⟩ := List.getElem?_of_mem hf'
            have hi' : fs[i]? = some f := by simpa using hi
            have := hf i f hi'
            have hlt : i < xs.length := by rw [hxl]; exact (Array.getElem?_eq_some_iff.1 hi').1
            exact ⟨_, this.trans (List.getElem?_eq_getElem hlt)⟩)
          have hall : (cs.drop 0).take (Ty.szL l) = cs := by rw [hsz, ← hcl]; simp
          rw [hall] at h1 h3
          exact ⟨g, hw, h1, h2, h3⟩
        · cases h
      · cases h
    · cases h

/-- A parameter's value. -/
theorem link_val {d : Nat} {base : Nat} {t : TypeId} {T : Ty} {v : Value} {x : DataW H} {ps : List MemPlace} (hT : tyOf P d t = some T) (hok : Value.okWide P W .any base t v) (hx : DataW.Trod enc P W 0 (fun _ => true) true t v x ps) :
    ∃ g : Gen T, T.wf g ∧ RelP (memOf W) v (Ty.av T g) := by
  obtain ⟨n, hx⟩ := hx
  obtain ⟨g, hw, h1, h2, h3⟩ := link _ _ _ _ hT _ _ hx
  refine ⟨g, hw, ?_⟩
  cases d with
  | zero => simp [tyOf] at hT
  | succ d =>
    have one : ∀ (hs : T.sz = 1) (hc : (Ty.av T g).cells = [Ty.av T g]) (hv : v.cells = #[v]), RelP (memOf W) v (Ty.av T g) := fun hs hc hv => by
      have := (h3 0 (by omega)).2
      rw [hc, hv] at this
      exact this
    simp only [tyOf] at hT
    simp only [Value.okWide] at hok
    split at hT <;> rename_i hu <;> try simp only [hu] at hok
    · cases hT
      refine one rfl rfl ?_
      cases v <;> simp [Cell.okWide, Cell.ok, hu] at hok <;> rfl
    · cases hT
      refine one rfl rfl ?_
      cases v <;> simp [Cell.okWide, Cell.ok, hu] at hok <;> rfl
    · cases hT
      refine one rfl rfl ?_
      cases v <;> simp [Cell.okWide, Cell.ok, hu] at hok <;> rfl
    · have : ∃ T', T = .slice T' := by
        split at hT
        · split at hT
          · cases hT; exact ⟨_, rfl⟩
          · cases hT
        · cases hT
      obtain ⟨T', rfl⟩ := this
      refine one rfl rfl ?_
      cases v <;> simp [Cell.okWide, Cell.ok, hu] at hok <;> rfl
    · have : ∃ l, T = .strct l := by
        split at hT
        · split at hT
          · cases hT; exact ⟨_, rfl⟩
          · cases hT
        · cases hT
      obtain ⟨l, rfl⟩ := this
      obtain ⟨cs, rfl, hcs, _⟩ := hok
      have e1 : cs.size = (Ty.avL l g).length := by
        have a1 : (Ty.avL l g).length = Ty.szL l := h2
        have a2 : (Value.agg cs).cells.toList.length = Ty.szL l := h1
        simpa [Value.cells, a1] using a2
      refine .agg cs _ e1 fun i hi => ?_
      have := (h3 i (by have a1 : (Ty.avL l g).length = Ty.szL l := h2; show i < Ty.szL l; omega)).2
      have e2 : (Value.agg cs).cells.toList.getD i undef = cs.getD i undef := by simp [Value.cells, Array.getD_eq_getD_getElem?]
      rw [e2] at this
      exact this
    · cases hT

/-- A list of parameters. -/
def Ty.avs : (l : List Ty) → GenL l → List AV
  | [], _ => []
  | t :: l, g => Ty.av t g.1 :: Ty.avs l g.2
def tysOf (P : Program) (d : Nat) : List TypeId → Option (List Ty)
  | [] => some []
  | t :: l => match tyOf P d t, tysOf P d l with
    | some T, some L => some (T :: L)
    | _, _ => none

theorem link_args {d base : Nat} : ∀ (ts : List TypeId) (L : List Ty) (vs : List Value) (ds : List (DataW H)) (ps : List MemPlace), tysOf P d ts = some L →
    (∀ (j : Nat) t v, ts[j]? = some t → vs[j]? = some v → Value.okWide P W .any base t v) → DataW.TrodAll enc P W 0 (fun _ => true) true ts vs ds ps →
    ∃ g : GenL L, Ty.wfL L g ∧ vs.length = (Ty.avs L g).length ∧ ∀ i, i < (Ty.avs L g).length → RelP (memOf W) (vs.getD i undef) ((Ty.avs L g).getD i .undef)
  | [], L, vs, ds, ps, hT, _, h => by
    cases hT
    cases vs <;> cases ds <;> simp [DataW.TrodAll] at h
    exact ⟨(), trivial, rfl, fun i hi => by simp [Ty.avs] at hi⟩
  | t :: ts, L, vs, ds, ps, hT, hok, h => by
    simp only [tysOf] at hT
    split at hT
    · rename_i T L' h1 h2
      cases hT
      obtain ⟨v, vs', d', ds', p, q, rfl, rfl, rfl, hx, h'⟩ := trodAll_cons h
      obtain ⟨g, hw, hg⟩ := link_val h1 (hok 0 t v rfl rfl) hx
      obtain ⟨gl, hwl, hl, hgl⟩ := link_args ts L' vs' ds' q h2 (fun j t v h1 h2 => hok (j + 1) t v (by simpa using h1) (by simpa using h2)) h'
      refine ⟨(g, gl), ⟨hw, hwl⟩, by simp [Ty.avs, hl], fun i hi => ?_⟩
      cases i with
      | zero => simpa [Ty.avs] using hg
      | succ i => simpa [Ty.avs] using hgl i (by simpa [Ty.avs] using hi)
    · cases hT

/-- The arguments of a row, for the engine. -/
theorem link_row {d base : Nat} {f : Func} {args : Array Value} {L : List Ty} {ds gs : List (DataW H)} {ps : List MemPlace} {vars : List String} {apart : Bool} (hT : tysOf P d f.params.toList = some L)
    (hok : ∀ (j : Nat) t v, f.params[j]? = some t → args[j]? = some v → Value.okWide P W .any base t v) (hW : DataW.Whole enc P f.params.toList vars apart W args.toList ds gs ps) :
    ∃ g : GenL L, Ty.wfL L g ∧ ArgsRel (fun _ _ => none) (memOf W) args (Ty.avs L g) := by
  obtain ⟨p, q, hA, -⟩ := hW
  obtain ⟨g, hw, hl, hr⟩ := link_args f.params.toList L args.toList ds p hT (fun j t v h1 h2 => hok j t v (by simpa using h1) (by simpa using h2)) hA
  refine ⟨g, hw, by simpa using hl, fun i hi => .pure ?_⟩
  have := hr i hi
  simpa [Array.getD_eq_getD_getElem?] using this

/-- A row that says 'true', from the engine's word at all arguments. -/
theorem row_true (hm : P.follows .mixedOrders = true) (E : Env) (hE : E.P = P) (hctr : CtrOK E) (hgl : ∀ M, GlobOK M E.gl) {f : FuncId} {fn : Func} {d base k : Nat} {args : Array Value} {L : List Ty} {ds gs : List (DataW H)} {ps : List MemPlace} {vars : List String} {apart : Bool}
    (hT : tysOf P d fn.params.toList = some L) (hok : ∀ (j : Nat) t v, fn.params[j]? = some t → args[j]? = some v → Value.okWide P W .any base t v) (hW : DataW.Whole enc P fn.params.toList vars apart W args.toList ds gs ps)
    (hs : ∀ g : GenL L, Ty.wfL L g → (vcFun E k f (Ty.avs L g) .nil 0 (isBool true)).sat) : Calls P f args W fun e W' => e = .returned (.bool true) ∧ Keep (fun _ => True) W W' := by
  subst hE
  obtain ⟨g, hw, hA⟩ := link_row hT hok hW
  refine (start_pure hm hctr (hgl _) (fun B i v h => memOf_some h) hA (hs g hw)).mono fun e W' ⟨v, x, ρ', M', hpt, nx', h1, h2, h3, h4⟩ => ?_
  rw [isBool_sat h4] at h2
  rw [h2.boolInv] at h1
  exact ⟨h1, h3⟩
end
end Pw
