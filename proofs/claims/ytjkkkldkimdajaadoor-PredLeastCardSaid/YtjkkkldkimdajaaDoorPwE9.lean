/- ENGINE, part E9: composite values, make, len, min, max. -/
import Derived.Test.YtjkkkldkimdajaaDoorPwE8
import Derived.Laws.MakeOwn
namespace Pw
set_option linter.unusedSimpArgs false
open Go

theorem foldl_put : ∀ (vs : List Value) (off k : Nat) (cells : Array Value), off + k + vs.length ≤ cells.size →
    (vs.zipIdx k).foldl (fun cs x => cs.setIfInBounds (off + x.2) x.1) cells = (cells.toList.take (off + k) ++ vs ++ cells.toList.drop (off + k + vs.length)).toArray
  | [], off, k, cells, _ => by simp
  | v :: vs, off, k, cells, h => by
    simp only [List.zipIdx_cons, List.foldl_cons]
    rw [foldl_put vs off (k + 1) (cells.setIfInBounds (off + k) v) (by simp at h ⊢; omega)]
    congr 1
    have e := list_seg_step cells.toList (off + k) v vs (by simp at h ⊢; omega)
    simpa [Array.toList_setIfInBounds, Nat.add_assoc] using e

/-- The cells of a composite value. -/
def CellsR (ρ : Rho) (M : Mem) (cs : Array Value) (l : List AV) : Prop := cs.size = l.length ∧ ∀ i, i < l.length → Rel ρ M (cs.getD i undef) (l.getD i .undef)

theorem splice_getD (l xs : List AV) (j i : Nat) (h : j + xs.length ≤ l.length) : (splice l j xs).getD i .undef = if i < j then l.getD i .undef else if i < j + xs.length then xs.getD (i - j) .undef else l.getD i .undef := by
  unfold splice
  rw [List.getD, spliced l xs j i h]
  simp only [List.getD]
  split
  · rfl
  · split <;> rfl

theorem arr_getD (l : List Value) (i : Nat) : l.toArray.getD i undef = l.getD i undef := by
  simp [Array.getD, List.getD]
  split
  · rename_i h; simp [h]
  · rename_i h; rw [List.getElem?_eq_none (by omega)]; rfl

theorem cells_rel {ρ M} {v : Value} {x : AV} (h : Rel ρ M v x) (hx : x.isCell = true ∨ ∃ l, x = .agg l) : CellsR ρ M v.cells x.cells := by
  rcases hx with hx | ⟨l, rfl⟩
  · rw [oneCell_cells (h.oneCell hx), cells_isCell hx]
    refine ⟨rfl, fun i hi => ?_⟩
    have : i = 0 := by simpa using hi
    subst this
    exact h
  · obtain ⟨cs, rfl, hs, hr⟩ := h.aggInv
    exact ⟨hs, hr⟩

theorem CellsR.splice {ρ M} {cs vs : Array Value} {l xs : List AV} {j : Nat} (h : CellsR ρ M cs l) (hv : CellsR ρ M vs xs) (hj : j + xs.length ≤ l.length) :
    CellsR ρ M (cs.toList.take j ++ vs.toList ++ cs.toList.drop (j + vs.size)).toArray (splice l j xs) := by
  have h1 : j + vs.toList.length ≤ cs.toList.length := by have := h.1; have := hv.1; simp; omega
  refine ⟨?_, fun i hi => ?_⟩
  · have := spliced_len cs.toList vs.toList j h1
    have h2 := spliced_len l xs j hj
    simp only [Array.length_toList] at this
    simp only [List.size_toArray, this, Pw.splice, h2, h.1]
  · rw [splice_getD l xs j i hj, arr_getD, List.getD]
    have h2 := spliced cs.toList vs.toList j i h1
    simp only [Array.length_toList] at h2
    rw [h2]
    have hl : (Pw.splice l j xs).length = l.length := spliced_len l xs j hj
    rw [hl] at hi
    by_cases hij : i < j
    · rw [if_pos hij, if_pos hij]
      have := h.2 i (by omega)
      have hi' : i < cs.size := by have := h.1; omega
      simpa [Array.getD, hi'] using this
    · rw [if_neg hij, if_neg hij]
      have hvs := hv.1
      by_cases hij2 : i < j + xs.length
      · rw [if_pos hij2, if_pos (by omega)]
        have := hv.2 (i - j) (by omega)
        have hi' : i - j < vs.size := by omega
        simpa [Array.getD, hi'] using this
      · rw [if_neg hij2, if_neg (by omega)]
        have := h.2 i hi
        have hi' : i < cs.size := by have := h.1; omega
        simpa [Array.getD, hi'] using this

theorem partOK_inv {x : AV} (h : partOK x = true) : x.isCell = true ∨ ∃ l, x = .agg l := by
  cases x <;> first | exact .inl h | exact .inr ⟨_, rfl⟩

theorem fill_rel {ρ M} (place : Nat → Option (Nat × Nat)) (e : Operand → Value) (ev : Operand → AV) : ∀ (parts : List (Nat × Operand)) (cells : Array Value) (l l' : List AV),
    (∀ q ∈ parts, Rel ρ M (e q.2) (ev q.2)) → CellsR ρ M cells l →
    fillAV place l (parts.map fun q => (q.1, ev q.2)) = some l' → ∃ cells', Instr.fill place cells (parts.map fun q => (q.1, e q.2)) = some cells' ∧ CellsR ρ M cells' l'
  | [], cells, l, l', _, hc, h => by
    simp only [List.map_nil, fillAV, Option.some.injEq] at h
    subst h
    exact ⟨cells, rfl, hc⟩
  | (i, x) :: parts, cells, l, l', hr, hc, h => by
    simp only [List.map_cons, fillAV] at h
    split at h
    · cases h
    rename_i off size hp
    split at h
    case isFalse => cases h
    rename_i hcnd
    obtain ⟨hok, h1, h2⟩ := hcnd
    have h0 := cells_rel (hr (i, x) (by simp)) (partOK_inv hok)
    have hsz : (e x).cells.size = (ev x).cells.length := h0.1
    have h1' : (ev x).cells.length = size := h1
    have h2' : off + (ev x).cells.length ≤ l.length := h2
    have hcs := hc.1
    have hput := foldl_put (e x).cells.toList off 0 cells (by simp; omega)
    obtain ⟨cells', e1, e2⟩ := fill_rel place e ev parts _ _ l' (fun q hq => hr q (by simp [hq])) (hc.splice h0 h2) h
    refine ⟨cells', ?_, e2⟩
    simp only [List.map_cons, Instr.fill, hp]
    rw [if_neg (by simp; omega)]
    rw [← e1]
    congr 1
    rw [← Array.foldl_toList, Array.toList_zipIdx]
    simpa using hput

section
variable {P : Program} {o : Oper} {U : Base} {w0 : World} {n : Nat} {ρ : Rho} {M : Mem} {tm : Nat → AV} {hp : Nat → Blk} {nx : Nat} {a : Act} {w : World}

theorem step_makeSlice (h : SRel U w0 n ρ M tm hp nx a w) (t : TypeId) (x y : Operand) (ho : o.op = .makeSlice t x y) (ev : Operand → AV) (hx : Rel ρ M (a.eval x) (ev x)) (hy : Rel ρ M (a.eval y) (ev y)) (need v eff ob)
    (hs : stepOp P (.makeSlice t x y) ev hp nx = some ⟨need, v, eff, ob⟩) (hn : need = true) : OpOut P o U w0 n ρ M tm hp nx a w v eff := by
  simp only [stepOp] at hs
  split at hs
  case h_2 => cases hs
  rename_i e l c hu hex hey
  simp only [Option.bind_eq_some_iff] at hs
  obtain ⟨z, hz, hs⟩ := hs
  split at hs
  case isFalse => cases hs
  rename_i hok
  simp only [Bool.and_eq_true, decide_eq_true_eq] at hok
  simp only [Option.some.injEq, SR.mk.injEq] at hs
  obtain ⟨h0, rfl, rfl, rfl⟩ := hs
  rw [← h0] at hn
  simp only [decide_eq_true_eq] at hn
  obtain ⟨n0, rfl, n1, n2⟩ := hn
  simp only [zeroAV, Option.map_eq_some_iff, Option.bind_eq_some_iff] at hz
  obtain ⟨zv, ⟨i, hi, hzv⟩, rfl⟩ := hz
  rw [hex] at hx; rw [hey] at hy
  have hqx := hx.intInv
  have hqy := hy.intInv
  obtain ⟨i', hi', hsz⟩ := info_of_cells (P := P) hok.2
  rw [hi] at hi'; cases hi'
  have hby : P.bytesOf e = i.bytes := by simp [Program.bytesOf, hi]
  have hrun := run_make (P := P) w t e i zv hu hi hzv .i64 .i64 l l n0 (Int.le_refl _) (by rw [hby] at n1; rw [Int.mul_comm]; omega) n2
  have hrel : Rel ρ M zv (avOf zv) := .pure (avOf_rel M zv)
  obtain ⟨q1, q2, q3⟩ := hrel.elem hok.1
  have hzs : zv.cells.size = i.size := by rw [q1, hsz]
  have hmade : ∀ k, k < l.toNat * i.size → (madeCells zv.cells (l.toNat * i.size))[k]? = some (zv.cells.getD (k % i.size) undef) := by
    intro k hk
    have hlt : k % i.size < zv.cells.size := by rw [hzs]; exact Nat.mod_lt _ (by omega)
    have e1 : zv.cells[k % i.size]! = zv.cells[k % i.size] := getElem!_pos zv.cells _ hlt
    have e2 : zv.cells.getD (k % i.size) undef = zv.cells[k % i.size] := by simp [Array.getD, hlt]
    rw [e2, ← e1]
    simp [madeCells, hk, hzs]
  have hms : (madeCells zv.cells (l.toNat * i.size)).size = l.toNat * i.size := by simp [madeCells]
  have hfree := h.free nx 0 (Nat.le_refl _)
  rw [← hsz]
  refine ⟨.slice (some ⟨w.heap.size, 0, none⟩) l.toNat l.toNat, _, updR ρ nx 0 ⟨w.heap.size, 0, (madeCells zv.cells (l.toNat * i.size)).size, i.size, l.toNat, false⟩, M, .inl ?_, RX.upd (updR_ext _ hfree) (.inl (Nat.le_refl _)), MExt.refl M, ?_,
    h.alloc i.size (avOf zv).isPure (.fn l.toNat fun _ => avOf zv) (madeCells zv.cells (l.toNat * i.size)) e w rfl rfl rfl rfl (by omega) (by rw [hms]; exact Nat.le_refl _) ?_⟩
  · simp only [execOp, ho, hqx, hqy]
    rw [run_v, hrun]; rfl
  · have := Rel.sl (ρ := updR ρ nx 0 ⟨w.heap.size, 0, (madeCells zv.cells (l.toNat * i.size)).size, i.size, l.toNat, false⟩) (M := M) _ nx 0 0 l.toNat l.toNat (some l.toNat) (updR_same _ _ _ _) rfl (Nat.le_refl _) (fun k hk => by cases hk; rfl) (by simp [hms]) (by simp only [maxLen]; omega) (by simp)
    simpa using this
  · intro k hk
    refine ⟨by simpa [Sq.get, hsz] using q2, fun j hj => ?_⟩
    have hlt : k * i.size + j < l.toNat * i.size := by
      have : k * i.size + i.size ≤ l.toNat * i.size := by rw [← Nat.succ_mul]; exact Nat.mul_le_mul_right _ hk
      omega
    have hmod : (k * i.size + j) % i.size = j := by rw [Nat.mul_comm, Nat.mul_add_mod]; exact Nat.mod_eq_of_lt hj
    have := hmade _ hlt
    rw [hmod] at this
    obtain ⟨u, k1, k2, k3, k4⟩ := hrel.elemAt hok.1 j (by rw [← hsz]; exact hj)
    have hj' : j < zv.cells.size := by omega
    have e2 : zv.cells.getD j undef = u := by
      obtain ⟨hlt, he⟩ := Array.getElem?_eq_some_iff.1 k1
      simp [Array.getD, hlt, he]
    rw [e2] at this
    exact ⟨u, this, k2, by simpa [Sq.get] using k3, by simpa [Sq.get] using k4⟩

theorem places_mapM : ∀ (fs : List Field), (fs.all fun f => (P.info? f.type).isSome) = true → fs.mapM (fun f => (P.info? f.type).map fun i => (f.offset, i.size)) = some (fs.map fun f => (f.offset, P.cellsOf f.type))
  | [], _ => by simp
  | f :: fs, h => by
    simp only [List.all_cons, Bool.and_eq_true] at h
    obtain ⟨i, hi⟩ := Option.isSome_iff_exists.1 h.1
    have ih := places_mapM fs h.2
    simp [List.mapM_cons, hi, ih, Program.cellsOf]

theorem step_build (h : SRel U w0 n ρ M tm hp nx a w) (t : TypeId) (parts : Array (Nat × Operand)) (ho : o.op = .build t parts) (ev : Operand → AV) (hx : ∀ q ∈ parts.toList, Rel ρ M (a.eval q.2) (ev q.2)) (need v eff ob)
    (hs : stepOp P (.build t parts) ev hp nx = some ⟨need, v, eff, ob⟩) : OpOut P o U w0 n ρ M tm hp nx a w v eff := by
  simp only [stepOp, Option.bind_eq_some_iff] at hs
  obtain ⟨z, hz, hs⟩ := hs
  simp only [zeroAV, Option.map_eq_some_iff, Option.bind_eq_some_iff] at hz
  obtain ⟨zv, ⟨i, hi, hzv⟩, hze⟩ := hz
  have hr : Rel ρ M zv z := by rw [← hze]; exact .pure (avOf_rel M zv)
  have hparts : (parts.map fun q => (q.1, a.eval q.2)).toList = parts.toList.map fun q => (q.1, a.eval q.2) := by simp
  have fin : ∀ cells' cs, P.built t (parts.toList.map fun q => (q.1, a.eval q.2)) = some cells' → CellsR ρ M cells' cs → OpOut P o U w0 n ρ M tm hp nx a w (.agg cs) [] := by
    intro cells' cs hb hc
    have := run_build (P := P) w t (parts.map fun q => (q.1, a.eval q.2)) cells' (by rw [hparts]; exact hb)
    refine OpOut.same h (u := .agg cells') ?_ (.agg _ _ hc.1 hc.2)
    simp only [execOp, ho]
    rw [run_v, this]; rfl
  split at hs
  · rename_i fs zc hu
    split at hs
    case isFalse => cases hs
    rename_i hall
    simp only [Option.bind_eq_some_iff, ok1, Option.some.injEq, SR.mk.injEq] at hs
    obtain ⟨cs, hf, _, rfl, rfl, rfl⟩ := hs
    obtain ⟨cells', e1, e2⟩ := fill_rel _ a.eval ev parts.toList zv.cells _ cs hx (cells_rel hr (.inr ⟨_, rfl⟩)) hf
    refine fin cells' cs ?_ e2
    simp only [Program.built, hi, hu, hzv, places_mapM fs.toList hall]
    rw [← e1]
    congr 1
    funext i
    simp
  · rename_i m e zc hu
    split at hs
    case isFalse => cases hs
    rename_i hall
    simp only [Option.bind_eq_some_iff, ok1, Option.some.injEq, SR.mk.injEq] at hs
    obtain ⟨cs, hf, _, rfl, rfl, rfl⟩ := hs
    obtain ⟨cells', e1, e2⟩ := fill_rel _ a.eval ev parts.toList zv.cells _ cs hx (cells_rel hr (.inr ⟨_, rfl⟩)) hf
    refine fin cells' cs ?_ e2
    obtain ⟨ie, hie⟩ := Option.isSome_iff_exists.1 hall
    simp only [Program.built, hi, hu, hzv, hie]
    rw [← e1]
    simp [Program.cellsOf, hie]
  · cases hs

/-- A row's cells, element by element. -/
def RowC (ρ : Rho) (M : Mem) (c : Array Value) (sz : Nat) (l : List AV) : Prop :=
  c.size = l.length * sz ∧ ∀ i, i < l.length → (l.getD i .undef).cells.length = sz ∧ ∀ j, j < sz → ∃ v, c[i * sz + j]? = some v ∧ v.oneCell' = true ∧
    Rel ρ M v ((l.getD i .undef).cells.getD j .undef) ∧ ((l.getD i .undef).isPure = true → RelP M v ((l.getD i .undef).cells.getD j .undef))

theorem RowC.put {ρ M} {c : Array Value} {sz : Nat} {l : List AV} (h : RowC ρ M c sz l) {v : Value} {x : AV} (hr : Rel ρ M v x) (hx : x.okElem sz = true) (i : Nat) (hi : i < l.length) :
    RowC ρ M (c.toList.take (i * sz) ++ v.cells.toList ++ c.toList.drop (i * sz + v.cells.size)).toArray sz (l.set i x) := by
  have hsz : v.cells.size = sz := (hr.elem hx).1
  have hle : i * sz + sz ≤ c.size := by rw [h.1, ← Nat.succ_mul]; exact Nat.mul_le_mul_right _ hi
  have hfit : i * sz + v.cells.toList.length ≤ c.toList.length := by simp; omega
  refine ⟨?_, fun k hk => ?_⟩
  · have := spliced_len c.toList v.cells.toList (i * sz) hfit
    simp only [Array.length_toList] at this
    simp only [List.size_toArray, this, List.length_set, h.1]
  · rw [List.length_set] at hk
    have hget : (l.set i x).getD k .undef = if k = i then x else l.getD k .undef := by
      simp only [List.getD, List.getElem?_set]
      by_cases hik : i = k
      · subst hik; simp [hi]
      · rw [if_neg hik, if_neg (Ne.symm hik)]
    rw [hget]
    by_cases hki : k = i
    · subst hki
      simp only [if_true]
      refine ⟨okElem_one hx, fun j hj => ?_⟩
      obtain ⟨u, k1, k2, k3, k4⟩ := hr.elemAt hx j hj
      refine ⟨u, ?_, k2, k3, k4⟩
      have hsp := spliced c.toList v.cells.toList (k * sz) (k * sz + j) hfit
      simp only [Array.length_toList] at hsp
      rw [List.getElem?_toArray, hsp, if_neg (by omega), if_pos (by omega), Nat.add_sub_cancel_left]
      simpa using k1
    · simp only [if_neg hki]
      obtain ⟨m1, m2⟩ := h.2 k hk
      refine ⟨m1, fun j hj => ?_⟩
      obtain ⟨u, k1, k2, k3, k4⟩ := m2 j hj
      refine ⟨u, ?_, k2, k3, k4⟩
      have hsp := spliced c.toList v.cells.toList (i * sz) (k * sz + j) hfit
      simp only [Array.length_toList] at hsp
      rw [List.getElem?_toArray, hsp]
      by_cases hlt : k * sz + j < i * sz
      · rw [if_pos hlt]; simpa using k1
      · rw [if_neg hlt, if_neg ?_]
        · simpa using k1
        · intro hlt2
          have := @idx_ne k i j (k * sz + j - i * sz) sz hj (by omega) hki
          omega

theorem fill_rows {ρ M} (e : Operand → Value) (ev : Operand → AV) (sz : Nat) : ∀ (parts : List (Nat × Operand)) (c : Array Value) (l : List AV),
    (∀ q ∈ parts, Rel ρ M (e q.2) (ev q.2) ∧ q.1 < l.length ∧ (ev q.2).okElem sz = true) → RowC ρ M c sz l →
    ∃ c', Instr.fill (fun i => some (i * sz, sz)) c (parts.map fun q => (q.1, e q.2)) = some c' ∧ RowC ρ M c' sz (setAll l (parts.map fun q => (q.1, ev q.2)))
  | [], c, l, _, hc => ⟨c, rfl, hc⟩
  | (i, x) :: parts, c, l, hr, hc => by
    obtain ⟨h1, h2, h3⟩ := hr (i, x) (by simp)
    have hsz : (e x).cells.size = sz := (Rel.elem h1 h3).1
    have hi : i < l.length := h2
    have hle : i * sz + sz ≤ c.size := by rw [hc.1, ← Nat.succ_mul]; exact Nat.mul_le_mul_right _ hi
    have hput := foldl_put (e x).cells.toList (i * sz) 0 c (by simp; omega)
    obtain ⟨c', e1, e2⟩ := fill_rows e ev sz parts _ (l.set i (ev x)) (fun q hq => by
      have := hr q (by simp [hq])
      rw [List.length_set]; exact this) (hc.put h1 h3 i hi)
    refine ⟨c', ?_, e2⟩
    simp only [List.map_cons, Instr.fill]
    rw [if_neg (by simp; omega)]
    rw [← e1]
    congr 1
    rw [← Array.foldl_toList, Array.toList_zipIdx]
    simpa using hput

theorem step_buildSlice (h : SRel U w0 n ρ M tm hp nx a w) (t : TypeId) (len : Nat) (parts : Array (Nat × Operand)) (ho : o.op = .buildSlice t len parts) (ev : Operand → AV) (hx : ∀ q ∈ parts.toList, Rel ρ M (a.eval q.2) (ev q.2)) (need v eff ob)
    (hs : stepOp P (.buildSlice t len parts) ev hp nx = some ⟨need, v, eff, ob⟩) : OpOut P o U w0 n ρ M tm hp nx a w v eff := by
  simp only [stepOp] at hs
  split at hs
  case h_2 => cases hs
  rename_i e hu
  simp only [Option.bind_eq_some_iff] at hs
  obtain ⟨z, hz, hs⟩ := hs
  split at hs
  case isFalse => cases hs
  rename_i hc
  simp only [Bool.and_eq_true, decide_eq_true_eq, List.all_eq_true] at hc
  obtain ⟨⟨⟨h1, h2⟩, h3⟩, h4⟩ := hc
  simp only [Option.some.injEq, SR.mk.injEq] at hs
  obtain ⟨_, rfl, rfl, rfl⟩ := hs
  simp only [zeroAV, Option.map_eq_some_iff, Option.bind_eq_some_iff] at hz
  obtain ⟨zv, ⟨i, hi, hzv⟩, hze⟩ := hz
  have hr : Rel ρ M zv z := by rw [← hze]; exact .pure (avOf_rel M zv)
  obtain ⟨i', hi', hsz⟩ := info_of_cells (P := P) h3
  rw [hi] at hi'; cases hi'
  have hzs : zv.cells.size = P.cellsOf e := (hr.elem h1).1
  have hrow0 : RowC ρ M ((Array.range (len * P.cellsOf e)).map (zv.cells[· % zv.cells.size]!)) (P.cellsOf e) (List.replicate len z) := by
    refine ⟨by simp, fun k hk => ?_⟩
    rw [List.length_replicate] at hk
    have hg : (List.replicate len z).getD k .undef = z := by simp [List.getD, hk]
    rw [hg]
    refine ⟨okElem_one h1, fun j hj => ?_⟩
    obtain ⟨u, k1, k2, k3, k4⟩ := hr.elemAt h1 j hj
    refine ⟨u, ?_, k2, k3, k4⟩
    have hlt : k * P.cellsOf e + j < len * P.cellsOf e := by
      have : k * P.cellsOf e + P.cellsOf e ≤ len * P.cellsOf e := by rw [← Nat.succ_mul]; exact Nat.mul_le_mul_right _ hk
      omega
    have hmod : (k * P.cellsOf e + j) % zv.cells.size = j := by rw [hzs, Nat.mul_comm, Nat.mul_add_mod]; exact Nat.mod_eq_of_lt hj
    have hj' : j < zv.cells.size := by omega
    have e1 : zv.cells[j]! = zv.cells[j] := getElem!_pos zv.cells _ hj'
    have e2 : zv.cells[j] = u := by
      obtain ⟨hlt, he⟩ := Array.getElem?_eq_some_iff.1 k1
      exact he
    simp [hlt, hmod, e1, e2]
  obtain ⟨c', e1, e2⟩ := fill_rows a.eval ev (P.cellsOf e) parts.toList _ _ (fun q hq => ⟨hx q hq, by have := (h4 q hq).1; simpa using this, (h4 q hq).2⟩) hrow0
  have hparts : (parts.map fun q => (q.1, a.eval q.2)).toList = parts.toList.map fun q => (q.1, a.eval q.2) := by simp
  have hlen : ∀ (l : List AV) (ps : List (Nat × AV)), (setAll l ps).length = l.length := by
    intro l ps
    induction ps generalizing l with
    | nil => rfl
    | cons p ps ih => simp [setAll, ih]
  have hl : (setAll (List.replicate len z) (parts.toList.map fun q => (q.1, ev q.2))).length = len := by rw [hlen]; simp
  generalize setAll (List.replicate len z) (parts.toList.map fun q => (q.1, ev q.2)) = l at e2 hl ⊢
  have hcs : c'.size = len * P.cellsOf e := by rw [e2.1, hl]
  have hfree := h.free nx 0 (Nat.le_refl _)
  refine ⟨.slice (some ⟨w.heap.size, 0, none⟩) len len, _, updR ρ nx 0 ⟨w.heap.size, 0, c'.size, P.cellsOf e, l.length, false⟩, M, .inl ?_, RX.upd (updR_ext _ hfree) (.inl (Nat.le_refl _)), MExt.refl M, ?_,
    h.alloc (P.cellsOf e) (l.all AV.isPure) (.lst l) c' e w rfl rfl rfl rfl h3 (by simp only [Sq.len]; rw [hl, hcs]; exact Nat.le_refl _) ?_⟩
  · simp only [execOp, ho]
    rw [run_v]
    have hnot : ¬ (len * P.cellsOf e > 2 ^ 24) := by omega
    unfold Instr.buildSlice
    simp only [Sem.run_bind, run_underlying hu, Result.andThen_ok, run_sizeOf' hi]
    rw [if_neg hnot]
    by_cases h0 : len * P.cellsOf e = 0
    · rw [if_pos h0]
      have hr0 : Array.range 0 = #[] := rfl
      rw [h0, hr0] at e1 ⊢
      simp only [List.map_toArray, List.map_nil] at e1
      simp only [Sem.run_bind, Sem.run_pure, Result.andThen_ok, List.map_toArray, List.map_nil, hparts, e1]
      simp [newRow]
    · rw [if_neg h0]
      simp only [Sem.run_bind, Sem.run_pure, Result.andThen_ok, zeroValue, typeInfo, run_program, hi, hzv, hparts, e1]
      simp [newRow]
  · have := Rel.sl (ρ := updR ρ nx 0 ⟨w.heap.size, 0, c'.size, P.cellsOf e, l.length, false⟩) (M := M) _ nx 0 0 len len (some len) (updR_same _ _ _ _) rfl (Nat.le_refl _) (fun k hk => by cases hk; rfl) (by simp [hcs]) (by have : len ≤ len * P.cellsOf e := Nat.le_mul_of_pos_right _ (by omega); simp only [maxLen]; omega) (by simp [hl])
    simpa using this
  · intro k hk
    simp only [Sq.len] at hk
    obtain ⟨m1, m2⟩ := e2.2 k hk
    refine ⟨m1, fun j hj => ?_⟩
    obtain ⟨u, k1, k2, k3, k4⟩ := m2 j hj
    refine ⟨u, k1, k2, k3, fun hp => k4 ?_⟩
    rw [List.all_eq_true] at hp
    have : l.getD k .undef = l[k] := by simp [List.getD, hk]
    rw [this]; exact hp _ (List.getElem_mem hk)

end
end Pw
