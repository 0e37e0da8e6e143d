/- ENGINE, part E3: loads, stores, new rows. -/
import Derived.Test.YtjkkkldkimdajaaDoorPwE2
namespace Pw
set_option linter.unusedSimpArgs false
open Go

theorem add_eq (B off n : Nat) : (⟨B, off, none⟩ : Addr).add n = ⟨B, off + n, none⟩ := by unfold Addr.add; split <;> simp_all

theorem avCell_rel (M : Mem) (v : Value) : RelP M v (avCell v) := by
  cases v with
  | int k n => exact .int _ _
  | bool b => exact .bool _
  | string s => obtain ⟨⟨l⟩⟩ := s; exact .str _
  | pointer a => cases a; exact .nilp; exact .undef _
  | slice a l c =>
    cases a with
    | none =>
      simp only [avCell]
      split
      · rename_i h; obtain ⟨rfl, rfl⟩ := h; exact .nils
      · exact .undef _
    | some a => exact .undef _
  | map r => cases r; exact .nilm; exact .undef _
  | func f x y =>
    simp only [avCell]
    split
    · rename_i h
      obtain ⟨h1, h2⟩ := h
      rw [Array.eq_empty_of_size_eq_zero h1, Array.eq_empty_of_size_eq_zero h2]
      exact .fn _
    · exact .undef _
  | nilFunc => exact .nilf
  | _ => exact .undef _

theorem avOf_rel (M : Mem) (v : Value) : RelP M v (avOf v) := by
  cases v with
  | agg cs =>
    refine .agg cs _ (by simp) (fun i hi => ?_)
    have hi' : i < cs.size := by simpa using hi
    have e1 : (cs.toList.map avCell).getD i .undef = avCell cs[i] := by simp [List.getD, hi']
    have e2 : cs.getD i undef = cs[i] := by simp [Array.getD, hi']
    rw [e1, e2]; exact avCell_rel M _
  | _ => exact avCell_rel M _

theorem Rel.pureCell {ρ M} {v : Value} {x : AV} (h : Rel ρ M v x) (hx : x.isPureCell = true) : RelP M v x := by
  cases h with
  | pure h => exact h
  | fn f fs cs fl cl h1 h2 _ _ =>
    cases fl <;> cases cl <;> simp [AV.isPureCell] at hx
    simp at h1 h2
    subst h1; subst h2
    exact .fn f
  | _ => simp [AV.isPureCell] at hx

/-- The cells of an element. -/
theorem Rel.elemAt {ρ M} {v : Value} {x : AV} {sz : Nat} (h : Rel ρ M v x) (hx : x.okElem sz = true) (j : Nat) (hj : j < sz) :
    ∃ u, v.cells[j]? = some u ∧ u.oneCell' = true ∧ Rel ρ M u (x.cells.getD j .undef) ∧ (x.isPure = true → RelP M u (x.cells.getD j .undef)) := by
  obtain ⟨h1, h2, h3⟩ := h.elem hx
  obtain ⟨h4, h5⟩ := h3 j hj
  have e : v.cells[j]? = some (v.cells.getD j Go.undef) := by simp [Array.getD, show j < v.cells.size by omega]
  refine ⟨_, e, h4, h5, fun hp => h5.pureCell ?_⟩
  have hmem : x.cells.getD j .undef ∈ x.cells := by
    have : x.cells.getD j .undef = x.cells[j]'(by omega) := by simp [List.getD, show j < x.cells.length by omega]
    rw [this]; exact List.getElem_mem _
  cases x with
  | agg l => simp only [AV.isPure, List.all_eq_true] at hp; exact hp _ hmem
  | undef => simp [AV.okElem, AV.isCell] at hx
  | tup l => simp [AV.okElem, AV.isCell] at hx
  | opt m j w x => simp [AV.okElem, AV.isCell] at hx
  | _ => rw [List.mem_singleton.1 hmem]; exact hp

section
variable {P : Program} {o : Oper} {U : Base} {w0 : World} {n : Nat} {ρ : Rho} {M : Mem} {tm : Nat → AV} {hp : Nat → Blk} {nx : Nat} {a : Act} {w : World}

theorem run_loadVar (t : TypeId) (hi : ∃ d, P.underlying t = some d) (B off : Nat) (vals : Nat → Value)
    (h : ∀ k, k < P.cellsOf t → w.cell? ⟨B, off + k, none⟩ = some (vals k)) (h1 : isAggT P t = true ∨ w.cell? ⟨B, off, none⟩ = some (vals 0)) :
    (loadVar t ⟨B, off, none⟩).run P w = .ok (if isAggT P t then .agg ((List.range (P.cellsOf t)).map vals).toArray else vals 0) w := by
  obtain ⟨d, hu⟩ := hi
  obtain ⟨i, hi⟩ := info_of_underlying hu
  unfold loadVar
  rw [Sem.run_bind, eq_isAgg w hu]
  simp only [Result.andThen_ok]
  cases ha : isAggT P t with
  | true =>
    rw [if_pos rfl, Sem.run_bind, run_sizeOf' hi]
    simp only [Result.andThen_ok, Sem.run_bind, if_true]
    rw [run_loadCells w ⟨B, off, none⟩ (P.cellsOf t) vals (fun j hj => by rw [add_eq]; exact h j hj)]
    simp
  | false =>
    rw [ha] at h1
    have h2 := h1.resolve_left (by simp)
    rw [if_neg (by simp), if_neg (by simp), run_load]
    simp [h2]

theorem run_storeVar (t : TypeId) (hi : ∃ i, P.info? t = some i) (B off : Nat) (e : TypeId) (c : Array Value) (v : Value) (hg : w.heap[B]? = some (.cells c e (0, 0)))
    (hs : v.cells.size = P.cellsOf t) (hfit : off + v.cells.size ≤ c.size) (h1 : ∀ x ∈ v.cells.toList, x.oneCell' = true) :
    (storeVar t ⟨B, off, none⟩ v).run P w = .ok () (w.setRow B (c.toList.take off ++ v.cells.toList ++ c.toList.drop (off + v.cells.size)).toArray) := by
  obtain ⟨i, hi⟩ := hi
  have := run_storeCells_at P B off e v.cells.toList 0 c w hg (by simpa using hfit) h1
  unfold storeVar
  rw [Sem.run_bind, run_sizeOf' hi]
  simp only [Result.andThen_ok]
  rw [if_neg (by simp [hs])]
  simpa using this

theorem okElem_one {x : AV} {sz : Nat} (h : x.okElem sz = true) : x.cells.length = sz := by
  cases x with
  | agg l => simp only [AV.okElem, Bool.and_eq_true, beq_iff_eq] at h; exact h.1
  | undef => simp [AV.okElem, AV.isCell] at h
  | tup l => simp [AV.okElem, AV.isCell] at h
  | opt m j w x => simp [AV.okElem, AV.isCell] at h
  | _ => simp only [AV.okElem, Bool.and_eq_true, beq_iff_eq] at h; simp [AV.cells, h.1]

/-- A new block with one element. -/
theorem out_new (h : SRel U w0 n ρ M tm hp nx a w) (t : TypeId) {v : Value} {x : AV} (hr : Rel ρ M v x) (hx : x.okElem (P.cellsOf t) = true) (h1 : 1 ≤ P.cellsOf t)
    (hrun : (execOp a.eval o).run P w = .ok (.value (.pointer (some ⟨w.heap.size, 0, none⟩))) (w.alloc (.cells v.cells t))) :
    OpOut P o U w0 n ρ M tm hp nx a w (.ptr nx 0 0 0) [(nx, .row 0 (P.cellsOf t) x.isPure (.lst [x]))] := by
  have hsz := (hr.elem hx).1
  refine ⟨_, _, updR ρ nx 0 ⟨w.heap.size, 0, v.cells.size, P.cellsOf t, 1, false⟩, M, .inl hrun, RX.upd (updR_ext _ (h.free nx 0 (Nat.le_refl _))) (.inl (Nat.le_refl _)), MExt.refl M, ?_,
    h.alloc (P.cellsOf t) x.isPure (.lst [x]) v.cells t w rfl rfl rfl rfl h1 (by simp [Sq.len, hsz]) ?_⟩
  · have := Rel.ptr (ρ := updR ρ nx 0 ⟨w.heap.size, 0, v.cells.size, P.cellsOf t, 1, false⟩) (M := M) _ nx 0 0 0 (updR_same _ _ _ _) (by simp)
    simpa using this
  · intro i hi
    have : i = 0 := by simpa [Sq.len] using hi
    subst this
    refine ⟨by simpa [Sq.get] using okElem_one hx, fun j hj => ?_⟩
    obtain ⟨u, k1, k2, k3, k4⟩ := hr.elemAt hx j hj
    exact ⟨u, by simpa using k1, k2, by simpa [Sq.get] using k3, by simpa [Sq.get] using k4⟩

theorem step_alloc (h : SRel U w0 n ρ M tm hp nx a w) (t : TypeId) (ho : o.op = .alloc t) (ev : Operand → AV) (need v eff ob)
    (hs : stepOp P (.alloc t) ev hp nx = some ⟨need, v, eff, ob⟩) : OpOut P o U w0 n ρ M tm hp nx a w v eff := by
  simp only [stepOp, zeroAV, Option.bind_eq_some_iff, Option.map_eq_some_iff] at hs
  obtain ⟨z, ⟨zv, ⟨i, hi, hz⟩, rfl⟩, hs⟩ := hs
  split at hs
  case isFalse => cases hs
  rename_i hx
  simp only [Bool.and_eq_true, decide_eq_true_eq] at hx
  cases hs
  refine out_new h t (.pure (avOf_rel M zv)) hx.1 hx.2 ?_
  simp [execOp, ho, Instr.alloc, zeroValue, typeInfo, hi, hz, newVar, newRow]

theorem step_box (h : SRel U w0 n ρ M tm hp nx a w) (t : TypeId) (x : Operand) (ho : o.op = .box t x) (ev : Operand → AV) (hev : Rel ρ M (a.eval x) (ev x)) (need v eff ob)
    (hs : stepOp P (.box t x) ev hp nx = some ⟨need, v, eff, ob⟩) : OpOut P o U w0 n ρ M tm hp nx a w v eff := by
  simp only [stepOp] at hs
  split at hs
  case isFalse => cases hs
  rename_i hx
  simp only [Bool.and_eq_true, decide_eq_true_eq] at hx
  cases hs
  refine out_new h t hev hx.1 hx.2 ?_
  simp [execOp, ho, Instr.box, newVar, newRow]

theorem getD_append_left {α : Type} (l m : List α) (i : Nat) (d : α) (h : i < l.length) : (l ++ m).getD i d = l.getD i d := by
  simp [List.getD, List.getElem?_append_left h]

/-- What a pointer to an element's part reads. -/
theorem rel_part {ρ M} {x : AV} (t : TypeId) (j : Nat) (vals : Nat → Value) {v : AV}
    (hp : partAV P t x j = some v) (hv : ∀ k, k < x.cells.length → Rel ρ M (vals k) (x.cells.getD k .undef)) :
    (∃ d, P.underlying t = some d) ∧
    ((isAggT P t = true ∧ j + P.cellsOf t ≤ x.cells.length ∧ Rel ρ M (.agg ((List.range (P.cellsOf t)).map fun k => vals (j + k)).toArray) v) ∨
    (isAggT P t = false ∧ j < x.cells.length ∧ Rel ρ M (vals j) v)) := by
  unfold partAV at hp
  split at hp
  · cases hp
  rename_i hu
  refine ⟨?_, ?_⟩
  · cases h : P.underlying t with
    | none => simp [h] at hu
    | some d => exact ⟨d, rfl⟩
  split at hp
  · rename_i ha
    simp only at hp
    split at hp
    · rename_i hle
      cases hp
      refine .inl ⟨ha, hle, .agg _ _ (by simp; omega) (fun i hi => ?_)⟩
      have hi' : i < P.cellsOf t := by simp at hi; omega
      have e1 : ((x.cells.drop j).take (P.cellsOf t)).getD i .undef = x.cells.getD (j + i) .undef := by
        simp [List.getD, List.getElem?_take, hi', List.getElem?_drop]
      have e2 : ((List.range (P.cellsOf t)).map fun k => vals (j + k)).toArray.getD i undef = vals (j + i) := by
        simp [Array.getD, hi']
      rw [e1, e2]
      exact hv _ (by omega)
    · cases hp
  · rename_i ha
    have hlt : j < x.cells.length := by
      rcases Nat.lt_or_ge j x.cells.length with h | h
      · exact h
      · rw [List.getElem?_eq_none h] at hp; cases hp
    have e1 : x.cells.getD j .undef = v := by simp [List.getD, hp]
    refine .inr ⟨by simpa using ha, hlt, ?_⟩
    rw [← e1]
    exact hv j hlt

/-- A load of a part of an element whose cells stand in memory from B, off on. -/
theorem out_load (h : SRel U w0 n ρ M tm hp nx a w) (t : TypeId) (x : AV) (B off j : Nat) (vals : Nat → Value) {v : AV}
    (hp' : partAV P t x j = some v) (hv : ∀ k, k < x.cells.length → w.cell? ⟨B, off + k, none⟩ = some (vals k) ∧ Rel ρ M (vals k) (x.cells.getD k .undef))
    (q : Operand) (ho : o.op = .load t q) (hq : a.eval q = .pointer (some ⟨B, off + j, none⟩)) : OpOut P o U w0 n ρ M tm hp nx a w v [] := by
  obtain ⟨hu, hc⟩ := rel_part (P := P) (ρ := ρ) (M := M) t j vals hp' (fun k hk => (hv k hk).2)
  have hrun : ∀ u, (loadVar t ⟨B, off + j, none⟩).run P w = .ok u w → (execOp a.eval o).run P w = .ok (.value u) w := by
    intro u hl
    simp [execOp, ho, Instr.loadAt, Instr.sureAddr, hq, hl]
  rcases hc with ⟨ha, hle, hr⟩ | ⟨ha, hlt, hr⟩
  · refine OpOut.same h (hrun _ ?_) hr
    have := run_loadVar (P := P) (w := w) t hu B (off + j) (fun k => vals (j + k)) (fun k hk => by
      have := (hv (j + k) (by omega)).1
      rwa [← Nat.add_assoc] at this) (.inl ha)
    rw [ha, if_pos rfl] at this
    exact this
  · refine OpOut.same h (hrun _ ?_) hr
    have hcell := (hv j hlt).1
    obtain ⟨d, hu⟩ := hu
    unfold loadVar
    rw [Sem.run_bind, eq_isAgg w hu, ha]
    simp only [Result.andThen_ok, Bool.false_eq_true, if_false]
    rw [run_load]
    simp [hcell]

/-- The cells of an element of an own row. -/
theorem row_cells {b g sz pu s} (h : SRel U w0 n ρ M tm hp nx a w) (hb : hp b = .row g sz pu s) (i : Nat) (hi : i < s.len) :
    ∃ L, ρ b g = some L ∧ L.sz = sz ∧ L.virt = false ∧ ∃ vals : Nat → Value, (s.get i).cells.length = sz ∧ ∀ k, k < (s.get i).cells.length →
      w.cell? ⟨L.B, L.o + i * L.sz + k, none⟩ = some (vals k) ∧ Rel ρ M (vals k) ((s.get i).cells.getD k .undef) := by
  obtain ⟨L, h1, h2, h3, h4⟩ := h.rowLoc hb
  rcases h4 with h4 | ⟨hv, c, e, h5, h6, h7, h8, h9⟩
  · omega
  obtain ⟨h10, h11⟩ := h9 i hi
  refine ⟨L, h1, h2, hv, fun k => c.getD (L.o + i * sz + k) undef, h10, fun k hk => ?_⟩
  obtain ⟨v, k1, k2, k3, k4⟩ := h11 k (by omega)
  have e1 : c.getD (L.o + i * sz + k) undef = v := by
    obtain ⟨hlt, he⟩ := Array.getElem?_eq_some_iff.1 k1
    simp [Array.getD, hlt, he]
  subst h2
  refine ⟨?_, ?_⟩
  · rw [cell_of_row w L.B _ c e (0, 0) h5, k1]
    exact congrArg some e1.symm
  · show Rel ρ M (c.getD (L.o + i * L.sz + k) undef) _
    rw [e1]; exact k3

theorem step_load (h : SRel U w0 n ρ M tm hp nx a w) (t : TypeId) (q : Operand) (ho : o.op = .load t q) (ev : Operand → AV) (hev : Rel ρ M (a.eval q) (ev q)) (need v eff ob)
    (hs : stepOp P (.load t q) ev hp nx = some ⟨need, v, eff, ob⟩) (hn : need = true) : OpOut P o U w0 n ρ M tm hp nx a w v eff := by
  simp only [stepOp] at hs
  split at hs
  · rename_i b g i j he
    rw [he] at hev
    obtain ⟨L, hL, hq, hi⟩ := hev.ptrInv
    split at hs
    · rename_i g' sz pu s hb
      simp only [Option.bind_eq_some_iff, okN, Option.some.injEq, SR.mk.injEq] at hs
      obtain ⟨x, hx, h1, rfl, rfl, rfl⟩ := hs
      rw [← h1] at hn
      have hg : g = g' := by simpa using hn
      subst hg
      obtain ⟨L', e1, e2, e3, _⟩ := h.rowLoc hb
      rw [hL] at e1; cases e1
      obtain ⟨L', e1, e2, e3, vals, e4, e5⟩ := row_cells h hb i (by omega)
      rw [hL] at e1; cases e1
      exact out_load h t (s.get i) L.B (L.o + i * L.sz) j vals hx e5 q ho hq
    · cases hs
  · rename_i x j he
    rw [he] at hev
    simp only [Option.bind_eq_some_iff, ok1, Option.some.injEq, SR.mk.injEq] at hs
    obtain ⟨y, hy, h1, rfl, rfl, rfl⟩ := hs
    generalize hq : a.eval q = qv at hev
    cases hev with
    | pure hev =>
      cases hev with
      | rptr B off j x vals hm hr =>
        exact out_load h t x B off j vals hy (fun k hk => ⟨(h.hok.mem _ _ _ (hm k hk)).1, .pure (hr k hk)⟩) q ho hq
  · cases hs

theorem spliced {α : Type} (l xs : List α) (o k : Nat) (h : o + xs.length ≤ l.length) :
    (l.take o ++ xs ++ l.drop (o + xs.length))[k]? = if k < o then l[k]? else if k < o + xs.length then xs[k - o]? else l[k]? := by
  have h1 : (l.take o).length = o := by simp; omega
  by_cases hk : k < o
  · rw [if_pos hk, List.append_assoc, List.getElem?_append_left (by omega), List.getElem?_take, if_pos hk]
  · rw [if_neg hk, List.append_assoc, List.getElem?_append_right (by omega), h1]
    by_cases hk2 : k < o + xs.length
    · rw [if_pos hk2, List.getElem?_append_left (by omega)]
    · rw [if_neg hk2, List.getElem?_append_right (by omega), List.getElem?_drop]
      congr 1; omega

theorem spliced_len {α : Type} (l xs : List α) (o : Nat) (h : o + xs.length ≤ l.length) : (l.take o ++ xs ++ l.drop (o + xs.length)).length = l.length := by
  simp; omega

theorem oneAV_cells {y z : AV} {sz : Nat} (h : oneAV y = some z) (hy : y.okElem sz = true) : z.cells = y.cells ∧ y.cells.length = 1 := by
  cases y with
  | agg l =>
    match l, h, hy with
    | [x], h, hy =>
      simp only [oneAV, Option.some.injEq] at h
      subst h
      simp only [AV.okElem, List.all_cons, List.all_nil, Bool.and_true, Bool.and_eq_true] at hy
      exact ⟨cells_isCell hy.2, rfl⟩
  | _ => cases h; exact ⟨rfl, rfl⟩

theorem putAV_cells {x y z : AV} {j sz : Nat} (h : putAV x j y = some z) (hy : y.okElem sz = true) :
    z.cells = splice x.cells j y.cells ∧ j + y.cells.length ≤ x.cells.length := by
  have one : x.cells = [x] → (if j = 0 then oneAV y else none) = some z → z.cells = splice x.cells j y.cells ∧ j + y.cells.length ≤ x.cells.length := by
    intro hx h
    split at h
    · rename_i hj
      obtain ⟨h1, h2⟩ := oneAV_cells h hy
      rw [hx, h1, hj]
      refine ⟨?_, by simp [h2]⟩
      rw [splice, h2]
      simp
    · cases h
  cases x with
  | agg l =>
    simp only [putAV] at h
    split at h
    · rename_i hle
      cases h
      exact ⟨rfl, hle⟩
    · cases h
  | _ => exact one rfl h

theorem Sq.len_set (s : Sq) (i : Nat) (x : AV) : (s.set i x).len = s.len := by cases s <;> simp [Sq.set, Sq.len]
theorem Sq.get_set (s : Sq) (i k : Nat) (x : AV) (hi : i < s.len) : (s.set i x).get k = if k = i then x else s.get k := by
  cases s with
  | lst l =>
    simp only [Sq.len] at hi
    simp only [Sq.set, Sq.get, List.getD, List.getElem?_set]
    by_cases h : i = k
    · subst h; simp [hi]
    · rw [if_neg h, if_neg (Ne.symm h)]
  | fn n f => rfl

theorem idx_lt {o i k sz len csz : Nat} (hk : k < sz) (hi : i < len) (h : o + len * sz ≤ csz) : o + i * sz + k < csz := by
  have h1 : i * sz + sz ≤ len * sz := by rw [← Nat.succ_mul]; exact Nat.mul_le_mul_right _ hi
  omega
theorem idx_ne {i i' k k' sz : Nat} (hk : k < sz) (hk' : k' < sz) (h : i ≠ i') : i * sz + k ≠ i' * sz + k' := by
  rcases Nat.lt_or_gt_of_ne h with h1 | h1
  · have : i * sz + sz ≤ i' * sz := by rw [← Nat.succ_mul]; exact Nat.mul_le_mul_right _ h1
    omega
  · have : i' * sz + sz ≤ i * sz := by rw [← Nat.succ_mul]; exact Nat.mul_le_mul_right _ h1
    omega

theorem step_store (h : SRel U w0 n ρ M tm hp nx a w) (t : TypeId) (q x : Operand) (ho : o.op = .store t q x) (ev : Operand → AV) (hev : Rel ρ M (a.eval q) (ev q)) (hev2 : Rel ρ M (a.eval x) (ev x)) (need v eff ob)
    (hs : stepOp P (.store t q x) ev hp nx = some ⟨need, v, eff, ob⟩) (hn : need = true) : OpOut P o U w0 n ρ M tm hp nx a w v eff := by
  simp only [stepOp] at hs
  split at hs
  case h_2 => cases hs
  rename_i b g i j he
  rw [he] at hev
  obtain ⟨L, hL, hq, hiL⟩ := hev.ptrInv
  split at hs
  case h_2 => cases hs
  rename_i g' sz pu s hb
  split at hs
  case isFalse => cases hs
  rename_i hg
  obtain ⟨hok, hpos⟩ := hg
  simp only [Option.bind_eq_some_iff, Option.some.injEq, SR.mk.injEq] at hs
  obtain ⟨y, hy, h1, rfl, rfl, rfl⟩ := hs
  rw [← h1] at hn
  have hg : g = g' := by simpa using hn
  subst hg
  obtain ⟨L', e1, e2, e3, hc⟩ := h.rowLoc hb
  rw [hL] at e1; cases e1
  have hi : i < s.len := by omega
  rcases hc with hc | ⟨hv, c, e, h5, h6, h7, h8, h9⟩
  · omega
  obtain ⟨hyc, hyl⟩ := putAV_cells hy hok
  obtain ⟨hel1, hel2, hel3⟩ := hev2.elem hok
  have hxs := (h9 i hi).1
  subst e2
  have hx2 : (ev x).cells.length = (a.eval x).cells.size := by rw [hel1, hel2]
  have hfit : L.o + i * L.sz + j + (a.eval x).cells.size ≤ c.size := by
    have hle : L.o + i * L.sz + L.sz ≤ c.size := by
      have : i * L.sz + L.sz ≤ s.len * L.sz := by rw [← Nat.succ_mul]; exact Nat.mul_le_mul_right _ hi
      omega
    omega
  have hinfo : ∃ i, P.info? t = some i := let ⟨i, hi, _⟩ := info_of_cells (P := P) (t := t) hpos; ⟨i, hi⟩
  have hst := run_storeVar (P := P) (w := w) t hinfo L.B (L.o + i * L.sz + j) e c (a.eval x) h5 hel1 hfit (by
    intro u hu
    obtain ⟨k, hk, rfl⟩ := List.getElem_of_mem hu
    have hk' : k < P.cellsOf t := by simpa [hel1] using hk
    have := (hel3 k hk').1
    simpa [Array.getD, show k < (a.eval x).cells.size by omega] using this)
  generalize hc' : (c.toList.take (L.o + i * L.sz + j) ++ (a.eval x).cells.toList ++ c.toList.drop (L.o + i * L.sz + j + (a.eval x).cells.size)).toArray = c' at hst
  have hcsz : c'.size = c.size := by
    rw [← hc']
    have := spliced_len c.toList (a.eval x).cells.toList (L.o + i * L.sz + j) (by simpa using hfit)
    simpa using this
  have hnew : (w.setRow L.B c').heap[L.B]? = some (.cells c' e (0, 0)) := setRow_heap w L.B c _ e (0, 0) h5
  refine ⟨undef, w.setRow L.B c', ρ, M, .inr ⟨?_, rfl⟩, RX.refl ρ hp nx, MExt.refl M, Rel.undef _, ?_⟩
  · simp [execOp, ho, Instr.storeAt, Instr.sureAddr, hq, hst]
  · refine h.upd b g L.sz (pu && (ev x).isPure) (s.set i y) L (RExt.refl ρ) (fun _ _ _ => rfl) hL
      ⟨L, hL, rfl, ⟨e3.1, by rw [Sq.len_set]; exact e3.2⟩, .inr ⟨hv, _, e, hnew, by rw [hcsz, h6], by rw [Sq.len_set]; exact h7, h8, fun i' hi' => ?_⟩⟩
      (.inr (.inr ⟨g, L.sz, pu, s, L, hb, hL, hv, rfl⟩)) (fun g' hg' => h.hok.gen b g L.sz pu s hb g' hg') rfl rfl rfl (by simp) (fun B hB hne => setRow_other w L.B B _ (by
        rcases hne with h0 | h0
        · rw [hv] at h0; cases h0
        · exact h0))
    rw [Sq.len_set] at hi'
    rw [Sq.get_set s i i' y hi]
    have hlen : (if i' = i then y else s.get i').cells.length = L.sz := by
      split
      · rw [hyc]
        have := spliced_len (s.get i).cells (ev x).cells j hyl
        rw [splice, this, hxs]
      · exact (h9 i' hi').1
    refine ⟨hlen, fun k hk => ?_⟩
    rw [← hc']
    simp only [List.getElem?_toArray]
    have hsp := spliced c.toList (a.eval x).cells.toList (L.o + i * L.sz + j) (L.o + i' * L.sz + k) (by simpa using hfit)
    simp only [Array.length_toList] at hsp
    rw [hsp]
    by_cases hii : i' = i
    · subst hii
      simp only [if_true]
      rw [hyc]
      have hsp2 := spliced (s.get i').cells (ev x).cells j k hyl
      have hgd : (splice (s.get i').cells j (ev x).cells).getD k .undef = (if k < j then (s.get i').cells[k]? else if k < j + (ev x).cells.length then (ev x).cells[k - j]? else (s.get i').cells[k]?).getD .undef := by
        rw [splice, List.getD, hsp2]
      rw [hgd]
      by_cases hkj : k < j
      · rw [if_pos (by omega), if_pos hkj]
        obtain ⟨v, k1, k2, k3, k4⟩ := (h9 i' hi').2 k hk
        exact ⟨v, by simpa using k1, k2, k3, fun hp => k4 (by simp at hp; exact hp.1)⟩
      · rw [if_neg (by omega), if_neg hkj]
        by_cases hkx : k < j + (ev x).cells.length
        · rw [if_pos (by omega), if_pos hkx]
          obtain ⟨u, k1, k2, k3, k4⟩ := hev2.elemAt hok (k - j) (by omega)
          refine ⟨u, ?_, k2, by simpa [List.getD] using k3, fun hp => by simpa [List.getD] using k4 (by simp at hp; exact hp.2)⟩
          rw [show L.o + i' * L.sz + k - (L.o + i' * L.sz + j) = k - j by omega]
          simpa using k1
        · rw [if_neg (by omega), if_neg hkx]
          obtain ⟨v, k1, k2, k3, k4⟩ := (h9 i' hi').2 k hk
          exact ⟨v, by simpa using k1, k2, k3, fun hp => k4 (by simp at hp; exact hp.1)⟩
    · simp only [if_neg hii]
      obtain ⟨v, k1, k2, k3, k4⟩ := (h9 i' hi').2 k hk
      refine ⟨v, ?_, k2, k3, fun hp => k4 (by simp at hp; exact hp.1)⟩
      have hjz : j + (a.eval x).cells.size ≤ L.sz := by omega
      by_cases hlt : L.o + i' * L.sz + k < L.o + i * L.sz + j
      · rw [if_pos hlt]; simpa using k1
      · rw [if_neg hlt, if_neg ?_]
        · simpa using k1
        · intro hlt2
          have hne := @idx_ne i' i k (i' * L.sz + k - i * L.sz) L.sz hk (by omega) hii
          omega
end
end Pw
