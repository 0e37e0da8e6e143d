/- ENGINE, part E5: addresses, fields, indexes, slices. -/
import Derived.Test.YtjkkkldkimdajaaDoorPwE4
import Derived.Lib.IndexBytes
namespace Pw
set_option linter.unusedSimpArgs false
open Go

section
variable {P : Program} {o : Oper} {U : Base} {w0 : World} {n : Nat} {ρ : Rho} {M : Mem} {tm : Nat → AV} {hp : Nat → Blk} {nx : Nat} {a : Act} {w : World}

theorem Rel.rptrInv {ρ M} {v : Value} {x : AV} {j : Nat} (h : Rel ρ M v (.rptr x j)) : ∃ B o', ∃ vals : Nat → Value, v = .pointer (some ⟨B, o' + j, none⟩) ∧
    (∀ i, i < x.cells.length → M B (o' + i) = some (vals i)) ∧ (∀ i, i < x.cells.length → RelP M (vals i) (x.cells.getD i .undef)) := by
  cases h with
  | pure h => cases h with | rptr B o' j x vals hm hr => exact ⟨B, o', vals, rfl, hm, hr⟩

theorem step_nilCheck (h : SRel U w0 n ρ M tm hp nx a w) (x : Operand) (ho : o.op = .nilCheck x) (ev : Operand → AV) (hx : Rel ρ M (a.eval x) (ev x)) (need v eff ob)
    (hs : stepOp P (.nilCheck x) ev hp nx = some ⟨need, v, eff, ob⟩) : OpOut P o U w0 n ρ M tm hp nx a w v eff := by
  simp only [stepOp] at hs
  split at hs
  · rename_i b g i j he
    cases hs
    rw [he] at hx ⊢
    obtain ⟨L, hL, hq, hi⟩ := hx.ptrInv
    exact OpOut.same h (by simp [execOp, ho, hq]) hx
  · rename_i y j he
    cases hs
    rw [he] at hx ⊢
    obtain ⟨B, o', vals, hq, _, _⟩ := hx.rptrInv
    exact OpOut.same h (by simp [execOp, ho, hq]) hx
  · rename_i f fl cl he
    cases hs
    rw [he] at hx ⊢
    obtain ⟨fs, cs, hq, _, _⟩ := hx.fnInv
    exact OpOut.same h (by simp [execOp, ho, hq]) hx
  · cases hs

theorem step_un (h : SRel U w0 n ρ M tm hp nx a w) (op : UnOp) (t : TypeId) (x : Operand) (ho : o.op = .unOp op t x) (ev : Operand → AV) (hx : Rel ρ M (a.eval x) (ev x)) (need v eff ob)
    (hs : stepOp P (.unOp op t x) ev hp nx = some ⟨need, v, eff, ob⟩) : OpOut P o U w0 n ρ M tm hp nx a w v eff := by
  cases op
  case not =>
    simp only [stepOp] at hs
    split at hs
    · rename_i b he
      cases hs
      rw [he] at hx
      have hq := hx.boolInv
      exact OpOut.same h (u := .bool (!b)) (by simp [execOp, ho, hq, Op.unary]) (.pure (.bool _))
    · cases hs
  case neg =>
    simp only [stepOp] at hs
    split at hs
    · rename_i k m he
      cases hs
      rw [he] at hx
      have hq := hx.intInv
      exact OpOut.same h (u := .int k (k.wrap (0 - m))) (by simp [execOp, ho, hq, Op.unary, Op.intArith]) (.pure (.int _ _))
    · cases hs
  all_goals (simp [stepOp] at hs)

theorem step_makeFunc (h : SRel U w0 n ρ M tm hp nx a w) (f : Fn) (fs cs : Array Operand) (ho : o.op = .makeFunc f fs cs) (ev : Operand → AV) (hx : ∀ x, x ∈ fs ∨ x ∈ cs → Rel ρ M (a.eval x) (ev x)) (need v eff ob)
    (hs : stepOp P (.makeFunc f fs cs) ev hp nx = some ⟨need, v, eff, ob⟩) : OpOut P o U w0 n ρ M tm hp nx a w v eff := by
  simp only [stepOp, ok1, Option.some.injEq, SR.mk.injEq] at hs
  obtain ⟨_, rfl, rfl, rfl⟩ := hs
  refine OpOut.same h (u := .func f (fs.map a.eval) (cs.map a.eval)) (by simp [execOp, ho, Instr.makeFunc]) ?_
  refine .fn f _ _ _ _ (by simp) (by simp) (fun i hi => ?_) (fun i hi => ?_)
  · have hi' : i < fs.size := by simpa using hi
    have := hx fs[i] (.inl (Array.getElem_mem hi'))
    simpa [Array.getD, List.getD, hi'] using this
  · have hi' : i < cs.size := by simpa using hi
    have := hx cs[i] (.inr (Array.getElem_mem hi'))
    simpa [Array.getD, List.getD, hi'] using this

theorem step_extract (h : SRel U w0 n ρ M tm hp nx a w) (x : Operand) (i : Nat) (ho : o.op = .extract x i) (ev : Operand → AV) (hx : Rel ρ M (a.eval x) (ev x)) (need v eff ob)
    (hs : stepOp P (.extract x i) ev hp nx = some ⟨need, v, eff, ob⟩) : OpOut P o U w0 n ρ M tm hp nx a w v eff := by
  simp only [stepOp] at hs
  split at hs
  · rename_i l he
    simp only [Option.bind_eq_some_iff, ok1, Option.some.injEq, SR.mk.injEq] at hs
    obtain ⟨y, hy, _, rfl, rfl, rfl⟩ := hs
    rw [he] at hx
    obtain ⟨cs, hq, hsz, hr⟩ := hx.tupInv
    have hi : i < l.length := (List.getElem?_eq_some_iff.1 hy).1
    have := hr i hi
    have e1 : l.getD i .undef = y := by simp [List.getD, hy]
    have hi' : i < cs.size := by omega
    rw [e1] at this
    exact OpOut.same h (by simp [execOp, ho, hq, Instr.extract, Array.getElem?_eq_getElem hi', Array.getD, hi']) this
  · cases hs

theorem step_fieldAddr (h : SRel U w0 n ρ M tm hp nx a w) (t : TypeId) (x : Operand) (f : Nat) (ho : o.op = .fieldAddr t x f) (ev : Operand → AV) (hx : Rel ρ M (a.eval x) (ev x)) (need v eff ob)
    (hs : stepOp P (.fieldAddr t x f) ev hp nx = some ⟨need, v, eff, ob⟩) : OpOut P o U w0 n ρ M tm hp nx a w v eff := by
  simp only [stepOp] at hs
  split at hs
  case h_2 => cases hs
  rename_i fs hu
  simp only [Option.bind_eq_some_iff] at hs
  obtain ⟨fd, hf, hs⟩ := hs
  split at hs
  · cases hs
  rename_i hz
  obtain ⟨i', hi', hsz⟩ := info_of_cells (P := P) (t := fd.type) (by omega)
  have hf' : fs[f]? = some fd := by simpa using hf
  have run : ∀ B off, a.eval x = .pointer (some ⟨B, off, none⟩) → (execOp a.eval o).run P w = .ok (.value (.pointer (some ⟨B, off + fd.offset, none⟩))) w := by
    intro B off hq
    simp [execOp, ho, hq, Instr.fieldAt, run_underlying hu, hf', Instr.sureAddr, fieldPlace, run_sizeOf' hi', hz, add_eq]
  split at hs
  · rename_i b g i j he
    cases hs
    rw [he] at hx
    obtain ⟨L, hL, hq, hi⟩ := hx.ptrInv
    refine OpOut.same h (run _ _ hq) ?_
    rw [Nat.add_assoc]
    exact .ptr L b g i (j + fd.offset) hL hi
  · rename_i y j he
    cases hs
    rw [he] at hx
    obtain ⟨B, o', vals, hq, hm, hr⟩ := hx.rptrInv
    refine OpOut.same h (run _ _ hq) ?_
    rw [Nat.add_assoc]
    exact .pure (.rptr B o' (j + fd.offset) y vals hm hr)
  · cases hs

theorem aggVals {ρ M} {u : Value} {l : List AV} (h : Rel ρ M u (.agg l)) : ∃ cs : Array Value, u = .agg cs ∧ cs.size = l.length ∧ ∀ k, k < (AV.agg l).cells.length → Rel ρ M (cs.getD k undef) ((AV.agg l).cells.getD k .undef) := h.aggInv

theorem run_part {t : TypeId} (cs : Array Value) (l : List AV) (j : Nat) {v : AV} (hs : cs.size = l.length)
    (hr : ∀ k, k < (AV.agg l).cells.length → Rel ρ M (cs.getD k undef) ((AV.agg l).cells.getD k .undef)) (hp : partAV P t (.agg l) j = some v) :
    ∃ u, (part t cs j).run P w = .ok u w ∧ Rel ρ M u v := by
  obtain ⟨⟨d, hu⟩, hc⟩ := rel_part (P := P) (ρ := ρ) (M := M) t j (fun k => cs.getD k undef) hp hr
  obtain ⟨i, hi⟩ := info_of_underlying hu
  unfold part
  rw [Sem.run_bind, eq_isAgg w hu]
  simp only [Result.andThen_ok]
  rcases hc with ⟨ha, hle, hr⟩ | ⟨ha, hlt, hr⟩
  · rw [ha, if_pos rfl, Sem.run_bind, run_sizeOf' hi]
    refine ⟨_, rfl, ?_⟩
    have e : cs.extract j (j + P.cellsOf t) = ((List.range (P.cellsOf t)).map fun k => cs.getD (j + k) undef).toArray := by
      apply Array.ext
      · simp [AV.cells] at hle ⊢; omega
      · intro k h1 h2
        have hk : k < P.cellsOf t := by simpa using h2
        simp only [AV.cells] at hle
        have : j + k < cs.size := by omega
        simp [Array.getD, this]
    show Rel ρ M (.agg (cs.extract j (j + P.cellsOf t))) v
    rw [e]; exact hr
  · rw [ha, if_neg (by simp)]
    have hlt' : j < cs.size := by simp only [AV.cells] at hlt; omega
    refine ⟨cs.getD j undef, ?_, hr⟩
    simp [Array.getD, hlt']

theorem step_field (h : SRel U w0 n ρ M tm hp nx a w) (t : TypeId) (x : Operand) (f : Nat) (ho : o.op = .field t x f) (ev : Operand → AV) (hx : Rel ρ M (a.eval x) (ev x)) (need v eff ob)
    (hs : stepOp P (.field t x f) ev hp nx = some ⟨need, v, eff, ob⟩) : OpOut P o U w0 n ρ M tm hp nx a w v eff := by
  simp only [stepOp] at hs
  split at hs
  case h_2 => cases hs
  rename_i fs hu
  simp only [Option.bind_eq_some_iff] at hs
  obtain ⟨fd, hf, hs⟩ := hs
  have hf' : fs[f]? = some fd := by simpa using hf
  split at hs
  · rename_i l he
    simp only [Option.bind_eq_some_iff, ok1, Option.some.injEq, SR.mk.injEq] at hs
    obtain ⟨y, hy, _, rfl, rfl, rfl⟩ := hs
    rw [he] at hx
    obtain ⟨cs, hq, hsz, hr⟩ := aggVals hx
    obtain ⟨u, hu2, hr2⟩ := run_part (P := P) (w := w) cs l fd.offset hsz hr hy
    exact OpOut.same h (by simp [execOp, ho, hq, Instr.field, run_underlying hu, hf', asAgg, hu2]) hr2
  · cases hs

theorem step_index (h : SRel U w0 n ρ M tm hp nx a w) (t : TypeId) (x ix : Operand) (ho : o.op = .index t x ix) (ev : Operand → AV) (hx : Rel ρ M (a.eval x) (ev x)) (hix : Rel ρ M (a.eval ix) (ev ix)) (need v eff ob)
    (hs : stepOp P (.index t x ix) ev hp nx = some ⟨need, v, eff, ob⟩) (hn : need = true) : OpOut P o U w0 n ρ M tm hp nx a w v eff := by
  simp only [stepOp, indexAV] at hs
  split at hs
  · rename_i s k i hu he hei
    simp only [okN, Option.some.injEq, SR.mk.injEq] at hs
    obtain ⟨h0, rfl, rfl, rfl⟩ := hs
    rw [he] at hx; rw [hei] at hix
    have hq := hx.strInv
    have hi := hix.intInv
    rw [← h0] at hn
    have hn' : 0 ≤ i ∧ i < s.length := by simpa using hn
    have hlt : i.toNat < s.length := by omega
    refine OpOut.same h (u := .int .u8 ((s.getD i.toNat 0).toNat)) ?_ (.pure (.int _ _))
    have e1 : (ByteArray.mk ⟨s⟩)[i.toNat]? = some (s.getD i.toNat 0) := by
      have hsz : i.toNat < (ByteArray.mk ⟨s⟩).size := by simpa [ByteArray.size] using hlt
      have h2 : s[i.toNat]? = some (ByteArray.mk ⟨s⟩)[i.toNat] := Lib.data_getElem? (ByteArray.mk ⟨s⟩) i.toNat hsz
      rw [getElem?_pos (ByteArray.mk ⟨s⟩) i.toNat hsz]
      simp [List.getD, h2]
    simp [execOp, ho, hq, hi, Instr.index, asIntOf, run_underlying hu, hn'.1, e1]
  · rename_i nn e l k i hu he hei
    simp only [Option.bind_eq_some_iff, okN, Option.some.injEq, SR.mk.injEq] at hs
    obtain ⟨y, hy, h0, rfl, rfl, rfl⟩ := hs
    rw [he] at hx; rw [hei] at hix
    obtain ⟨cs, hq, hsz, hr⟩ := aggVals hx
    have hi := hix.intInv
    rw [← h0] at hn
    have hn' : 0 ≤ i ∧ i < nn := by simpa using hn
    obtain ⟨⟨d, hd⟩, _⟩ := rel_part (P := P) (ρ := ρ) (M := M) e (i.toNat * P.cellsOf e) (fun k => cs.getD k undef) hy hr
    obtain ⟨ii, hii⟩ := info_of_underlying hd
    obtain ⟨u, hu2, hr2⟩ := run_part (P := P) (w := w) cs l _ hsz hr hy
    refine OpOut.same h ?_ hr2
    simp [execOp, ho, hq, hi, Instr.index, asIntOf, run_underlying hu, hn'.1, hn'.2, run_sizeOf' hii, hu2]
  · cases hs

end
end Pw
