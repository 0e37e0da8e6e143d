/- ENGINE, part E8: conversions, make, len, min, max. -/
import Derived.Test.YtjkkkldkimdajaaDoorPwE7
namespace Pw
set_option linter.unusedSimpArgs false
open Go

section
variable {P : Program} {o : Oper} {U : Base} {w0 : World} {n : Nat} {ρ : Rho} {M : Mem} {tm : Nat → AV} {hp : Nat → Blk} {nx : Nat} {a : Act} {w : World}

/-- The memory of a block that is new and does not change, beside what there was. -/
def memAdd (M : Mem) (w : World) (B : Nat) (k : Nat) : Mem := fun B' i => if B' = B then (if i < k then w.cell? ⟨B, i, none⟩ else none) else M B' i

/-- A new block of cells that stays as it is. -/
theorem SRel.frozen (h : SRel U w0 n ρ M tm hp nx a w) {w' : World} (k : Nat) (hos : w'.os = w.os) (htape : w'.tape = w.tape) (hout : w'.output = w.output) (hsz : w.heap.size < w'.heap.size)
    (hw : ∀ B, B < w.heap.size → w'.heap[B]? = w.heap[B]?) (hc : ∀ i, i < k → ∃ v, w'.cell? ⟨w.heap.size, i, none⟩ = some v ∧ v.oneCell' = true) :
    MExt M (memAdd M w' w.heap.size k) ∧ SRel U w0 n ρ (memAdd M w' w.heap.size k) tm hp nx a w' := by
  have hext : MExt M (memAdd M w' w.heap.size k) := by
    intro B i v hm
    have : B ≠ w.heap.size := by have := h.hok.mem_lt hm; omega
    simp [memAdd, this, hm]
  refine ⟨hext, ⟨h.size, fun t => (h.tm t).mono (RExt.refl ρ) hext, ⟨fun B i v hm => ?_, fun b g sz pu s hb => ?_, h.hok.inj, h.hok.gen⟩, h.dead, h.free, ?_, ?_, h.memE.trans hext, h.own, h.defers⟩⟩
  · unfold memAdd at hm
    split at hm
    · rename_i hB
      subst hB
      split at hm
      · rename_i hi
        obtain ⟨u, hu, hu1⟩ := hc i hi
        rw [hu] at hm; cases hm
        exact ⟨hu, hu1⟩
      · cases hm
    · have := h.hok.mem B i v hm
      rw [cell_congr (hw B (h.hok.mem_lt hm))]
      exact this
  · obtain ⟨L, h1, h2, h3, h4⟩ := h.hok.row b g sz pu s hb
    refine ⟨L, h1, h2, h3, ?_⟩
    rcases h4 with h4 | ⟨hv, c, e, h5, h6, h7, h8, h9⟩
    · exact .inl h4
    · have hlt := heap_lt h5
      refine .inr ⟨hv, c, e, by rw [hw _ hlt]; exact h5, h6, h7, fun i => ?_, fun i hi => ⟨(h9 i hi).1, fun j hj => ?_⟩⟩
      · have : L.B ≠ w.heap.size := by omega
        simp [memAdd, this, h8]
      · obtain ⟨v, k1, k2, k3, k4⟩ := (h9 i hi).2 j hj
        exact ⟨v, k1, k2, k3.mono (RExt.refl ρ) hext, fun hp => (k4 hp).mono hext⟩
  · refine ⟨hos.trans h.keep.os, htape.trans h.keep.tape, hout.trans h.keep.output, by have := h.keep.size; omega, fun B hU hB => ?_⟩
    rw [hw B (Nat.lt_of_lt_of_le hB h.keep.size)]
    exact h.keep.block B hU hB
  · intro B i v hm
    unfold memAdd at hm
    split at hm
    · rename_i hB; right; rw [hB]; exact h.keep.size
    · exact h.memN B i v hm

theorem out_bytes (h : SRel U w0 n ρ M tm hp nx a w) (s d e : TypeId) (x : Operand) (ho : o.op = .convert s d x) (l : List UInt8) (hx : a.eval x = .string ⟨⟨l⟩⟩)
    (us : TypeDesc) (hs : P.underlying s = some us) (hd : P.underlying d = some (.slice e)) (he : P.underlying e = some (.int .u8)) (hl : l.length ≤ maxLen) :
    OpOut P o U w0 n ρ M tm hp nx a w (.rof l.length (fun i => .int .u8 ((l.getD i 0).toNat)) false) [] := by
  have hrun := Lib.run_convert_string_bytes (P := P) w s d e (ByteArray.mk ⟨l⟩) hs hd he
  have hsize : (ByteArray.mk ⟨l⟩).size = l.length := rfl
  have hcell : ∀ i, i < l.length → (Lib.bytesWorld w e (ByteArray.mk ⟨l⟩)).cell? ⟨w.heap.size, i, none⟩ = some (.int .u8 ((l.getD i 0).toNat)) := fun i hi => Lib.bytesWorld_cell w e _ i (by rw [hsize]; exact hi)
  obtain ⟨hext, hrel⟩ := h.frozen (w' := Lib.bytesWorld w e (ByteArray.mk ⟨l⟩)) l.length rfl rfl rfl (by rw [Lib.bytesWorld_size]; omega) (fun B hB => Lib.bytesWorld_at_old w e _ B hB)
    (fun i hi => ⟨_, hcell i hi, rfl⟩)
  refine ⟨.slice (some ⟨w.heap.size, 0, none⟩) l.length (grownCap w l.length 0 e), _, ρ, _, .inl ?_, RX.refl ρ hp nx, hext, ?_, hrel⟩
  · simp only [execOp, ho, hx]
    rw [run_v, hrun]
    rfl
  · have hcap := grownCap_ge w l.length 0 e
    have hcap2 := grownCap_le_maxLen w l.length 0 e hl
    refine .pure (.rof w.heap.size 0 (grownCap w l.length 0 e) 1 l.length _ false (fun i _ => .int .u8 ((l.getD i 0).toNat)) hcap hcap2 (by simp) (fun i hi => rfl) (fun i j hi hj => ?_) (fun i j hi hj => ?_))
    · have : j = 0 := by omega
      subst this
      simp only [memAdd, if_true, Nat.zero_add, Nat.mul_one, Nat.add_zero, hi]
      exact hcell i hi
    · have : j = 0 := by omega
      subst this
      exact .int _ _

theorem byte_rel {ρ M} {v : Value} {x : AV} (h : Rel ρ M v x) (hx : isU8 x = true) : ∃ m, x = .int .u8 m ∧ v = .int .u8 m := by
  cases x <;> simp only [isU8, Bool.false_eq_true] at hx
  rename_i k m
  cases k <;> simp only [Bool.false_eq_true] at hx
  exact ⟨m, rfl, h.intInv⟩

theorem ofNat_fold (f : Nat → Int) : ∀ (n : Nat), ((List.range n).map f).foldl (fun (r : ByteArray) m => r.push (UInt8.ofNat m.toNat)) ByteArray.empty = ⟨⟨(List.range n).map fun i => UInt8.ofNat (f i).toNat⟩⟩ := by
  intro n
  induction n with
  | zero => rfl
  | succ n ih =>
    rw [List.range_succ, List.map_append, List.foldl_append, ih]
    simp only [List.map_cons, List.map_nil, List.foldl_cons, List.foldl_nil, List.map_append]
    apply ByteArray.ext
    apply Array.ext'
    simp [ByteArray.push]

/-- Bytes in memory, as a string. -/
theorem run_strOf (s d e : TypeId) (hs : P.underlying s = some (.slice e)) (hd : P.underlying d = some .string) (he : P.underlying e = some (.int .u8))
    (B off len cap : Nat) (f : Nat → Int) (hc : ∀ i, i < len → w.cell? ⟨B, off + i, none⟩ = some (.int .u8 (f i))) :
    (convert s d (.slice (some ⟨B, off, none⟩) len cap)).run P w = .ok (.string ⟨⟨(List.range len).map fun i => UInt8.ofNat (f i).toNat⟩⟩) w := by
  rw [run_convert_bytes_string w s d e _ len cap hs he hd]
  have hl := run_loadCells (P := P) w ⟨B, off, none⟩ len (fun i => .int .u8 (f i)) (fun j hj => by rw [add_eq]; exact hc j hj)
  have := run_bytesToString (P := P) w ⟨B, off, none⟩ len cap ((List.range len).map f) (by rw [hl, List.map_map]; rfl)
  rw [this, ofNat_fold]


def intAV : AV → Int
  | .int _ m => m
  | _ => 0

/-- The elements of a slice value, in memory. -/
def ElemsAt (ρ : Rho) (M : Mem) (w : World) (v : Value) (s : Sq) (pu : Bool) : Prop :=
  ∃ ad cap, v = .slice ad s.len cap ∧ s.len ≤ cap ∧ (s.len = 0 ∨ ∃ B off sz, ∃ vals : Nat → Nat → Value, ad = some ⟨B, off, none⟩ ∧
    ∀ i, i < s.len → (s.get i).cells.length = sz ∧ ∀ j, j < sz → w.cell? ⟨B, off + i * sz + j, none⟩ = some (vals i j) ∧ (vals i j).oneCell' = true ∧
      Rel ρ M (vals i j) ((s.get i).cells.getD j .undef) ∧ (pu = true → RelP M (vals i j) ((s.get i).cells.getD j .undef)))

theorem ElemsAt.ofRO (h : SRel U w0 n ρ M tm hp nx a w) {v : Value} {nn f ex} (hr : ROf M v nn f ex) (s : Sq) (hs : s.len = nn) (hg : ∀ i, i < nn → s.get i = f i) : ElemsAt ρ M w v s true := by
  rcases hr with ⟨h0, ad, cap, rfl, h1, h2, h3⟩ | ⟨h0, B, off, cap, sz, vals, rfl, hc, hcm, hex, hz, hm, hr⟩
  · exact ⟨ad, cap, by rw [hs, h0], by omega, .inl (by omega)⟩
  · refine ⟨_, cap, by rw [hs], by omega, .inr ⟨B, off, sz, vals, rfl, fun i hi => ?_⟩⟩
    have hi' : i < nn := by omega
    rw [hg i hi']
    refine ⟨hz i hi', fun j hj => ?_⟩
    have hmem := h.hok.mem _ _ _ (hm i j hi' hj)
    exact ⟨hmem.1, hmem.2, .pure (hr i j hi' hj), fun _ => hr i j hi' hj⟩

theorem Sq.sub_get (s : Sq) (i len k : Nat) (hk : k < len) : (s.sub i len).get k = s.get (i + k) := by
  cases s with
  | lst l => simp [Sq.sub, Sq.get, List.getD, List.getElem?_take, hk, List.getElem?_drop]
  | fn n f => rfl

theorem Sq.sub_len (q : Sq) (i len : Nat) (h : i + len ≤ q.len) : (q.sub i len).len = len := by
  cases q with
  | lst l => simp only [Sq.len] at h; simp [Sq.sub, Sq.len]; omega
  | fn m f => rfl

theorem elemsAt (h : SRel U w0 n ρ M tm hp nx a w) {v : Value} {x : AV} (hx : Rel ρ M v x) {s : Sq} {ok : Bool} (hs : elemsOf hp x = some (s, ok)) (hok : ok = true) : ElemsAt ρ M w v s (puOf hp x) := by
  subst hok
  cases x <;> simp only [elemsOf, Option.some.injEq, reduceCtorEq, Prod.mk.injEq, and_true] at hs
  case rol l ex => subst hs; exact .ofRO h hx.rolInv _ rfl (fun i hi => rfl)
  case rof nn f ex => subst hs; exact .ofRO h hx.rofInv _ rfl (fun i hi => rfl)
  case nils =>
    subst hs
    have hq : v = .slice none 0 0 := by cases hx with | pure h => cases h; rfl
    exact ⟨none, 0, hq, Nat.le_refl _, .inl rfl⟩
  case sl b g i len c =>
    split at hs
    case h_2 => cases hs
    rename_i g' sz pu q hb
    simp only [Option.some.injEq, Prod.mk.injEq, decide_eq_true_eq] at hs
    obtain ⟨hs, hg⟩ := hs
    subst hs; subst hg
    obtain ⟨L, hL, hc⟩ := hx.slInv
    rcases hc with ⟨hv, cap, rfl, k1, k2, k3, k4, k5⟩ | ⟨h1, k2, ad, rfl⟩
    · obtain ⟨L', e1, e2, e3, h6⟩ := h.rowLoc hb
      rw [hL] at e1; cases e1
      have hlen : (q.sub i len).len = len := Sq.sub_len q i len (by omega)
      rcases h6 with ⟨h6, _⟩ | ⟨_, cc, e, h7, h8, h9, h10, h11⟩
      · rw [hv] at h6; cases h6
      subst e2
      refine ⟨_, cap, by rw [hlen], by omega, .inr ⟨L.B, L.o + i * L.sz, L.sz, fun k j => cc.getD (L.o + (i + k) * L.sz + j) undef, rfl, fun k hk => ?_⟩⟩
      rw [hlen] at hk
      rw [Sq.sub_get q i len k hk]
      obtain ⟨m1, m2⟩ := h11 (i + k) (by omega)
      refine ⟨m1, fun j hj => ?_⟩
      obtain ⟨u, n1, n2, n3, n4⟩ := m2 j hj
      have hget : cc.getD (L.o + (i + k) * L.sz + j) undef = u := by
        obtain ⟨hlt, he⟩ := Array.getElem?_eq_some_iff.1 n1
        simp [Array.getD, hlt, he]
      simp only [hget]
      refine ⟨?_, n2, n3, fun hp' => n4 (by simpa [puOf, hb] using hp')⟩
      rw [cell_of_row w L.B _ cc e (0, 0) h7, ← n1]
      congr 1
      rw [Nat.add_mul]; omega
    · subst h1
      have hlen : (q.sub i 0).len = 0 := by cases q <;> simp [Sq.sub, Sq.len]
      exact ⟨ad, 0, by rw [hlen], by omega, .inl hlen⟩

theorem step_convert (h : SRel U w0 n ρ M tm hp nx a w) (s d : TypeId) (x : Operand) (ho : o.op = .convert s d x) (ev : Operand → AV) (hx : Rel ρ M (a.eval x) (ev x)) (need v eff ob)
    (hs : stepOp P (.convert s d x) ev hp nx = some ⟨need, v, eff, ob⟩) (hn : need = true) (hob : ∀ p, ob = some p → p) : OpOut P o U w0 n ρ M tm hp nx a w v eff := by
  simp only [stepOp, convertAV] at hs
  split at hs
  · rename_i d' k k' m hs' hd he
    simp only [ok1, Option.some.injEq, SR.mk.injEq] at hs
    obtain ⟨_, rfl, rfl, rfl⟩ := hs
    rw [he] at hx
    have hq := hx.intInv
    refine OpOut.same h (u := .int k (k.wrap m)) ?_ (.pure (.int _ _))
    simp [execOp, ho, hq, convert, run_underlying hs', run_underlying hd, Conv.intToInt]
  · rename_i d' l hs' hd he
    simp only [ok1, Option.some.injEq, SR.mk.injEq] at hs
    obtain ⟨_, rfl, rfl, rfl⟩ := hs
    rw [he] at hx
    have hq := hx.strInv
    refine OpOut.same h (u := .string ⟨⟨l⟩⟩) ?_ (.pure (.str _))
    simp [execOp, ho, hq, convert, run_underlying hs', run_underlying hd]
  · rename_i d' e l hs' hd he
    split at hs
    · rename_i hu8
      simp only [okN, Option.some.injEq, SR.mk.injEq] at hs
      obtain ⟨h0, rfl, rfl, rfl⟩ := hs
      rw [he] at hx
      have hq := hx.strInv
      rw [← h0] at hn
      exact out_bytes h s d e x ho l hq d' hs' hd hu8 (by simpa [maxLen] using hn)
    · cases hs
  · rename_i e hs' hd hne
    split at hs
    case h_2 => cases hs
    rename_i hu8
    simp only [Option.bind_eq_some_iff, Option.map_eq_some_iff] at hs
    obtain ⟨⟨q, ok⟩, hq, r', hstr, hr'⟩ := hs
    simp only [SR.mk.injEq] at hr'
    obtain ⟨hok, rfl, rfl, rfl⟩ := hr'
    obtain ⟨ad, cap, hv, hcap, hel⟩ := elemsAt h hx hq (hok.trans hn)
    -- every element is a byte
    have all : (∀ i, i < q.len → isU8 (q.get i) = true) ∧ r'.v = .str ((List.range q.len).map fun i => byteAV (q.get i)) ∧ r'.eff = [] := by
      cases q with
      | lst l =>
        simp only [strOf] at hstr
        split at hstr
        · rename_i hall
          simp only [ok1, Option.some.injEq] at hstr
          rw [List.all_eq_true] at hall
          refine ⟨fun i hi => ?_, ?_, by rw [← hstr]⟩
          · have hi' : i < l.length := hi
            have : l.getD i .undef = l[i] := by simp [List.getD, hi']
            simp only [Sq.get, this]
            exact hall _ (List.getElem_mem _)
          · rw [← hstr]
            simp only
            congr 1
            apply List.ext_getElem
            · simp [Sq.len]
            · intro i h1 h2
              have : i < l.length := by simpa using h1
              simp [Sq.get, List.getD, this]
        · cases hstr
      | fn m f =>
        simp only [strOf, Option.some.injEq] at hstr
        rw [← hstr] at hob ⊢
        exact ⟨hob _ rfl, rfl, rfl⟩
    obtain ⟨hall, hv1, hv2⟩ := all
    rw [hv1, hv2]
    have hrun : ∀ r, (convert s d (a.eval x)).run P w = .ok r w → (execOp a.eval o).run P w = .ok (.value r) w := by
      intro r hr
      simp only [execOp, ho]
      rw [run_v, hr]; rfl
    rcases hel with h0 | ⟨B, off, sz, vals, rfl, hel⟩
    · rw [h0] at hv ⊢
      refine OpOut.same h (u := .string ⟨⟨[]⟩⟩) (hrun _ ?_) (.pure (.str _))
      rw [hv]
      cases ad with
      | none => simp [convert, run_underlying hs', run_underlying hd, run_underlying hu8, Conv.bytesToString]; rfl
      | some ad =>
        rw [run_convert_bytes_string w s d e _ 0 cap hs' hu8 hd]
        have := run_bytesToString (P := P) w ad 0 cap [] (by simp [loadCells, loadCellsFrom])
        rw [this]; rfl
    · let f : Nat → Int := fun i => intAV (q.get i)
      have hf : ∀ i, i < q.len → q.get i = .int .u8 (f i) ∧ w.cell? ⟨B, off + i, none⟩ = some (.int .u8 (f i)) := by
        intro i hi
        obtain ⟨h1, h2⟩ := hel i hi
        have hb := hall i hi
        generalize hgi : q.get i = y at hb h1 h2
        have hfi : f i = intAV y := by simp only [f, hgi]
        cases y <;> simp only [isU8, Bool.false_eq_true] at hb
        rename_i k m
        cases k <;> simp only [Bool.false_eq_true] at hb
        simp only [AV.cells, List.length_cons, List.length_nil] at h1
        subst h1
        obtain ⟨h3, h4, h5, _⟩ := h2 0 (by omega)
        have h6 := Rel.intInv h5
        simp only [Nat.zero_add, Nat.mul_one, Nat.add_zero] at h3
        simp only [intAV] at hfi
        rw [hfi]
        exact ⟨rfl, by rw [h3, h6]⟩
      have hrs := run_strOf (P := P) (w := w) s d e hs' hd hu8 B off q.len cap f (fun i hi => (hf i hi).2)
      refine OpOut.same h (u := .string ⟨⟨(List.range q.len).map fun i => UInt8.ofNat (f i).toNat⟩⟩) (hrun _ (by rw [hv]; exact hrs)) ?_
      have e1 : ((List.range q.len).map fun i => byteAV (q.get i)) = ((List.range q.len).map fun i => UInt8.ofNat (f i).toNat) := by
        apply List.map_congr_left
        intro i hi
        rw [(hf i (by simpa using hi)).1]; rfl
      rw [e1]
      exact .pure (.str _)
  · cases hs
end
end Pw
