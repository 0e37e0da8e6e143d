/- ENGINE, part E10: append. -/
import Derived.Test.YtjkkkldkimdajaaDoorPwE9
namespace Pw
set_option linter.unusedSimpArgs false
open Go

theorem Sq.app_len (q xs : Sq) : (q.app xs).len = q.len + xs.len := by
  cases q with
  | lst l =>
    cases l with
    | nil => simp [Sq.app, Sq.len]
    | cons x l => cases xs <;> simp [Sq.app, Sq.len] <;> omega
  | fn n f => cases xs <;> simp [Sq.app, Sq.len]
theorem Sq.app_get (q xs : Sq) (k : Nat) (hk : k < q.len + xs.len) : (q.app xs).get k = if k < q.len then q.get k else xs.get (k - q.len) := by
  cases q with
  | lst l =>
    cases l with
    | nil => simp [Sq.app, Sq.len]
    | cons x l =>
      cases xs with
      | lst m =>
        show ((x :: l) ++ m).getD k .undef = if k < (x :: l).length then (x :: l).getD k .undef else m.getD (k - (x :: l).length) .undef
        simp only [List.getD]
        by_cases h : k < (x :: l).length
        · rw [if_pos h, List.getElem?_append_left h]
        · rw [if_neg h, List.getElem?_append_right (by omega)]
      | fn n f => rfl
  | fn n f =>
    cases xs with
    | lst m => rfl
    | fn n' f' => rfl

/-- What a source of elements gives: its length, and its cells as a list. -/
structure Src (P : Program) (ρ : Rho) (M : Mem) (w : World) (sz : Nat) (v : Value) (s : Sq) (pu : Bool) (news : List Value) : Prop where
  len : ∀ w', (Builtin.lenOf v).run P w' = .ok s.len w'
  cells : ∀ w', (∀ ad, w'.cell? ad = w.cell? ad) → (Builtin.firstCells sz s.len v).run P w' = .ok news.toArray w'
  size : news.length = s.len * sz
  one : ∀ u ∈ news, u.oneCell' = true
  place : ∀ B off len cap, v = .slice (some ⟨B, off, none⟩) len cap → ∀ k, k < news.length → w.cell? ⟨B, off + k, none⟩ = news[k]?
  rel : ∀ i, i < s.len → (s.get i).cells.length = sz ∧ ∀ j, j < sz → ∃ u, news[i * sz + j]? = some u ∧ u.oneCell' = true ∧ Rel ρ M u ((s.get i).cells.getD j .undef) ∧ (pu = true → RelP M u ((s.get i).cells.getD j .undef))

section
variable {P : Program} {o : Oper} {U : Base} {w0 : World} {n : Nat} {ρ : Rho} {M : Mem} {tm : Nat → AV} {hp : Nat → Blk} {nx : Nat} {a : Act} {w : World}

theorem sized_inv {s : Sq} {sz : Nat} (h : s.sized sz = true) (h0 : 0 < s.len) : (s.get 0).cells.length = sz := by
  cases s with
  | lst l =>
    simp only [Sq.sized, List.all_eq_true, beq_iff_eq] at h
    have hl : 0 < l.length := h0
    have : l.getD 0 .undef = l[0] := by simp [List.getD, hl]
    simp only [Sq.get, this]
    exact h _ (List.getElem_mem hl)
  | fn n f => simp only [Sq.sized, beq_iff_eq] at h; exact h

theorem sizedAt (h : SRel U w0 n ρ M tm hp nx a w) {v : Value} {x : AV} (hx : Rel ρ M v x) {s : Sq} {ok : Bool} (hs : elemsOf hp x = some (s, ok)) (hok : ok = true) {sz : Nat} (hsz : sizedAV hp x s sz = true) (h0 : 0 < s.len) : (s.get 0).cells.length = sz := by
  subst hok
  unfold sizedAV at hsz
  split at hsz
  case h_2 => exact sized_inv hsz h0
  rename_i b g i len c
  simp only [elemsOf] at hs
  split at hs
  case h_2 => cases hs
  rename_i g' sz' pu q hb
  simp only [Option.some.injEq, Prod.mk.injEq, decide_eq_true_eq] at hs
  obtain ⟨hs, hg⟩ := hs
  subst hs; subst hg
  obtain ⟨L, hL, hc⟩ := hx.slInv
  rcases hc with ⟨hv, cap, rfl, k1, k2, k3, k4, k5⟩ | ⟨h1, k2, ad, rfl⟩
  · obtain ⟨L', e1, e2, e3, h6⟩ := h.rowLoc hb
    rw [hL] at e1; cases e1
    have hlen : (q.sub i len).len = len := Sq.sub_len q i len (by omega)
    rcases h6 with ⟨h6, _⟩ | ⟨_, cc, e, h7, h8, h9, h10, h11⟩
    · rw [hv] at h6; cases h6
    rw [Sq.sub_get q i len 0 (by omega)]
    rw [(h11 (i + 0) (by omega)).1]
    simpa [rowSz, hb] using hsz
  · subst h1
    have hlen : (q.sub i 0).len = 0 := by cases q <;> simp [Sq.sub, Sq.len]
    omega

theorem Src.ofElems {v : Value} {s : Sq} {pu : Bool} {sz : Nat} (h : ElemsAt ρ M w v s pu) (hs : 0 < s.len → (s.get 0).cells.length = sz) (h1 : 1 ≤ sz) : ∃ news, Src P ρ M w sz v s pu news := by
  obtain ⟨ad, cap, rfl, hcap, hel⟩ := h
  rcases hel with h0 | ⟨B, off, sz', vals, rfl, hel⟩
  · refine ⟨[], fun w' => by simp [Builtin.lenOf], fun w' _ => ?_, by simp [h0], by simp, fun _ _ _ _ _ k hk => by simp at hk, fun i hi => by omega⟩
    rw [h0]
    cases ad <;> simp [Builtin.firstCells, loadCells, loadCellsFrom]
  · rcases Nat.eq_zero_or_pos s.len with h0 | h0
    · refine ⟨[], fun w' => by simp [Builtin.lenOf], fun w' _ => ?_, by simp [h0], by simp, fun _ _ _ _ _ k hk => by simp at hk, fun i hi => by omega⟩
      rw [h0]
      simp [Builtin.firstCells, loadCells, loadCellsFrom]
    · have hsz : sz' = sz := by rw [← hs h0, (hel 0 h0).1]
      subst hsz
      have hdiv : ∀ k, k < s.len * sz' → k / sz' < s.len ∧ k % sz' < sz' ∧ k / sz' * sz' + k % sz' = k := by
        intro k hk
        refine ⟨Nat.div_lt_of_lt_mul (by rw [Nat.mul_comm]; exact hk), Nat.mod_lt _ (by omega), ?_⟩
        rw [Nat.mul_comm]; exact Nat.div_add_mod k sz'
      refine ⟨(List.range (s.len * sz')).map fun k => vals (k / sz') (k % sz'), fun w' => by simp [Builtin.lenOf], fun w' hw' => ?_, by simp, ?_, ?_, ?_⟩
      · simp only [Builtin.firstCells]
        refine run_loadCells (P := P) w' ⟨B, off, none⟩ (s.len * sz') _ (fun k hk => ?_)
        obtain ⟨k1, k2, k3⟩ := hdiv k hk
        have := ((hel _ k1).2 _ k2).1
        rw [add_eq, hw', ← this]
        congr 2; omega
      · intro u hu
        simp only [List.mem_map, List.mem_range] at hu
        obtain ⟨k, hk, rfl⟩ := hu
        obtain ⟨k1, k2, k3⟩ := hdiv k hk
        exact ((hel _ k1).2 _ k2).2.1
      · intro B' off' len' cap' hv k hk
        cases hv
        have hk' : k < s.len * sz' := by simpa using hk
        obtain ⟨k1, k2, k3⟩ := hdiv k hk'
        have := ((hel _ k1).2 _ k2).1
        rw [Nat.add_assoc, k3] at this
        rw [this]
        simp [hk']
      · intro i hi
        refine ⟨(hel i hi).1, fun j hj => ?_⟩
        have hlt : i * sz' + j < s.len * sz' := by
          have : i * sz' + sz' ≤ s.len * sz' := by rw [← Nat.succ_mul]; exact Nat.mul_le_mul_right _ hi
          omega
        have e1 : (i * sz' + j) / sz' = i := by
          rw [Nat.mul_comm, Nat.mul_add_div (by omega), Nat.div_eq_of_lt hj]; rfl
        have e2 : (i * sz' + j) % sz' = j := by rw [Nat.mul_comm, Nat.mul_add_mod]; exact Nat.mod_eq_of_lt hj
        have := (hel i hi).2 j hj
        exact ⟨vals i j, by simp [hlt, e1, e2], this.2.1, this.2.2.1, this.2.2.2⟩

theorem Src.ofStr (l : List UInt8) : ∃ news, Src P ρ M w 1 (.string ⟨⟨l⟩⟩) (Sq.fn l.length fun i => .int .u8 ((l.getD i 0).toNat)) true news := by
  refine ⟨l.map fun b => .int .u8 b.toNat, fun w' => by simp [Builtin.lenOf, Sq.len, ByteArray.size], fun w' _ => ?_, by simp [Sq.len], ?_, (fun _ _ _ _ hv => by cases hv), ?_⟩
  · have e : (ByteArray.mk ⟨l⟩).extract 0 l.length = ⟨⟨l⟩⟩ := by
      apply ByteArray.ext
      apply Array.ext'
      simp [ByteArray.data_extract, Array.toList_extract, List.extract]
    simp [Builtin.firstCells, Sq.len, e]
  · intro u hu
    simp only [List.mem_map] at hu
    obtain ⟨b, _, rfl⟩ := hu
    rfl
  · intro i hi
    refine ⟨rfl, fun j hj => ?_⟩
    have : j = 0 := by omega
    subst this
    have hi' : i < l.length := hi
    refine ⟨.int .u8 ((l.getD i 0).toNat), ?_, rfl, .pure (.int _ _), fun _ => .int _ _⟩
    simp [List.getD, hi']

/-- Append, as the model runs it: there is room. -/
theorem run_append_fit (ts t2 ty e : TypeId) (i : TypeInfo) (ht : P.underlying ts = some (.slice e)) (hi : P.info? e = some i) (ht2 : ∃ d, P.underlying t2 = some d ∧ ∀ k, d ≠ .int k)
    (base : Option Addr) (sLen sCap m : Nat) (x : Value) (news : List Value) (hl : ∀ w', (Builtin.lenOf x).run P w' = .ok m w') (hc : ∀ w', (∀ ad, w'.cell? ad = w.cell? ad) → (Builtin.firstCells i.size m x).run P w' = .ok news.toArray w')
    (hfit : sLen + m ≤ sCap) (w1 : World) (hst : ∀ ad, base = some ad → (storeCells (ad.add (sLen * i.size)) news).run P w = .ok () w1) (hnone : base = none → w1 = w) :
    (Builtin.append_ #[ts, t2] ty #[.slice base sLen sCap, x]).run P w = .ok (.slice base (sLen + m) sCap) w1 := by
  obtain ⟨d2, hd2, hni⟩ := ht2
  have hm : (match d2 with | .int _ => true | _ => false) = false := by cases d2 <;> first | rfl | exact absurd rfl (hni _)
  have hcw := hc w (fun _ => rfl)
  unfold Builtin.append_
  simp [run_underlying ht, run_underlying hd2, Go.sizeOf, typeInfo, hi, hl, hfit, hcw]
  cases base with
  | none => simp [hnone rfl]
  | some ad => simp [hst ad rfl]

/-- Append, as the model runs it: a new row. -/
theorem run_append_new (ts t2 ty e : TypeId) (i : TypeInfo) (z : Value) (ht : P.underlying ts = some (.slice e)) (hi : P.info? e = some i) (hz : i.zero = some z) (ht2 : ∃ d, P.underlying t2 = some d ∧ ∀ k, d ≠ .int k)
    (base : Option Addr) (sLen sCap m : Nat) (x : Value) (olds news : List Value) (hl : ∀ w', (Builtin.lenOf x).run P w' = .ok m w') (hc : ∀ w', (∀ ad, w'.cell? ad = w.cell? ad) → (Builtin.firstCells i.size m x).run P w' = .ok news.toArray w')
    (hcs : ∀ w', (∀ ad, w'.cell? ad = w.cell? ad) → (Builtin.firstCells i.size sLen (.slice base sLen sCap)).run P w' = .ok olds.toArray w')
    (hfit : sCap < sLen + m) (h63 : sLen + m ≤ 9223372036854775807) (hby : (sLen + m) * i.bytes ≤ 140737488355328) :
    (Builtin.append_ #[ts, t2] ty #[.slice base sLen sCap, x]).run P w =
      .ok (.slice (some ⟨w.heap.size, 0, none⟩) (sLen + m) (grownCap w (sLen + m) sCap e))
        (w.drew.alloc (.cells (olds.toArray ++ news.toArray ++ Builtin.zeroCells z.cells (grownCap w (sLen + m) sCap e - (sLen + m))) e)) := by
  obtain ⟨d2, hd2, hni⟩ := ht2
  have hn : ¬ (sLen + m ≤ sCap) := by omega
  have h63' : ¬ (9223372036854775807 < ((sLen : Int) + (m : Int))) := by omega
  have hf := growslice_fits (by omega : sCap < sLen + m) hby
  have hf' : ¬ (281474976710656 < Builtin.nextslicecap (sLen + m) sCap * i.bytes) := by omega
  have hcw := hc w.drew (fun _ => rfl)
  have hcsw := hcs w.drew (fun _ => rfl)
  unfold Builtin.append_
  simp [run_underlying ht, run_underlying hd2, Go.sizeOf, typeInfo, hi, hl, hn, hf', Question.forced, grownCap, hcw, hcsw, zeroValue, hz, newRow]
  rw [if_neg (fun hh => h63' hh.1)]
  simp [← Array.append_assoc]

/-- Cells of elements, one behind the other. -/
def RowsL (ρ : Rho) (M : Mem) (l : List Value) (sz : Nat) (s : Sq) (pu : Bool) : Prop :=
  l.length = s.len * sz ∧ ∀ i, i < s.len → (s.get i).cells.length = sz ∧ ∀ j, j < sz → ∃ u, l[i * sz + j]? = some u ∧ u.oneCell' = true ∧ Rel ρ M u ((s.get i).cells.getD j .undef) ∧ (pu = true → RelP M u ((s.get i).cells.getD j .undef))

theorem RowsL.app {ρ M} {l m : List Value} {sz : Nat} {q xs : Sq} {p1 p2 : Bool} (h1 : RowsL ρ M l sz q p1) (h2 : RowsL ρ M m sz xs p2) : RowsL ρ M (l ++ m) sz (q.app xs) (p2 && p1) := by
  refine ⟨by rw [List.length_append, h1.1, h2.1, Sq.app_len, Nat.add_mul], fun i hi => ?_⟩
  rw [Sq.app_len] at hi
  rw [Sq.app_get q xs i hi]
  by_cases hq : i < q.len
  · rw [if_pos hq]
    obtain ⟨k1, k2⟩ := h1.2 i hq
    refine ⟨k1, fun j hj => ?_⟩
    obtain ⟨u, m1, m2, m3, m4⟩ := k2 j hj
    have hlt : i * sz + j < l.length := (List.getElem?_eq_some_iff.1 m1).1
    exact ⟨u, by rw [List.getElem?_append_left hlt]; exact m1, m2, m3, fun hp => m4 (by simp at hp; exact hp.2)⟩
  · rw [if_neg hq]
    obtain ⟨k1, k2⟩ := h2.2 (i - q.len) (by omega)
    refine ⟨k1, fun j hj => ?_⟩
    obtain ⟨u, m1, m2, m3, m4⟩ := k2 j hj
    have hge : l.length ≤ i * sz + j := by rw [h1.1]; have := Nat.mul_le_mul_right sz (Nat.le_of_not_lt hq); omega
    refine ⟨u, ?_, m2, m3, fun hp => m4 (by simp at hp; exact hp.1)⟩
    rw [List.getElem?_append_right hge, h1.1, ← m1]
    congr 1
    rw [Nat.sub_mul]
    have := Nat.mul_le_mul_right sz (Nat.le_of_not_lt hq)
    omega

theorem RowsL.mono {ρ ρ' M} {l : List Value} {sz : Nat} {s : Sq} {pu : Bool} (h : RowsL ρ M l sz s pu) (hρ : RExt ρ ρ') : RowsL ρ' M l sz s pu :=
  ⟨h.1, fun i hi => ⟨(h.2 i hi).1, fun j hj => let ⟨u, m1, m2, m3, m4⟩ := (h.2 i hi).2 j hj; ⟨u, m1, m2, m3.mono hρ (MExt.refl M), m4⟩⟩⟩

theorem Src.rows {sz : Nat} {v : Value} {s : Sq} {pu : Bool} {news : List Value} (h : Src P ρ M w sz v s pu news) : RowsL ρ M news sz s pu := ⟨h.size, h.rel⟩

/-- The block b has no generation from g on, and is new or in use. -/
structure Free (ρ : Rho) (hp : Nat → Blk) (nx b g : Nat) : Prop where
  none : ∀ g', g ≤ g' → ρ b g' = Option.none
  live : nx ≤ b ∨ hp b ≠ .dead

/-- The result is an empty slice without room. -/
theorem out_app0 (h : SRel U w0 n ρ M tm hp nx a w) (b g sz : Nat) (pu : Bool) (s : Sq) (hs : s.len = 0) (h1 : 1 ≤ sz) (hfree : Free ρ hp nx b g)
    (ad : Option Addr) (hrun : (execOp a.eval o).run P w = .ok (.value (.slice ad 0 0)) w) :
    OpOut P o U w0 n ρ M tm hp nx a w (.sl b g 0 0 none) [(b, .row g sz pu s)] := by
  refine ⟨_, w, updR ρ b g ⟨0, 0, 0, sz, 0, true⟩, M, .inl hrun, RX.upd (updR_ext _ (hfree.none g (Nat.le_refl _))) hfree.live, MExt.refl M, .slv _ ad b g 0 none (updR_same _ _ _ _) (by simp), ?_⟩
  exact h.upd b g sz pu s ⟨0, 0, 0, sz, 0, true⟩ (updR_ext _ (hfree.none g (Nat.le_refl _))) (fun b' g' hne => updR_ne _ _ _ _ hne) (updR_same _ _ _ _)
    ⟨_, updR_same _ _ _ _, rfl, ⟨h1, hs⟩, .inl ⟨rfl, hs⟩⟩ (.inl rfl) (fun g' hg => hfree.none g' (by omega)) rfl rfl rfl (Nat.le_refl _) (fun _ _ _ => rfl)

/-- The result is a new row. -/
theorem out_app1 (h : SRel U w0 n ρ M tm hp nx a w) (b g sz : Nat) (pu : Bool) (s : Sq) (h1 : 1 ≤ sz) (hfree : Free ρ hp nx b g)
    (l : List Value) (hrows : RowsL ρ M l sz s pu) (rest : Array Value) (e : TypeId) (cap : Nat) (hcap : cap ≤ maxLen) (hrest : rest.size = (cap - s.len) * sz) (hle : s.len ≤ cap)
    (hrun : (execOp a.eval o).run P w = .ok (.value (.slice (some ⟨w.heap.size, 0, none⟩) s.len cap)) (w.drew.alloc (.cells (l.toArray ++ rest) e))) :
    OpOut P o U w0 n ρ M tm hp nx a w (.sl b g 0 s.len none) [(b, .row g sz pu s)] := by
  have hcs : (l.toArray ++ rest).size = cap * sz := by
    simp only [Array.size_append, List.size_toArray, hrows.1, hrest, ← Nat.add_mul]
    congr 1; omega
  have hext := updR_ext ⟨w.heap.size, 0, (l.toArray ++ rest).size, sz, s.len, false⟩ (hfree.none g (Nat.le_refl _))
  refine ⟨_, _, updR ρ b g ⟨w.heap.size, 0, (l.toArray ++ rest).size, sz, s.len, false⟩, M, .inl hrun, RX.upd hext hfree.live, MExt.refl M, ?_, ?_⟩
  · have := Rel.sl (ρ := updR ρ b g ⟨w.heap.size, 0, (l.toArray ++ rest).size, sz, s.len, false⟩) (M := M) _ b g 0 s.len cap none (updR_same _ _ _ _) rfl hle (by simp) (by simp [hcs]) hcap (by simp)
    simpa using this
  · refine h.upd b g sz pu s ⟨w.heap.size, 0, (l.toArray ++ rest).size, sz, s.len, false⟩ hext (fun b' g' hne => updR_ne _ _ _ _ hne) (updR_same _ _ _ _)
      ⟨_, updR_same _ _ _ _, rfl, ⟨h1, rfl⟩, .inr ⟨rfl, l.toArray ++ rest, e, heap_alloc_new w.drew _, rfl, by simp only [hcs, Nat.zero_add]; exact Nat.mul_le_mul_right _ hle, ?_, ?_⟩⟩
      (.inr (.inl (Nat.le_refl _))) (fun g' hg => hfree.none g' (by omega)) rfl rfl rfl (by simp) (fun B hB _ => heap_alloc_old w.drew _ B hB)
    · intro i
      cases hm : M w.heap.size i with
      | none => rfl
      | some v => have := h.hok.mem_lt hm; omega
    · intro i hi
      refine ⟨(hrows.2 i hi).1, fun j hj => ?_⟩
      obtain ⟨u, m1, m2, m3, m4⟩ := (hrows.mono hext).2 i hi |>.2 j hj
      have hlt : i * sz + j < l.length := (List.getElem?_eq_some_iff.1 m1).1
      refine ⟨u, ?_, m2, m3, m4⟩
      simp only [Nat.zero_add]
      rw [Array.getElem?_append_left (by simpa using hlt)]
      simpa using m1

/-- The result is the row as it was, with more behind it. -/
theorem out_app2 (h : SRel U w0 n ρ M tm hp nx a w) (b g0 g sz : Nat) (pu0 pu : Bool) (s0 s : Sq) (L0 : Loc) (hb : hp b = .row g0 sz pu0 s0) (hL0 : ρ b g0 = some L0) (hv : L0.virt = false) (h1 : 1 ≤ sz) (hfree : Free ρ hp nx b g)
    (l : List Value) (hrows : RowsL ρ M l sz s pu) (o' cap : Nat) (hcap : cap ≤ maxLen) (hle : s.len ≤ cap) (hfit : o' + cap * sz ≤ L0.csz) (w' : World) (c' : Array Value) (e : TypeId)
    (hnew : w'.heap[L0.B]? = some (.cells c' e (0, 0))) (hcs : c'.size = L0.csz) (hc' : ∀ k, k < l.length → c'[o' + k]? = l[k]?) (hM : ∀ i, M L0.B i = none)
    (hos : w'.os = w.os) (htape : w'.tape = w.tape) (hout : w'.output = w.output) (hsz : w.heap.size ≤ w'.heap.size) (hw : ∀ B, B < w.heap.size → B ≠ L0.B → w'.heap[B]? = w.heap[B]?)
    (hrun : (execOp a.eval o).run P w = .ok (.value (.slice (some ⟨L0.B, o', none⟩) s.len cap)) w') :
    OpOut P o U w0 n ρ M tm hp nx a w (.sl b g 0 s.len none) [(b, .row g sz pu s)] := by
  have hext := updR_ext ⟨L0.B, o', L0.csz, sz, s.len, false⟩ (hfree.none g (Nat.le_refl _))
  refine ⟨_, _, updR ρ b g ⟨L0.B, o', L0.csz, sz, s.len, false⟩, M, .inl hrun, RX.upd hext hfree.live, MExt.refl M, ?_, ?_⟩
  · have := Rel.sl (ρ := updR ρ b g ⟨L0.B, o', L0.csz, sz, s.len, false⟩) (M := M) _ b g 0 s.len cap none (updR_same _ _ _ _) rfl hle (by simp) (by simpa using hfit) hcap (by simp)
    simpa using this
  · refine h.upd b g sz pu s ⟨L0.B, o', L0.csz, sz, s.len, false⟩ hext (fun b' g' hne => updR_ne _ _ _ _ hne) (updR_same _ _ _ _)
      ⟨_, updR_same _ _ _ _, rfl, ⟨h1, rfl⟩, .inr ⟨rfl, c', e, hnew, hcs, ?_, hM, ?_⟩⟩
      (.inr (.inr ⟨g0, sz, pu0, s0, L0, hb, hL0, hv, rfl⟩)) (fun g' hg => hfree.none g' (by omega)) hos htape hout hsz (fun B hB hne => hw B hB (by
        rcases hne with h0 | h0
        · cases h0
        · exact h0))
    · have := Nat.mul_le_mul_right sz hle
      show o' + s.len * sz ≤ L0.csz
      omega
    · intro i hi
      refine ⟨(hrows.2 i hi).1, fun j hj => ?_⟩
      obtain ⟨u, m1, m2, m3, m4⟩ := (hrows.mono hext).2 i hi |>.2 j hj
      have hlt : i * sz + j < l.length := (List.getElem?_eq_some_iff.1 m1).1
      refine ⟨u, ?_, m2, m3, m4⟩
      show c'[o' + i * sz + j]? = some u
      rw [Nat.add_assoc, hc' _ hlt]
      exact m1


theorem step_append (h : SRel U w0 n ρ M tm hp nx a w) (ts t2 : TypeId) (s x : Operand) (ho : o.op = .call { callee := .builtin .append, args := #[s, x], argTypes := #[ts, t2] }) (ev : Operand → AV)
    (hsr : Rel ρ M (a.eval s) (ev s)) (hxr : Rel ρ M (a.eval x) (ev x)) (ht2 : ∃ d, P.underlying t2 = some d ∧ ∀ k, d ≠ .int k) (need v eff ob)
    (hs : appendAV P ts hp nx (ev s) (ev x) = some ⟨need, v, eff, ob⟩) (hn : need = true) : OpOut P o U w0 n ρ M tm hp nx a w v eff := by
  unfold appendAV at hs
  split at hs
  case h_2 => cases hs
  rename_i e hu
  simp only [Option.bind_eq_some_iff] at hs
  obtain ⟨⟨xs, okx⟩, hxs, hs⟩ := hs
  split at hs
  case isFalse => cases hs
  rename_i hc
  simp only [Bool.and_eq_true, decide_eq_true_eq] at hc
  obtain ⟨⟨hsized, h1⟩, hz⟩ := hc
  simp only [Option.bind_eq_some_iff] at hs
  obtain ⟨⟨q, oks⟩, hq, hs⟩ := hs
  split at hs
  case isFalse => cases hs
  rename_i hqs
  have hz' : ∃ z, zeroAV P e = some z ∧ z.okElem (P.cellsOf e) = true := by
    unfold okZero at hz
    cases hze : zeroAV P e with
    | none => rw [hze] at hz; cases hz
    | some z => rw [hze] at hz; exact ⟨z, rfl, hz⟩
  obtain ⟨z, hz, hzok⟩ := hz'
  simp only [zeroAV, Option.map_eq_some_iff, Option.bind_eq_some_iff] at hz
  obtain ⟨zv, ⟨i, hi, hzv⟩, hze⟩ := hz
  obtain ⟨i', hi', hsz⟩ := info_of_cells (P := P) h1
  rw [hi] at hi'; cases hi'
  have hby : P.bytesOf e = i.bytes := by simp [Program.bytesOf, hi]
  have hzc : zv.cells.size = P.cellsOf e := by
    have hr : Rel ρ M zv z := by rw [← hze]; exact .pure (avOf_rel M zv)
    exact (hr.elem hzok).1
  have hneed : okx = true ∧ oks = true ∧ room (q.len + xs.len) (P.bytesOf e) = true := by
    revert hs
    generalize ev s = es at hq
    intro hs
    split at hs
    · simp only [elemsOf, Option.some.injEq, Prod.mk.injEq] at hq
      simp only [Option.some.injEq, SR.mk.injEq] at hs
      have := hs.1.trans hn
      simp only [Bool.and_eq_true] at this
      exact ⟨this.1, hq.2.symm, this.2⟩
    · simp only [elemsOf, Option.some.injEq, Prod.mk.injEq] at hq
      simp only [Option.some.injEq, SR.mk.injEq] at hs
      have := hs.1.trans hn
      simp only [Bool.and_eq_true] at this
      exact ⟨this.1.1, hq.2.symm, this.1.2⟩
    · simp only [elemsOf, Option.some.injEq, Prod.mk.injEq] at hq
      simp only [Option.some.injEq, SR.mk.injEq] at hs
      have := hs.1.trans hn
      simp only [Bool.and_eq_true] at this
      exact ⟨this.1.1, hq.2.symm, this.1.2⟩
    · split at hs
      case isFalse => cases hs
      simp only [Option.some.injEq, SR.mk.injEq] at hs
      have := hs.1.trans hn
      simp only [Bool.and_eq_true] at this
      exact ⟨this.1.1, this.1.2, this.2⟩
    · simp only [Option.some.injEq, SR.mk.injEq] at hs
      have := hs.1.trans hn
      simp only [Bool.and_eq_true] at this
      exact ⟨this.1.1.1.1, this.1.1.1.2, this.1.1.2⟩
    · cases hs
  obtain ⟨hokx, hoks, hroom⟩ := hneed
  simp only [room, decide_eq_true_eq] at hroom
  have hsrc : ∃ news, Src P ρ M w (P.cellsOf e) (a.eval x) xs (puOf hp (ev x)) news := by
    split at hxs
    · rename_i l hl
      split at hxs
      · simp only [Option.some.injEq, Prod.mk.injEq] at hxs
        obtain ⟨rfl, _⟩ := hxs
        have hs1 : P.cellsOf e = 1 := by
          have hsized' : (Sq.fn l.length fun i => .int .u8 ((l.getD i 0).toNat)).sized (P.cellsOf e) = true := by simpa [sizedAV, hl] using hsized
          have := sized_inv (s := Sq.fn (l.length + 1) fun i => .int .u8 ((l.getD i 0).toNat)) (sz := P.cellsOf e) hsized' (by simp [Sq.len])
          simpa [Sq.get, AV.cells] using this.symm
        rw [hl] at hxr ⊢
        rw [hxr.strInv, hs1]
        exact Src.ofStr l
      · cases hxs
    · exact Src.ofElems (P := P) (elemsAt h hxr hxs hokx) (sizedAt h hxr hxs hokx hsized) h1
  obtain ⟨news, hnews⟩ := hsrc
  have hold := elemsAt h hsr hq hoks
  obtain ⟨olds, holds⟩ := Src.ofElems (P := P) hold (sizedAt h hsr hq hoks hqs) h1
  obtain ⟨base, sCap, hsv, hcap, _⟩ := hold
  have hrows := holds.rows.app hnews.rows
  have hrun : ∀ r w1, (Builtin.append_ #[ts, t2] o.type #[.slice base q.len sCap, a.eval x]).run P w = .ok r w1 → (execOp a.eval o).run P w = .ok (.value r) w1 := by
    intro r w1 hr
    simp only [execOp, ho, resolve, invoke, builtin]
    simp [hsv, hr]
  -- a new row
  have new : ∀ b g S pu, Free ρ hp nx b g → sCap < q.len + xs.len → S.len = q.len + xs.len → RowsL ρ M (olds ++ news) (P.cellsOf e) S pu →
      OpOut P o U w0 n ρ M tm hp nx a w (.sl b g 0 (q.len + xs.len) none) [(b, .row g (P.cellsOf e) pu S)] := by
    intro b g S pu hfree hgt hS hrowsS
    have hr := run_append_new (P := P) (w := w) ts t2 o.type e i zv hu hi hzv ht2 base q.len sCap xs.len (a.eval x) olds news hnews.len (by rw [hsz]; exact hnews.cells) (by rw [hsz, ← hsv]; exact holds.cells) hgt hroom.2 (by rw [← hby]; exact hroom.1)
    have hge := grownCap_ge w (q.len + xs.len) sCap e
    have hcm2 := grownCap_le_maxLen w (q.len + xs.len) sCap e (by simp only [maxLen]; omega)
    have := out_app1 (P := P) (o := o) h b g (P.cellsOf e) pu S h1 hfree (olds ++ news) hrowsS (Builtin.zeroCells zv.cells (grownCap w (q.len + xs.len) sCap e - (q.len + xs.len))) e (grownCap w (q.len + xs.len) sCap e) hcm2
      (by rw [size_zeroCells, hzc, hS]) (by rw [hS]; exact hge) (by
        rw [hS]
        refine hrun _ _ ?_
        rw [hr]
        simp)
    rw [hS] at this
    exact this
  -- nothing at all
  have zero : ∀ b g S pu, Free ρ hp nx b g → q.len + xs.len = 0 → sCap = 0 → S.len = q.len + xs.len → OpOut P o U w0 n ρ M tm hp nx a w (.sl b g 0 (q.len + xs.len) none) [(b, .row g (P.cellsOf e) pu S)] := by
    intro b g S pu hfree h0 hc0 hS
    have hn0 : news = [] := List.eq_nil_of_length_eq_zero (by rw [hnews.size]; have : xs.len = 0 := by omega
                                                              rw [this]; simp)
    have hr := run_append_fit (P := P) (w := w) ts t2 o.type e i hu hi ht2 base q.len sCap xs.len (a.eval x) news hnews.len (by rw [hsz]; exact hnews.cells) (by omega) w (fun ad _ => by rw [hn0]; rfl) (fun _ => rfl)
    rw [h0]
    refine out_app0 h b g (P.cellsOf e) pu S (by rw [hS]; exact h0) h1 hfree base (hrun _ _ ?_)
    rw [hr, h0, hc0]
  have hfresh : Free ρ hp nx nx 0 := ⟨fun g' _ => h.free nx g' (Nat.le_refl _), .inl (Nat.le_refl _)⟩
  have fresh : ∀ S pu, S.len = q.len + xs.len → RowsL ρ M (olds ++ news) (P.cellsOf e) S pu → (q.len + xs.len ≤ sCap → q.len + xs.len = 0 ∧ sCap = 0) →
      OpOut P o U w0 n ρ M tm hp nx a w (.sl nx 0 0 (q.len + xs.len) none) [(nx, .row 0 (P.cellsOf e) pu S)] := by
    intro S pu hS hrS hz
    rcases Nat.lt_or_ge sCap (q.len + xs.len) with hlt | hge
    · exact new nx 0 S pu hfresh hlt hS hrS
    · exact zero nx 0 S pu hfresh (hz hge).1 (hz hge).2 hS
  have hlen : (q.app xs).len = q.len + xs.len := Sq.app_len q xs
  generalize ev s = es at hs hq hsr hrows
  split at hs
  · -- nil
    simp only [elemsOf, Option.some.injEq, Prod.mk.injEq] at hq
    simp only [Option.some.injEq, SR.mk.injEq] at hs
    obtain ⟨_, rfl, rfl, rfl⟩ := hs
    obtain ⟨rfl, _⟩ := hq
    have hq0 : (Sq.lst []).len = 0 := rfl
    have hv0 : a.eval s = .slice none 0 0 := by
      generalize a.eval s = q at hsr
      cases hsr with | pure h => cases h; rfl
    rw [hv0] at hsv
    cases hsv
    have ho0 : olds = [] := List.eq_nil_of_length_eq_zero (by rw [holds.size, hq0]; simp)
    have := fresh xs (puOf hp (ev x) && puOf hp .nils) (by rw [hq0]; omega) (by
      rw [ho0]
      exact ⟨hnews.size, fun i hi => ⟨(hnews.rel i hi).1, fun j hj => let ⟨u, k1, k2, k3, k4⟩ := (hnews.rel i hi).2 j hj; ⟨u, k1, k2, k3, fun hp => k4 (by simp at hp; exact hp.1)⟩⟩⟩) (fun hle => by omega)
    rw [hq0, Nat.zero_add] at this
    exact this
  · -- a list that fills its room
    rename_i l
    simp only [elemsOf, Option.some.injEq, Prod.mk.injEq] at hq
    simp only [Option.some.injEq, SR.mk.injEq] at hs
    obtain ⟨hnd, rfl, rfl, rfl⟩ := hs
    obtain ⟨rfl, _⟩ := hq
    have hnd' := hnd.trans hn
    simp only [Bool.and_eq_true, Bool.or_eq_true, bne_iff_ne, beq_iff_eq, ne_eq] at hnd'
    have hcapq : sCap = l.length := by
      have hro := hsr.rolInv
      rw [hsv] at hro
      rcases hro with ⟨k1, ad, cap, k2, k3, k4, k5⟩ | ⟨k1, B, off, cap, sz, vals, k2, k3, k4, k5, _⟩
      · simp only [Value.slice.injEq] at k2
        rw [k2.2.2, k4 rfl]; exact k1.symm
      · simp only [Value.slice.injEq] at k2
        rw [k2.2.2]; exact k5 rfl
    refine fresh _ _ hlen hrows (fun hle => ?_)
    have e1 : (Sq.lst l).len = l.length := rfl
    rw [e1] at hle hnd' ⊢
    omega
  · -- the same, by a function
    rename_i nn f
    simp only [elemsOf, Option.some.injEq, Prod.mk.injEq] at hq
    simp only [Option.some.injEq, SR.mk.injEq] at hs
    obtain ⟨hnd, rfl, rfl, rfl⟩ := hs
    obtain ⟨rfl, _⟩ := hq
    have hnd' := hnd.trans hn
    simp only [Bool.and_eq_true, Bool.or_eq_true, bne_iff_ne, beq_iff_eq, ne_eq] at hnd'
    have hcapq : sCap = nn := by
      have hro := hsr.rofInv
      rw [hsv] at hro
      rcases hro with ⟨k1, ad, cap, k2, k3, k4, k5⟩ | ⟨k1, B, off, cap, sz, vals, k2, k3, k4, k5, _⟩
      · simp only [Value.slice.injEq] at k2
        rw [k2.2.2, k4 rfl]; exact k1.symm
      · simp only [Value.slice.injEq] at k2
        rw [k2.2.2]; exact k5 rfl
    refine fresh _ _ hlen hrows (fun hle => ?_)
    have e1 : (Sq.fn nn f).len = nn := rfl
    rw [e1] at hle hnd' ⊢
    omega
  · -- a row that grows
    rename_i b g i0 len
    simp only [elemsOf] at hq
    split at hq
    case h_2 => cases hq
    rename_i g' sz0 pu0 s0 hb
    simp only [Option.some.injEq, Prod.mk.injEq] at hq
    obtain ⟨rfl, hg⟩ := hq
    rw [hoks] at hg
    have hg' : g = g' := by simpa using hg
    subst hg'
    split at hs
    case isFalse => cases hs
    rename_i hrz
    have hsz0 : sz0 = P.cellsOf e := by rw [← hrz]; simp [rowSz, hb]
    subst hsz0
    simp only [Option.some.injEq, SR.mk.injEq] at hs
    obtain ⟨_, rfl, rfl, rfl⟩ := hs
    obtain ⟨L, hL, hcase⟩ := hsr.slInv
    have hgen : Free ρ hp nx b (g + 1) := ⟨fun g' hgg => h.hok.gen b g _ pu0 s0 hb g' (by omega), .inr (by rw [hb]; simp)⟩
    rcases Nat.lt_or_ge sCap ((s0.sub i0 len).len + xs.len) with hlt | hge
    · exact new b (g + 1) _ _ hgen hlt hlen hrows
    rcases hcase with ⟨hv, cap, hqv, k1, k2, k3, k4, k5⟩ | ⟨k1, k2, ad, hqv⟩
    · rw [hqv] at hsv
      simp only [Value.slice.injEq] at hsv
      obtain ⟨hbase, hlen0, hcap0⟩ := hsv
      obtain ⟨L', e1, e2, e3, hrow⟩ := h.rowLoc hb
      rw [hL] at e1; cases e1
      rcases hrow with ⟨hrow, _⟩ | ⟨_, c, el, h5, h6, h7, h8, h9⟩
      · rw [hv] at hrow; cases hrow
      have hql : (s0.sub i0 len).len = len := hlen0.symm
      have hos := holds.size
      have hns := hnews.size
      have hfit0 : L.o + i0 * L.sz + cap * P.cellsOf e ≤ L.csz := by rw [← e2]; rw [Nat.add_mul] at k3; omega
      have hmul : ((s0.sub i0 len).len + xs.len) * P.cellsOf e ≤ cap * P.cellsOf e := Nat.mul_le_mul_right _ (by omega)
      rw [Nat.add_mul] at hmul
      have hfit : L.o + i0 * L.sz + (s0.sub i0 len).len * P.cellsOf e + 0 + news.length ≤ c.size := by omega
      have hst := run_storeCells_at P L.B (L.o + i0 * L.sz + (s0.sub i0 len).len * P.cellsOf e) el news 0 c w h5 hfit hnews.one
      have hbase' : base = some ⟨L.B, L.o + i0 * L.sz, none⟩ := hbase.symm
      have hr := run_append_fit (P := P) (w := w) ts t2 o.type e i hu hi ht2 base (s0.sub i0 len).len sCap xs.len (a.eval x) news hnews.len (by rw [hsz]; exact hnews.cells) hge _ (fun ad had => by
        rw [hbase'] at had
        cases had
        rw [add_eq, hsz]
        exact hst) (fun hnone => by rw [hbase'] at hnone; cases hnone)
      generalize hcc : (c.toList.take (L.o + i0 * L.sz + (s0.sub i0 len).len * P.cellsOf e + 0) ++ news ++ c.toList.drop (L.o + i0 * L.sz + (s0.sub i0 len).len * P.cellsOf e + 0 + news.length)).toArray = c' at hr
      have hcs : c'.size = c.size := by
        rw [← hcc]
        have := spliced_len c.toList news (L.o + i0 * L.sz + (s0.sub i0 len).len * P.cellsOf e + 0) (by simpa using hfit)
        simpa using this
      have hout := out_app2 (P := P) (o := o) h b g (g + 1) (P.cellsOf e) pu0 _ s0 _ L hb hL hv h1 hgen (olds ++ news) hrows (L.o + i0 * L.sz) cap k4 (by rw [hlen]; omega) hfit0 (w.setRow L.B c') c' el (setRow_heap w L.B c c' el (0, 0) h5) (by rw [hcs, h6])
        (fun k hk => by
          rw [← hcc, List.getElem?_toArray]
          have hsp := spliced c.toList news (L.o + i0 * L.sz + (s0.sub i0 len).len * P.cellsOf e + 0) (L.o + i0 * L.sz + k) (by simpa using hfit)
          rw [hsp]
          rw [List.length_append] at hk
          by_cases hko : k < olds.length
          · rw [if_pos (by omega), List.getElem?_append_left hko]
            have := holds.place L.B (L.o + i0 * L.sz) len cap hqv k hko
            rw [cell_of_row w L.B _ c el (0, 0) h5] at this
            simpa using this
          · rw [if_neg (by omega), if_pos (by omega), List.getElem?_append_right (by omega)]
            congr 1
            omega)
        h8 rfl rfl rfl (by simp) (fun B hB hne => setRow_other w L.B B _ hne) (by
          rw [hlen]
          refine hrun _ _ ?_
          rw [hr, hbase', hcap0])
      rw [hlen] at hout
      exact hout
    · rw [hqv] at hsv
      simp only [Value.slice.injEq] at hsv
      obtain ⟨hbase, hlen0, hcap0⟩ := hsv
      have : (s0.sub i0 len).len + xs.len = 0 := by omega
      exact zero b (g + 1) _ _ hgen this hcap0.symm hlen
  · -- a row that fills its room
    rename_i b g i0 len c
    simp only [elemsOf] at hq
    split at hq
    case h_2 => cases hq
    rename_i g' sz0 pu0 s0 hb
    simp only [Option.some.injEq, Prod.mk.injEq] at hq
    obtain ⟨rfl, hg⟩ := hq
    simp only [Option.some.injEq, SR.mk.injEq] at hs
    obtain ⟨hnd, rfl, rfl, rfl⟩ := hs
    have hnd' := hnd.trans hn
    simp only [Bool.and_eq_true, Bool.or_eq_true, bne_iff_ne, beq_iff_eq, ne_eq] at hnd'
    obtain ⟨L, hL, hcase⟩ := hsr.slInv
    refine fresh _ _ hlen hrows (fun hle => ?_)
    rcases hcase with ⟨hv, cap, hqv, k1, k2, k3, k4, k5⟩ | ⟨k1, k2, ad, hqv⟩
    · rw [hqv] at hsv
      simp only [Value.slice.injEq] at hsv
      have := k2 c rfl
      omega
    · rw [hqv] at hsv
      simp only [Value.slice.injEq] at hsv
      omega
  · cases hs

end
end Pw
