/- TREES, facts 4: the same lines in another order make as many nodes; the first lines make the first nodes. -/
import Derived.Test.YtlnpgnipocbfhaaNB1
namespace Go.Proofs.Ytlnpgnipocbfhaa
open Pw Go
set_option maxRecDepth 100000
set_option linter.unusedSimpArgs false
theorem inj_le : ∀ (n m : Nat) (f : Nat → Nat), (∀ i, i < n → f i < m) → (∀ i j, i < n → j < n → f i = f j → i = j) → n ≤ m
 | 0, _, _, _, _ => Nat.zero_le _
 | n + 1, m, f, h1, h2 => by
  have h3 := h1 n (by omega)
  have h4 := inj_le n (m - 1) (fun i => if f i = m - 1 then f n else f i) (fun i hi => ?_) (fun i j hi hj e => ?_)
  ·omega
  ·have h5 := h1 i (by omega)
   split
   ·have : f n ≠ m - 1 := fun e => by
     have := h2 i n (by omega) (by omega) (by omega)
     omega
    omega
   ·omega
  ·have k1 : f i = f n → False := fun e => by
    have := h2 i n (by omega) (by omega) e
    omega
   have k2 : f j = f n → False := fun e => by
    have := h2 j n (by omega) (by omega) e
    omega
   split at e <;> split at e
   ·exact h2 i j (by omega) (by omega) (by omega)
   ·exact (k2 e.symm).elim
   ·exact (k1 e).elim
   ·exact h2 i j (by omega) (by omega) e
theorem node_pre {t : List TwigG} (h : Trie t) : ∀ (n : Nat) (x r : List SlotG) (e : Nat), r.length ≤ n → e < t.length → upL t e = x ++ r → ∃ i, i < t.length ∧ upL t i = x
 | 0, x, r, e, hr, he, hu => by
  have : r = [] := List.eq_nil_of_length_eq_zero (by omega)
  subst this
  exact ⟨e, he, by rw [hu, List.append_nil]⟩
 | n + 1, x, r, e, hr, he, hu => by
  rcases List.eq_nil_or_concat r with rfl | ⟨r', s, rfl⟩
  ·exact ⟨e, he, by rw [hu, List.append_nil]⟩
  ·rw [List.concat_eq_append] at hu hr
   rcases Nat.eq_zero_or_pos e with rfl | h0
   ·have h5 : upL t ((0 : Nat) : Int) = [] := rfl
    rw [h5] at hu
    have := congrArg List.length hu
    simp at this
   ·rw [upL_par h h0 he, ← List.append_assoc] at hu
    obtain ⟨e1, _⟩ := List.append_inj' hu rfl
    have h6 := h.low e h0 he
    exact node_pre h n x r' _ (by simp at hr; omega) (by omega) e1
theorem nodes_in {ls ls' : List (List SlotG)} {n n' : Nat} {t t' : List TwigG} (m : Made ls n t) (m' : Made ls' n' t') (hs : ∀ j, j < n → ∃ j', j' < n' ∧ ls'.getD j' [] = ls.getD j []) : ∀ i, i < t.length → ∃ i', i' < t'.length ∧ upL t' i' = upL t i := by
 intro i hi
 rcases Nat.eq_zero_or_pos i with rfl | h0
 ·exact ⟨0, m'.trie.pos, rfl⟩
 ·obtain ⟨j, hj, r, hr⟩ := m.pre i h0 hi
  obtain ⟨j', hj', e⟩ := hs j hj
  obtain ⟨e', k1, _, _, k4⟩ := m'.at_ j' hj'
  rw [e, ← hr] at k4
  exact node_pre m'.trie r.length _ r e' (Nat.le_refl _) k1 k4
theorem nodes_le {ls ls' : List (List SlotG)} {n n' : Nat} {t t' : List TwigG} (m : Made ls n t) (m' : Made ls' n' t') (hs : ∀ j, j < n → ∃ j', j' < n' ∧ ls'.getD j' [] = ls.getD j []) : t.length ≤ t'.length := by
 have h := nodes_in m m' hs
 refine inj_le _ _ (fun i => if hi : i < t.length then Classical.choose (h i hi) else 0) (fun i hi => ?_) (fun i j hi hj e => ?_)
 ·rw [dif_pos hi]
  exact (Classical.choose_spec (h i hi)).1
 ·rw [dif_pos hi, dif_pos hj] at e
  have h1 := (Classical.choose_spec (h i hi)).2
  have h2 := (Classical.choose_spec (h j hj)).2
  rw [e, h2] at h1
  exact upL_inj m.trie (i + 1) i j (by omega) hi hj h1.symm
theorem trN_grow {ls : List (List SlotG)} {n : Nat} {t0 : List TwigG} (h0 : trN ls n = some t0) : ∀ (k : Nat) {t : List TwigG}, (∀ j, j < n + k → ∀ s ∈ ls.getD j [], rightS s) → trN ls (n + k) = some t →
  t0.length ≤ t.length ∧ ∀ i, i < t0.length → (t.getD i twigD).slot = (t0.getD i twigD).slot ∧ (t.getD i twigD).par = (t0.getD i twigD).par
 | 0, t, _, h => by
  rw [Nat.add_zero, h0] at h
  cases h
  exact ⟨Nat.le_refl _, fun _ _ => ⟨rfl, rfl⟩⟩
 | k + 1, t, hr, h => by
  change (match trN ls (n + k) with | none => none | some t => addLine t (ls.getD (n + k) []) (n + k : Nat)) = some t at h
  cases h1 : trN ls (n + k) with
  | none => rw [h1] at h; cases h
  | some t1 =>
   rw [h1] at h
   obtain ⟨k1, k2⟩ := trN_grow h0 k (fun j hj => hr j (by omega)) h1
   have m := trN_made (fun j hj => hr j (by omega)) h1
   have w := fold_walked (ls.getD (n + k) []) m.trie (a := 0) (by have := m.trie.pos; omega) (hr (n + k) (by omega))
   change addLine t1 (ls.getD (n + k) []) (n + k : Nat) = some t at h
   unfold addLine at h
   split at h
   ·cases h
   ·cases h
    have h5 := w.grows.len
    refine ⟨by rw [endTwig_len]; omega, fun i hi => ?_⟩
    rw [endTwig_slot, endTwig_par, w.grows.slot i (by omega), w.grows.par i (by omega)]
    exact k2 i hi
theorem trN_take {ls : List (List SlotG)} {m : Nat} : ∀ n, n ≤ m → trN (ls.take m) n = trN ls n
 | 0, _ => rfl
 | n + 1, h => by
  have h1 := trN_take (ls := ls) (m := m) n (by omega)
  have h2 : (ls.take m).getD n [] = ls.getD n [] := by
   simp [List.getD, List.getElem?_take, show n < m by omega]
  show (match trN (ls.take m) n with | none => none | some t => addLine t ((ls.take m).getD n []) n) = (match trN ls n with | none => none | some t => addLine t (ls.getD n []) n)
  rw [h1, h2]
def turnL (ls : List (List SlotG)) (m : Nat) : List (List SlotG) := ls.drop m ++ ls.take m
theorem turn_perm (ls : List (List SlotG)) (m : Nat) : (turnL ls m).Perm ls := by
 have := List.perm_append_comm (l₁ := ls.drop m) (l₂ := ls.take m)
 rwa [List.take_append_drop] at this
theorem at_of_mem {α : Type} (d : α) {l : List α} {x : α} (h : x ∈ l) : ∃ j, j < l.length ∧ l.getD j d = x := by
 obtain ⟨i, hi, e⟩ := List.getElem_of_mem h
 exact ⟨i, hi, by simp [List.getD, hi, e]⟩
structure LinesOK (ls : List (List SlotG)) : Prop where
 few : ls.length ≤ 64
 short : ∀ l ∈ ls, l.length ≤ 12
 chk : ∀ l ∈ ls, chkL 12 l = 0
 nodup : ls.Nodup
theorem LinesOK.of_perm {ls ls' : List (List SlotG)} (h : LinesOK ls) (p : ls'.Perm ls) : LinesOK ls' :=
 ⟨by rw [p.length_eq]; exact h.few, fun l hl => h.short l (p.mem_iff.1 hl), fun l hl => h.chk l (p.mem_iff.1 hl), p.nodup_iff.2 h.nodup⟩
theorem LinesOK.take {ls : List (List SlotG)} (h : LinesOK ls) (m : Nat) : LinesOK (ls.take m) :=
 ⟨by have := h.few; rw [List.length_take]; omega, fun l hl => h.short l (List.mem_of_mem_take hl), fun l hl => h.chk l (List.mem_of_mem_take hl), h.nodup.sublist (List.take_sublist m ls)⟩
theorem nodup_get' {α : Type} {l : List α} (d : α) (h : l.Nodup) {i j : Nat} (hij : i < j) (hj : j < l.length) : l.getD i d ≠ l.getD j d := by
 have h1 := List.pairwise_iff_getElem.1 h i j (by omega) hj hij
 have e1 : l.getD i d = l[i]'(by omega) := by simp [List.getD, show i < l.length by omega]
 have e2 : l.getD j d = l[j] := by simp [List.getD, hj]
 rw [e1, e2]
 exact h1
theorem LinesOK.tree {ls : List (List SlotG)} (h : LinesOK ls) (h1 : 1 ≤ ls.length) : ∃ t, ofT ls = (t, 0) :=
 ofT_some h1 h.few h.short h.chk fun i j => nodup_get' [] h.nodup
theorem turn_len {ls : List (List SlotG)} {m : Nat} {a b : List TwigG} (ha : ofT ls = (a, 0)) (hb : ofT (turnL ls m) = (b, 0)) : a.length = b.length := by
 obtain ⟨ma, _⟩ := ofT_made ha
 obtain ⟨mb, _⟩ := ofT_made hb
 have p := turn_perm ls m
 refine Nat.le_antisymm (nodes_le ma mb fun j hj => ?_) (nodes_le mb ma fun j hj => ?_)
 ·exact at_of_mem [] (p.mem_iff.2 (getD_mem hj))
 ·exact at_of_mem [] (p.mem_iff.1 (getD_mem hj))
theorem first_grow {ls : List (List SlotG)} {m : Nat} (hm : m ≤ ls.length) {a c : List TwigG} (ha : ofT ls = (a, 0)) (hc : ofT (ls.take m) = (c, 0)) :
  c.length ≤ a.length ∧ ∀ i, i < c.length → (a.getD i twigD).slot = (c.getD i twigD).slot ∧ (a.getD i twigD).par = (c.getD i twigD).par := by
 obtain ⟨_, _, _, a4, a5⟩ := ofT_ok (ls := ls) (by rw [ha])
 obtain ⟨_, _, _, _, c5⟩ := ofT_ok (ls := ls.take m) (by rw [hc])
 rw [ha] at a5
 rw [hc, List.length_take, show min m ls.length = m by omega, trN_take m (Nat.le_refl _)] at c5
 have h1 : ls.length = m + (ls.length - m) := by omega
 rw [h1] at a5
 exact trN_grow c5 (ls.length - m) (fun j hj s hs => (chk_right (a4 j (by omega))).2.2 s hs) a5
end Go.Proofs.Ytlnpgnipocbfhaa
