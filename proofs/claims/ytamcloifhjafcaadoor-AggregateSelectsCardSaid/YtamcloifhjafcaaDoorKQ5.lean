/- QUERIES OF NUMBERS 5: their pieces; they are light and sound. -/
import Derived.Test.YtamcloifhjafcaaDoorKQ4
import Derived.Test.YtamcloifhjafcaaDoorWF7
namespace Go.Proofs.YtamcloifhjafcaaDoor
open Pw Go
set_option maxRecDepth 100000
set_option linter.unusedSimpArgs false
set_option linter.unusedVariables false
inductive Pc (P : Int) : NodeG → Prop
 | leaf (k p : Int) (hk : 0 ≤ k) (h0 : 0 ≤ p) (h1 : p < P) : Pc P (leafG k p)
 | alt (k k' p : Int) (hk : 0 ≤ k) (hk' : 0 ≤ k') (h0 : 0 ≤ p) (h1 : p + 1 < P) : Pc P (altG (leafG k p) (leafG k' (p + 1)))
 | grd (k : Int) (hk : 0 ≤ k) : Pc P (guardA (leafA k 0))
theorem Pc.mono {P P' : Int} (h : P ≤ P') {x : NodeG} (hx : Pc P x) : Pc P' x := by
 cases hx with
 | leaf k p hk h0 h1 => exact .leaf k p hk h0 (by omega)
 | alt k k' p hk hk' h0 h1 => exact .alt k k' p hk hk' h0 (by omega)
 | grd k hk => exact .grd k hk
theorem kq_nn (l : List Int) (i : Nat) : 0 ≤ kq l i := Int.emod_nonneg _ (by decide)
theorem qK_pc (l : List Int) : ∀ i, ∀ x ∈ qK l i, Pc (qP l i) x
 | 0, x, h => by cases h
 | i + 1, x, h => by
  have hk := kq_nn l i
  have hp := qP_bd l i
  have hk5 : 0 ≤ kq l i / 5 := by omega
  have hk28 : 0 ≤ kq l i / 28 := by omega
  simp only [qK, List.mem_append] at h
  rcases h with h | h
  ·exact (qK_pc l i x h).mono (by simp only [qP]; split <;> omega)
  ·simp only [qRd, List.mem_append, List.mem_singleton] at h
   rcases h with h | h
   ·split at h
    ·simp only [List.mem_singleton] at h
     subst h
     exact .grd _ hk28
    ·cases h
   ·subst h
    split
    ·rename_i h7
     exact .alt _ _ _ hk hk5 hp.1 (by simp only [qP, if_pos h7]; omega)
    ·rename_i h7
     exact .leaf _ _ hk hp.1 (by simp only [qP, if_neg h7]; omega)
theorem nk_leaf (k p : Int) : nk (leafG k p) = 1 := rfl
theorem nk_alt (a b : NodeG) : nk (altG a b) = 4 := rfl
theorem nk_grd (a : AtomG) : nk (guardA a) = 2 := rfl
theorem qRd_last (k p : Int) (i : Nat) : ∃ r a, qRd k p i = r ++ [a] ∧ nk a ≠ 2 := by
 refine ⟨_, _, rfl, ?_⟩
 split
 ·rw [nk_alt]; decide
 ·rw [nk_leaf]; decide
theorem qK_last (l : List Int) (i : Nat) : ∃ r a, qK l (i + 1) = r ++ [a] ∧ nk a ≠ 2 := by
 obtain ⟨r, a, h1, h2⟩ := qRd_last (kq l i) (qP l i) i
 exact ⟨qK l i ++ r, a, by simp only [qK, h1, List.append_assoc], h2⟩
theorem qK_first (l : List Int) : ∀ i, ∃ a r, qK l (i + 1) = a :: r ∧ nk a ≠ 2
 | 0 => by
  refine ⟨_, [], rfl, ?_⟩
  split
  ·rw [nk_alt]; decide
  ·rw [nk_leaf]; decide
 | i + 1 => by
  obtain ⟨a, r, h1, h2⟩ := qK_first l i
  exact ⟨a, r ++ qRd (kq l (i + 1)) (qP l (i + 1)) (i + 1), by rw [qK, h1]; rfl, h2⟩
theorem qK_len7 (l : List Int) : ∀ i, (qK l (i + 1)).length ≤ 2 * i + 1
 | 0 => by simp [qK, qRd]
 | i + 1 => by
  have := qK_len7 l i
  have h2 := (qRd_len (kq l (i + 1)) (qP l (i + 1)) (i + 1)).2
  rw [qK, List.length_append]
  omega
abbrev seqG (K : List NodeG) : NodeG := .mk (3, 0, 0, atomD, ()) K
theorem nk_seq (K : List NodeG) : nk (seqG K) = 3 := rfl
theorem kqX_cases (l : List Int) : (∃ x, kqX l = x ∧ Pc 9 x ∧ nk x ≠ 2 ∧ (qK l (min l.length 4) = [x] ∨ qK l (min l.length 4) = [] ∧ qNn l = [] ∧ x = leafG 0 0)) ∨
  (∃ K, kqX l = seqG K ∧ K = qK l (min l.length 4) ∧ 2 ≤ K.length ∧ K.length ≤ 7 ∧ (∀ x ∈ K, Pc 9 x) ∧ nk (K.getD 0 treeD) ≠ 2 ∧ nk (K.getD (K.length - 1) treeD) ≠ 2) := by
 have hpc := qK_pc l (min l.length 4)
 have hP : qP l (min l.length 4) ≤ 9 := by have := (qP_bd l (min l.length 4)).2; omega
 rcases Nat.eq_zero_or_pos (min l.length 4) with h0 | h0
 ·left
  refine ⟨leafG 0 0, ?_, .leaf 0 0 (by decide) (by decide) (by decide), by rw [nk_leaf]; decide, .inr ⟨by rw [h0]; rfl, by rw [qNn, h0]; rfl, rfl⟩⟩
  rw [kqX, h0]; rfl
 ·obtain ⟨i, hi⟩ : ∃ i, min l.length 4 = i + 1 := ⟨min l.length 4 - 1, by omega⟩
  have hl := qK_len7 l i
  obtain ⟨a, r, e1, h1⟩ := qK_first l i
  obtain ⟨r', b, e2, h2⟩ := qK_last l i
  rw [hi] at hpc ⊢
  rw [kqX, hi]
  generalize hK : qK l (i + 1) = K at *
  match K, e1 with
  | [y], e1 =>
   left
   refine ⟨y, rfl, (hpc y (List.mem_singleton.2 rfl)).mono (by rw [hi] at hP; exact hP), ?_, .inl rfl⟩
   cases e1
   exact h1
  | y :: z :: t, e1 =>
   right
   refine ⟨y :: z :: t, rfl, rfl, by simp, by omega, fun x hx => (hpc x hx).mono (by rw [hi] at hP; exact hP), ?_, ?_⟩
   ·cases e1
    exact h1
   ·rw [e2]
    simpa [List.getD] using h2
def nmP (p : Int) : List UInt8 := [UInt8.ofNat ((112 + p) % 256).toNat]
theorem leafN_or (k p : Int) : leafN k p = [] ∨ leafN k p = nmP p := by
 unfold leafN
 split
 ·exact .inr rfl
 ·exact .inl rfl
theorem int9 {p : Int} (h0 : 0 ≤ p) (h1 : p < 9) : p = 0 ∨ p = 1 ∨ p = 2 ∨ p = 3 ∨ p = 4 ∨ p = 5 ∨ p = 6 ∨ p = 7 ∨ p = 8 := by omega
theorem nameP_ok {p : Int} (h0 : 0 ≤ p) (h1 : p < 9) : nameS (nmP p) = true := by
 rcases int9 h0 h1 with rfl | rfl | rfl | rfl | rfl | rfl | rfl | rfl | rfl <;> decide
theorem nmP_inj {p q : Int} (h0 : 0 ≤ p) (h1 : p < 9) (g0 : 0 ≤ q) (g1 : q < 9) (h : nmP p = nmP q) : p = q := by
 rcases int9 h0 h1 with rfl | rfl | rfl | rfl | rfl | rfl | rfl | rfl | rfl <;> rcases int9 g0 g1 with rfl | rfl | rfl | rfl | rfl | rfl | rfl | rfl | rfl <;> first | rfl | (exact absurd h (by decide))
theorem atom_ok {k p : Int} (hk : 0 ≤ k) (h0 : 0 ≤ p) (h1 : p < 9) : atomB (leafA k p) = true := by
 have h6 : okOp (1 + k / 108 % 6) = true := by simp only [okOp, Bool.and_eq_true, decide_eq_true_eq]; omega
 simp only [atomB, atomS, leafA, Bool.and_eq_true, Bool.or_eq_true, decide_eq_true_eq, beq_iff_eq]
 refine ⟨⟨⟨⟨decide_eq_true (show k % 3 ≥ 0 by omega), decide_eq_true (show k % 3 ≤ 25 by omega)⟩, ?_⟩, ?_⟩, ?_⟩
 ·split
  ·exact .inl ‹_›
  ·exact .inr rfl
 ·rcases leafN_or k p with h | h
  ·exact .inl h
  ·exact .inr (by show nameS (leafN k p) = true; rw [h]; exact nameP_ok h0 h1)
 ·refine okAll_iff.2 fun i hi => ?_
  show okOp (((if k / 36 % 3 = 1 then [(1 + k / 108 % 6, k / 648 % 5 - 2, ())] else [] : List CondG).getD i condD).1) = true
  have hi : i < (if k / 36 % 3 = 1 then [(1 + k / 108 % 6, k / 648 % 5 - 2, ())] else [] : List CondG).length := hi
  split at hi
  ·rename_i hc
   rw [if_pos hc]
   have : i = 0 := by simpa using hi
   subst this
   exact h6
  ·cases hi
theorem grd_ok {k : Int} (hk : 0 ≤ k) : atomB (nat (guardA (leafA k 0))) = true := by
 have h := atom_ok hk (Int.le_refl 0) (by decide : (0 : Int) < 9)
 simp only [atomB, atomS, Bool.and_eq_true, Bool.or_eq_true] at h ⊢
 exact ⟨⟨h.1.1, .inl rfl⟩, h.2⟩
theorem leaf_min (k p : Int) : 1 ≤ nmn (leafG k p) ∧ nmn (leafG k p) ≤ nmx (leafG k p) ∧ nmx (leafG k p) ≤ 6 := by
 show 1 ≤ (if k / 6480 % 5 = 1 then 1 + k / 32400 % 2 else 1) ∧ (if k / 6480 % 5 = 1 then 1 + k / 32400 % 2 else 1) ≤ (if k / 6480 % 5 = 1 then 2 + k / 64800 % 2 else 1) ∧ (if k / 6480 % 5 = 1 then 2 + k / 64800 % 2 else 1) ≤ 6
 split <;> omega
theorem snd_leaf (d : Nat) {k p : Int} (hk : 0 ≤ k) (h0 : 0 ≤ p) (h1 : p < 9) : soundB (d + 1) (leafG k p) = true := by
 have h := leaf_min k p
 rw [soundB, if_pos (nk_leaf k p)]
 simp only [Bool.and_eq_true, decide_eq_true_eq]
 exact ⟨⟨⟨⟨⟨atom_ok hk h0 h1, by omega⟩, by omega⟩, by omega⟩, by omega⟩, rfl⟩
theorem snd_pc (d : Nat) {x : NodeG} (h : Pc 9 x) : soundB (d + 2) x = true := by
 cases h with
 | leaf k p hk h0 h1 => exact snd_leaf (d + 1) hk h0 h1
 | grd k hk =>
  rw [soundB, if_neg (by rw [nk_grd]; decide), if_pos (nk_grd _)]
  simp only [Bool.and_eq_true, decide_eq_true_eq]
  exact ⟨⟨⟨grd_ok hk, rfl⟩, rfl⟩, rfl⟩
 | alt k k' p hk hk' h0 h1 =>
  rw [soundB, if_neg (by rw [nk_alt]; decide), if_neg (by rw [nk_alt]; decide), if_pos (.inr (nk_alt _ _))]
  simp only [Bool.and_eq_true, decide_eq_true_eq, List.all_eq_true]
  refine ⟨⟨⟨⟨Nat.le_refl 2, rfl⟩, rfl⟩, rfl⟩, fun y hy => ?_⟩
  have hy : y ∈ [leafG k p, leafG k' (p + 1)] := hy
  simp only [List.mem_cons, List.not_mem_nil, or_false] at hy
  rcases hy with rfl | rfl
  ·exact snd_leaf d hk h0 (by omega)
  ·exact snd_leaf d hk' (by omega) h1
theorem snd_seq (d : Nat) {K : List NodeG} (h2 : 2 ≤ K.length) (h : ∀ x ∈ K, Pc 9 x) : soundB (d + 3) (seqG K) = true := by
 rw [soundB, if_neg (by rw [nk_seq]; decide), if_neg (by rw [nk_seq]; decide), if_pos (.inl (nk_seq _))]
 simp only [Bool.and_eq_true, decide_eq_true_eq, List.all_eq_true]
 exact ⟨⟨⟨⟨h2, rfl⟩, rfl⟩, rfl⟩, fun y hy => snd_pc d (h y hy)⟩
theorem sndB_kq (l : List Int) : sndB (kqX l) = true := by
 rcases kqX_cases l with ⟨x, e, h, _⟩ | ⟨K, e, _, h2, _, h, _⟩
 ·rw [e]; exact snd_pc 198 h
 ·rw [e]; exact snd_seq 197 h2 h
theorem leaf_cn (k p : Int) : (ac (nat (leafG k p))).length ≤ 1 ∧ (an (nat (leafG k p))).length ≤ 1 := by
 constructor
 ·show (if k / 36 % 3 = 1 then [(1 + k / 108 % 6, k / 648 % 5 - 2, ())] else [] : List CondG).length ≤ 1
  split <;> simp
 ·show (leafN k p).length ≤ 1
  unfold leafN
  split <;> simp
theorem pc_kids {x : NodeG} (h : Pc 9 x) : ∀ y ∈ x.kids, ∃ k p, y = leafG k p ∧ 0 ≤ k ∧ 0 ≤ p ∧ p < 9 := by
 cases h with
 | leaf k p _ _ _ => exact fun y hy => by cases hy
 | grd k _ => exact fun y hy => by cases hy
 | alt k k' p hk hk' h0 h1 =>
  intro y hy
  have hy : y ∈ [leafG k p, leafG k' (p + 1)] := hy
  simp only [List.mem_cons, List.not_mem_nil, or_false] at hy
  rcases hy with rfl | rfl
  ·exact ⟨_, _, rfl, hk, h0, by omega⟩
  ·exact ⟨_, _, rfl, hk', by omega, h1⟩
theorem wsum_le {w : NodeG → Int} {L : List NodeG} (h : ∀ i, i < L.length → w (L.getD i treeD) ≤ 3) : ∀ n, n ≤ L.length → wsum w L n ≤ 1 + 3 * n
 | 0, _ => by simp [wsum]
 | n + 1, hn => by
  have h1 := wsum_le h n (by omega)
  have h2 := h n (by omega)
  simp only [wsum]
  split <;> omega
theorem weigh_of (d : Nat) {x : NodeG} (h1 : (ac (nat x)).length ≤ 10) (h2 : (an (nat x)).length ≤ 20) (h3 : x.kids.length ≤ 40) : weighS (d + 1) x = wsum (weighS d) x.kids x.kids.length := by
 rw [weighS, if_neg (by omega)]
theorem weigh_leaf (d : Nat) (k p : Int) : weighS (d + 1) (leafG k p) = 1 := by
 rw [weigh_of d (by have := (leaf_cn k p).1; omega) (by have := (leaf_cn k p).2; omega) (Nat.zero_le _)]
 rfl
theorem weigh_pc (d : Nat) {x : NodeG} (h : Pc 9 x) : weighS (d + 2) x ≤ 3 := by
 cases h with
 | leaf k p _ _ _ => rw [weigh_leaf]; decide
 | grd k _ =>
  rw [weigh_of (d + 1) (by have := (leaf_cn k 0).1; exact Nat.le_trans this (by decide)) (Nat.zero_le _) (Nat.zero_le _)]
  show (1 : Int) ≤ 3
  decide
 | alt k k' p _ _ _ _ =>
  rw [weigh_of (d + 1) (Nat.zero_le _) (Nat.zero_le _) (by show 2 ≤ 40; decide)]
  show wsum (weighS (d + 1)) [leafG k p, leafG k' (p + 1)] 2 ≤ 3
  simp [wsum, weigh_leaf]
theorem getD_mem {α : Type} {L : List α} {d : α} {i : Nat} (h : i < L.length) : L.getD i d ∈ L := by
 rw [List.getD_eq_getElem?_getD, List.getElem?_eq_getElem h]
 exact List.getElem_mem h
theorem weigh_kq (l : List Int) : weighS 8 (kqX l) ≤ 22 := by
 rcases kqX_cases l with ⟨x, e, h, _⟩ | ⟨K, e, _, h2, h7, h, _⟩
 ·rw [e]
  have : weighS 8 x ≤ 3 := weigh_pc 6 h
  omega
 ·rw [e, weigh_of 7 (Nat.zero_le _) (Nat.zero_le _) (by show K.length ≤ 40; omega)]
  have := wsum_le (w := weighS 7) (L := K) (fun i hi => weigh_pc 5 (h _ (getD_mem hi))) K.length (Nat.le_refl _)
  show wsum (weighS 7) K K.length ≤ 22
  omega
theorem qN_nm (l : List Int) : ∀ i, ∀ s ∈ qN l i, ∃ p, 0 ≤ p ∧ p < qP l i ∧ s = nmP p
 | 0, s, h => by cases h
 | i + 1, s, h => by
  have hp := qP_bd l i
  have hm : qP l i < qP l (i + 1) := by simp only [qP]; split <;> omega
  simp only [qN, List.mem_append] at h
  rcases h with h | h
  ·obtain ⟨p, h0, h1, h2⟩ := qN_nm l i s h
   exact ⟨p, h0, by omega, h2⟩
  ·simp only [nRd, List.mem_append] at h
   rcases h with h | h
   ·split at h
    ·cases h
    ·rename_i hne
     simp only [List.mem_singleton] at h
     subst h
     rcases leafN_or (kq l i) (qP l i) with e | e
     ·exact absurd e hne
     ·exact ⟨_, hp.1, hm, e⟩
   ·split at h
    ·rename_i h7
     split at h
     ·cases h
     ·rename_i hne
      simp only [List.mem_singleton] at h
      subst h
      rcases leafN_or (kq l i / 5) (qP l i + 1) with e | e
      ·exact absurd e hne
      ·exact ⟨_, by omega, by simp only [qP, if_pos h7]; omega, e⟩
    ·cases h
theorem qNn_nm (l : List Int) : ∀ s ∈ qNn l, ∃ p, 0 ≤ p ∧ p < 9 ∧ s = nmP p := by
 intro s hs
 obtain ⟨p, h0, h1, h2⟩ := qN_nm l _ s hs
 have := (qP_bd l (min l.length 4)).2
 exact ⟨p, h0, by omega, h2⟩
theorem qH_mem {N : List (List UInt8)} {l : List Int} : ∀ j, ∀ h ∈ qH N l j, ∃ k, 0 ≤ k ∧ h = kqH N k
 | 0, h, hh => by cases hh
 | j + 1, h, hh => by
  simp only [qH, List.mem_append] at hh
  rcases hh with hh | hh
  ·exact qH_mem j h hh
  ·split at hh
   ·simp only [List.mem_singleton] at hh
    exact ⟨_, kq_nn l _, hh⟩
   ·cases hh
theorem qE_mem {N : List (List UInt8)} {l : List Int} : ∀ j, ∀ h ∈ qE N l j, ∃ k, 0 ≤ k ∧ h = kqA N k
 | 0, h, hh => by cases hh
 | j + 1, h, hh => by
  simp only [qE, List.mem_append] at hh
  rcases hh with hh | hh
  ·exact qE_mem j h hh
  ·split at hh
   ·cases hh
   ·simp only [List.mem_singleton] at hh
    exact ⟨_, kq_nn l _, hh⟩
theorem kqA_nm {N : List (List UInt8)} (hN : N ≠ []) (k : Int) : (kqA N k).2.1 ∈ N := by
 have h0 : 0 < N.length := List.length_pos_iff.2 hN
 have h1 := Int.emod_nonneg (k / 6) (show (N.length : Int) ≠ 0 by omega)
 have h2 := Int.emod_lt_of_pos (k / 6) (show (0 : Int) < N.length by omega)
 exact getD_mem (by omega)
theorem kqH_have (l : List Int) : ∀ h ∈ kqHs l, ∃ k, 0 ≤ k ∧ h = kqH (qNn l) k ∧ h.1.2.1 ∈ qNn l := by
 intro h hh
 have hN : qNn l ≠ [] := fun e => by
  rw [kqHs, kqJ, if_pos e] at hh
  cases hh
 obtain ⟨k, hk, e⟩ := qH_mem _ h hh
 exact ⟨k, hk, e, by rw [e]; exact kqA_nm hN k⟩
theorem kqE_have (l : List Int) : ∀ a ∈ kqEs l, ∃ k, 0 ≤ k ∧ a = kqA (qNn l) k ∧ a.2.1 ∈ qNn l := by
 intro h hh
 have hN : qNn l ≠ [] := fun e => by
  rw [kqEs, kqJ, if_pos e] at hh
  cases hh
 obtain ⟨k, hk, e⟩ := qE_mem _ h hh
 exact ⟨k, hk, e, by rw [e]; exact kqA_nm hN k⟩
theorem nm_len {l : List Int} {s : List UInt8} (h : s ∈ qNn l) : s.length = 1 := by
 obtain ⟨p, _, _, rfl⟩ := qNn_nm l s h
 rfl
theorem kqJ_le (l : List Int) : kqJ l ≤ 3 := by
 unfold kqJ
 split <;> omega
theorem kqHs_len (l : List Int) : (kqHs l).length ≤ 3 := Nat.le_trans (qH_len _ _ _) (kqJ_le l)
theorem kqEs_len (l : List Int) : (kqEs l).length ≤ 3 := Nat.le_trans (qE_len _ _ _) (kqJ_le l)
theorem light_kq (l : List Int) : lightQ (kqX l) (kqHs l) (kqEs l) = true := by
 have h1 := weigh_kq l
 have h2 := kqHs_len l
 have h3 := kqEs_len l
 simp only [lightQ, lightN, Bool.and_eq_true, decide_eq_true_eq, List.all_eq_true]
 refine ⟨⟨⟨⟨by omega, by omega⟩, by omega⟩, fun h hh => ?_⟩, fun a ha => ?_⟩
 ·obtain ⟨_, _, _, hm⟩ := kqH_have l h hh
  have := nm_len hm
  omega
 ·obtain ⟨_, _, _, hm⟩ := kqE_have l a ha
  have := nm_len hm
  omega
theorem aggB_kq {l : List Int} {k : Int} (hk : 0 ≤ k) (hm : (kqA (qNn l) k).2.1 ∈ qNn l) : aggBG (kqA (qNn l) k) = true := by
 obtain ⟨p, h0, h1, e⟩ := qNn_nm l _ hm
 simp only [aggBG, aggB, Bool.and_eq_true, decide_eq_true_eq]
 refine ⟨⟨?_, ?_⟩, by rw [e]; exact nameP_ok h0 h1⟩
 ·show 1 ≤ 1 + k % 6; omega
 ·show 1 + k % 6 ≤ 6; omega
theorem kqW_bd (l : List Int) : 0 ≤ kqW l ∧ kqW l ≤ 7 := by
 unfold kqW
 omega
theorem chk_kq (l : List Int) : chkE (kqX l) (kqW l) (kqHs l) (kqEs l) = 0 := by
 have hw := kqW_bd l
 refine if_pos ⟨sndB_kq l, by omega, List.all_eq_true.2 fun h hh => ?_, List.all_eq_true.2 fun a ha => ?_⟩
 ·obtain ⟨k, hk, e, hm⟩ := kqH_have l h hh
  subst e
  simp only [haveB, Bool.and_eq_true]
  refine ⟨aggB_kq hk hm, ?_⟩
  simp only [okOp, kqH, Bool.and_eq_true, decide_eq_true_eq]
  constructor
  ·exact decide_eq_true (by omega)
  ·exact decide_eq_true (by omega)
 ·obtain ⟨k, hk, e, hm⟩ := kqE_have l a ha
  subst e
  exact aggB_kq hk hm
end Go.Proofs.YtamcloifhjafcaaDoor
