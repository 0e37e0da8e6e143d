/- QUERIES OF NUMBERS 6: they are well-formed. -/
import Derived.Test.YtamcloifhjafcaaDoorKQ5
namespace Go.Proofs.YtamcloifhjafcaaDoor
open Pw Go
set_option maxRecDepth 100000
set_option linter.unusedSimpArgs false
set_option linter.unusedVariables false
def lvP (x : NodeG) : List NodeG := if isLeaf x then [x] else x.kids
theorem lv_leaf (g : Nat) (k p : Int) : leavesL (g + 1) (leafG k p) = [leafG k p] := rfl
theorem lv_pc (g : Nat) {x : NodeG} (h : Pc 9 x) : leavesL (g + 2) x = lvP x := by
 cases h with
 | leaf k p _ _ _ => rfl
 | grd k _ => rfl
 | alt k k' p _ _ _ _ =>
  show ([leafG k p, leafG k' (p + 1)].map (leavesL (g + 1))).flatten = [leafG k p, leafG k' (p + 1)]
  simp [lv_leaf]
def qLv (l : List Int) (i : Nat) : List NodeG := ((qK l i).map lvP).flatten
theorem qLv_succ (l : List Int) (i : Nat) : qLv l (i + 1) = qLv l i ++ ((qRd (kq l i) (qP l i) i).map lvP).flatten := by
 simp [qLv, qK]
def kqLv (l : List Int) : List NodeG := leavesL 8 (kqX l)
theorem kqLv_eq (l : List Int) : kqLv l = qLv l (min l.length 4) ∨ kqLv l = [leafG 0 0] ∧ qNn l = [] := by
 unfold kqLv
 rcases kqX_cases l with ⟨x, e, h, _, h2 | ⟨h2, h3, h4⟩⟩ | ⟨K, e, hK, h2, h7, h, g1, g2⟩
 ·left
  rw [e, lv_pc 6 h, qLv, h2]
  simp
 ·right
  rw [e, h4]
  exact ⟨rfl, h3⟩
 ·left
  rw [e, qLv, ← hK]
  show ((seqG K).kids.map (leavesL 7)).flatten = _
  congr 1
  exact List.map_congr_left fun y hy => lv_pc 5 (h y hy)
structure NmI (P : Int) (N : List (List UInt8)) (L : List NodeG) : Prop where
 one : ∀ x ∈ L, an (nat x) = [] ∨ nk x = 1 ∧ ∃ p, 0 ≤ p ∧ p < P ∧ an (nat x) = nmP p
 two : L.Pairwise fun a b => an (nat a) = [] ∨ an (nat a) ≠ an (nat b)
 thr : ∀ s ∈ N, ∃ x ∈ L, an (nat x) = s
theorem nmP_ne (p : Int) : nmP p ≠ [] := by simp [nmP]
theorem an_leaf (k p : Int) : an (nat (leafG k p)) = leafN k p := rfl
theorem NmI.step {P P' : Int} {N N' : List (List UInt8)} {L R : List NodeG} (h : NmI P N L) (hP : P ≤ P') (h9 : P' ≤ 9) (h0 : 0 ≤ P) (r1 : ∀ x ∈ R, an (nat x) = [] ∨ nk x = 1 ∧ ∃ p, P ≤ p ∧ p < P' ∧ an (nat x) = nmP p)
  (r2 : R.Pairwise fun a b => an (nat a) = [] ∨ an (nat a) ≠ an (nat b)) (r3 : ∀ s ∈ N', ∃ x ∈ R, an (nat x) = s) : NmI P' (N ++ N') (L ++ R) := by
 refine ⟨fun x hx => ?_, List.pairwise_append.2 ⟨h.two, r2, fun a ha b hb => ?_⟩, fun s hs => ?_⟩
 ·rcases List.mem_append.1 hx with hx | hx
  ·rcases h.one x hx with h | ⟨h1, p, h2, h3, h4⟩
   ·exact .inl h
   ·exact .inr ⟨h1, p, h2, by omega, h4⟩
  ·rcases r1 x hx with h | ⟨h1, p, h2, h3, h4⟩
   ·exact .inl h
   ·exact .inr ⟨h1, p, by omega, h3, h4⟩
 ·rcases h.one a ha with g | ⟨_, p, g2, g3, g4⟩
  ·exact .inl g
  ·right
   rw [g4]
   rcases r1 b hb with k | ⟨_, q, k2, k3, k4⟩
   ·rw [k]; exact nmP_ne p
   ·rw [k4]
    intro e
    have := nmP_inj g2 (by omega) (by omega) (by omega) e
    omega
 ·rcases List.mem_append.1 hs with hs | hs
  ·obtain ⟨x, hx, e⟩ := h.thr s hs
   exact ⟨x, List.mem_append_left _ hx, e⟩
  ·obtain ⟨x, hx, e⟩ := r3 s hs
   exact ⟨x, List.mem_append_right _ hx, e⟩
theorem qRd_lv (k p : Int) (i : Nat) : ((qRd k p i).map lvP).flatten = (if 0 < i ∧ k / 7 % 4 = 1 then [guardA (leafA (k / 28) 0)] else []) ++ (if k % 7 = 1 then [leafG k p, leafG (k / 5) (p + 1)] else [leafG k p]) := by
 unfold qRd
 by_cases h1 : 0 < i ∧ k / 7 % 4 = 1 <;> by_cases h2 : k % 7 = 1 <;> simp only [h1, h2, if_true, if_false, and_self, List.map_append, List.map_cons, List.map_nil, List.flatten_append, List.flatten_cons, List.flatten_nil, List.nil_append, List.append_nil] <;> rfl
theorem qLv_nm (l : List Int) : ∀ i, i ≤ 4 → NmI (qP l i) (qN l i) (qLv l i)
 | 0, _ => ⟨fun x hx => (by cases hx), List.Pairwise.nil, fun s hs => (by cases hs)⟩
 | i + 1, hi => by
  have hp := qP_bd l i
  have h9 : qP l (i + 1) ≤ 9 := by have := (qP_bd l (i + 1)).2; omega
  have hm : qP l i ≤ qP l (i + 1) := by simp only [qP]; split <;> omega
  rw [qLv_succ, qRd_lv, qN]
  generalize hk : kq l i = k at *
  have one : ∀ k p P P' : Int, P ≤ p → p < P' → (an (nat (leafG k p)) = [] ∨ nk (leafG k p) = 1 ∧ ∃ q, P ≤ q ∧ q < P' ∧ an (nat (leafG k p)) = nmP q) := fun k p P P' h1 h2 => by
   rcases leafN_or k p with e | e
   ·exact .inl e
   ·exact .inr ⟨rfl, p, h1, h2, e⟩
  have hR : ∀ R : List NodeG, (∀ x ∈ R, an (nat x) = [] ∨ nk x = 1 ∧ ∃ p, qP l i ≤ p ∧ p < qP l (i + 1) ∧ an (nat x) = nmP p) → R.Pairwise (fun a b => an (nat a) = [] ∨ an (nat a) ≠ an (nat b)) → (∀ s ∈ nRd k (qP l i), ∃ x ∈ R, an (nat x) = s) →
    NmI (qP l (i + 1)) (qN l i ++ nRd k (qP l i)) (qLv l i ++ ((if 0 < i ∧ k / 7 % 4 = 1 then [guardA (leafA (k / 28) 0)] else []) ++ R)) := by
   intro R r1 r2 r3
   refine (qLv_nm l i (by omega)).step hm h9 hp.1 (fun x hx => ?_) (List.pairwise_append.2 ⟨?_, r2, fun a ha b hb => ?_⟩) fun s hs => ?_
   ·rcases List.mem_append.1 hx with hx | hx
    ·split at hx
     ·simp only [List.mem_singleton] at hx
      subst hx
      exact .inl rfl
     ·cases hx
    ·exact r1 x hx
   ·split <;> simp
   ·split at ha
    ·simp only [List.mem_singleton] at ha
     subst ha
     exact .inl rfl
    ·cases ha
   ·obtain ⟨x, hx, e⟩ := r3 s hs
    exact ⟨x, List.mem_append_right _ hx, e⟩
  refine hR _ (fun x hx => ?_) ?_ (fun s hs => ?_)
  ·split at hx
   ·rename_i h7
    have e7 : qP l (i + 1) = qP l i + 2 := by simp only [qP, hk, if_pos h7]
    simp only [List.mem_cons, List.not_mem_nil, or_false] at hx
    rcases hx with rfl | rfl
    ·exact one _ _ _ _ (Int.le_refl _) (by omega)
    ·exact one _ _ _ _ (by omega) (by omega)
   ·rename_i h7
    have e7 : qP l (i + 1) = qP l i + 1 := by simp only [qP, hk, if_neg h7]
    simp only [List.mem_singleton] at hx
    subst hx
    exact one _ _ _ _ (Int.le_refl _) (by omega)
  ·split
   ·rename_i h7
    have e7 : qP l (i + 1) = qP l i + 2 := by simp only [qP, hk, if_pos h7]
    simp only [List.pairwise_cons, List.mem_singleton, forall_eq, List.not_mem_nil, false_implies, implies_true, List.Pairwise.nil, and_true]
    rcases leafN_or k (qP l i) with e | e
    ·exact .inl e
    ·right
     rw [an_leaf, an_leaf, e]
     rcases leafN_or (k / 5) (qP l i + 1) with e' | e'
     ·rw [e']; exact nmP_ne _
     ·rw [e']
      intro e2
      have := nmP_inj hp.1 (by omega) (by omega) (by omega) e2
      omega
   ·simp
  ·simp only [nRd, List.mem_append] at hs
   rcases hs with hs | hs
   ·split at hs
    ·cases hs
    ·simp only [List.mem_singleton] at hs
     subst hs
     refine ⟨leafG k (qP l i), ?_, rfl⟩
     split <;> simp
   ·split at hs
    ·rename_i h7
     split at hs
     ·cases hs
     ·simp only [List.mem_singleton] at hs
      subst hs
      rw [if_pos h7]
      exact ⟨leafG (k / 5) (qP l i + 1), by simp, rfl⟩
    ·cases hs
theorem kqLv_nm (l : List Int) : NmI 9 (qNn l) (kqLv l) := by
 rcases kqLv_eq l with e | ⟨e, h⟩
 ·rw [e]
  have h := qLv_nm l (min l.length 4) (by omega)
  have := (qP_bd l (min l.length 4)).2
  refine ⟨fun x hx => ?_, h.two, h.thr⟩
  rcases h.one x hx with h | ⟨h1, p, h2, h3, h4⟩
  ·exact .inl h
  ·exact .inr ⟨h1, p, h2, by omega, h4⟩
 ·rw [e, h]
  refine ⟨fun x hx => .inl ?_, by simp, fun s hs => by cases hs⟩
  simp only [List.mem_singleton] at hx
  subst hx
  rfl
theorem qLv_len (l : List Int) : ∀ i, (qLv l (i + 1)).length ≤ 3 * i + 2
 | 0 => by
  rw [qLv_succ, qRd_lv]
  simp [qLv, qK]
  split <;> simp
 | i + 1 => by
  have := qLv_len l i
  rw [qLv_succ, qRd_lv, List.length_append, List.length_append]
  split <;> split <;> simp <;> omega
theorem kqLv_len (l : List Int) : (kqLv l).length ≤ 11 := by
 rcases kqLv_eq l with e | ⟨e, h⟩
 ·rw [e]
  rcases Nat.eq_zero_or_pos (min l.length 4) with h0 | h0
  ·rw [h0]; simp [qLv, qK]
  ·obtain ⟨i, hi⟩ : ∃ i, min l.length 4 = i + 1 := ⟨min l.length 4 - 1, by omega⟩
   have := qLv_len l i
   rw [hi]
   omega
 ·rw [e]; simp
theorem kqA_at (l : List Int) : atomsL 8 (kqX l) = (kqLv l).map nat := by rw [atomsL, if_pos (sndB_kq l)]; rfl
theorem kqN_at (l : List Int) : negL 8 (kqX l) = (kqLv l).map fun y => decide (nk y = 2) := by rw [negL, if_pos (sndB_kq l)]; rfl
theorem nmOf_map {L : List NodeG} {j : Nat} (h : j < L.length) : nmOf (L.map nat) j = an (nat (L[j])) := by
 simp [nmOf, List.getD, h]
end Go.Proofs.YtamcloifhjafcaaDoor
