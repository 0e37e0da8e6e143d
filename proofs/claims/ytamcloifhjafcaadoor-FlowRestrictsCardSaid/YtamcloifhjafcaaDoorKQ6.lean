/- QUERIES OF NUMBERS 6: they are well-formed. -/
import Derived.Test.YtamcloifhjafcaaDoorKQ5
namespace Go.Proofs.YtamcloifhjafcaaDoor
open Pw Go
set_option maxRecDepth 100000
set_option linter.unusedSimpArgs false
set_option linter.unusedVariables false
theorem nds_pc (g : Nat) {x : NodeG} (h : Pc 9 x) : ∀ y ∈ nds (g + 2) x, Pc 9 y := by
 intro y hy
 simp only [nds, List.mem_cons, List.mem_flatten, List.mem_map] at hy
 rcases hy with rfl | ⟨L, ⟨z, hz, rfl⟩, hy⟩
 ·exact h
 ·obtain ⟨k, p, rfl, hk, h0, h1⟩ := pc_kids h z hz
  have hy : y ∈ leafG k p :: ((leafG k p).kids.map (nds g)).flatten := hy
  have e : ((leafG k p).kids.map (nds g)).flatten = [] := rfl
  rw [e] at hy
  simp only [List.mem_cons, List.not_mem_nil, or_false] at hy
  subst hy
  exact .leaf k p hk h0 h1
theorem nds_kq (l : List Int) : ∀ y ∈ nds 8 (kqX l), Pc 9 y ∨ ∃ K, y = seqG K ∧ K.length ≤ 7 ∧ (∀ x ∈ K, Pc 9 x) ∧ nk (K.getD 0 treeD) ≠ 2 ∧ nk (K.getD (K.length - 1) treeD) ≠ 2 := by
 intro y hy
 rcases kqX_cases l with ⟨x, e, h, _⟩ | ⟨K, e, _, h2, h7, h, g1, g2⟩
 ·rw [e] at hy
  exact .inl (nds_pc 6 h y hy)
 ·rw [e] at hy
  simp only [nds, List.mem_cons, List.mem_flatten, List.mem_map] at hy
  rcases hy with rfl | ⟨L, ⟨z, hz, rfl⟩, hy⟩
  ·exact .inr ⟨K, rfl, h7, h, g1, g2⟩
  ·exact .inl (nds_pc 5 (h z hz) y hy)
theorem ful_kq (l : List Int) : (nds 8 (kqX l)).any fulP = false := by
 rw [List.any_eq_false]
 intro y hy
 simp only [fulP, Bool.or_eq_true, decide_eq_true_eq, not_or]
 rcases nds_kq l y hy with h | ⟨K, rfl, h7, _⟩
 ·have := pc_cn h
  omega
 ·exact ⟨by show ¬((K.length : Int) > 8); omega, by show ¬((0 : Int) > 4); omega⟩
theorem rng_kq (l : List Int) : (nds 8 (kqX l)).any rngP = false := by
 rw [List.any_eq_false]
 intro y hy
 rcases nds_kq l y hy with h | ⟨K, rfl, h7, _⟩
 ·cases h with
  | leaf k p _ _ _ =>
   have h := leaf_min k p
   have h1 : ¬((leafG k p).val.2.1 < 1) := by have := h.1; exact Int.not_lt.2 this
   have h2 : ¬((leafG k p).val.2.1 > (leafG k p).val.2.2.1) := Int.not_lt.2 h.2.1
   have h3 : ¬((leafG k p).val.2.2.1 > 6) := Int.not_lt.2 h.2.2
   simp [rngP, h1, h2, h3]
  | grd k _ => simp [rngP, nk_grd]
  | alt k k' p _ _ _ _ => simp [rngP, nk_alt]
 ·simp [rngP, nk_seq]
theorem std_kq (l : List Int) : (nds 8 (kqX l)).any stdP = false := by
 rw [List.any_eq_false]
 intro y hy
 have key : ∀ y : NodeG, (∀ i, i < y.kids.length → badN y i = false) → ¬stdP y = true := by
  intro y h hs
  obtain ⟨i, hi, hb⟩ := List.any_eq_true.1 hs
  rw [h i (by simpa using hi)] at hb
  cases hb
 refine key y fun i hi => ?_
 rcases nds_kq l y hy with h | ⟨K, rfl, h7, _, g1, g2⟩
 ·obtain ⟨k, p, e, _⟩ := pc_kids h _ (getD_mem (d := treeD) hi)
  simp only [badN, e, nk_leaf]
  rfl
 ·have hi : i < K.length := hi
  show (nk (K.getD i treeD) == 2 && (nk (seqG K) != 3 || (i : Int) == 0 || (i : Int) == IntKind.i64.wrap ((K.length : Int) - 1))) = false
  rw [wrap_i64_id (by omega) (by omega), nk_seq]
  by_cases h0 : i = 0
  ·subst h0
   rw [show (nk (K.getD 0 treeD) == 2) = false from by rw [Bool.eq_false_iff]; intro e; exact g1 (beq_iff_eq.1 e)]
   rfl
  ·by_cases h1 : i = K.length - 1
   ·subst h1
    rw [show (nk (K.getD (K.length - 1) treeD) == 2) = false from by rw [Bool.eq_false_iff]; intro e; exact g2 (beq_iff_eq.1 e)]
    rfl
   ·have e0 : ((i : Int) == 0) = false := by simp [h0]
    have e1 : ((i : Int) == (K.length : Int) - 1) = false := by simp; omega
    simp [e0, e1]
theorem ord_kq (l : List Int) : ordE (kqX l) = 0 := by
 have hk : (nk (kqX l) == 2) = false := by
  rcases kqX_cases l with ⟨x, e, _, h, _⟩ | ⟨K, e, _⟩
  ·rw [e]; simpa using h
  ·rw [e, nk_seq]; rfl
 rw [ordE, std_kq, hk]
 rfl
theorem el_pc (g : Nat) (d : Int) {x : NodeG} (h : Pc 9 x) : ∀ q ∈ elems (g + 2) d x, q.1 ≤ d + 1 := by
 intro q hq
 simp only [elems, List.mem_cons, List.mem_flatten, List.mem_map] at hq
 rcases hq with rfl | ⟨L, ⟨z, hz, rfl⟩, hq⟩
 ·simp only; omega
 ·obtain ⟨k, p, rfl, _⟩ := pc_kids h z hz
  have hy : q ∈ (d + 1, leafG k p) :: ((leafG k p).kids.map (elems g (d + 1 + 1))).flatten := hq
  have e : ((leafG k p).kids.map (elems g (d + 1 + 1))).flatten = [] := rfl
  rw [e] at hy
  simp only [List.mem_cons, List.not_mem_nil, or_false] at hy
  subst hy
  exact Int.le_refl _
theorem el_kq (l : List Int) : ∀ q ∈ elems 8 1 (kqX l), q.1 ≤ 3 := by
 intro q hq
 rcases kqX_cases l with ⟨x, e, h, _⟩ | ⟨K, e, _, h2, h7, h, g1, g2⟩
 ·rw [e] at hq
  have := el_pc 6 1 h q hq
  omega
 ·rw [e] at hq
  simp only [elems, List.mem_cons, List.mem_flatten, List.mem_map] at hq
  rcases hq with rfl | ⟨L, ⟨z, hz, rfl⟩, hq⟩
  ·show (1 : Int) ≤ 3; decide
  ·exact el_pc 5 2 (h z hz) q hq
theorem mxS_le {a : Nat → Int} {B : Int} : ∀ k, (∀ j, j ≤ k → a j ≤ B) → mxS a k ≤ B
 | 0, h => h 0 (Nat.le_refl _)
 | k + 1, h => by
  have h1 := mxS_le k fun j hj => h j (by omega)
  have h2 := h (k + 1) (Nat.le_refl _)
  simp only [mxS, maxI]
  split <;> omega
theorem dep_kq (l : List Int) : depE (kqX l) = 0 := by
 have hl : 1 ≤ (elems 8 1 (kqX l)).length := by rw [elems_len]; omega
 have h : dpth (kqX l) ≤ 3 := by
  rw [dpth, if_pos (sndB_kq l)]
  refine mxS_le _ fun j hj => ?_
  exact el_kq l _ (getD_mem (by omega))
 rw [depE, decide_eq_false (by omega)]
 rfl
theorem rngE_kq (l : List Int) : rngE (kqX l) (kqW l) = 0 := by
 have := kqW_bd l
 rw [rngE, rng_kq, decide_eq_false (by omega)]
 rfl
def lvP (x : NodeG) : List NodeG := if isLeaf x then [x] else x.kids
theorem lv_leaf (g : Nat) (k p : Int) : leavesL (g + 1) (leafG k p) = [leafG k p] := rfl
theorem lv_pc (g : Nat) {x : NodeG} (h : Pc 9 x) : leavesL (g + 2) x = lvP x := by
 cases h with
 | leaf k p _ _ _ => rfl
 | grd k _ => rfl
 | alt k k' p _ _ _ _ =>
  show ([leafG k p, leafG k' (p + 1)].map (leavesL (g + 1))).flatten = [leafG k p, leafG k' (p + 1)]
  simp [lv_leaf]
def qLv (l : List Int) (i : Nat) : List NodeG := ((qK l i).map lvP).flatten
theorem qLv_succ (l : List Int) (i : Nat) : qLv l (i + 1) = qLv l i ++ ((qRd (kq l i) (qP l i) i).map lvP).flatten := by
 simp [qLv, qK]
def kqLv (l : List Int) : List NodeG := leavesL 8 (kqX l)
theorem kqLv_eq (l : List Int) : kqLv l = qLv l (min l.length 4) ∨ kqLv l = [leafG 0 0] ∧ qNn l = [] := by
 unfold kqLv
 rcases kqX_cases l with ⟨x, e, h, _, h2 | ⟨h2, h3, h4⟩⟩ | ⟨K, e, hK, h2, h7, h, g1, g2⟩
 ·left
  rw [e, lv_pc 6 h, qLv, h2]
  simp
 ·right
  rw [e, h4]
  exact ⟨rfl, h3⟩
 ·left
  rw [e, qLv, ← hK]
  show ((seqG K).kids.map (leavesL 7)).flatten = _
  congr 1
  exact List.map_congr_left fun y hy => lv_pc 5 (h y hy)
structure NmI (P : Int) (N : List (List UInt8)) (L : List NodeG) : Prop where
 one : ∀ x ∈ L, an (nat x) = [] ∨ nk x = 1 ∧ ∃ p, 0 ≤ p ∧ p < P ∧ an (nat x) = nmP p
 two : L.Pairwise fun a b => an (nat a) = [] ∨ an (nat a) ≠ an (nat b)
 thr : ∀ s ∈ N, ∃ x ∈ L, an (nat x) = s
theorem nmP_ne (p : Int) : nmP p ≠ [] := by simp [nmP]
theorem an_leaf (k p : Int) : an (nat (leafG k p)) = leafN k p := rfl
theorem NmI.step {P P' : Int} {N N' : List (List UInt8)} {L R : List NodeG} (h : NmI P N L) (hP : P ≤ P') (h9 : P' ≤ 9) (h0 : 0 ≤ P) (r1 : ∀ x ∈ R, an (nat x) = [] ∨ nk x = 1 ∧ ∃ p, P ≤ p ∧ p < P' ∧ an (nat x) = nmP p)
  (r2 : R.Pairwise fun a b => an (nat a) = [] ∨ an (nat a) ≠ an (nat b)) (r3 : ∀ s ∈ N', ∃ x ∈ R, an (nat x) = s) : NmI P' (N ++ N') (L ++ R) := by
 refine ⟨fun x hx => ?_, List.pairwise_append.2 ⟨h.two, r2, fun a ha b hb => ?_⟩, fun s hs => ?_⟩
 ·rcases List.mem_append.1 hx with hx | hx
  ·rcases h.one x hx with h | ⟨h1, p, h2, h3, h4⟩
   ·exact .inl h
   ·exact .inr ⟨h1, p, h2, by omega, h4⟩
  ·rcases r1 x hx with h | ⟨h1, p, h2, h3, h4⟩
   ·exact .inl h
   ·exact .inr ⟨h1, p, by omega, h3, h4⟩
 ·rcases h.one a ha with g | ⟨_, p, g2, g3, g4⟩
  ·exact .inl g
  ·right
   rw [g4]
   rcases r1 b hb with k | ⟨_, q, k2, k3, k4⟩
   ·rw [k]; exact nmP_ne p
   ·rw [k4]
    intro e
    have := nmP_inj g2 (by omega) (by omega) (by omega) e
    omega
 ·rcases List.mem_append.1 hs with hs | hs
  ·obtain ⟨x, hx, e⟩ := h.thr s hs
   exact ⟨x, List.mem_append_left _ hx, e⟩
  ·obtain ⟨x, hx, e⟩ := r3 s hs
   exact ⟨x, List.mem_append_right _ hx, e⟩
theorem qRd_lv (k p : Int) (i : Nat) : ((qRd k p i).map lvP).flatten = (if 0 < i ∧ k / 7 % 4 = 1 then [guardA (leafA (k / 28) 0)] else []) ++ (if k % 7 = 1 then [leafG k p, leafG (k / 5) (p + 1)] else [leafG k p]) := by
 unfold qRd
 by_cases h1 : 0 < i ∧ k / 7 % 4 = 1 <;> by_cases h2 : k % 7 = 1 <;> simp only [h1, h2, if_true, if_false, and_self, List.map_append, List.map_cons, List.map_nil, List.flatten_append, List.flatten_cons, List.flatten_nil, List.nil_append, List.append_nil] <;> rfl
theorem qLv_nm (l : List Int) : ∀ i, i ≤ 4 → NmI (qP l i) (qN l i) (qLv l i)
 | 0, _ => ⟨fun x hx => (by cases hx), List.Pairwise.nil, fun s hs => (by cases hs)⟩
 | i + 1, hi => by
  have hp := qP_bd l i
  have h9 : qP l (i + 1) ≤ 9 := by have := (qP_bd l (i + 1)).2; omega
  have hm : qP l i ≤ qP l (i + 1) := by simp only [qP]; split <;> omega
  rw [qLv_succ, qRd_lv, qN]
  generalize hk : kq l i = k at *
  have one : ∀ k p P P' : Int, P ≤ p → p < P' → (an (nat (leafG k p)) = [] ∨ nk (leafG k p) = 1 ∧ ∃ q, P ≤ q ∧ q < P' ∧ an (nat (leafG k p)) = nmP q) := fun k p P P' h1 h2 => by
   rcases leafN_or k p with e | e
   ·exact .inl e
   ·exact .inr ⟨rfl, p, h1, h2, e⟩
  have hR : ∀ R : List NodeG, (∀ x ∈ R, an (nat x) = [] ∨ nk x = 1 ∧ ∃ p, qP l i ≤ p ∧ p < qP l (i + 1) ∧ an (nat x) = nmP p) → R.Pairwise (fun a b => an (nat a) = [] ∨ an (nat a) ≠ an (nat b)) → (∀ s ∈ nRd k (qP l i), ∃ x ∈ R, an (nat x) = s) →
    NmI (qP l (i + 1)) (qN l i ++ nRd k (qP l i)) (qLv l i ++ ((if 0 < i ∧ k / 7 % 4 = 1 then [guardA (leafA (k / 28) 0)] else []) ++ R)) := by
   intro R r1 r2 r3
   refine (qLv_nm l i (by omega)).step hm h9 hp.1 (fun x hx => ?_) (List.pairwise_append.2 ⟨?_, r2, fun a ha b hb => ?_⟩) fun s hs => ?_
   ·rcases List.mem_append.1 hx with hx | hx
    ·split at hx
     ·simp only [List.mem_singleton] at hx
      subst hx
      exact .inl rfl
     ·cases hx
    ·exact r1 x hx
   ·split <;> simp
   ·split at ha
    ·simp only [List.mem_singleton] at ha
     subst ha
     exact .inl rfl
    ·cases ha
   ·obtain ⟨x, hx, e⟩ := r3 s hs
    exact ⟨x, List.mem_append_right _ hx, e⟩
  refine hR _ (fun x hx => ?_) ?_ (fun s hs => ?_)
  ·split at hx
   ·rename_i h7
    have e7 : qP l (i + 1) = qP l i + 2 := by simp only [qP, hk, if_pos h7]
    simp only [List.mem_cons, List.not_mem_nil, or_false] at hx
    rcases hx with rfl | rfl
    ·exact one _ _ _ _ (Int.le_refl _) (by omega)
    ·exact one _ _ _ _ (by omega) (by omega)
   ·rename_i h7
    have e7 : qP l (i + 1) = qP l i + 1 := by simp only [qP, hk, if_neg h7]
    simp only [List.mem_singleton] at hx
    subst hx
    exact one _ _ _ _ (Int.le_refl _) (by omega)
  ·split
   ·rename_i h7
    have e7 : qP l (i + 1) = qP l i + 2 := by simp only [qP, hk, if_pos h7]
    simp only [List.pairwise_cons, List.mem_singleton, forall_eq, List.not_mem_nil, false_implies, implies_true, List.Pairwise.nil, and_true]
    rcases leafN_or k (qP l i) with e | e
    ·exact .inl e
    ·right
     rw [an_leaf, an_leaf, e]
     rcases leafN_or (k / 5) (qP l i + 1) with e' | e'
     ·rw [e']; exact nmP_ne _
     ·rw [e']
      intro e2
      have := nmP_inj hp.1 (by omega) (by omega) (by omega) e2
      omega
   ·simp
  ·simp only [nRd, List.mem_append] at hs
   rcases hs with hs | hs
   ·split at hs
    ·cases hs
    ·simp only [List.mem_singleton] at hs
     subst hs
     refine ⟨leafG k (qP l i), ?_, rfl⟩
     split <;> simp
   ·split at hs
    ·rename_i h7
     split at hs
     ·cases hs
     ·simp only [List.mem_singleton] at hs
      subst hs
      rw [if_pos h7]
      exact ⟨leafG (k / 5) (qP l i + 1), by simp, rfl⟩
    ·cases hs
theorem kqLv_nm (l : List Int) : NmI 9 (qNn l) (kqLv l) := by
 rcases kqLv_eq l with e | ⟨e, h⟩
 ·rw [e]
  have h := qLv_nm l (min l.length 4) (by omega)
  have := (qP_bd l (min l.length 4)).2
  refine ⟨fun x hx => ?_, h.two, h.thr⟩
  rcases h.one x hx with h | ⟨h1, p, h2, h3, h4⟩
  ·exact .inl h
  ·exact .inr ⟨h1, p, h2, by omega, h4⟩
 ·rw [e, h]
  refine ⟨fun x hx => .inl ?_, by simp, fun s hs => by cases hs⟩
  simp only [List.mem_singleton] at hx
  subst hx
  rfl
theorem qLv_len (l : List Int) : ∀ i, (qLv l (i + 1)).length ≤ 3 * i + 2
 | 0 => by
  rw [qLv_succ, qRd_lv]
  simp [qLv, qK]
  split <;> simp
 | i + 1 => by
  have := qLv_len l i
  rw [qLv_succ, qRd_lv, List.length_append, List.length_append]
  split <;> split <;> simp <;> omega
theorem kqLv_len (l : List Int) : (kqLv l).length ≤ 11 := by
 rcases kqLv_eq l with e | ⟨e, h⟩
 ·rw [e]
  rcases Nat.eq_zero_or_pos (min l.length 4) with h0 | h0
  ·rw [h0]; simp [qLv, qK]
  ·obtain ⟨i, hi⟩ : ∃ i, min l.length 4 = i + 1 := ⟨min l.length 4 - 1, by omega⟩
   have := qLv_len l i
   rw [hi]
   omega
 ·rw [e]; simp
theorem kqA_at (l : List Int) : atomsL 8 (kqX l) = (kqLv l).map nat := by rw [atomsL, if_pos (sndB_kq l)]; rfl
theorem kqN_at (l : List Int) : negL 8 (kqX l) = (kqLv l).map fun y => decide (nk y = 2) := by rw [negL, if_pos (sndB_kq l)]; rfl
theorem full_kq (l : List Int) : fullE (kqX l) (kqHs l) (kqEs l) = 0 := by
 have h1 := kqLv_len l
 have h2 := kqHs_len l
 have h3 := kqEs_len l
 rw [fullE, ful_kq, kqA_at, List.length_map, decide_eq_false (by omega), decide_eq_false (by omega), decide_eq_false (by omega)]
 rfl
theorem seS_true {A : List AtomG} {s : List UInt8} : ∀ i, seS A i s = true → ∃ j, j < i ∧ nmOf A j = s ∧ nmOf A j ≠ []
 | 0, h => by cases h
 | i + 1, h => by
  by_cases h1 : nmOf A i = []
  ·have e : seS A (i + 1) = seS A i := if_pos h1
   rw [e] at h
   obtain ⟨j, h2, h3⟩ := seS_true i h
   exact ⟨j, by omega, h3⟩
  ·have e : seS A (i + 1) = fun s => if nmOf A i = s then true else seS A i s := if_neg h1
   rw [e] at h
   by_cases h2 : nmOf A i = s
   ·exact ⟨i, by omega, h2, h1⟩
   ·simp only [if_neg h2] at h
    obtain ⟨j, h3, h4⟩ := seS_true i h
    exact ⟨j, by omega, h4⟩
theorem seS_mk {A : List AtomG} {s : List UInt8} {j : Nat} (hs : nmOf A j = s) (hn : s ≠ []) : ∀ i, j < i → seS A i s = true
 | 0, h => by omega
 | i + 1, h => by
  by_cases h1 : nmOf A i = []
  ·have e : seS A (i + 1) = seS A i := if_pos h1
   rw [e]
   refine seS_mk hs hn i ?_
   rcases Nat.lt_or_ge j i with h2 | h2
   ·exact h2
   ·obtain rfl : j = i := by omega
    exact absurd (hs ▸ h1) hn
  ·have e : seS A (i + 1) = fun s => if nmOf A i = s then true else seS A i s := if_neg h1
   rw [e]
   by_cases h2 : nmOf A i = s
   ·simp [h2]
   ·simp only [if_neg h2]
    refine seS_mk hs hn i ?_
    rcases Nat.lt_or_ge j i with h3 | h3
    ·exact h3
    ·obtain rfl : j = i := by omega
     exact absurd hs h2
theorem knS_eq {A : List AtomG} {N : List Bool} : ∀ i, (∀ j, j < i → nmOf A j ≠ [] → N.getD j false = false) → knS A N i = seS A i
 | 0, _ => rfl
 | i + 1, h => by
  have ih := knS_eq i fun j hj => h j (by omega)
  by_cases h1 : nmOf A i = []
  ·have e1 : knS A N (i + 1) = knS A N i := if_pos h1
   have e2 : seS A (i + 1) = seS A i := if_pos h1
   rw [e1, e2, ih]
  ·have e1 : knS A N (i + 1) = fun s => if nmOf A i = s then !N.getD i false else knS A N i s := if_neg h1
   have e2 : seS A (i + 1) = fun s => if nmOf A i = s then true else seS A i s := if_neg h1
   rw [e1, e2, ih, h i (by omega) h1]
   rfl
theorem wrS_no {A : List AtomG} {N : List Bool} : ∀ i, (∀ j, j < i → nmOf A j ≠ [] → N.getD j false = false) → wrS A N i = false
 | 0, _ => rfl
 | i + 1, h => by
  have ih := wrS_no i fun j hj => h j (by omega)
  by_cases h1 : nmOf A i = []
  ·have e1 : wrS A N (i + 1) = wrS A N i := if_pos h1
   rw [e1, ih]
  ·have e1 : wrS A N (i + 1) = (wrS A N i || N.getD i false) := if_neg h1
   rw [e1, ih, h i (by omega) h1]
   rfl
theorem wrU_no {k : List UInt8 → Bool} {U : List (List UInt8)} (h : ∀ u ∈ U, k u = true) : ∀ i, i ≤ U.length → wrU k false U i = false
 | 0, _ => rfl
 | i + 1, hi => by
  have ih := wrU_no h i (by omega)
  simp only [wrU, ih, h _ (getD_mem (d := []) (show i < U.length by omega))]
  rfl
theorem usN_mem {L : List (List UInt8)} : ∀ s ∈ usN L, s ∈ L := by
 have key : ∀ (L acc : List (List UInt8)) (s), s ∈ L.foldl usA acc → s ∈ acc ∨ s ∈ L := by
  intro L
  induction L with
  | nil => exact fun acc s h => .inl h
  | cons a L ih =>
   intro acc s h
   rcases ih _ s h with h | h
   ·unfold usA at h
    split at h
    ·exact .inl h
    ·rcases List.mem_append.1 h with h | h
     ·exact .inl h
     ·simp only [List.mem_singleton] at h
      exact .inr (by rw [h]; exact List.mem_cons_self ..)
   ·exact .inr (List.mem_cons_of_mem _ h)
 intro s hs
 rcases key L [] s hs with h | h
 ·cases h
 ·exact h
theorem us_kq (l : List Int) : ∀ s ∈ usQ (kqHs l) (kqEs l), s ∈ qNn l := by
 intro s hs
 have h := usN_mem s hs
 rcases List.mem_append.1 h with h | h
 ·obtain ⟨x, hx, rfl⟩ := List.mem_map.1 h
  obtain ⟨_, _, _, hm⟩ := kqH_have l x hx
  exact hm
 ·obtain ⟨x, hx, rfl⟩ := List.mem_map.1 (List.mem_of_mem_take h)
  obtain ⟨_, _, _, hm⟩ := kqE_have l x hx
  exact hm
theorem nmOf_map {L : List NodeG} {j : Nat} (h : j < L.length) : nmOf (L.map nat) j = an (nat (L[j])) := by
 simp [nmOf, List.getD, h]
theorem nmE_kq (l : List Int) : nmE (kqX l) (kqHs l) (kqEs l) = 0 := by
 have hn := kqLv_nm l
 have hneg : ∀ j, j < (atomsL 8 (kqX l)).length → nmOf (atomsL 8 (kqX l)) j ≠ [] → (negL 8 (kqX l)).getD j false = false := by
  intro j hj h
  rw [kqA_at] at hj h
  rw [kqN_at]
  rw [List.length_map] at hj
  rw [nmOf_map hj] at h
  rcases hn.one _ (List.getElem_mem hj) with h1 | ⟨h1, _⟩
  ·exact absurd h1 h
  ·simp [List.getD, hj]
   omega
 have hdup : ¬dupB (atomsL 8 (kqX l)) = true := by
  intro h
  obtain ⟨i, hi, h⟩ := List.any_eq_true.1 h
  simp only [duP, Bool.and_eq_true, decide_eq_true_eq] at h
  obtain ⟨j, hj, h1, h2⟩ := seS_true i h.2
  rw [kqA_at] at h1 h2 hi
  simp only [List.mem_range, List.length_map] at hi
  rw [nmOf_map hi, nmOf_map (by omega)] at h1
  rw [nmOf_map (by omega)] at h2
  rcases (List.pairwise_iff_getElem.1 hn.two) j i (by omega) hi hj with h3 | h3
  ·exact h2 h3
  ·exact h3 h1
 rw [nmE, nmdE, if_neg hdup, wrS_no _ hneg, knS_eq _ hneg, wrU_no (fun u hu => ?_) _ (Nat.le_refl _)]
 ·rfl
 ·have hm := us_kq l u hu
  obtain ⟨x, hx, e⟩ := hn.thr u hm
  obtain ⟨j, hj, rfl⟩ := List.mem_iff_getElem.1 hx
  refine seS_mk (j := j) (by rw [kqA_at, nmOf_map hj]; exact e) ?_ _ (by rw [kqA_at, List.length_map]; exact hj)
  intro e0
  have := nm_len hm
  rw [e0] at this
  cases this
theorem wf_kq (l : List Int) : wfE (kqX l) (kqW l) (kqHs l) (kqEs l) = 0 := by
 rw [wfE, chk_kq, if_neg (by decide), full_kq, if_neg (by decide), dep_kq, if_neg (by decide), rngE_kq, if_neg (by decide), ord_kq, if_neg (by decide), nmE_kq]
end Go.Proofs.YtamcloifhjafcaaDoor
