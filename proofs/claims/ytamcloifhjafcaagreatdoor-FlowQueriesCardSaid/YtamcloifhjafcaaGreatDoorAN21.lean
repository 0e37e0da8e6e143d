/- NODES 21: the atoms of a node, and which are negated: the program's contracts. -/
import Derived.Test.YtamcloifhjafcaaGreatDoorAN20
namespace Go.Proofs.YtamcloifhjafcaaGreatDoor
open Pw Go
set_option maxRecDepth 100000
set_option linter.unusedSimpArgs false
theorem take_getD {α : Type} (L : List α) (d : α) {j : Nat} (hj : j < L.length) : L.take (j + 1) = L.take j ++ [L.getD j d] := by
 rw [List.take_add_one, List.getD_eq_getElem?_getD, List.getElem?_eq_getElem hj]
 rfl
theorem atK_succ {L : List (Int × NodeG)} {j : Nat} (hj : j < L.length) : atK L (j + 1) = if isLeaf (L.getD j (0, treeD)).2 = true then atK L j ++ [nat (L.getD j (0, treeD)).2] else atK L j := by
 have := take_getD L (0, treeD) hj
 simp only [atK, this, List.filter_append, List.map_append]
 generalize L.getD j (0, treeD) = p
 cases h : isLeaf p.2 <;> simp [List.filter_cons, h]
theorem ngK_succ {L : List (Int × NodeG)} {j : Nat} (hj : j < L.length) : ngK L (j + 1) = if isLeaf (L.getD j (0, treeD)).2 = true then ngK L j ++ [decide (nk (L.getD j (0, treeD)).2 = 2)] else ngK L j := by
 have := take_getD L (0, treeD) hj
 simp only [ngK, this, List.filter_append, List.map_append]
 generalize L.getD j (0, treeD) = p
 cases h : isLeaf p.2 <;> simp [List.filter_cons, h]
theorem atK_len (L : List (Int × NodeG)) (j : Nat) : (atK L j).length ≤ L.length := by
 simp only [atK, List.length_map]
 have h1 := List.length_filter_le (fun p : Int × NodeG => isLeaf p.2) (L.take j)
 have h2 := List.length_take_le' j L
 omega
theorem ngK_len (L : List (Int × NodeG)) (j : Nat) : (ngK L j).length ≤ L.length := by
 simp only [ngK, List.length_map]
 have h1 := List.length_filter_le (fun p : Int × NodeG => isLeaf p.2) (L.take j)
 have h2 := List.length_take_le' j L
 omega
theorem leaf_cut (y : NodeG) : isLeaf (nodeOf 1 (nodeA 4 y)) = isLeaf y ∧ isNodeT 1 (nodeA 4 y) = true := by
 rw [(nodeT_is 1 4 y (by decide)).2]
 exact ⟨rfl, (nodeT_is 1 4 y (by decide)).1⟩
theorem ECA_ok (x : NodeG) : CtrOK (ECA x) :=
 ⟨(mkG_ctr (P := Tryz.prog) (gl := gN) (inv := fun f b => if f = 47 ∧ b = 200008 then some (invCA x) else if f = 100 ∧ b = 200008 then some (invCN x) else none) (n := 0)
  (tblG_cons sndI_ok (tblG_cons clone_ok (tblG_cons leafC_ok (tblG_nil _ _))))).1, itV_ok (visit_iter 8)⟩
theorem app_row {α : Type} {F : α → AV} {L : List α} {a d : α} {q : Nat} (hq : q < L.length + 1) (hF : ∀ a, (F a).sub (F a)) :
  (if q < L.length then F (L.getD q d) else ((Sq.lst [F a]).sub 0 1).get (q - L.length)).sub (F ((L ++ [a]).getD q d)) ∧ (if q < L.length then F (L.getD q d) else ((Sq.lst [F a]).sub 0 1).get (q - L.length)).cells.length = (F ((L ++ [a]).getD q d)).cells.length := by
 by_cases h : q < L.length
 ·have e : (L ++ [a]).getD q d = L.getD q d := by rw [List.getD_eq_getElem?_getD, List.getElem?_append_left h, ← List.getD_eq_getElem?_getD]
  rw [if_pos h, e]
  exact ⟨hF _, rfl⟩
 ·obtain rfl : q = L.length := by omega
  have e : (L ++ [a]).getD L.length d = a := by rw [List.getD_eq_getElem?_getD, List.getElem?_append_right (Nat.le_refl _)]; simp
  rw [if_neg h, e, Nat.sub_self]
  exact ⟨hF _, rfl⟩
theorem atomA_refl (a : AtomG) : (atomA a).sub (atomA a) := ⟨by simp [AV.sub], by simp [AV.sub], by simp [AV.sub], ⟨rfl, fun _ _ => ⟨⟨rfl, rfl, trivial⟩, rfl⟩, fun h => h⟩, rfl, trivial⟩
theorem elems_conds : ∀ (g : Nat) (d : Int) (x : NodeG), litB g x = true → ∀ p ∈ elems g d x, (ac (nat p.2)).length ≤ 10
 | 0, _, _, h, _, _ => by cases h
 | g + 1, d, x, h, p, hp => by
  simp only [elems, List.mem_cons, List.mem_flatten, List.mem_map] at hp
  rcases hp with rfl | ⟨l, ⟨k, hk, rfl⟩, hp⟩
  ·exact litB_conds h
  ·obtain ⟨i, hi, rfl⟩ := List.mem_iff_getElem.1 hk
   have := litB_kid h hi
   rw [show x.kids.getD i treeD = x.kids[i] by rw [List.getD_eq_getElem?_getD, List.getElem?_eq_getElem hi]; rfl] at this
   exact elems_conds g (d + 1) _ this p hp
theorem sndE_0 {x : NodeG} (h : sndE x = 0) : sndB x = true := by
 unfold sndE at h
 cases hq : sndB x with
 | true => rfl
 | false => rw [hq] at h; cases h
theorem sndE_n {x : NodeG} (h : sndE x ≠ 0) : sndB x = false := by
 unfold sndE at h
 cases hq : sndB x with
 | true => rw [hq] at h; exact absurd rfl h
 | false => rfl
theorem atK_all {x : NodeG} (h : sndB x = true) (hx : litB 8 x = true) : atK (elems 8 1 x) (elems 8 1 x).length = atomsL 8 x := by
 unfold atK atomsL
 rw [if_pos h, List.take_length, ← leaves_elems 8 200 1 x h hx, List.map_map]
 rfl
theorem ngK_all {x : NodeG} (h : sndB x = true) (hx : litB 8 x = true) : ngK (elems 8 1 x) (elems 8 1 x).length = negL 8 x := by
 unfold ngK negL
 rw [if_pos h, List.take_length, ← leaves_elems 8 200 1 x h hx, List.map_map]
 rfl
theorem negI_pure (x : NodeG) (hx : litB 8 x = true) (hm : (elems 8 1 x).length ≤ 1000) : PureC Tryz.prog gN 84 [nodeA 9 x] (.tup [.rof (negL 8 x).length (fun k => .bool ((negL 8 x).getD k false)) false, .int .i64 (sndE x)]) := by
 refine pure_vcE (E := ECA x) (k := 20) (d := 4) mix (ECA_ok x) ((negI_vc x _ _).mpr ?_)
 simp only [isNode_of hx (show 8 < 9 by decide), nodeOf_of hx (show 8 < 9 by decide), (leaf_cut _).1, (leaf_cut _).2]
 simp only [EqI, true_and, and_true, imp_self, implies_true, Int.toNat_natCast, Nat.zero_add, or_self, NB_t, Bool.and_self]
 refine VB_intro (fun h => ?_) (fun h => ⟨⟨(0, 0), Nat.zero_le _, rfl, ⟨rfl, rfl⟩, rfl⟩, fun p hp => ?_, fun p hp => ?_⟩)
 ·have h : sndE x ≠ 0 := by simpa using h
  simp [negL, sndE_n h]
 ·obtain ⟨j, gen⟩ := p
  obtain ⟨hp1, hp2⟩ := hp
  have hj : j < (elems 8 1 x).length := hp2
  have hle := ngK_len (elems 8 1 x) j
  have hs := ngK_succ hj
  show VB (isLeaf ((elems 8 1 x).getD j (0, treeD)).2) _ _
  refine VB_intro (fun h => ?_) (fun h => ?_)
  ·rw [h, if_pos rfl] at hs
   have hsl : (ngK (elems 8 1 x) (j + 1)).length = (ngK (elems 8 1 x) j).length + 1 := by rw [hs]; simp
   refine NB_intro (by simp only [Bool.true_and, decide_true, room]; exact decide_eq_true (by show ((ngK (elems 8 1 x) j).length + 1) * 1 ≤ _ ∧ (ngK (elems 8 1 x) j).length + 1 ≤ _; omega)) ⟨(j + 1, gen + 1), hj, rfl, ⟨⟨rfl, hsl.symm⟩, rfl⟩, rfl, hsl.symm, fun q hq => ?_⟩
   show AV.sub _ (AV.bool ((ngK (elems 8 1 x) (j + 1)).getD q false)) ∧ _ = [AV.bool ((ngK (elems 8 1 x) (j + 1)).getD q false)].length
   rw [hs]
   exact app_row (F := AV.bool) (L := ngK (elems 8 1 x) j) (a := decide (nk ((elems 8 1 x).getD j (0, treeD)).2 = 2)) (d := false) hq (fun a => by simp [AV.sub])
  ·rw [h] at hs
   simp only [Bool.false_eq_true, if_false] at hs
   refine ⟨(j + 1, gen), hj, rfl, ⟨⟨rfl, by show _ = (ngK (elems 8 1 x) (j + 1)).length; rw [hs]⟩, rfl⟩, rfl, by show _ = (ngK (elems 8 1 x) (j + 1)).length; rw [hs], fun q hq => ⟨?_, rfl⟩⟩
   show _ = (ngK (elems 8 1 x) (j + 1)).getD q false
   rw [hs]
 ·obtain ⟨j, gen⟩ := p
  obtain ⟨hp1, hp2⟩ := hp
  have hj : j = (elems 8 1 x).length := hp2
  subst hj
  have h : sndE x = 0 := by simpa using h
  rw [← ngK_all (sndE_0 h) hx]
  exact NB_intro (by simp) ⟨⟨rfl, fun q hq => ⟨rfl, rfl⟩, fun h => by cases h⟩, h.symm⟩
theorem atomsI_pure (x : NodeG) (hx : litB 8 x = true) (hm : (elems 8 1 x).length ≤ 1000) : PureC Tryz.prog gN 29 [nodeA 9 x] (.tup [.rof (atomsL 8 x).length (fun k => atomA ((atomsL 8 x).getD k atomD)) false, .int .i64 (sndE x)]) := by
 refine pure_vcE (E := ECA x) (k := 20) (d := 4) mix (ECA_ok x) ((atomsI_vc x _ _).mpr ?_)
 simp only [isNode_of hx (show 8 < 9 by decide), nodeOf_of hx (show 8 < 9 by decide), (leaf_cut _).1, (leaf_cut _).2]
 simp only [EqI, true_and, and_true, imp_self, implies_true, Int.toNat_natCast, Nat.zero_add, or_self, NB_t, Bool.and_self]
 refine VB_intro (fun h => ?_) (fun h => ⟨⟨(0, 0), Nat.zero_le _, rfl, ⟨rfl, rfl⟩, rfl⟩, fun p hp => ?_, fun p hp => ?_⟩)
 ·have h : sndE x ≠ 0 := by simpa using h
  simp [atomsL, sndE_n h]
 ·obtain ⟨j, gen⟩ := p
  obtain ⟨hp1, hp2⟩ := hp
  have hj : j < (elems 8 1 x).length := hp2
  have hle := atK_len (elems 8 1 x) j
  have hs := atK_succ hj
  have hc : (ac (nat ((elems 8 1 x).getD j (0, treeD)).2)).length ≤ 10 := elems_conds 8 1 x hx _ (by rw [List.getD_eq_getElem?_getD, List.getElem?_eq_getElem hj]; exact List.getElem_mem hj)
  refine NB_intro ?_ ?_
  ·simp only [Bool.and_eq_true, decide_eq_true_eq, List.all_eq_true]
   exact ⟨Nat.le_trans hc (by decide), fun _ _ => rfl⟩
  show VB (isLeaf ((elems 8 1 x).getD j (0, treeD)).2) _ _
  refine VB_intro (fun h => ?_) (fun h => ?_)
  ·rw [h, if_pos rfl] at hs
   have hsl : (atK (elems 8 1 x) (j + 1)).length = (atK (elems 8 1 x) j).length + 1 := by rw [hs]; simp
   refine NB_intro (by simp only [Bool.true_and, decide_true, room]; exact decide_eq_true (by show ((atK (elems 8 1 x) j).length + 1) * 64 ≤ _ ∧ (atK (elems 8 1 x) j).length + 1 ≤ _; omega)) ⟨(j + 1, gen + 1), hj, rfl, ⟨⟨rfl, hsl.symm⟩, rfl⟩, rfl, hsl.symm, fun q hq => ?_⟩
   show AV.sub _ (atomA ((atK (elems 8 1 x) (j + 1)).getD q atomD)) ∧ _ = (atomA ((atK (elems 8 1 x) (j + 1)).getD q atomD)).cells.length
   rw [hs]
   exact app_row (F := atomA) (L := atK (elems 8 1 x) j) (a := nat ((elems 8 1 x).getD j (0, treeD)).2) (d := atomD) hq atomA_refl
  ·rw [h] at hs
   simp only [Bool.false_eq_true, if_false] at hs
   refine ⟨(j + 1, gen), hj, rfl, ⟨⟨rfl, by show _ = (atK (elems 8 1 x) (j + 1)).length; rw [hs]⟩, rfl⟩, rfl, by show _ = (atK (elems 8 1 x) (j + 1)).length; rw [hs], fun q hq => ?_⟩
   show AV.sub _ (atomA ((atK (elems 8 1 x) (j + 1)).getD q atomD)) ∧ _ = (atomA ((atK (elems 8 1 x) (j + 1)).getD q atomD)).cells.length
   rw [hs]
   exact ⟨atomA_refl _, rfl⟩
 ·obtain ⟨j, gen⟩ := p
  obtain ⟨hp1, hp2⟩ := hp
  have hj : j = (elems 8 1 x).length := hp2
  subst hj
  have h : sndE x = 0 := by simpa using h
  rw [← atK_all (sndE_0 h) hx]
  exact NB_intro (by simp) ⟨⟨rfl, fun q hq => ⟨atomA_refl _, rfl⟩, fun h => by cases h⟩, h.symm⟩
end Go.Proofs.YtamcloifhjafcaaGreatDoor
