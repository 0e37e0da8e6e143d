/- NODES 23: the atoms of a node, and which are negated: the document's contracts; tables. -/
import Derived.Test.YtamcloifhjafcaaGreatDoorAN22
namespace Go.Proofs.YtamcloifhjafcaaGreatDoor
open Pw Go
set_option maxRecDepth 100000
set_option linter.unusedSimpArgs false
theorem leaves_conds : ∀ (g : Nat) (x : NodeG), litB g x = true → ∀ y ∈ leavesL g x, (ac (nat y)).length ≤ 10
 | 0, _, h, _, _ => by cases h
 | g + 1, x, h, y, hy => by
  simp only [leavesL] at hy
  split at hy
  ·rw [List.mem_singleton] at hy
   subst hy
   exact litB_conds h
  ·rw [List.mem_flatten] at hy
   obtain ⟨l, hl, hy⟩ := hy
   obtain ⟨k, hk, rfl⟩ := List.mem_map.1 hl
   obtain ⟨i, hi, rfl⟩ := List.mem_iff_getElem.1 hk
   have := litB_kid h hi
   rw [show x.kids.getD i treeD = x.kids[i] by rw [List.getD_eq_getElem?_getD, List.getElem?_eq_getElem hi]; rfl] at this
   exact leaves_conds g _ this y hy
theorem ERA_ok (L : List NodeG) : CtrOK (ERA L) :=
 ⟨(mkG_ctr (P := Tryz.prog) (gl := gN) (inv := fun f b => if f = 46 ∧ b = 0 then some (invRA L) else if f = 74 ∧ b = 0 then some (invRN L) else none) (n := 0)
  (tblG_cons sndR_ok (tblG_cons (leaves_of (leaves_pure 8)) (tblG_nil _ _)))).1, itr_none rfl⟩
theorem map_get {α β : Type} {f : α → β} {l : List α} {d : α} {d' : β} {i : Nat} (hi : i < l.length) : (l.map f).getD i d' = f (l.getD i d) := by simp [List.getD, hi]
theorem row_at {α : Type} {F : α → AV} {f : Nat → α} {n q : Nat} (hq : q < n + 1) (hF : ∀ a, (F a).sub (F a)) :
  (if q < n then F (f q) else ((Sq.lst [F (f n)]).sub 0 1).get (q - n)).sub (F (f q)) ∧ (if q < n then F (f q) else ((Sq.lst [F (f n)]).sub 0 1).get (q - n)).cells.length = (F (f q)).cells.length := by
 by_cases h : q < n
 ·rw [if_pos h]
  exact ⟨hF _, rfl⟩
 ·obtain rfl : q = n := by omega
  rw [if_neg h, Nat.sub_self]
  exact ⟨hF _, rfl⟩
theorem negR_pure (x : NodeG) (hx : litB 8 x = true) (hm : (leavesL 8 x).length ≤ 1000) : PureC Tryz.prog gN 74 [nodeA 9 x] (.tup [.rof (negL 8 x).length (fun k => .bool ((negL 8 x).getD k false)) false, .int .i64 (sndE x)]) := by
 refine pure_vcE (E := ERA (leavesL 8 x)) (k := 20) (d := 4) mix (ERA_ok _) ((negR_vc x _ _).mpr ?_)
 simp only [isNode_of hx (show 8 < 9 by decide), nodeOf_of hx (show 8 < 9 by decide)]
 simp only [nodeA_refl, EqI, true_and, and_true, imp_self, implies_true, Int.toNat_natCast, Nat.zero_add, or_self, NB_t, Bool.and_self]
 refine VB_intro (fun h => ?_) (fun h => NB_intro (decide_eq_true hm) ⟨⟨(0, 0), Nat.zero_le _, ⟨⟨rfl, rfl⟩, rfl⟩, rfl⟩, fun p hp => VB_intro (fun h1 => ?_) (fun h1 => ?_)⟩)
 ·have h : sndE x ≠ 0 := by simpa using h
  simp [negL, sndE_n h]
 ·obtain ⟨i, gen⟩ := p
  have hlt : i < (leavesL 8 x).length := by have := of_decide_eq_true h1; simp only at this; omega
  refine NB_intro (decide_eq_true (by simp only; omega)) (NB_intro (by simp only [Bool.true_and, decide_true, room]; exact decide_eq_true (by show (i + 1) * 1 ≤ _ ∧ i + 1 ≤ _; omega)) ⟨(i + 1, gen + 1), hlt, by simp only [invRN]; omega, ⟨⟨rfl, rfl⟩, by simp only; rw [wrap_i64_id (by omega) (by omega)]; omega⟩, rfl, rfl, fun q hq => ?_⟩)
  exact row_at (F := AV.bool) (f := fun k => nk ((leavesL 8 x).getD k treeD) == 2) (n := i) hq (fun a => by simp [AV.sub])
 ·obtain ⟨i, gen⟩ := p
  have hp : i ≤ (leavesL 8 x).length := hp
  have hie : i = (leavesL 8 x).length := by have := of_decide_eq_false h1; simp only at this; omega
  subst hie
  have h : sndE x = 0 := by simpa using h
  have hN : negL 8 x = (leavesL 8 x).map fun y => decide (nk y = 2) := by unfold negL; rw [if_pos (sndE_0 h)]
  rw [hN, h]
  refine NB_intro (by simp) ⟨⟨by simp, fun q hq => ⟨?_, rfl⟩, fun h => by cases h⟩, rfl⟩
  rw [map_get (d := treeD) hq]
  exact Bool.beq_eq_decide_eq _ _
theorem atomsR_pure (x : NodeG) (hx : litB 8 x = true) (hm : (leavesL 8 x).length ≤ 1000) : PureC Tryz.prog gN 46 [nodeA 9 x] (.tup [.rof (atomsL 8 x).length (fun k => atomA ((atomsL 8 x).getD k atomD)) false, .int .i64 (sndE x)]) := by
 refine pure_vcE (E := ERA (leavesL 8 x)) (k := 20) (d := 4) mix (ERA_ok _) ((atomsR_vc x _ _).mpr ?_)
 simp only [isNode_of hx (show 8 < 9 by decide), nodeOf_of hx (show 8 < 9 by decide)]
 simp only [nodeA_refl, EqI, true_and, and_true, imp_self, implies_true, Int.toNat_natCast, Nat.zero_add, or_self, NB_t, Bool.and_self]
 refine VB_intro (fun h => ?_) (fun h => NB_intro (decide_eq_true hm) ⟨⟨(0, 0), Nat.zero_le _, ⟨⟨rfl, rfl⟩, rfl⟩, rfl⟩, fun p hp => VB_intro (fun h1 => ?_) (fun h1 => ?_)⟩)
 ·have h : sndE x ≠ 0 := by simpa using h
  simp [atomsL, sndE_n h]
 ·obtain ⟨i, gen⟩ := p
  have hlt : i < (leavesL 8 x).length := by have := of_decide_eq_true h1; simp only at this; omega
  have hc : (ac (nat ((leavesL 8 x).getD i treeD))).length ≤ 10 := leaves_conds 8 x hx _ (by rw [List.getD_eq_getElem?_getD, List.getElem?_eq_getElem hlt]; exact List.getElem_mem hlt)
  refine NB_intro (decide_eq_true (by simp only; omega)) (NB_intro ?_ (NB_intro (by simp only [Bool.true_and, decide_true, room]; exact decide_eq_true (by show (i + 1) * 64 ≤ _ ∧ i + 1 ≤ _; omega)) ⟨(i + 1, gen + 1), hlt, by simp only [invRA]; omega, ⟨⟨rfl, rfl⟩, by simp only; rw [wrap_i64_id (by omega) (by omega)]; omega⟩, rfl, rfl, fun q hq => ?_⟩))
  ·simp only [Bool.true_and, Bool.or_true, Bool.and_true, room]
   exact decide_eq_true (by show (ac (nat ((leavesL 8 x).getD i treeD))).length * 16 ≤ _ ∧ (ac (nat ((leavesL 8 x).getD i treeD))).length ≤ _; omega)
  ·exact row_at (F := atomA) (f := fun k => nat ((leavesL 8 x).getD k treeD)) (n := i) hq atomA_refl
 ·obtain ⟨i, gen⟩ := p
  have hp : i ≤ (leavesL 8 x).length := hp
  have hie : i = (leavesL 8 x).length := by have := of_decide_eq_false h1; simp only at this; omega
  subst hie
  have h : sndE x = 0 := by simpa using h
  have hN : atomsL 8 x = (leavesL 8 x).map nat := by unfold atomsL; rw [if_pos (sndE_0 h)]
  rw [hN, h]
  refine NB_intro (by simp) ⟨⟨by simp, fun q hq => ?_, fun h => by cases h⟩, rfl⟩
  rw [map_get (d := treeD) hq]
  exact ⟨atomA_refl _, rfl⟩
theorem elems_few : ∀ (d : Nat) (e : Int) (x : NodeG), weighS d x ≤ 40 → ((elems d e x).length : Int) ≤ weighS d x
 | 0, _, _, h => by simp [weighS] at h
 | d + 1, e, x, h => by
  rw [elems_len]
  rw [weighS] at h ⊢
  split at h
  ·omega
  ·rename_i hc
   rw [if_neg hc]
   have mono : ∀ n, n ≤ x.kids.length → wsum (weighS d) x.kids n ≤ 40 := by
    intro n hn
    rcases (by omega : 40 < wsum (weighS d) x.kids n ∨ wsum (weighS d) x.kids n ≤ 40) with h1 | h1
    ·have := wsum_stay h1 (x.kids.length - n)
     rw [show n + (x.kids.length - n) = x.kids.length by omega] at this
     omega
    ·exact h1
   have key : ∀ n, n ≤ x.kids.length → (((1 + cntK d (e + 1) x.kids n : Nat)) : Int) ≤ wsum (weighS d) x.kids n := by
    intro n hn
    induction n with
    | zero => exact Int.le_refl _
    | succ n ih =>
     have h1 := ih (by omega)
     have h2 := mono (n + 1) hn
     have h3 := mono n (by omega)
     rw [wsum, if_pos h3] at h2 ⊢
     have h4 := (wsum_bounds d x n).1
     have h5 := elems_few d (e + 1) (x.kids.getD n treeD) (by omega)
     rw [cntK_succ (by omega)]
     omega
   exact key _ (Nat.le_refl _)
end Go.Proofs.YtamcloifhjafcaaGreatDoor
