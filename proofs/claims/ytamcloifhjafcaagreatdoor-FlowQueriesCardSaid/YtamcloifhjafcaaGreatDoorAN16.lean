/- NODES 16: the iterator of nodes, contract. -/
import Derived.Test.YtamcloifhjafcaaGreatDoorAN15
namespace Go.Proofs.YtamcloifhjafcaaGreatDoor
open Pw Go
set_option maxRecDepth 100000
set_option linter.unusedSimpArgs false
theorem node_subA : ∀ (g f : Nat) (y : AV), isNodeS g y = true → y.sub (nodeA f (nodeOf g y))
 | 0, _, _, h => by cases h
 | g + 1, 0, y, h => by
  unfold isNodeS at h
  split at h
  ·simp [treeA, AV.sub, AV.subL, List.replicate]
  ·cases h
 | g + 1, f + 1, y, h => by
  unfold isNodeS at h
  split at h
  ·rename_i g' a b c k bd bo cs nm ks hg
   cases hg
   rw [Bool.and_eq_true] at h
   exact subL9 (int_sub _ _) (int_sub _ _) (int_sub _ _) (int_sub _ _) (bool_sub _) (int_sub _ _) (els_sub cond_sub h.1) (AV.str_sub _)
    (els_sub (fun y hy => ⟨node_subA g f y hy, by rw [isNodeS_cells g y hy, nodeA_cells]⟩) h.2)
  ·cases h
theorem IterC.caps {P : Program} {gl : Nat → AV} {h : FuncId} {first cap cap' : List AV} {it : Itr} (hs : AV.subL cap cap') (hi : IterC P gl h first cap' it) : IterC P gl h first cap it :=
 fun M W fs cs sp k C T hG hM hf hc => hi M W fs cs sp k C T hG hM hf (hc.subL hs)
theorem flat_get {α : Type} (d : α) : ∀ (L : List (List α)) (i j : Nat), i < L.length → j < (L.getD i []).length → L.flatten.getD ((L.take i).flatten.length + j) d = (L.getD i []).getD j d
 | [], _, _, h, _ => by simp at h
 | a :: L, 0, j, _, h => by
  have h : j < a.length := h
  simp [List.getD, List.getElem?_append_left h]
 | a :: L, i + 1, j, h, h2 => by
  have := flat_get d L i j (by simpa using h) (by simpa using h2)
  simp only [List.take_succ_cons, List.flatten_cons, List.length_append]
  rw [show a.length + (List.take i L).flatten.length + j = a.length + ((List.take i L).flatten.length + j) by omega]
  rw [List.getD_eq_getElem?_getD, List.getElem?_append_right (by omega), Nat.add_sub_cancel_left, ← List.getD_eq_getElem?_getD, this]
  rfl
theorem flat_len {α : Type} : ∀ (L : List (List α)) (i : Nat), i < L.length → (L.take (i + 1)).flatten.length = (L.take i).flatten.length + (L.getD i []).length
 | [], _, h => by simp at h
 | a :: L, 0, _ => by simp
 | a :: L, i + 1, h => by
  have := flat_len L i (by simpa using h)
  simp only [List.take_succ_cons, List.flatten_cons, List.length_append] at this ⊢
  rw [this]
  simp
  omega
theorem map_getD {g : Nat} {d : Int} {l : List NodeG} {i : Nat} (hi : i < l.length) : (l.map (elems g d)).getD i [] = elems g d (l.getD i treeD) := by simp [List.getD, hi]
theorem cntK_succ {g : Nat} {d : Int} {l : List NodeG} {i : Nat} (hi : i < l.length) : cntK g d l (i + 1) = cntK g d l i + (elems g d (l.getD i treeD)).length := by
 have := flat_len (l.map (elems g d)) i (by simpa using hi)
 rw [map_getD hi] at this
 simp only [cntK, List.map_take]
 exact this
theorem cntK_mono {g : Nat} {d : Int} {l : List NodeG} {i : Nat} : ∀ (k : Nat), i + k ≤ l.length → cntK g d l i ≤ cntK g d l (i + k)
 | 0, _ => Nat.le_refl _
 | k + 1, h => by
  have h1 := cntK_mono (g := g) (d := d) (l := l) (i := i) k (by omega)
  have h2 := cntK_succ (g := g) (d := d) (l := l) (i := i + k) (by omega)
  rw [show i + (k + 1) = i + k + 1 by omega, h2]
  omega
theorem cntK_le {g : Nat} {d : Int} {l : List NodeG} {i : Nat} (hi : i < l.length) : cntK g d l i + (elems g d (l.getD i treeD)).length ≤ cntK g d l l.length := by
 rw [← cntK_succ hi]
 have := cntK_mono (g := g) (d := d) (l := l) (i := i + 1) (l.length - (i + 1)) (by omega)
 rw [show i + 1 + (l.length - (i + 1)) = l.length by omega] at this
 exact this
theorem elems_len {g : Nat} {d : Int} {x : NodeG} : (elems (g + 1) d x).length = 1 + cntK g (d + 1) x.kids x.kids.length := by
 simp [elems, cntK]
 omega
theorem elems_get {g : Nat} {d : Int} {x : NodeG} {i j : Nat} (hi : i < x.kids.length) (hj : j < (elems g (d + 1) (x.kids.getD i treeD)).length) :
  (elems (g + 1) d x).getD (1 + cntK g (d + 1) x.kids i + j) (0, treeD) = (elems g (d + 1) (x.kids.getD i treeD)).getD j (0, treeD) := by
 have := flat_get ((0, treeD) : Int × NodeG) (x.kids.map (elems g (d + 1))) i j (by simpa using hi) (by rw [map_getD hi]; exact hj)
 rw [map_getD hi] at this
 rw [← this]
 simp only [elems, cntK, List.map_take]
 rw [show 1 + (List.take i (List.map (elems g (d + 1)) x.kids)).flatten.length + j = ((List.take i (List.map (elems g (d + 1)) x.kids)).flatten.length + j) + 1 by omega]
 rfl
theorem subL_el {d : Int} {f : Nat} {x : NodeG} (h : 4 ≤ f) : AV.subL [.int .i64 d, nodeA f x] [.int .i64 d, nodeA 4 x] := ⟨by simp [AV.sub], nodeA_sub' h x, trivial⟩
theorem itV_ok {g : Nat} (h : ∀ (d : Int) (x : NodeG), litB g x = true → 0 ≤ d → d + (g : Int) ≤ 1000 → IterC Tryz.prog gN 87 [] [.rptr (.int .i64 d) 0, .rptr (nodeA (g + 4) x) 0] (itOf g d x true)) :
  ∀ f first cap it, itV g f first cap = some it → it.nd = true → IterC Tryz.prog gN f first cap it := by
 intro f first cap it e hnd
 unfold itV at e
 split at e
 ·rename_i hf
  subst hf
  split at e
  ·rename_i d n
   unfold reN at e
   split at e
   ·rename_i a b c k bd bo cn cf e1 nm kn kf e2
    cases e
    simp only [itOf, Bool.and_eq_true, decide_eq_true_eq] at hnd
    obtain ⟨⟨h1, h2⟩, h3⟩ := hnd
    simp only [h1, h2, h3, decide_true, Bool.and_self]
    rw [isNode, Bool.and_eq_true] at h1
    have hs := node_subA g (g + 4) _ h1.1
    refine IterC.caps (cap' := [.rptr (.int .i64 d) 0, .rptr (nodeA (g + 4) (nodeOf g (.agg [.int .i64 a, .int .i64 b, .int .i64 c, .int .i64 k, .bool bd, .int .u64 bo, .rof cn cf e1, .str nm, .rof kn kf e2]))) 0]) ⟨⟨⟨by simp [AV.sub], rfl⟩, rfl⟩, ⟨⟨hs, by rw [nodeA_cells]; rfl⟩, rfl⟩, trivial⟩ (h d _ h1.2 h2 h3)
   ·cases e
  ·cases e
 ·cases e
theorem EV_ok {g : Nat} {d : Int} {x : NodeG} (h : ∀ (d : Int) (x : NodeG), litB g x = true → 0 ≤ d → d + (g : Int) ≤ 1000 → IterC Tryz.prog gN 87 [] [.rptr (.int .i64 d) 0, .rptr (nodeA (g + 4) x) 0] (itOf g d x true)) : CtrOK (EV g d x) :=
 ⟨(mkG_ctr (P := Tryz.prog) (gl := gN) (inv := fun _ _ => none) (n := 0) (tblG_nil _ _)).1, itV_ok h⟩
end Go.Proofs.YtamcloifhjafcaaGreatDoor
namespace Go.Proofs.YtamcloifhjafcaaGreatDoor
open Pw Go
set_option maxRecDepth 100000
set_option linter.unusedSimpArgs false
theorem visit_iter : ∀ (g : Nat) (d : Int) (x : NodeG), litB g x = true → 0 ≤ d → d + (g : Int) ≤ 1000 → IterC Tryz.prog gN 87 [] [.rptr (.int .i64 d) 0, .rptr (nodeA (g + 4) x) 0] (itOf g d x true)
 | 0, _, _, h, _, _ => by cases h
 | g + 1, d, x, hl, h0, h1 => by
  refine IterC.of_vc (E := EV g d x) (n := 20) mix (EV_ok (visit_iter g)) rfl rfl rfl rfl fun l n0 M0 Φ Ψ => (visit_vc g d x l n0 M0 Φ Ψ).mpr ?_
  have hw : IntKind.i64.wrap (d + 1) = d + 1 := wrap_i64_id (by omega) (by omega)
  have hk40 := litB_kids hl
  have hE := elems_len (g := g) (d := d) (x := x)
  simp only [nodeA_refl, EqI, true_and, and_true, imp_self, implies_true, Int.toNat_natCast, hw]
  have e0 : cntK g (d + 1) x.kids 0 = 0 := rfl
  refine ⟨⟨by omega, subL_el (by omega)⟩, ⟨0, Nat.zero_le _, rfl, by rw [e0]⟩, fun i hi => VB_intro (fun h => ?_) (fun h => ?_)⟩
  ·have hlt : i < x.kids.length := by have := of_decide_eq_true h; omega
   have hkl := litB_kid hl hlt
   have hle := cntK_le (g := g) (d := d + 1) hlt
   have hsu := cntK_succ (g := g) (d := d + 1) hlt
   rw [isNode_of hkl (by omega), nodeOf_of hkl (by omega)]
   refine NB_intro (decide_eq_true (by omega)) (NB_intro (by simp; omega) ⟨⟨0, Nat.zero_le _, rfl, rfl⟩, fun j ⟨hj1, hj2⟩ => ?_, fun j ⟨hj1, hj2⟩ => ?_⟩)
   ·have hj2 : j < (elems g (d + 1) (x.kids.getD i treeD)).length := hj2
    refine ⟨⟨by omega, ?_⟩, j + 1, hj2, rfl, by omega⟩
    rw [elems_get hlt hj2]
    exact subL_el (Nat.le_refl _)
   ·have hj2 : j = (elems g (d + 1) (x.kids.getD i treeD)).length := hj2
    exact ⟨i + 1, hlt, by simp only [invV]; omega, by rw [wrap_i64_id (by omega) (by omega)]; omega, by omega⟩
  ·have hie : i = x.kids.length := by have := of_decide_eq_false h; have hi : i ≤ x.kids.length := hi; omega
   subst hie
   exact hE.symm
end Go.Proofs.YtamcloifhjafcaaGreatDoor
