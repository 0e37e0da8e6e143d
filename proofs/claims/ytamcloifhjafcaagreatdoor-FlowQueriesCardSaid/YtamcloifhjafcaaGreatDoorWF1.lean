/- WELL-FORMED 1: the iterator of nodes, conditions. -/
import Derived.Test.YtamcloifhjafcaaGreatDoorAN23
namespace Go.Proofs.YtamcloifhjafcaaGreatDoor
open Pw Go
set_option maxRecDepth 100000
set_option linter.unusedSimpArgs false
def nds : Nat → NodeG → List NodeG
 | 0, _ => []
 | g + 1, x => x :: (x.kids.map (nds g)).flatten
def itW (g : Nat) (x : NodeG) (nd : Bool) (v1 v2 : AV) : Itr := ⟨nd, (nds g x).length, fun j => [nodeA 4 ((nds g x).getD j treeD)], v1, v2⟩
def itWV (g : Nat) : FuncId → List AV → List AV → Option Itr := fun h first cap =>
 if h = 112 then
  match first, cap with
  | [n], [] => reN n fun n => some (itW g (nodeOf g n) (isNode g n) (.bool true) (.bool false))
  | _, _ => none
 else none
def cntN (g : Nat) (l : List NodeG) (i : Nat) : Nat := ((l.take i).map (nds g)).flatten.length
def invWv (g : Nat) (x : NodeG) (sp : AbsS) : Inv := ⟨Nat, 50, fun i => ⟨[(1, .yld 0), (12, kidsA (g + 4) x), (13, .int .i64 x.kids.length), (14, .int .i64 i)],
 [(0, .loop (.abs (1 + cntN g x.kids i) true sp) noRec)]⟩, fun i => i ≤ x.kids.length, fun i => x.kids.length - i⟩
noncomputable def EWV (g : Nat) (x : NodeG) : Env := { mkG Tryz.prog gN (tblOf []) (fun _ _ => none) 0 with itr := itWV g, invS := fun f b s => if f = 112 ∧ b = 0 then match spOf s with | some sp => some (invWv g x sp) | none => none else none }
theorem visitW_vc (g : Nat) (x : NodeG) (l n0 : Nat) (M0 : Nat → Nat → Option Value) (Φ Ψ : Nat → (Nat → Prop) → (Nat → Prop) → World → Prop) : (vcFun (EWV g x) 20 112 [nodeA (g + 5) x, .yld 0] (.node (.loop (.abs 0 true (AbsS.of Tryz.prog (itW (g + 1) x true (.bool true) (.bool false)) l n0 M0 Φ Ψ)) noRec) .nil .nil) 1 (retI (itW (g + 1) x true (.bool true) (.bool false)))).sat = ( (Tryz.prog = Tryz.prog ∧ (0 : Nat) < (nds (g + (1 : Nat)) x).length ∧ AV.subL [nodeA (g + (5 : Nat)) x] [nodeA (4 : Nat) x]) ∧ ((∃ (i : Nat), i.le (TreeG.kids x).length ∧ ((0 : Nat) = (0 : Nat) ∧ ((TreeG.kids x).length = (TreeG.kids x).length ∧ (∀ (i : Nat), i < (TreeG.kids x).length → (nodeA (g + (4 : Nat)) ((TreeG.kids x).getD i treeD)).sub (nodeA (g + (4 : Nat)) ((TreeG.kids x).getD i treeD)) ∧ (nodeA (g + (4 : Nat)) ((TreeG.kids x).getD i treeD)).cells.length = (nodeA (g + (4 : Nat)) ((TreeG.kids x).getD i treeD)).cells.length) ∧ (false = true → false = true)) ∧ (↑(TreeG.kids x).length : Int) = (↑(TreeG.kids x).length : Int) ∧ (0 : Int) = (↑i : Int) ∧ True) ∧ ((0 : Nat) + (1 : Nat) = (1 : Nat) + cntN g (TreeG.kids x) i ∧ true = true ∧ AbsS.of Tryz.prog (itW (g + (1 : Nat)) x true (AV.bool true) (AV.bool false)) l n0 M0 Φ Ψ = AbsS.of Tryz.prog (itW (g + (1 : Nat)) x true (AV.bool true) (AV.bool false)) l n0 M0 Φ Ψ) ∧ True) ∧ ∀ (i : Nat), i.le (TreeG.kids x).length → VB (decide ((↑i : Int) < (↑(TreeG.kids x).length : Int))) (NB (decide ((0 : Int) ≤ (↑i : Int) ∧ (↑i : Int) < (↑(TreeG.kids x).length : Int))) (NB (true && isNode g (nodeA (g + (4 : Nat)) ((TreeG.kids x).getD (↑i : Int).toNat treeD))) ((Tryz.prog = Tryz.prog ∧ (1 : Nat) + cntN g (TreeG.kids x) i + (nds g (nodeOf g (nodeA (g + (4 : Nat)) ((TreeG.kids x).getD (↑i : Int).toNat treeD)))).length ≤ (nds (g + (1 : Nat)) x).length ∧ ∀ (j : Nat), j < (nds g (nodeOf g (nodeA (g + (4 : Nat)) ((TreeG.kids x).getD (↑i : Int).toNat treeD)))).length → AV.subL ((itW g (nodeOf g (nodeA (g + (4 : Nat)) ((TreeG.kids x).getD (↑i : Int).toNat treeD))) (isNode g (nodeA (g + (4 : Nat)) ((TreeG.kids x).getD (↑i : Int).toNat treeD))) (AV.bool true) (AV.bool false)).el j) [nodeA (4 : Nat) ((nds (g + (1 : Nat)) x).getD ((1 : Nat) + cntN g (TreeG.kids x) i + j) treeD)]) ∧ (∃ (i' : Nat), i'.le (TreeG.kids x).length ∧ (invWv g x (AbsS.of Tryz.prog (itW (g + (1 : Nat)) x true (AV.bool true) (AV.bool false)) l n0 M0 Φ Ψ)).μ i' < (invWv g x (AbsS.of Tryz.prog (itW (g + (1 : Nat)) x true (AV.bool true) (AV.bool false)) l n0 M0 Φ Ψ)).μ i ∧ ((0 : Nat) = (0 : Nat) ∧ ((TreeG.kids x).length = (TreeG.kids x).length ∧ (∀ (i : Nat), i < (TreeG.kids x).length → (nodeA (g + (4 : Nat)) ((TreeG.kids x).getD i treeD)).sub (nodeA (g + (4 : Nat)) ((TreeG.kids x).getD i treeD)) ∧ (nodeA (g + (4 : Nat)) ((TreeG.kids x).getD i treeD)).cells.length = (nodeA (g + (4 : Nat)) ((TreeG.kids x).getD i treeD)).cells.length) ∧ (false = true → false = true)) ∧ (↑(TreeG.kids x).length : Int) = (↑(TreeG.kids x).length : Int) ∧ IntKind.i64.wrap ((↑i : Int) + (1 : Int)) = (↑i' : Int) ∧ True) ∧ ((1 : Nat) + cntN g (TreeG.kids x) i + (nds g (nodeOf g (nodeA (g + (4 : Nat)) ((TreeG.kids x).getD (↑i : Int).toNat treeD)))).length = (1 : Nat) + cntN g (TreeG.kids x) i' ∧ true = true ∧ AbsS.of Tryz.prog (itW (g + (1 : Nat)) x true (AV.bool true) (AV.bool false)) l n0 M0 Φ Ψ = AbsS.of Tryz.prog (itW (g + (1 : Nat)) x true (AV.bool true) (AV.bool false)) l n0 M0 Φ Ψ) ∧ True) ∧ ∀ (i : Nat), false = false))) (true = true ∧ (1 : Nat) + cntN g (TreeG.kids x) i = (nds (g + (1 : Nat)) x).length)) ∧ false = false) := by
 kernel_rfl
end Go.Proofs.YtamcloifhjafcaaGreatDoor
namespace Go.Proofs.YtamcloifhjafcaaGreatDoor
open Pw Go
set_option maxRecDepth 100000
set_option linter.unusedSimpArgs false
theorem mapN_get {g : Nat} {l : List NodeG} {i : Nat} (hi : i < l.length) : (l.map (nds g)).getD i [] = nds g (l.getD i treeD) := by simp [List.getD, hi]
theorem cntN_succ {g : Nat} {l : List NodeG} {i : Nat} (hi : i < l.length) : cntN g l (i + 1) = cntN g l i + (nds g (l.getD i treeD)).length := by
 have := flat_len (l.map (nds g)) i (by simpa using hi)
 rw [mapN_get hi] at this
 simp only [cntN, List.map_take]
 exact this
theorem cntN_mono {g : Nat} {l : List NodeG} {i : Nat} : ∀ (k : Nat), i + k ≤ l.length → cntN g l i ≤ cntN g l (i + k)
 | 0, _ => Nat.le_refl _
 | k + 1, h => by
  have h1 := cntN_mono (g := g) (l := l) (i := i) k (by omega)
  have h2 := cntN_succ (g := g) (l := l) (i := i + k) (by omega)
  rw [show i + (k + 1) = i + k + 1 by omega, h2]
  omega
theorem cntN_le {g : Nat} {l : List NodeG} {i : Nat} (hi : i < l.length) : cntN g l i + (nds g (l.getD i treeD)).length ≤ cntN g l l.length := by
 rw [← cntN_succ hi]
 have := cntN_mono (g := g) (l := l) (i := i + 1) (l.length - (i + 1)) (by omega)
 rw [show i + 1 + (l.length - (i + 1)) = l.length by omega] at this
 exact this
theorem nds_len {g : Nat} {x : NodeG} : (nds (g + 1) x).length = 1 + cntN g x.kids x.kids.length := by
 simp [nds, cntN]
 omega
theorem nds_get {g : Nat} {x : NodeG} {i j : Nat} (hi : i < x.kids.length) (hj : j < (nds g (x.kids.getD i treeD)).length) :
  (nds (g + 1) x).getD (1 + cntN g x.kids i + j) treeD = (nds g (x.kids.getD i treeD)).getD j treeD := by
 have := flat_get (treeD : NodeG) (x.kids.map (nds g)) i j (by simpa using hi) (by rw [mapN_get hi]; exact hj)
 rw [mapN_get hi] at this
 rw [← this]
 simp only [nds, cntN, List.map_take]
 rw [show 1 + (List.take i (List.map (nds g) x.kids)).flatten.length + j = ((List.take i (List.map (nds g) x.kids)).flatten.length + j) + 1 by omega]
 rfl
theorem reN_some {n : AV} {K : AV → Option Itr} {it : Itr} (h : reN n K = some it) : K n = some it := by
 unfold reN at h
 split at h
 ·exact h
 ·cases h
theorem IterC.firsts {P : Program} {gl : Nat → AV} {h : FuncId} {first first' cap : List AV} {it : Itr} (hs : AV.subL first first') (hi : IterC P gl h first' cap it) : IterC P gl h first cap it :=
 fun M W fs cs sp k C T hG hM hf hc => hi M W fs cs sp k C T hG hM (hf.subL hs) hc
theorem itWV_ok {g : Nat} (h : ∀ x : NodeG, litB g x = true → IterC Tryz.prog gN 112 [nodeA (g + 4) x] [] (itW g x true (.bool true) (.bool false))) :
  ∀ f first cap it, itWV g f first cap = some it → it.nd = true → IterC Tryz.prog gN f first cap it := by
 intro f first cap it e hnd
 unfold itWV at e
 split at e
 ·rename_i hf
  subst hf
  split at e
  ·rename_i n
   have e := reN_some e
   cases e
   have h1 : isNode g n = true := hnd
   have h2 := h1
   rw [isNode, Bool.and_eq_true] at h2
   have hs := node_subA g (g + 4) _ h2.1
   rw [h1]
   refine IterC.firsts (first' := [nodeA (g + 4) (nodeOf g n)]) ⟨hs, trivial⟩ (h _ h2.2)
  ·cases e
 ·cases e
theorem EWV_ok {g : Nat} {x : NodeG} (h : ∀ x : NodeG, litB g x = true → IterC Tryz.prog gN 112 [nodeA (g + 4) x] [] (itW g x true (.bool true) (.bool false))) : CtrOK (EWV g x) :=
 ⟨(mkG_ctr (P := Tryz.prog) (gl := gN) (inv := fun _ _ => none) (n := 0) (tblG_nil _ _)).1, itWV_ok h⟩
theorem subL_nd {f : Nat} {x : NodeG} (h : 4 ≤ f) : AV.subL [nodeA f x] [nodeA 4 x] := ⟨nodeA_sub' h x, trivial⟩
theorem visitW_iter : ∀ (g : Nat) (x : NodeG), litB g x = true → IterC Tryz.prog gN 112 [nodeA (g + 4) x] [] (itW g x true (.bool true) (.bool false))
 | 0, _, h => by cases h
 | g + 1, x, hl => by
  refine IterC.of_vc (E := EWV g x) (n := 20) mix (EWV_ok (visitW_iter g)) rfl rfl rfl rfl fun l n0 M0 Φ Ψ => (visitW_vc g x l n0 M0 Φ Ψ).mpr ?_
  have hk40 := litB_kids hl
  have hE := nds_len (g := g) (x := x)
  simp only [nodeA_refl, EqI, true_and, and_true, imp_self, implies_true, Int.toNat_natCast]
  have e0 : cntN g x.kids 0 = 0 := rfl
  refine ⟨⟨by omega, subL_nd (by omega)⟩, ⟨0, Nat.zero_le _, rfl, by rw [e0]⟩, fun i hi => VB_intro (fun h => ?_) (fun h => ?_)⟩
  ·have hlt : i < x.kids.length := by have := of_decide_eq_true h; omega
   have hkl := litB_kid hl hlt
   have hle := cntN_le (g := g) hlt
   have hsu := cntN_succ (g := g) hlt
   rw [isNode_of hkl (by omega), nodeOf_of hkl (by omega)]
   refine NB_intro (decide_eq_true (by omega)) (NB_intro rfl ⟨⟨by omega, fun j hj => ?_⟩, i + 1, hlt, by simp only [invWv]; omega, by rw [wrap_i64_id (by omega) (by omega)]; omega, by omega⟩)
   rw [nds_get hlt hj]
   exact subL_nd (Nat.le_refl _)
  ·have hie : i = x.kids.length := by have := of_decide_eq_false h; have hi : i ≤ x.kids.length := hi; omega
   subst hie
   exact hE.symm
end Go.Proofs.YtamcloifhjafcaaGreatDoor
