/- FLOW 1: the query of numbers as a value; what a query reads: conditions. -/
import Derived.Test.YtamcloifhjafcaaDoorKQ6
namespace Go.Proofs.YtamcloifhjafcaaDoor
open Pw Go
set_option maxRecDepth 100000
set_option linter.unusedSimpArgs false
theorem nodeA_up : ∀ (g f f' : Nat) (x : NodeG), depN g x → g ≤ f → g ≤ f' → (nodeA f x).sub (nodeA f' x)
 | 0, _, _, _, h, _, _ => h.elim
 | g + 1, f + 1, f' + 1, x, h, hf, hf' =>
  subL9 (int_sub _ _) (int_sub _ _) (int_sub _ _) (int_sub _ _) (bool_sub _) (int_sub _ _) ⟨rfl, fun i _ => ⟨⟨rfl, rfl, trivial⟩, rfl⟩, fun h => h⟩ (AV.str_sub _)
   ⟨rfl, fun i hi => ⟨nodeA_up g f f' _ (h i hi) (by omega) (by omega), by rw [nodeA_cells, nodeA_cells]⟩, fun h => h⟩
theorem dep_leaf (g : Nat) (k p : Int) : depN (g + 1) (leafG k p) := fun i hi => absurd hi (Nat.not_lt_zero i)
theorem dep_pc (g : Nat) {x : NodeG} (h : Pc 9 x) : depN (g + 2) x := by
 intro i hi
 obtain ⟨k, p, e, _⟩ := pc_kids h _ (getD_mem (d := treeD) hi)
 rw [e]
 exact dep_leaf g k p
theorem kq_up (l : List Int) : (qA3 (kqX l) (kqW l) (kqHs l) (kqEs l)).sub (qA (kqX l) (kqW l) (kqHs l) (kqEs l)) := by
 have hk : ∀ i, i < (kqX l).kids.length → (nodeA 2 ((kqX l).kids.getD i treeD)).sub (nodeA 15 ((kqX l).kids.getD i treeD)) := by
  intro i hi
  refine nodeA_up 2 2 15 _ ?_ (by omega) (by omega)
  rcases kqX_cases l with ⟨x, e, h, _⟩ | ⟨K, e, _, _, _, h, _⟩
  ·rw [e] at hi ⊢
   obtain ⟨k, p, e, _⟩ := pc_kids h _ (getD_mem (d := treeD) hi)
   rw [e]
   exact dep_leaf 1 k p
  ·rw [e] at hi ⊢
   exact dep_pc 0 (h _ (getD_mem (d := treeD) hi))
 have := qA_refl (kqX l) (kqW l) (kqHs l) (kqEs l)
 refine ⟨int_sub _ _, int_sub _ _, int_sub _ _, int_sub _ _, bool_sub _, int_sub _ _, ⟨rfl, fun i _ => ⟨⟨rfl, rfl, trivial⟩, rfl⟩, fun h => h⟩, AV.str_sub _, ⟨rfl, fun i hi => ⟨hk i hi, by rw [nodeA_cells, nodeA_cells]⟩, fun h => h⟩, int_sub _ _, ?_, ?_, trivial⟩
 ·exact ⟨rfl, fun _ _ => ⟨⟨int_sub _ _, AV.str_sub _, int_sub _ _, int_sub _ _, trivial⟩, rfl⟩, fun h => h⟩
 ·exact ⟨rfl, fun _ _ => ⟨⟨int_sub _ _, AV.str_sub _, trivial⟩, rfl⟩, fun h => h⟩
theorem leafK_ok : PureG Tryd.prog gN 55 cLfK := by
 intro args nd v he hnd
 unfold cLfK at he
 split at he <;> cases he
 have hnd := of_decide_eq_true hnd
 rw [hide_eq]
 exact leafK_pure 2 ⟨hnd.1, hnd.2.1⟩ ⟨hnd.2.2.1, hnd.2.2.2⟩
theorem EKQ_ok (l : List Int) : CtrOK (EKQ l (kqX l) (qNn l)) :=
 ⟨(mkG_ctr (P := Tryd.prog) (gl := gN) (inv := fun _ _ => none) (n := 0) (tblG_cons mod_ok (tblG_cons (cAt_ok (by have := at_ok l 4; rwa [if_neg (by decide)] at this)) (tblG_cons leafK_ok (tblG_nil _ _))))).1, itr_none rfl⟩
theorem PureC.result' {P : Program} {gl : Nat → AV} {f : FuncId} {args : List AV} {v v' : AV} (h : PureC P gl f args v) (hs : v.sub v') : PureC P gl f args v' := fun M W vals hG hM hA => by
 obtain ⟨h1, h2⟩ := h M W vals hG hM hA
 exact ⟨h1, h2.mono fun e W' ⟨u, M', k1, k2, k3⟩ => ⟨u, M', k1, k2.sub v' hs, k3⟩⟩
theorem query_pure (l : List Int) (hl : ∀ i, -9223372036854775808 ≤ l.getD i 0 ∧ l.getD i 0 ≤ 9223372036854775807) : PureC Tryd.prog gN 21 [iqA l] (qA (kqX l) (kqW l) (kqHs l) (kqEs l)) :=
 PureC.result' (pure_vcE (E := EKQ l (kqX l) (qNn l)) (k := 20) (d := 4) mix (EKQ_ok l) (query_sat l hl)) (kq_up l)
def atR (a : AtomG) (c : Int) : Int := if a.2.1 = true then a.2.2.1 else c
end Go.Proofs.YtamcloifhjafcaaDoor
namespace Go.Proofs.YtamcloifhjafcaaDoor
open Pw Go
set_option maxRecDepth 100000
set_option linter.unusedSimpArgs false
section
variable {x : NodeG} (w : Int) {hs : List HaveG} {es : List AggG} (hq : LtW x hs es)
end
end Go.Proofs.YtamcloifhjafcaaDoor
namespace Go.Proofs.YtamcloifhjafcaaDoor
open Pw Go
set_option maxRecDepth 100000
set_option linter.unusedSimpArgs false
section
variable {x : NodeG} (w : Int) {hs : List HaveG} {es : List AggG} (hq : LtW x hs es) (h0 : wfE x w hs es = 0)
include hq h0
end
def ok64 (l : List Int) : Prop := ∀ i, -9223372036854775808 ≤ l.getD i 0 ∧ l.getD i 0 ≤ 9223372036854775807
theorem ok64_of {l : List Int} (h : ∀ k, k < l.length → -9223372036854775808 ≤ l.getD k 0 ∧ l.getD k 0 ≤ 9223372036854775807) : ok64 l := fun i => by
 rcases Nat.lt_or_ge i l.length with hi | hi
 ·exact h i hi
 ·rw [List.getD_eq_getElem?_getD, List.getElem?_eq_none hi]
  decide
end Go.Proofs.YtamcloifhjafcaaDoor
