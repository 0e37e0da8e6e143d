/- WELL-FORMED 7: names, proofs. -/
import Derived.Test.YtamcloifhjafcaaDoorWF1
namespace Go.Proofs.YtamcloifhjafcaaDoor
open Pw Go
set_option maxRecDepth 100000
set_option linter.unusedSimpArgs false
theorem atsWR (A : List AtomG) : (atsW A).sub (atsW A) = True := eq_true ⟨rfl, fun _ _ => ⟨atomA_refl _, rfl⟩, fun h => h⟩
def usQ (hs : List HaveG) (es : List AggG) : List (List UInt8) := usE hs es es.length
end Go.Proofs.YtamcloifhjafcaaDoor
namespace Go.Proofs.YtamcloifhjafcaaDoor
open Pw Go
set_option maxRecDepth 100000
set_option linter.unusedSimpArgs false
def dupB (A : List AtomG) : Bool := (List.range A.length).any (duP A)
def nmdE (A : List AtomG) (N : List Bool) (U : List (List UInt8)) : Int := if dupB A = true then 8 else if wrU (knS A N A.length) (wrS A N A.length) U U.length = true then 12 else 0
end Go.Proofs.YtamcloifhjafcaaDoor
namespace Go.Proofs.YtamcloifhjafcaaDoor
open Pw Go
set_option maxRecDepth 100000
set_option linter.unusedSimpArgs false
theorem leaves_leW : ∀ (g : Nat) (d : Int) (x : NodeG), (leavesL g x).length ≤ (elems g d x).length
 | 0, _, _ => Nat.le_refl _
 | g + 1, d, x => by
  rw [elems_len]
  simp only [leavesL]
  split
  ·simp
  ·have key : ∀ n, n ≤ x.kids.length → (lvK g x.kids n).length ≤ cntK g (d + 1) x.kids n := by
    intro n hn
    induction n with
    | zero => exact Nat.le_refl _
    | succ n ih =>
     rw [lvK_succ (by omega), cntK_succ (by omega), List.length_append]
     have := leaves_leW g (d + 1) (x.kids.getD n treeD)
     have := ih (by omega)
     omega
   have h := key _ (Nat.le_refl _)
   have e : (x.kids.map (leavesL g)).flatten = lvK g x.kids x.kids.length := by simp [lvK]
   rw [e]
   omega
structure LtW (x : NodeG) (hs : List HaveG) (es : List AggG) : Prop where
 lit : litB 8 x = true
 nms : namesB hs es
 few : (elems 8 1 x).length ≤ 1000
theorem LtW.of {x : NodeG} {hs : List HaveG} {es : List AggG} (h : lightQ x hs es = true) : LtW x hs es := by
 obtain ⟨h1, h2⟩ := light_lit h
 refine ⟨h1, h2, ?_⟩
 simp only [lightQ, Bool.and_eq_true, decide_eq_true_eq] at h
 have h3 : weighS 8 x ≤ 40 := of_decide_eq_true h.1.1.1.1
 have := elems_few 8 1 x h3
 omega
theorem LtW.lv {x : NodeG} {hs : List HaveG} {es : List AggG} (h : LtW x hs es) : (leavesL 8 x).length ≤ 1000 := Nat.le_trans (leaves_leW 8 1 x) h.few
def fullE (x : NodeG) (hs : List HaveG) (es : List AggG) : Int := if (decide (((atomsL 8 x).length : Int) > 12) || decide ((hs.length : Int) > 4) || decide ((es.length : Int) > 4) || (nds 8 x).any fulP) = true then 6 else 0
def depE (x : NodeG) : Int := if decide (dpth x > 6) = true then 22 else 0
def rngE (x : NodeG) (w : Int) : Int := if (decide (w > 10000) || (nds 8 x).any rngP) = true then 2 else 0
def ordE (x : NodeG) : Int := if (nk x == 2 || (nds 8 x).any stdP) = true then 9 else 0
def nmE (x : NodeG) (hs : List HaveG) (es : List AggG) : Int := nmdE (atomsL 8 x) (negL 8 x) (usQ hs es)
def wfE (x : NodeG) (w : Int) (hs : List HaveG) (es : List AggG) : Int :=
 if chkE x w hs es ≠ 0 then chkE x w hs es else if fullE x hs es ≠ 0 then fullE x hs es else if depE x ≠ 0 then depE x else if rngE x w ≠ 0 then rngE x w else if ordE x ≠ 0 then ordE x else nmE x hs es
section
variable {x : NodeG} (w : Int) {hs : List HaveG} {es : List AggG} (hq : LtW x hs es)
end
end Go.Proofs.YtamcloifhjafcaaDoor
