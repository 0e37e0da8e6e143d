/- NODES 5: sound nodes, their leaves, all nodes in them, in Lean. -/
import Derived.Test.YtamcloifhjafcaaGreatDoorAN3
namespace Go.Proofs.YtamcloifhjafcaaGreatDoor
open Pw Go
set_option maxRecDepth 100000
set_option linter.unusedSimpArgs false
abbrev nk (x : NodeG) : Int := x.val.1
abbrev nmn (x : NodeG) : Int := x.val.2.1
abbrev nmx (x : NodeG) : Int := x.val.2.2.1
abbrev nat (x : NodeG) : AtomG := x.val.2.2.2.1
abbrev ac (a : AtomG) : List CondG := a.2.2.2.1
abbrev an (a : AtomG) : List UInt8 := a.2.2.2.2.1
abbrev atomA (a : AtomG) : AV := .agg [.int .i64 a.1, .bool a.2.1, .int .u64 a.2.2.1, condsA (ac a), .str (an a)]
def atomB (a : AtomG) : Bool := atomS a.1 a.2.1 a.2.2.1 (ac a).length (fun i => ((ac a).getD i condD).1) (an a)
def zeroB (a : AtomG) : Bool := a.1 == 0 && !a.2.1 && a.2.2.1 == 0 && decide ((ac a).length = 0) && (an a == [])
def soundB : Nat → NodeG → Bool
 | 0, _ => false
 | d + 1, x =>
  if nk x = 1 then atomB (nat x) && decide (0 ≤ nmn x) && decide (nmn x ≤ 99) && decide (0 ≤ nmx x) && decide (nmx x ≤ 99) && decide (x.kids.length = 0)
  else if nk x = 2 then atomB (nat x) && decide (nmn x = 0) && decide (nmx x = 0) && decide (x.kids.length = 0)
  else if nk x = 3 ∨ nk x = 4 then decide (2 ≤ x.kids.length) && decide (nmn x = 0) && decide (nmx x = 0) && zeroB (nat x) && x.kids.all (soundB d)
  else false
def elems : Nat → Int → NodeG → List (Int × NodeG)
 | 0, _, _ => []
 | g + 1, d, x => (d, x) :: (x.kids.map (elems g (d + 1))).flatten
def isLeaf (x : NodeG) : Bool := decide (nk x = 1) || decide (nk x = 2)
def leavesL : Nat → NodeG → List NodeG
 | 0, _ => []
 | g + 1, x => if isLeaf x then [x] else (x.kids.map (leavesL g)).flatten
theorem sound_leaf {d : Nat} {x : NodeG} (h : soundB d x = true) (hl : isLeaf x = true) : x.kids = [] := by
 cases d with
 | zero => cases h
 | succ d =>
  simp only [soundB] at h
  simp only [isLeaf, Bool.or_eq_true, decide_eq_true_eq] at hl
  rcases hl with hl | hl
  ·rw [if_pos hl] at h
   simp only [Bool.and_eq_true, decide_eq_true_eq] at h
   exact List.eq_nil_of_length_eq_zero h.2
  ·rw [if_neg (by omega), if_pos hl] at h
   simp only [Bool.and_eq_true, decide_eq_true_eq] at h
   exact List.eq_nil_of_length_eq_zero h.2
theorem sound_kids {d : Nat} {x : NodeG} (h : soundB (d + 1) x = true) (hl : isLeaf x = false) : ∀ k ∈ x.kids, soundB d k = true := by
 simp only [soundB] at h
 simp only [isLeaf, Bool.or_eq_false_iff, decide_eq_false_iff_not] at hl
 rw [if_neg hl.1, if_neg hl.2] at h
 split at h
 ·simp only [Bool.and_eq_true, List.all_eq_true] at h
  exact h.2
 ·cases h
theorem leaves_elems : ∀ (g d : Nat) (e : Int) (x : NodeG), soundB d x = true → litB g x = true → ((elems g e x).filter fun p => isLeaf p.2).map (·.2) = leavesL g x
 | 0, _, _, _, _, h => by cases h
 | g + 1, 0, _, _, h, _ => by cases h
 | g + 1, d + 1, e, x, h, hg => by
  cases hl : isLeaf x with
  | true => simp [elems, leavesL, hl, sound_leaf h hl]
  | false =>
   have hk := sound_kids h hl
   simp only [elems, leavesL, hl, Bool.false_eq_true, if_false, List.filter_cons]
   have hkl : ∀ k ∈ x.kids, litB g k = true := by
    simp only [litB, Bool.and_eq_true, List.all_eq_true] at hg
    exact hg.2
   generalize x.kids = l at hk hkl
   induction l with
   | nil => rfl
   | cons k l ih =>
    have h1 := leaves_elems g d (e + 1) k (hk k (by simp)) (hkl k (by simp))
    simp only [List.map_cons, List.flatten_cons, List.filter_append, List.map_append, h1]
    rw [ih (fun k' h' => hk k' (by simp [h'])) (fun k' h' => hkl k' (by simp [h']))]
def sndB (x : NodeG) : Bool := soundB 200 x
def sndE (x : NodeG) : Int := if sndB x = true then 0 else 3
def atomsL (g : Nat) (x : NodeG) : List AtomG := if sndB x = true then (leavesL g x).map nat else []
def negL (g : Nat) (x : NodeG) : List Bool := if sndB x = true then (leavesL g x).map (fun y => decide (nk y = 2)) else []
end Go.Proofs.YtamcloifhjafcaaGreatDoor
