import Derived.Test.YtamcloifhjafcaaGreatDoorPwG5
/- Nodes of patterns: what an abstract value reads as, and how it stands for it. -/

set_option autoImplicit false
set_option linter.unusedSimpArgs false

namespace Pw
open Go

abbrev CondG := Int × Int × Unit
abbrev AtomG := Int × Bool × Int × List CondG × List UInt8 × Unit
abbrev NodeV := Int × Int × Int × AtomG × Unit
abbrev NodeG := TreeG NodeV

abbrev condD : CondG := (0, 0, ())
abbrev atomD : AtomG := (0, false, 0, [], [], ())
abbrev nodeD : NodeV := (0, 0, 0, atomD, ())
abbrev treeD : NodeG := .mk nodeD []

abbrev condA (c : CondG) : AV := .agg [.int .i64 c.1, .int .i64 c.2.1]
abbrev condsA (l : List CondG) : AV := .rof l.length (fun i => condA (l.getD i condD)) false
abbrev nodeCells (v : NodeV) : List AV :=
 [.int .i64 v.1, .int .i64 v.2.1, .int .i64 v.2.2.1, .int .i64 v.2.2.2.1.1, .bool v.2.2.2.1.2.1, .int .u64 v.2.2.2.1.2.2.1, condsA v.2.2.2.1.2.2.2.1, .str v.2.2.2.1.2.2.2.2.1]
abbrev nodeA (f : Nat) (x : NodeG) : AV := treeA nodeCells 8 nodeD f x

/-- The elements of a list. -/
def elsOf {α : Type} (h : AV → α) : AV → List α
 | .rof n f _ => (List.range n).map fun i => h (f i)
 | .rol l _ => l.map h
 | _ => []
def isEls (h : AV → Bool) : AV → Bool
 | .rof n f _ => (List.range n).all fun i => h (f i)
 | .rol l _ => l.all h
 | .nils => true
 | _ => false

theorem subF_of {A : Nat → AV} : ∀ (l : List AV) (k : Nat), (∀ i, i < l.length → (l.getD i .undef).sub (A (k + i)) ∧ (l.getD i .undef).cells.length = (A (k + i)).cells.length) → AV.subF l k A
 | [], _, _ => trivial
 | x :: l, k, h => by
  refine ⟨?_, subF_of l (k + 1) fun i hi => ?_⟩
  ·have := h 0 (by simp)
   simpa using this
  ·have := h (i + 1) (by simp; omega)
   rw [show k + 1 + i = k + (i + 1) by omega]
   simpa using this

theorem els_sub {α : Type} {h : AV → Bool} {of : AV → α} {A : α → AV} {d : α} (hh : ∀ y, h y = true → y.sub (A (of y)) ∧ y.cells.length = (A (of y)).cells.length) {x : AV} (hx : isEls h x = true) :
  x.sub (.rof (elsOf of x).length (fun i => A ((elsOf of x).getD i d)) false) := by
 cases x <;> simp only [isEls, Bool.false_eq_true] at hx
 ·exact rfl
 ·rename_i l ex
  refine ⟨by simp [elsOf], subF_of _ _ fun i hi => ?_, by simp⟩
  have h1 := hh (l.getD i .undef) (List.all_eq_true.1 hx _ (by simp [List.getD, hi]))
  simpa [elsOf, List.getD, hi] using h1
 ·rename_i n f ex
  refine ⟨by simp [elsOf], fun i hi => ?_, by simp⟩
  have h1 := hh (f i) (List.all_eq_true.1 hx i (by simpa using hi))
  simpa [elsOf, List.getD, hi] using h1

def condOf : AV → CondG
 | .agg [.int .i64 a, .int .i64 b] => (a, b, ())
 | _ => condD
def isCond : AV → Bool
 | .agg [.int .i64 _, .int .i64 _] => true
 | _ => false
theorem cond_sub (y : AV) (h : isCond y = true) : y.sub (condA (condOf y)) ∧ y.cells.length = (condA (condOf y)).cells.length := by
 unfold isCond at h
 split at h
 ·simp [condOf, AV.sub, AV.subL, AV.cells]
 ·cases h

def nodeOf : Nat → AV → NodeG
 | g + 1, .agg [.int .i64 a, .int .i64 b, .int .i64 c, .int .i64 k, .bool bd, .int .u64 bo, cs, .str nm, ks] => .mk (a, b, c, (k, bd, bo, elsOf condOf cs, nm, ()), ()) (elsOf (nodeOf g) ks)
 | _, _ => treeD
def isNodeS : Nat → AV → Bool
 | g + 1, .agg [.int .i64 _, .int .i64 _, .int .i64 _, .int .i64 _, .bool _, .int .u64 _, cs, .str _, ks] => isEls isCond cs && isEls (isNodeS g) ks
 | _, _ => false
/-- .. down to some depth, behind which nothing is looked at. -/
def isNodeT : Nat → AV → Bool
 | 0, .agg l => l.length == 9
 | g + 1, .agg [.int .i64 _, .int .i64 _, .int .i64 _, .int .i64 _, .bool _, .int .u64 _, cs, .str _, ks] => isEls isCond cs && isEls (isNodeT g) ks
 | _, _ => false

/-- At most so deep. -/
def depN : Nat → NodeG → Prop
 | 0, _ => False
 | g + 1, x => ∀ i, i < x.kids.length → depN g (x.kids.getD i treeD)

theorem subL9 {a b c d e f g h i a' b' c' d' e' f' g' h' i' : AV} (h1 : a.sub a') (h2 : b.sub b') (h3 : c.sub c') (h4 : d.sub d') (h5 : e.sub e') (h6 : f.sub f') (h7 : g.sub g') (h8 : h.sub h') (h9 : i.sub i') :
  (AV.agg [a, b, c, d, e, f, g, h, i]).sub (.agg [a', b', c', d', e', f', g', h', i']) := ⟨h1, h2, h3, h4, h5, h6, h7, h8, h9, trivial⟩

theorem nodeA_cells (f : Nat) (x : NodeG) : (nodeA f x).cells.length = 9 := by cases f <;> rfl

theorem isNodeS_cells (g : Nat) (y : AV) (h : isNodeS g y = true) : y.cells.length = 9 := by
 unfold isNodeS at h
 split at h
 ·rfl
 ·cases h
theorem isNodeT_cells (g : Nat) (y : AV) (h : isNodeT g y = true) : y.cells.length = 9 := by
 unfold isNodeT at h
 split at h
 ·simpa [AV.cells] using h
 ·rfl
 ·cases h

theorem int_sub (k : IntKind) (n : Int) : (AV.int k n).sub (.int k n) := by simp [AV.sub]
theorem bool_sub (b : Bool) : (AV.bool b).sub (.bool b) := by simp [AV.sub]

theorem node_sub : ∀ (g : Nat) (y : AV), isNodeS g y = true → y.sub (nodeA (g + 1) (nodeOf g y)) ∧ depN g (nodeOf g y)
 | 0, y, h => by cases h
 | g + 1, y, h => by
  unfold isNodeS at h
  split at h
  ·rename_i g' a b c k bd bo cs nm ks hg
   cases hg
   rw [Bool.and_eq_true] at h
   refine ⟨subL9 (int_sub _ _) (int_sub _ _) (int_sub _ _) (int_sub _ _) (bool_sub _) (int_sub _ _) (els_sub cond_sub h.1) (AV.str_sub _)
    (els_sub (fun y hy => ⟨(node_sub g y hy).1, by rw [isNodeS_cells g y hy, nodeA_cells]⟩) h.2), fun i hi => ?_⟩
   have key : ∀ z, z ∈ elsOf (nodeOf g) ks → depN g z := by
    intro z hz
    have h2 := h.2
    cases ks <;> simp only [isEls, elsOf, List.not_mem_nil, List.mem_map] at h2 hz
    ·obtain ⟨y, hy, rfl⟩ := hz
     exact (node_sub g y (List.all_eq_true.1 h2 y hy)).2
    ·obtain ⟨j, hj, rfl⟩ := hz
     exact (node_sub g _ (List.all_eq_true.1 h2 j hj)).2
   refine key _ ?_
   have hi' : i < (elsOf (nodeOf g) ks).length := hi
   simp [nodeOf, TreeG.kids, List.getD, hi']
  ·cases h

theorem nodeT_sub : ∀ (g : Nat) (y : AV), isNodeT g y = true → y.sub (nodeA g (nodeOf g y))
 | 0, y, h => by
  unfold isNodeT at h
  split at h
  ·rename_i l _
   have h1 : l.length = 9 := by simpa using h
   match l, h1 with
   | [a, b, c, d, e, f, g, h, i], _ => simp [treeA, AV.sub, AV.subL, List.replicate]
  ·rename_i h1; cases h1
  ·cases h
 | g + 1, y, h => by
  unfold isNodeT at h
  split at h
  ·rename_i h1; cases h1
  ·rename_i g' a b c k bd bo cs nm ks hg
   cases hg
   rw [Bool.and_eq_true] at h
   exact subL9 (int_sub _ _) (int_sub _ _) (int_sub _ _) (int_sub _ _) (bool_sub _) (int_sub _ _) (els_sub cond_sub h.1) (AV.str_sub _)
    (els_sub (fun y hy => ⟨nodeT_sub g y hy, by rw [isNodeT_cells g y hy, nodeA_cells]⟩) h.2)
  ·cases h

theorem range_getD {α : Type} (l : List α) (d : α) : (List.range l.length).map (fun i => l.getD i d) = l := by
 apply List.ext_getElem
 ·simp
 ·intro i h1 h2
  simp at h1
  simp [List.getD, h1]
theorem conds_of (l : List CondG) : elsOf condOf (condsA l) = l := by
 show (List.range l.length).map (fun i => condOf (condA (l.getD i condD))) = l
 exact range_getD l condD
theorem conds_is (l : List CondG) : isEls isCond (condsA l) = true := List.all_eq_true.2 fun _ _ => rfl

theorem node_is : ∀ (g f : Nat) (x : NodeG), g < f → depN g x → isNodeS g (nodeA f x) = true ∧ nodeOf g (nodeA f x) = x
 | 0, f, x, _, h => h.elim
 | g + 1, f + 1, x, hf, h => by
  constructor
  ·show (isEls isCond (condsA _) && isEls (isNodeS g) (.rof x.kids.length (fun i => nodeA f (x.kids.getD i treeD)) false)) = true
   rw [conds_is, Bool.true_and]
   refine List.all_eq_true.2 fun i hi => ?_
   simp at hi
   exact (node_is g f _ (by omega) (h i hi)).1
  ·show TreeG.mk (_, _, _, (_, _, _, elsOf condOf (condsA _), _, ()), ()) ((List.range x.kids.length).map fun i => nodeOf g (nodeA f (x.kids.getD i treeD))) = x
   rw [conds_of]
   have : (List.range x.kids.length).map (fun i => nodeOf g (nodeA f (x.kids.getD i treeD))) = x.kids := by
    conv => rhs; rw [← range_getD x.kids treeD]
    refine List.map_congr_left fun i hi => ?_
    simp at hi
    exact (node_is g f _ (by omega) (h i hi)).2
   rw [this]
   cases x
   rfl

/-- Cut off at some depth. -/
def cutN : Nat → NodeG → NodeG
 | 0, _ => treeD
 | g + 1, x => .mk x.val (x.kids.map (cutN g))
theorem nodeT_is : ∀ (g f : Nat) (x : NodeG), g ≤ f → isNodeT g (nodeA f x) = true ∧ nodeOf g (nodeA f x) = cutN g x
 | 0, f, x, _ => ⟨by cases f <;> rfl, by unfold nodeOf; cases f <;> rfl⟩
 | g + 1, f + 1, x, hf => by
  constructor
  ·show (isEls isCond (condsA _) && isEls (isNodeT g) (.rof x.kids.length (fun i => nodeA f (x.kids.getD i treeD)) false)) = true
   rw [conds_is, Bool.true_and]
   exact List.all_eq_true.2 fun i _ => (nodeT_is g f _ (by omega)).1
  ·show TreeG.mk (_, _, _, (_, _, _, elsOf condOf (condsA _), _, ()), ()) ((List.range x.kids.length).map fun i => nodeOf g (nodeA f (x.kids.getD i treeD))) = _
   rw [conds_of]
   have : (List.range x.kids.length).map (fun i => nodeOf g (nodeA f (x.kids.getD i treeD))) = x.kids.map (cutN g) := by
    conv => rhs; rw [← range_getD x.kids treeD, List.map_map]
    exact List.map_congr_left fun i _ => (nodeT_is g f _ (by omega)).2
   rw [this]
   rfl

/-- Light: at most so deep, with few conditions and kids, and short names. -/
def litB : Nat → NodeG → Bool
 | 0, _ => false
 | g + 1, x => decide (x.val.2.2.2.1.2.2.2.1.length ≤ 10) && decide (x.val.2.2.2.1.2.2.2.2.1.length ≤ 20) && decide (x.kids.length ≤ 40) && x.kids.all (litB g)
theorem litB_kid {g : Nat} {x : NodeG} (h : litB (g + 1) x = true) {i : Nat} (hi : i < x.kids.length) : litB g (x.kids.getD i treeD) = true := by
 simp only [litB, Bool.and_eq_true, List.all_eq_true] at h
 refine h.2 _ ?_
 simp [List.getD, hi]
theorem litB_conds {g : Nat} {x : NodeG} (h : litB g x = true) : x.val.2.2.2.1.2.2.2.1.length ≤ 10 := by
 cases g with
 | zero => cases h
 | succ g => simp only [litB, Bool.and_eq_true, decide_eq_true_eq] at h; exact h.1.1.1
theorem litB_name {g : Nat} {x : NodeG} (h : litB g x = true) : x.val.2.2.2.1.2.2.2.2.1.length ≤ 20 := by
 cases g with
 | zero => cases h
 | succ g => simp only [litB, Bool.and_eq_true, decide_eq_true_eq] at h; exact h.1.1.2
theorem litB_kids {g : Nat} {x : NodeG} (h : litB g x = true) : x.kids.length ≤ 40 := by
 cases g with
 | zero => cases h
 | succ g => simp only [litB, Bool.and_eq_true, decide_eq_true_eq] at h; exact h.1.2
theorem litB_dep : ∀ (g : Nat) (x : NodeG), litB g x = true → depN g x
 | 0, _, h => by cases h
 | g + 1, _, h => fun _ hi => litB_dep g _ (litB_kid h hi)
/-- A node that is light. -/
def isNode (g : Nat) (y : AV) : Bool := isNodeS g y && litB g (nodeOf g y)
theorem isNode_of {g f : Nat} {x : NodeG} (h : litB g x = true) (hf : g < f) : isNode g (nodeA f x) = true := by
 have h1 := node_is g f x hf (litB_dep g x h)
 rw [isNode, h1.1, h1.2, h]
 rfl
theorem nodeOf_of {g f : Nat} {x : NodeG} (h : litB g x = true) (hf : g < f) : nodeOf g (nodeA f x) = x := (node_is g f x hf (litB_dep g x h)).2

/-- Less is known of it, if one looks less deep. -/
theorem nodeA_sub : ∀ (f k : Nat) (x : NodeG), (nodeA (f + k) x).sub (nodeA f x)
 | 0, 0, x => by simp [treeA, AV.sub, AV.subL, List.replicate]
 | 0, k + 1, x => by
  rw [show 0 + (k + 1) = k + 1 by omega]
  exact ⟨trivial, trivial, trivial, trivial, trivial, trivial, trivial, trivial, trivial, trivial⟩
 | f + 1, k, x => by
  rw [show f + 1 + k = (f + k) + 1 by omega]
  exact subL9 (int_sub _ _) (int_sub _ _) (int_sub _ _) (int_sub _ _) (bool_sub _) (int_sub _ _) ⟨rfl, fun i _ => ⟨⟨rfl, rfl, trivial⟩, rfl⟩, fun h => h⟩ (AV.str_sub _)
   ⟨rfl, fun i _ => ⟨nodeA_sub f k _, by rw [nodeA_cells, nodeA_cells]⟩, fun h => h⟩
theorem nodeA_sub' {f f' : Nat} (h : f ≤ f') (x : NodeG) : (nodeA f' x).sub (nodeA f x) := by
 obtain ⟨k, rfl⟩ := Nat.le.dest h
 exact nodeA_sub f k x

/-- A contract of a function whose first argument is a node. -/
theorem pureN_node {P : Program} {gl : Nat → AV} {f : FuncId} {g : Nat} {n : AV} {r : List AV} {v : AV} (hn : isNode g n = true) (h : ∀ x, litB g x = true → nodeOf g n = x → PureC P gl f (nodeA (g + 1) x :: r) v) (hr : AV.subL r r := by simp [AV.subL, AV.sub]) : PureC P gl f (n :: r) v := by
 rw [isNode, Bool.and_eq_true] at hn
 have hs := node_sub g n hn.1
 refine PureC.args (by rfl) (fun i hi => ?_) (h _ hn.2 rfl)
 cases i with
 | zero => exact hs.1
 | succ i => exact (subL_at r r hr).2 i (by simpa using hi)
theorem pureT_node {P : Program} {gl : Nat → AV} {f : FuncId} {g : Nat} {n : AV} {r : List AV} {v : AV} (hn : isNodeT g n = true) (h : ∀ x, nodeOf g n = x → PureC P gl f (nodeA g x :: r) v) (hr : AV.subL r r := by simp [AV.subL, AV.sub]) : PureC P gl f (n :: r) v := by
 refine PureC.args (by rfl) (fun i hi => ?_) (h _ rfl)
 cases i with
 | zero => exact nodeT_sub g n hn
 | succ i => exact (subL_at r r hr).2 i (by simpa using hi)
end Pw
