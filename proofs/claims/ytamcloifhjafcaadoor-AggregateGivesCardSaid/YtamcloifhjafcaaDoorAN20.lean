/- NODES 20: the atoms of a node, and which are negated: conditions of both codes. -/
import Derived.Test.YtamcloifhjafcaaDoorAN19
namespace Go.Proofs.YtamcloifhjafcaaDoor
open Pw Go
set_option maxRecDepth 100000
set_option linter.unusedSimpArgs false

/-- What the first so many elements give. -/
def atK (L : List (Int × NodeG)) (j : Nat) : List AtomG := ((L.take j).filter fun p => isLeaf p.2).map fun p => nat p.2
def ngK (L : List (Int × NodeG)) (j : Nat) : List Bool := ((L.take j).filter fun p => isLeaf p.2).map fun p => decide (nk p.2 = 2)
def invCA (x : NodeG) : Inv := ⟨Nat × Nat, 80, fun p => ⟨[], [(2, .row 0 1 true (.lst [.fn (.func 108) [] []])), (3, .row 0 1 false (.lst [.sl 60 p.2 0 (atK (elems 8 1 x) p.1).length none])),
  (60, .row p.2 5 true (.fn (atK (elems 8 1 x) p.1).length (fun k => atomA ((atK (elems 8 1 x) p.1).getD k atomD))))]⟩, fun p => p.1 ≤ (elems 8 1 x).length, fun p => p.1⟩
def invCN (x : NodeG) : Inv := ⟨Nat × Nat, 80, fun p => ⟨[], [(2, .row 0 1 true (.lst [.fn (.func 113) [] []])), (3, .row 0 1 false (.lst [.sl 60 p.2 0 (ngK (elems 8 1 x) p.1).length none])),
  (60, .row p.2 1 true (.fn (ngK (elems 8 1 x) p.1).length (fun k => .bool ((ngK (elems 8 1 x) p.1).getD k false))))]⟩, fun p => p.1 ≤ (elems 8 1 x).length, fun p => p.1⟩
def tblCA : List (Nat × Ctr) := [(99, cSoundE), (75, cClone), (109, cLeaf)]
noncomputable def ECA (x : NodeG) : Env := { mkG Tryd.prog gN (tblOf tblCA) (fun f b => if f = 107 ∧ b = 200008 then some (invCA x) else if f = 112 ∧ b = 200008 then some (invCN x) else none) 0 with itr := itV 8 }

theorem atomsI_vc (x : NodeG) (L : List AtomG) (e : Int) : (vcFun (ECA x) 20 71 [nodeA 9 x] .nil 0 (retP 4 (.tup [.rof L.length (fun k => atomA (L.getD k atomD)) false, .int .i64 e]))).sat = (
  NB (isNode (8 : Nat) (nodeA (9 : Nat) x))
    (VB (sndE (nodeOf (8 : Nat) (nodeA (9 : Nat) x)) != (0 : Int)) (L.length = (0 : Nat) ∧ sndE (nodeOf (8 : Nat) (nodeA (9 : Nat) x)) = e ∧ True)
      (NB (isNode (8 : Nat) (nodeA (9 : Nat) x) && true && true && true && true && true && true)
        ((∃ (i : Nat × Nat),
        i.fst.le (elems (8 : Nat) (1 : Int) x).length ∧
        (invCA x).μ i = (0 : Nat) ∧
        True ∧
        ((0 : Nat) = (0 : Nat) ∧
        (true = true → true = true) ∧ ((Fn.func (108 : Nat) = Fn.func (108 : FuncId) ∧ True ∧ True) ∧ [AV.fn (Fn.func (108 : Nat)) [] []].length = [AV.fn (Fn.func (108 : FuncId)) [] []].length) ∧ True) ∧
        ((0 : Nat) = (0 : Nat) ∧ (1 : Nat) = (1 : Nat) ∧ (atK (elems (8 : Nat) (1 : Int) x) i.fst).length = (0 : Nat) ∧ i.snd = i.snd ∧ (atK (elems (8 : Nat) (1 : Int) x) i.fst).length = (0 : Nat)) ∧
        (atK (elems (8 : Nat) (1 : Int) x) i.fst).length = (0 : Nat) ∧ True) ∧
        (∀ (i : Nat × Nat),
        i.fst.le (elems (8 : Nat) (1 : Int) x).length ∧ (invCA x).μ i < (elems (8 : Nat) (1 : Int) (nodeOf (8 : Nat) (nodeA (9 : Nat) x))).length →
        NB
        (decide ((TreeG.val ((elems (8 : Nat) (1 : Int) (nodeOf (8 : Nat) (nodeA (9 : Nat) x))).getD ((invCA x).μ i) ((0 : Int), treeD)).snd).snd.snd.snd.fst.snd.snd.snd.fst.length ≤ (1000 : Nat)) &&
        (List.range (TreeG.val ((elems (8 : Nat) (1 : Int) (nodeOf (8 : Nat) (nodeA (9 : Nat) x))).getD ((invCA x).μ i) ((0 : Int), treeD)).snd).snd.snd.snd.fst.snd.snd.snd.fst.length).all fun (i_1 : Nat) =>
        isCond (condA ((TreeG.val ((elems (8 : Nat) (1 : Int) (nodeOf (8 : Nat) (nodeA (9 : Nat) x))).getD ((invCA x).μ i) ((0 : Int), treeD)).snd).snd.snd.snd.fst.snd.snd.snd.fst.getD i_1 condD)))
        (NB (isNodeT (1 : Nat) (nodeA (4 : Nat) ((elems (8 : Nat) (1 : Int) (nodeOf (8 : Nat) (nodeA (9 : Nat) x))).getD ((invCA x).μ i) ((0 : Int), treeD)).snd))
        (VB (isLeaf (nodeOf (1 : Nat) (nodeA (4 : Nat) ((elems (8 : Nat) (1 : Int) (nodeOf (8 : Nat) (nodeA (9 : Nat) x))).getD ((invCA x).μ i) ((0 : Int), treeD)).snd)))
        (NB (true && decide (i.snd = i.snd) && room ((atK (elems (8 : Nat) (1 : Int) x) i.fst).length + (1 : Nat)) (64 : Nat))
        (∃ (i' : Nat × Nat),
        i'.fst.le (elems (8 : Nat) (1 : Int) x).length ∧
        (invCA x).μ i' = (invCA x).μ i + (1 : Nat) ∧
        True ∧
        ((0 : Nat) = (0 : Nat) ∧
        (true = true → true = true) ∧
        ((Fn.func (108 : FuncId) = Fn.func (108 : FuncId) ∧ True ∧ True) ∧ [AV.fn (Fn.func (108 : FuncId)) [] []].length = [AV.fn (Fn.func (108 : FuncId)) [] []].length) ∧ True) ∧
        ((0 : Nat) = (0 : Nat) ∧
        (false = true → false = true) ∧
        ((i.snd + (1 : Nat) = i'.snd ∧
        (0 : Nat) = (0 : Nat) ∧
        (atK (elems (8 : Nat) (1 : Int) x) i.fst).length + (1 : Nat) = (atK (elems (8 : Nat) (1 : Int) x) i'.fst).length ∧
        (@Eq (Option Nat) none none ∨ @Eq (Option Nat) none none)) ∧
        [AV.sl (60 : Nat) (i.snd + (1 : Nat)) (0 : Nat) ((atK (elems (8 : Nat) (1 : Int) x) i.fst).length + (1 : Nat)) none].length =
        [AV.sl (60 : Nat) i'.snd (0 : Nat) (atK (elems (8 : Nat) (1 : Int) x) i'.fst).length none].length) ∧
        True) ∧
        (i.snd + (1 : Nat) = i'.snd ∧
        (true = true → true = true) ∧
        (atK (elems (8 : Nat) (1 : Int) x) i.fst).length + (1 : Nat) = (atK (elems (8 : Nat) (1 : Int) x) i'.fst).length ∧
        ∀ (i_1 : Nat),
        i_1 < (atK (elems (8 : Nat) (1 : Int) x) i.fst).length + (1 : Nat) →
        (if i_1 < (atK (elems (8 : Nat) (1 : Int) x) i.fst).length then atomA ((atK (elems (8 : Nat) (1 : Int) x) i.fst).getD ((0 : Nat) + i_1) atomD)
        else
        ((Sq.lst
        [AV.agg
        [AV.int IntKind.i64
        (TreeG.val ((elems (8 : Nat) (1 : Int) (nodeOf (8 : Nat) (nodeA (9 : Nat) x))).getD ((invCA x).μ i) ((0 : Int), treeD)).snd).snd.snd.snd.fst.fst,
        AV.bool
        (TreeG.val
        ((elems (8 : Nat) (1 : Int) (nodeOf (8 : Nat) (nodeA (9 : Nat) x))).getD ((invCA x).μ i)
        ((0 : Int), treeD)).snd).snd.snd.snd.fst.snd.fst,
        AV.int IntKind.u64
        (TreeG.val
        ((elems (8 : Nat) (1 : Int) (nodeOf (8 : Nat) (nodeA (9 : Nat) x))).getD ((invCA x).μ i)
        ((0 : Int), treeD)).snd).snd.snd.snd.fst.snd.snd.fst,
        AV.rof
        (TreeG.val
        ((elems (8 : Nat) (1 : Int) (nodeOf (8 : Nat) (nodeA (9 : Nat) x))).getD ((invCA x).μ i)
        ((0 : Int), treeD)).snd).snd.snd.snd.fst.snd.snd.snd.fst.length
        (fun (i_2 : Nat) =>
        condA
        (condOf
        (condA
        ((TreeG.val
        ((elems (8 : Nat) (1 : Int) (nodeOf (8 : Nat) (nodeA (9 : Nat) x))).getD ((invCA x).μ i)
        ((0 : Int), treeD)).snd).snd.snd.snd.fst.snd.snd.snd.fst.getD
        i_2 condD))))
        false,
        AV.str
        (TreeG.val
        ((elems (8 : Nat) (1 : Int) (nodeOf (8 : Nat) (nodeA (9 : Nat) x))).getD ((invCA x).μ i)
        ((0 : Int), treeD)).snd).snd.snd.snd.fst.snd.snd.snd.snd.fst]]).sub
        (0 : Nat) (1 : Nat)).get
        (i_1 - (atK (elems (8 : Nat) (1 : Int) x) i.fst).length)).sub
        (atomA ((atK (elems (8 : Nat) (1 : Int) x) i'.fst).getD i_1 atomD)) ∧
        (if i_1 < (atK (elems (8 : Nat) (1 : Int) x) i.fst).length then atomA ((atK (elems (8 : Nat) (1 : Int) x) i.fst).getD ((0 : Nat) + i_1) atomD)
        else
        ((Sq.lst
        [AV.agg
        [AV.int IntKind.i64
        (TreeG.val ((elems (8 : Nat) (1 : Int) (nodeOf (8 : Nat) (nodeA (9 : Nat) x))).getD ((invCA x).μ i) ((0 : Int), treeD)).snd).snd.snd.snd.fst.fst,
        AV.bool
        (TreeG.val
        ((elems (8 : Nat) (1 : Int) (nodeOf (8 : Nat) (nodeA (9 : Nat) x))).getD ((invCA x).μ i)
        ((0 : Int), treeD)).snd).snd.snd.snd.fst.snd.fst,
        AV.int IntKind.u64
        (TreeG.val
        ((elems (8 : Nat) (1 : Int) (nodeOf (8 : Nat) (nodeA (9 : Nat) x))).getD ((invCA x).μ i)
        ((0 : Int), treeD)).snd).snd.snd.snd.fst.snd.snd.fst,
        AV.rof
        (TreeG.val
        ((elems (8 : Nat) (1 : Int) (nodeOf (8 : Nat) (nodeA (9 : Nat) x))).getD ((invCA x).μ i)
        ((0 : Int), treeD)).snd).snd.snd.snd.fst.snd.snd.snd.fst.length
        (fun (i_2 : Nat) =>
        condA
        (condOf
        (condA
        ((TreeG.val
        ((elems (8 : Nat) (1 : Int) (nodeOf (8 : Nat) (nodeA (9 : Nat) x))).getD ((invCA x).μ i)
        ((0 : Int), treeD)).snd).snd.snd.snd.fst.snd.snd.snd.fst.getD
        i_2 condD))))
        false,
        AV.str
        (TreeG.val
        ((elems (8 : Nat) (1 : Int) (nodeOf (8 : Nat) (nodeA (9 : Nat) x))).getD ((invCA x).μ i)
        ((0 : Int), treeD)).snd).snd.snd.snd.fst.snd.snd.snd.snd.fst]]).sub
        (0 : Nat) (1 : Nat)).get
        (i_1 - (atK (elems (8 : Nat) (1 : Int) x) i.fst).length)).cells.length =
        (atomA ((atK (elems (8 : Nat) (1 : Int) x) i'.fst).getD i_1 atomD)).cells.length) ∧
        True))
        (∃ (i' : Nat × Nat),
        i'.fst.le (elems (8 : Nat) (1 : Int) x).length ∧
        (invCA x).μ i' = (invCA x).μ i + (1 : Nat) ∧
        True ∧
        ((0 : Nat) = (0 : Nat) ∧
        (true = true → true = true) ∧
        ((Fn.func (108 : FuncId) = Fn.func (108 : FuncId) ∧ True ∧ True) ∧ [AV.fn (Fn.func (108 : FuncId)) [] []].length = [AV.fn (Fn.func (108 : FuncId)) [] []].length) ∧ True) ∧
        ((0 : Nat) = (0 : Nat) ∧
        (false = true → false = true) ∧
        ((i.snd = i'.snd ∧
        (0 : Nat) = (0 : Nat) ∧
        (atK (elems (8 : Nat) (1 : Int) x) i.fst).length = (atK (elems (8 : Nat) (1 : Int) x) i'.fst).length ∧ (@Eq (Option Nat) none none ∨ @Eq (Option Nat) none none)) ∧
        [AV.sl (60 : Nat) i.snd (0 : Nat) (atK (elems (8 : Nat) (1 : Int) x) i.fst).length none].length =
        [AV.sl (60 : Nat) i'.snd (0 : Nat) (atK (elems (8 : Nat) (1 : Int) x) i'.fst).length none].length) ∧
        True) ∧
        (i.snd = i'.snd ∧
        (true = true → true = true) ∧
        (atK (elems (8 : Nat) (1 : Int) x) i.fst).length = (atK (elems (8 : Nat) (1 : Int) x) i'.fst).length ∧
        ∀ (i_1 : Nat),
        i_1 < (atK (elems (8 : Nat) (1 : Int) x) i.fst).length →
        (atomA ((atK (elems (8 : Nat) (1 : Int) x) i.fst).getD i_1 atomD)).sub (atomA ((atK (elems (8 : Nat) (1 : Int) x) i'.fst).getD i_1 atomD)) ∧
        (atomA ((atK (elems (8 : Nat) (1 : Int) x) i.fst).getD i_1 atomD)).cells.length = (atomA ((atK (elems (8 : Nat) (1 : Int) x) i'.fst).getD i_1 atomD)).cells.length) ∧
        True)))) ∧
        ∀ (i : Nat × Nat),
        i.fst.le (elems (8 : Nat) (1 : Int) x).length ∧ (invCA x).μ i = (elems (8 : Nat) (1 : Int) (nodeOf (8 : Nat) (nodeA (9 : Nat) x))).length →
        NB (decide (i.snd = i.snd) && true)
        (((atK (elems (8 : Nat) (1 : Int) x) i.fst).length = L.length ∧
        (∀ (i_1 : Nat),
        i_1 < (atK (elems (8 : Nat) (1 : Int) x) i.fst).length →
        (atomA ((atK (elems (8 : Nat) (1 : Int) x) i.fst).getD ((0 : Nat) + i_1) atomD)).sub (atomA (L.getD i_1 atomD)) ∧
        (atomA ((atK (elems (8 : Nat) (1 : Int) x) i.fst).getD ((0 : Nat) + i_1) atomD)).cells.length = (atomA (L.getD i_1 atomD)).cells.length) ∧
        (false = true → decide (none = some (atK (elems (8 : Nat) (1 : Int) x) i.fst).length) = true)) ∧
        (0 : Int) = e ∧ True))))) := by
  kernel_rfl

theorem negI_vc (x : NodeG) (L : List Bool) (e : Int) : (vcFun (ECA x) 20 80 [nodeA 9 x] .nil 0 (retP 4 (.tup [.rof L.length (fun k => .bool (L.getD k false)) false, .int .i64 e]))).sat = (
  NB (isNode (8 : Nat) (nodeA (9 : Nat) x))
    (VB (sndE (nodeOf (8 : Nat) (nodeA (9 : Nat) x)) != (0 : Int)) (L.length = (0 : Nat) ∧ sndE (nodeOf (8 : Nat) (nodeA (9 : Nat) x)) = e ∧ True)
      (NB (isNode (8 : Nat) (nodeA (9 : Nat) x) && true && true && true && true && true && true)
        ((∃ (i : Nat × Nat),
        i.fst.le (elems (8 : Nat) (1 : Int) x).length ∧
        (invCN x).μ i = (0 : Nat) ∧
        True ∧
        ((0 : Nat) = (0 : Nat) ∧
        (true = true → true = true) ∧ ((Fn.func (113 : Nat) = Fn.func (113 : FuncId) ∧ True ∧ True) ∧ [AV.fn (Fn.func (113 : Nat)) [] []].length = [AV.fn (Fn.func (113 : FuncId)) [] []].length) ∧ True) ∧
        ((0 : Nat) = (0 : Nat) ∧ (1 : Nat) = (1 : Nat) ∧ (ngK (elems (8 : Nat) (1 : Int) x) i.fst).length = (0 : Nat) ∧ i.snd = i.snd ∧ (ngK (elems (8 : Nat) (1 : Int) x) i.fst).length = (0 : Nat)) ∧
        (ngK (elems (8 : Nat) (1 : Int) x) i.fst).length = (0 : Nat) ∧ True) ∧
        (∀ (i : Nat × Nat),
        i.fst.le (elems (8 : Nat) (1 : Int) x).length ∧ (invCN x).μ i < (elems (8 : Nat) (1 : Int) (nodeOf (8 : Nat) (nodeA (9 : Nat) x))).length →
        NB (isNodeT (1 : Nat) (nodeA (4 : Nat) ((elems (8 : Nat) (1 : Int) (nodeOf (8 : Nat) (nodeA (9 : Nat) x))).getD ((invCN x).μ i) ((0 : Int), treeD)).snd))
        (VB (isLeaf (nodeOf (1 : Nat) (nodeA (4 : Nat) ((elems (8 : Nat) (1 : Int) (nodeOf (8 : Nat) (nodeA (9 : Nat) x))).getD ((invCN x).μ i) ((0 : Int), treeD)).snd)))
        (NB (true && decide (i.snd = i.snd) && room ((ngK (elems (8 : Nat) (1 : Int) x) i.fst).length + (1 : Nat)) (1 : Nat))
        (∃ (i' : Nat × Nat),
        i'.fst.le (elems (8 : Nat) (1 : Int) x).length ∧
        (invCN x).μ i' = (invCN x).μ i + (1 : Nat) ∧
        True ∧
        ((0 : Nat) = (0 : Nat) ∧
        (true = true → true = true) ∧
        ((Fn.func (113 : FuncId) = Fn.func (113 : FuncId) ∧ True ∧ True) ∧ [AV.fn (Fn.func (113 : FuncId)) [] []].length = [AV.fn (Fn.func (113 : FuncId)) [] []].length) ∧ True) ∧
        ((0 : Nat) = (0 : Nat) ∧
        (false = true → false = true) ∧
        ((i.snd + (1 : Nat) = i'.snd ∧
        (0 : Nat) = (0 : Nat) ∧
        (ngK (elems (8 : Nat) (1 : Int) x) i.fst).length + (1 : Nat) = (ngK (elems (8 : Nat) (1 : Int) x) i'.fst).length ∧ (@Eq (Option Nat) none none ∨ @Eq (Option Nat) none none)) ∧
        [AV.sl (60 : Nat) (i.snd + (1 : Nat)) (0 : Nat) ((ngK (elems (8 : Nat) (1 : Int) x) i.fst).length + (1 : Nat)) none].length =
        [AV.sl (60 : Nat) i'.snd (0 : Nat) (ngK (elems (8 : Nat) (1 : Int) x) i'.fst).length none].length) ∧
        True) ∧
        (i.snd + (1 : Nat) = i'.snd ∧
        (true = true → true = true) ∧
        (ngK (elems (8 : Nat) (1 : Int) x) i.fst).length + (1 : Nat) = (ngK (elems (8 : Nat) (1 : Int) x) i'.fst).length ∧
        ∀ (i_1 : Nat),
        i_1 < (ngK (elems (8 : Nat) (1 : Int) x) i.fst).length + (1 : Nat) →
        (if i_1 < (ngK (elems (8 : Nat) (1 : Int) x) i.fst).length then AV.bool ((ngK (elems (8 : Nat) (1 : Int) x) i.fst).getD ((0 : Nat) + i_1) false)
        else
        ((Sq.lst [AV.bool ((TreeG.val ((elems (8 : Nat) (1 : Int) (nodeOf (8 : Nat) (nodeA (9 : Nat) x))).getD ((invCN x).μ i) ((0 : Int), treeD)).snd).fst == (2 : Int))]).sub
        (0 : Nat) (1 : Nat)).get
        (i_1 - (ngK (elems (8 : Nat) (1 : Int) x) i.fst).length)).sub
        (AV.bool ((ngK (elems (8 : Nat) (1 : Int) x) i'.fst).getD i_1 false)) ∧
        (if i_1 < (ngK (elems (8 : Nat) (1 : Int) x) i.fst).length then AV.bool ((ngK (elems (8 : Nat) (1 : Int) x) i.fst).getD ((0 : Nat) + i_1) false)
        else
        ((Sq.lst
        [AV.bool
        ((TreeG.val ((elems (8 : Nat) (1 : Int) (nodeOf (8 : Nat) (nodeA (9 : Nat) x))).getD ((invCN x).μ i) ((0 : Int), treeD)).snd).fst == (2 : Int))]).sub
        (0 : Nat) (1 : Nat)).get
        (i_1 - (ngK (elems (8 : Nat) (1 : Int) x) i.fst).length)).cells.length =
        [AV.bool ((ngK (elems (8 : Nat) (1 : Int) x) i'.fst).getD i_1 false)].length) ∧
        True))
        (∃ (i' : Nat × Nat),
        i'.fst.le (elems (8 : Nat) (1 : Int) x).length ∧
        (invCN x).μ i' = (invCN x).μ i + (1 : Nat) ∧
        True ∧
        ((0 : Nat) = (0 : Nat) ∧
        (true = true → true = true) ∧
        ((Fn.func (113 : FuncId) = Fn.func (113 : FuncId) ∧ True ∧ True) ∧ [AV.fn (Fn.func (113 : FuncId)) [] []].length = [AV.fn (Fn.func (113 : FuncId)) [] []].length) ∧ True) ∧
        ((0 : Nat) = (0 : Nat) ∧
        (false = true → false = true) ∧
        ((i.snd = i'.snd ∧
        (0 : Nat) = (0 : Nat) ∧
        (ngK (elems (8 : Nat) (1 : Int) x) i.fst).length = (ngK (elems (8 : Nat) (1 : Int) x) i'.fst).length ∧ (@Eq (Option Nat) none none ∨ @Eq (Option Nat) none none)) ∧
        [AV.sl (60 : Nat) i.snd (0 : Nat) (ngK (elems (8 : Nat) (1 : Int) x) i.fst).length none].length =
        [AV.sl (60 : Nat) i'.snd (0 : Nat) (ngK (elems (8 : Nat) (1 : Int) x) i'.fst).length none].length) ∧
        True) ∧
        (i.snd = i'.snd ∧
        (true = true → true = true) ∧
        (ngK (elems (8 : Nat) (1 : Int) x) i.fst).length = (ngK (elems (8 : Nat) (1 : Int) x) i'.fst).length ∧
        ∀ (i_1 : Nat),
        i_1 < (ngK (elems (8 : Nat) (1 : Int) x) i.fst).length →
        (ngK (elems (8 : Nat) (1 : Int) x) i.fst).getD i_1 false = (ngK (elems (8 : Nat) (1 : Int) x) i'.fst).getD i_1 false ∧
        [AV.bool ((ngK (elems (8 : Nat) (1 : Int) x) i.fst).getD i_1 false)].length = [AV.bool ((ngK (elems (8 : Nat) (1 : Int) x) i'.fst).getD i_1 false)].length) ∧
        True))) ∧
        ∀ (i : Nat × Nat),
        i.fst.le (elems (8 : Nat) (1 : Int) x).length ∧ (invCN x).μ i = (elems (8 : Nat) (1 : Int) (nodeOf (8 : Nat) (nodeA (9 : Nat) x))).length →
        NB (decide (i.snd = i.snd) && true)
        (((ngK (elems (8 : Nat) (1 : Int) x) i.fst).length = L.length ∧
        (∀ (i_1 : Nat),
        i_1 < (ngK (elems (8 : Nat) (1 : Int) x) i.fst).length →
        (ngK (elems (8 : Nat) (1 : Int) x) i.fst).getD ((0 : Nat) + i_1) false = L.getD i_1 false ∧
        [AV.bool ((ngK (elems (8 : Nat) (1 : Int) x) i.fst).getD ((0 : Nat) + i_1) false)].length = [AV.bool (L.getD i_1 false)].length) ∧
        (false = true → decide (none = some (ngK (elems (8 : Nat) (1 : Int) x) i.fst).length) = true)) ∧
        (0 : Int) = e ∧ True))))) := by
  kernel_rfl

end Go.Proofs.YtamcloifhjafcaaDoor
