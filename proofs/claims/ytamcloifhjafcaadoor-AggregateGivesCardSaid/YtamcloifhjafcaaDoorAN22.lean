/- NODES 22: the atoms of a node, and which are negated: the document's conditions. -/
import Derived.Test.YtamcloifhjafcaaDoorAN21
namespace Go.Proofs.YtamcloifhjafcaaDoor
open Pw Go
set_option maxRecDepth 100000
set_option linter.unusedSimpArgs false

def lvA (L : List NodeG) : AV := .rof L.length (fun k => nodeA 2 (L.getD k treeD)) false
def invRA (L : List NodeG) : Inv := ⟨Nat × Nat, 80, fun p => ⟨[(5, lvA L), (6, .sl 60 p.2 0 p.1 none), (7, .int .i64 p.1)], [(60, .row p.2 5 true (.fn p.1 (fun k => atomA (nat (L.getD k treeD)))))]⟩, fun p => p.1 ≤ L.length, fun p => L.length - p.1⟩
def invRN (L : List NodeG) : Inv := ⟨Nat × Nat, 80, fun p => ⟨[(5, lvA L), (6, .sl 60 p.2 0 p.1 none), (7, .int .i64 p.1)], [(60, .row p.2 1 true (.fn p.1 (fun k => .bool (nk (L.getD k treeD) == 2))))]⟩, fun p => p.1 ≤ L.length, fun p => L.length - p.1⟩
def tblRA : List (Nat × Ctr) := [(67, cSoundE), (68, cLeaves 8)]
noncomputable def ERA (L : List NodeG) : Env := { mkG Tryd.prog gN (tblOf tblRA) (fun f b => if f = 38 ∧ b = 0 then some (invRA L) else if f = 50 ∧ b = 0 then some (invRN L) else none) 0 with fzs := fun f => if f = 38 then [30] else [] }

theorem atomsR_vc (x : NodeG) (L : List AtomG) (e : Int) : (vcFun (ERA (leavesL 8 x)) 20 38 [nodeA 9 x] .nil 0 (retP 4 (.tup [.rof L.length (fun k => atomA (L.getD k atomD)) false, .int .i64 e]))).sat = (
  NB (isNode (8 : Nat) (nodeA (9 : Nat) x))
    (VB (sndE (nodeOf (8 : Nat) (nodeA (9 : Nat) x)) != (0 : Int)) (L.length = (0 : Nat) ∧ sndE (nodeOf (8 : Nat) (nodeA (9 : Nat) x)) = e ∧ True)
      (NB (isNode (8 : Nat) (nodeA (9 : Nat) x) && decide ((leavesL (8 : Nat) (nodeOf (8 : Nat) (nodeA (9 : Nat) x))).length ≤ (1000 : Nat)))
        ((∃ (i : Nat × Nat),
        i.fst.le (leavesL (8 : Nat) x).length ∧
        (((leavesL (8 : Nat) (nodeOf (8 : Nat) (nodeA (9 : Nat) x))).length = (leavesL (8 : Nat) x).length ∧
        (∀ (i : Nat),
        i < (leavesL (8 : Nat) (nodeOf (8 : Nat) (nodeA (9 : Nat) x))).length →
        (nodeA (2 : Nat) ((leavesL (8 : Nat) (nodeOf (8 : Nat) (nodeA (9 : Nat) x))).getD i treeD)).sub (nodeA (2 : Nat) ((leavesL (8 : Nat) x).getD i treeD)) ∧
        (nodeA (2 : Nat) ((leavesL (8 : Nat) (nodeOf (8 : Nat) (nodeA (9 : Nat) x))).getD i treeD)).cells.length = (nodeA (2 : Nat) ((leavesL (8 : Nat) x).getD i treeD)).cells.length) ∧
        (false = true → false = true)) ∧
        (i.fst = (0 : Nat) ∧ i.snd = i.snd ∧ i.fst = (0 : Nat)) ∧ (0 : Int) = (↑i.fst : Int) ∧ True) ∧
        i.fst = (0 : Nat) ∧ True) ∧
        ∀ (i : Nat × Nat),
        i.fst.le (leavesL (8 : Nat) x).length →
        VB (decide ((↑i.fst : Int) < (↑(leavesL (8 : Nat) x).length : Int)))
        (NB (decide ((0 : Int) ≤ (↑i.fst : Int) ∧ (↑i.fst : Int) < (↑(leavesL (8 : Nat) x).length : Int)))
        (NB
        (true && room ((0 : Nat) + (TreeG.val ((leavesL (8 : Nat) x).getD (↑i.fst : Int).toNat treeD)).snd.snd.snd.fst.snd.snd.snd.fst.length) (16 : Nat) && true &&
        ((TreeG.val ((leavesL (8 : Nat) x).getD (↑i.fst : Int).toNat treeD)).snd.snd.snd.fst.snd.snd.snd.fst.length != (0 : Nat) || true))
        (NB (true && decide (i.snd = i.snd) && room (i.fst + (1 : Nat)) (64 : Nat))
        (∃ (i' : Nat × Nat),
        i'.fst.le (leavesL (8 : Nat) x).length ∧
        (invRA (leavesL (8 : Nat) x)).μ i' < (invRA (leavesL (8 : Nat) x)).μ i ∧
        (((leavesL (8 : Nat) x).length = (leavesL (8 : Nat) x).length ∧
        (∀ (i : Nat),
        i < (leavesL (8 : Nat) x).length →
        (nodeA (2 : Nat) ((leavesL (8 : Nat) x).getD i treeD)).sub (nodeA (2 : Nat) ((leavesL (8 : Nat) x).getD i treeD)) ∧
        (nodeA (2 : Nat) ((leavesL (8 : Nat) x).getD i treeD)).cells.length = (nodeA (2 : Nat) ((leavesL (8 : Nat) x).getD i treeD)).cells.length) ∧
        (false = true → false = true)) ∧
        (i.snd + (1 : Nat) = i'.snd ∧ (0 : Nat) = (0 : Nat) ∧ i.fst + (1 : Nat) = i'.fst ∧ (@Eq (Option Nat) none none ∨ @Eq (Option Nat) none none)) ∧
        IntKind.i64.wrap ((↑i.fst : Int) + (1 : Int)) = (↑i'.fst : Int) ∧ True) ∧
        (i.snd + (1 : Nat) = i'.snd ∧
        (true = true → true = true) ∧
        i.fst + (1 : Nat) = i'.fst ∧
        ∀ (i_1 : Nat),
        i_1 < i.fst + (1 : Nat) →
        (if i_1 < i.fst then atomA (nat ((leavesL (8 : Nat) x).getD ((0 : Nat) + i_1) treeD))
        else
        ((Sq.lst
        [AV.agg
        [AV.int IntKind.i64 (TreeG.val ((leavesL (8 : Nat) x).getD (↑i.fst : Int).toNat treeD)).snd.snd.snd.fst.fst,
        AV.bool (TreeG.val ((leavesL (8 : Nat) x).getD (↑i.fst : Int).toNat treeD)).snd.snd.snd.fst.snd.fst,
        AV.int IntKind.u64 (TreeG.val ((leavesL (8 : Nat) x).getD (↑i.fst : Int).toNat treeD)).snd.snd.snd.fst.snd.snd.fst,
        AV.rof ((0 : Nat) + (TreeG.val ((leavesL (8 : Nat) x).getD (↑i.fst : Int).toNat treeD)).snd.snd.snd.fst.snd.snd.snd.fst.length)
        (fun (k : Nat) => condA ((TreeG.val ((leavesL (8 : Nat) x).getD (↑i.fst : Int).toNat treeD)).snd.snd.snd.fst.snd.snd.snd.fst.getD ((0 : Nat) + k) condD))
        false,
        AV.str (TreeG.val ((leavesL (8 : Nat) x).getD (↑i.fst : Int).toNat treeD)).snd.snd.snd.fst.snd.snd.snd.snd.fst]]).sub
        (0 : Nat) (1 : Nat)).get
        (i_1 - i.fst)).sub
        (atomA (nat ((leavesL (8 : Nat) x).getD i_1 treeD))) ∧
        (if i_1 < i.fst then atomA (nat ((leavesL (8 : Nat) x).getD ((0 : Nat) + i_1) treeD))
        else
        ((Sq.lst
        [AV.agg
        [AV.int IntKind.i64 (TreeG.val ((leavesL (8 : Nat) x).getD (↑i.fst : Int).toNat treeD)).snd.snd.snd.fst.fst,
        AV.bool (TreeG.val ((leavesL (8 : Nat) x).getD (↑i.fst : Int).toNat treeD)).snd.snd.snd.fst.snd.fst,
        AV.int IntKind.u64 (TreeG.val ((leavesL (8 : Nat) x).getD (↑i.fst : Int).toNat treeD)).snd.snd.snd.fst.snd.snd.fst,
        AV.rof ((0 : Nat) + (TreeG.val ((leavesL (8 : Nat) x).getD (↑i.fst : Int).toNat treeD)).snd.snd.snd.fst.snd.snd.snd.fst.length)
        (fun (k : Nat) =>
        condA ((TreeG.val ((leavesL (8 : Nat) x).getD (↑i.fst : Int).toNat treeD)).snd.snd.snd.fst.snd.snd.snd.fst.getD ((0 : Nat) + k) condD))
        false,
        AV.str (TreeG.val ((leavesL (8 : Nat) x).getD (↑i.fst : Int).toNat treeD)).snd.snd.snd.fst.snd.snd.snd.snd.fst]]).sub
        (0 : Nat) (1 : Nat)).get
        (i_1 - i.fst)).cells.length =
        (atomA (nat ((leavesL (8 : Nat) x).getD i_1 treeD))).cells.length) ∧
        True))))
        (NB (decide (i.snd = i.snd) && true)
        ((i.fst = L.length ∧
        (∀ (i_1 : Nat),
        i_1 < i.fst →
        (atomA (nat ((leavesL (8 : Nat) x).getD ((0 : Nat) + i_1) treeD))).sub (atomA (L.getD i_1 atomD)) ∧
        (atomA (nat ((leavesL (8 : Nat) x).getD ((0 : Nat) + i_1) treeD))).cells.length = (atomA (L.getD i_1 atomD)).cells.length) ∧
        (false = true → decide (none = some i.fst) = true)) ∧
        (0 : Int) = e ∧ True)))))) := by
  kernel_rfl

theorem negR_vc (x : NodeG) (L : List Bool) (e : Int) : (vcFun (ERA (leavesL 8 x)) 20 50 [nodeA 9 x] .nil 0 (retP 4 (.tup [.rof L.length (fun k => .bool (L.getD k false)) false, .int .i64 e]))).sat = (
  NB (isNode (8 : Nat) (nodeA (9 : Nat) x))
    (VB (sndE (nodeOf (8 : Nat) (nodeA (9 : Nat) x)) != (0 : Int)) (L.length = (0 : Nat) ∧ sndE (nodeOf (8 : Nat) (nodeA (9 : Nat) x)) = e ∧ True)
      (NB (isNode (8 : Nat) (nodeA (9 : Nat) x) && decide ((leavesL (8 : Nat) (nodeOf (8 : Nat) (nodeA (9 : Nat) x))).length ≤ (1000 : Nat)))
        ((∃ (i : Nat × Nat),
        i.fst.le (leavesL (8 : Nat) x).length ∧
        (((leavesL (8 : Nat) (nodeOf (8 : Nat) (nodeA (9 : Nat) x))).length = (leavesL (8 : Nat) x).length ∧
        (∀ (i : Nat),
        i < (leavesL (8 : Nat) (nodeOf (8 : Nat) (nodeA (9 : Nat) x))).length →
        (nodeA (2 : Nat) ((leavesL (8 : Nat) (nodeOf (8 : Nat) (nodeA (9 : Nat) x))).getD i treeD)).sub (nodeA (2 : Nat) ((leavesL (8 : Nat) x).getD i treeD)) ∧
        (nodeA (2 : Nat) ((leavesL (8 : Nat) (nodeOf (8 : Nat) (nodeA (9 : Nat) x))).getD i treeD)).cells.length = (nodeA (2 : Nat) ((leavesL (8 : Nat) x).getD i treeD)).cells.length) ∧
        (false = true → false = true)) ∧
        (i.fst = (0 : Nat) ∧ i.snd = i.snd ∧ i.fst = (0 : Nat)) ∧ (0 : Int) = (↑i.fst : Int) ∧ True) ∧
        i.fst = (0 : Nat) ∧ True) ∧
        ∀ (i : Nat × Nat),
        i.fst.le (leavesL (8 : Nat) x).length →
        VB (decide ((↑i.fst : Int) < (↑(leavesL (8 : Nat) x).length : Int)))
        (NB (decide ((0 : Int) ≤ (↑i.fst : Int) ∧ (↑i.fst : Int) < (↑(leavesL (8 : Nat) x).length : Int)))
        (NB (true && decide (i.snd = i.snd) && room (i.fst + (1 : Nat)) (1 : Nat))
        (∃ (i' : Nat × Nat),
        i'.fst.le (leavesL (8 : Nat) x).length ∧
        (invRN (leavesL (8 : Nat) x)).μ i' < (invRN (leavesL (8 : Nat) x)).μ i ∧
        (((leavesL (8 : Nat) x).length = (leavesL (8 : Nat) x).length ∧
        (∀ (i : Nat),
        i < (leavesL (8 : Nat) x).length →
        (nodeA (2 : Nat) ((leavesL (8 : Nat) x).getD i treeD)).sub (nodeA (2 : Nat) ((leavesL (8 : Nat) x).getD i treeD)) ∧
        (nodeA (2 : Nat) ((leavesL (8 : Nat) x).getD i treeD)).cells.length = (nodeA (2 : Nat) ((leavesL (8 : Nat) x).getD i treeD)).cells.length) ∧
        (false = true → false = true)) ∧
        (i.snd + (1 : Nat) = i'.snd ∧ (0 : Nat) = (0 : Nat) ∧ i.fst + (1 : Nat) = i'.fst ∧ (@Eq (Option Nat) none none ∨ @Eq (Option Nat) none none)) ∧
        IntKind.i64.wrap ((↑i.fst : Int) + (1 : Int)) = (↑i'.fst : Int) ∧ True) ∧
        (i.snd + (1 : Nat) = i'.snd ∧
        (true = true → true = true) ∧
        i.fst + (1 : Nat) = i'.fst ∧
        ∀ (i_1 : Nat),
        i_1 < i.fst + (1 : Nat) →
        (if i_1 < i.fst then AV.bool (nk ((leavesL (8 : Nat) x).getD ((0 : Nat) + i_1) treeD) == (2 : Int))
        else ((Sq.lst [AV.bool ((TreeG.val ((leavesL (8 : Nat) x).getD (↑i.fst : Int).toNat treeD)).fst == (2 : Int))]).sub (0 : Nat) (1 : Nat)).get (i_1 - i.fst)).sub
        (AV.bool (nk ((leavesL (8 : Nat) x).getD i_1 treeD) == (2 : Int))) ∧
        (if i_1 < i.fst then AV.bool (nk ((leavesL (8 : Nat) x).getD ((0 : Nat) + i_1) treeD) == (2 : Int))
        else ((Sq.lst [AV.bool ((TreeG.val ((leavesL (8 : Nat) x).getD (↑i.fst : Int).toNat treeD)).fst == (2 : Int))]).sub (0 : Nat) (1 : Nat)).get (i_1 - i.fst)).cells.length =
        [AV.bool (nk ((leavesL (8 : Nat) x).getD i_1 treeD) == (2 : Int))].length) ∧
        True)))
        (NB (decide (i.snd = i.snd) && true)
        ((i.fst = L.length ∧
        (∀ (i_1 : Nat),
        i_1 < i.fst →
        (nk ((leavesL (8 : Nat) x).getD ((0 : Nat) + i_1) treeD) == (2 : Int)) = L.getD i_1 false ∧
        [AV.bool (nk ((leavesL (8 : Nat) x).getD ((0 : Nat) + i_1) treeD) == (2 : Int))].length = [AV.bool (L.getD i_1 false)].length) ∧
        (false = true → decide (none = some i.fst) = true)) ∧
        (0 : Int) = e ∧ True)))))) := by
  kernel_rfl

end Go.Proofs.YtamcloifhjafcaaDoor
