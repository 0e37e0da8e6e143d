/- NODES 18: copies of conditions; leaves, conditions. -/
import Derived.Test.YtamcloifhjafcaaDoorAN16
namespace Go.Proofs.YtamcloifhjafcaaDoor
open Pw Go
set_option maxRecDepth 100000
set_option linter.unusedSimpArgs false

theorem pure_vcE {E : Env} {f : FuncId} {k d : Nat} {args : List AV} {v : AV} (hm : E.P.follows .mixedOrders = true) (hctr : CtrOK E) (hs : (vcFun E k f args .nil 0 (retP d v)).sat) : PureC E.P E.gl f args v := PureC.of_vc hm hctr hs
noncomputable def EQ : Env := { mkG Tryd.prog gN (tblOf []) (fun _ _ => none) 0 with nq := true }
def cClone : Ctr
  | [.rof n f _] => some (decide (n ≤ 1000) && (List.range n).all (fun i => isCond (f i)), .rof n (fun i => condA (condOf (f i))) false)
  | _ => none
def cLeaf : Ctr
  | [n] => some (isNodeT 1 n, .bool (isLeaf (nodeOf 1 n)))
  | _ => none
def cLeaves (g : Nat) : Ctr
  | [n] => some (isNode g n && decide ((leavesL g (nodeOf g n)).length ≤ 1000), .rof (leavesL g (nodeOf g n)).length (fun k => nodeA 2 ((leavesL g (nodeOf g n)).getD k treeD)) false)
  | _ => none
/-- The leaves of the first kids. -/
def lvK (g : Nat) (l : List NodeG) (i : Nat) : List NodeG := ((l.take i).map (leavesL g)).flatten
def invLv (g : Nat) (x : NodeG) : Inv := ⟨Nat × Nat, 70, fun p => ⟨[(1, .ptr 0 0 0 0), (3, .sl 60 p.2 0 (lvK g x.kids p.1).length none), (4, .int .i64 p.1)], [(0, .row 0 9 true (.lst [nodeA (g + 2) x])), (60, .row p.2 9 true (.fn (lvK g x.kids p.1).length (fun k => nodeA 2 ((lvK g x.kids p.1).getD k treeD))))]⟩, fun p => p.1 ≤ x.kids.length, fun p => x.kids.length - p.1⟩

theorem clone_vc (l : List CondG) : (vcFun EQ 20 75 [condsA l] .nil 0 (retP 3 (condsA l))).sat = (
  ∀ (i : Bool),
    (i = true → l.length = (0 : Nat)) →
      VB (false ^^ i) (l.length = (0 : Nat))
        (NB (true && room ((0 : Nat) + l.length) (16 : Nat) && true && (l.length != (0 : Nat) || true))
        ((0 : Nat) + l.length = l.length ∧
        (∀ (i : Nat),
        i < (0 : Nat) + l.length →
        ((l.getD ((0 : Nat) + i) condD).fst = (l.getD i condD).fst ∧ (l.getD ((0 : Nat) + i) condD).snd.fst = (l.getD i condD).snd.fst ∧ True) ∧
        [AV.int IntKind.i64 (l.getD ((0 : Nat) + i) condD).fst, AV.int IntKind.i64 (l.getD ((0 : Nat) + i) condD).snd.fst].length =
        [AV.int IntKind.i64 (l.getD i condD).fst, AV.int IntKind.i64 (l.getD i condD).snd.fst].length) ∧
        (false = true → decide (none = some ((0 : Nat) + l.length)) = true)))) := by
  kernel_rfl

theorem leaf_vc (x : NodeG) (r : Bool) : (vcFun (mkG Tryd.prog gN (tblOf []) (fun _ _ => none) 0) 20 109 [nodeA 1 x] .nil 0 (retP 3 (.bool r))).sat = (
  ((TreeG.val x).fst == (1 : Int) || (TreeG.val x).fst == (2 : Int)) = r) := by
  kernel_rfl

theorem leaves_vc (g : Nat) (x : NodeG) (L : List NodeG) : (vcFun (mkG Tryd.prog gN (tblOf [(68, cLeaves g)]) (fun f b => if f = 68 ∧ b = 0 then some (invLv g x) else none) 0) 20 68 [nodeA (g + 2) x] .nil 0 (retP 4 (.rof L.length (fun k => nodeA 2 (L.getD k treeD)) false))).sat = (
  VB ((TreeG.val x).fst == (1 : Int) || (TreeG.val x).fst == (2 : Int))
    ([nodeA (g + (2 : Nat)) x].length = L.length ∧
      (((nodeA (g + (2 : Nat)) x).sub (nodeA (2 : Nat) (L.getD (0 : Nat) treeD)) ∧ (nodeA (g + (2 : Nat)) x).cells.length = (nodeA (2 : Nat) (L.getD (0 : Nat) treeD)).cells.length) ∧ True) ∧ (false = true → true = true))
    ((∃ (i : Nat × Nat),
        i.fst.le (TreeG.kids x).length ∧
        (((0 : Nat) = (0 : Nat) ∧ (0 : Nat) = (0 : Nat) ∧ (0 : Nat) = (0 : Nat)) ∧
        ((lvK g (TreeG.kids x) i.fst).length = (0 : Nat) ∧ i.snd = i.snd ∧ (lvK g (TreeG.kids x) i.fst).length = (0 : Nat)) ∧ (0 : Int) = (↑i.fst : Int) ∧ True) ∧
        ((0 : Nat) = (0 : Nat) ∧ (true = true → true = true) ∧ ((nodeA (g + (2 : Nat)) x).sub (nodeA (g + (2 : Nat)) x) ∧ (nodeA (g + (2 : Nat)) x).cells.length = (nodeA (g + (2 : Nat)) x).cells.length) ∧ True) ∧
        (lvK g (TreeG.kids x) i.fst).length = (0 : Nat) ∧ True) ∧
      ∀ (i : Nat × Nat),
        i.fst.le (TreeG.kids x).length →
        VB (decide ((↑i.fst : Int) < (↑(TreeG.kids x).length : Int)))
        (NB (decide ((0 : Int) ≤ (↑i.fst : Int) ∧ (↑i.fst : Int) < (↑(TreeG.kids x).length : Int)))
        (NB
        (isNode g (nodeA (g + (1 : Nat)) ((TreeG.kids x).getD (↑i.fst : Int).toNat (TreeG.mk nodeD []))) &&
        decide ((leavesL g (nodeOf g (nodeA (g + (1 : Nat)) ((TreeG.kids x).getD (↑i.fst : Int).toNat (TreeG.mk nodeD []))))).length ≤ (1000 : Nat)))
        (NB
        (true && decide (i.snd = i.snd) &&
        room ((lvK g (TreeG.kids x) i.fst).length + (leavesL g (nodeOf g (nodeA (g + (1 : Nat)) ((TreeG.kids x).getD (↑i.fst : Int).toNat (TreeG.mk nodeD []))))).length) (112 : Nat))
        (∃ (i' : Nat × Nat),
        i'.fst.le (TreeG.kids x).length ∧
        (invLv g x).μ i' < (invLv g x).μ i ∧
        (((0 : Nat) = (0 : Nat) ∧ (0 : Nat) = (0 : Nat) ∧ (0 : Nat) = (0 : Nat)) ∧
        (i.snd + (1 : Nat) = i'.snd ∧
        (0 : Nat) = (0 : Nat) ∧
        (lvK g (TreeG.kids x) i.fst).length + (leavesL g (nodeOf g (nodeA (g + (1 : Nat)) ((TreeG.kids x).getD (↑i.fst : Int).toNat (TreeG.mk nodeD []))))).length =
        (lvK g (TreeG.kids x) i'.fst).length ∧
        (@Eq (Option Nat) none none ∨ @Eq (Option Nat) none none)) ∧
        IntKind.i64.wrap ((↑i.fst : Int) + (1 : Int)) = (↑i'.fst : Int) ∧ True) ∧
        ((0 : Nat) = (0 : Nat) ∧
        (true = true → true = true) ∧ ((nodeA (g + (2 : Nat)) x).sub (nodeA (g + (2 : Nat)) x) ∧ (nodeA (g + (2 : Nat)) x).cells.length = (nodeA (g + (2 : Nat)) x).cells.length) ∧ True) ∧
        (i.snd + (1 : Nat) = i'.snd ∧
        (true = true → true = true) ∧
        (lvK g (TreeG.kids x) i.fst).length + (leavesL g (nodeOf g (nodeA (g + (1 : Nat)) ((TreeG.kids x).getD (↑i.fst : Int).toNat (TreeG.mk nodeD []))))).length =
        (lvK g (TreeG.kids x) i'.fst).length ∧
        ∀ (i_1 : Nat),
        i_1 < (lvK g (TreeG.kids x) i.fst).length + (leavesL g (nodeOf g (nodeA (g + (1 : Nat)) ((TreeG.kids x).getD (↑i.fst : Int).toNat (TreeG.mk nodeD []))))).length →
        (if i_1 < (lvK g (TreeG.kids x) i.fst).length then nodeA (2 : Nat) ((lvK g (TreeG.kids x) i.fst).getD ((0 : Nat) + i_1) treeD)
        else
        nodeA (2 : Nat)
        ((leavesL g (nodeOf g (nodeA (g + (1 : Nat)) ((TreeG.kids x).getD (↑i.fst : Int).toNat (TreeG.mk nodeD []))))).getD (i_1 - (lvK g (TreeG.kids x) i.fst).length) treeD)).sub
        (nodeA (2 : Nat) ((lvK g (TreeG.kids x) i'.fst).getD i_1 treeD)) ∧
        (if i_1 < (lvK g (TreeG.kids x) i.fst).length then nodeA (2 : Nat) ((lvK g (TreeG.kids x) i.fst).getD ((0 : Nat) + i_1) treeD)
        else
        nodeA (2 : Nat)
        ((leavesL g (nodeOf g (nodeA (g + (1 : Nat)) ((TreeG.kids x).getD (↑i.fst : Int).toNat (TreeG.mk nodeD []))))).getD (i_1 - (lvK g (TreeG.kids x) i.fst).length)
        treeD)).cells.length =
        (nodeA (2 : Nat) ((lvK g (TreeG.kids x) i'.fst).getD i_1 treeD)).cells.length) ∧
        True))))
        (NB (decide (i.snd = i.snd))
        ((lvK g (TreeG.kids x) i.fst).length = L.length ∧
        (∀ (i_1 : Nat),
        i_1 < (lvK g (TreeG.kids x) i.fst).length →
        (nodeA (2 : Nat) ((lvK g (TreeG.kids x) i.fst).getD ((0 : Nat) + i_1) treeD)).sub (nodeA (2 : Nat) (L.getD i_1 treeD)) ∧
        (nodeA (2 : Nat) ((lvK g (TreeG.kids x) i.fst).getD ((0 : Nat) + i_1) treeD)).cells.length = (nodeA (2 : Nat) (L.getD i_1 treeD)).cells.length) ∧
        (false = true → decide (none = some (lvK g (TreeG.kids x) i.fst).length) = true))))) := by
  kernel_rfl

end Go.Proofs.YtamcloifhjafcaaDoor
