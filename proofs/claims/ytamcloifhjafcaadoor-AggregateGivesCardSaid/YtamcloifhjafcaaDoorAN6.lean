/- NODES 6: soundness of nodes, conditions of both codes. -/
import Derived.Test.YtamcloifhjafcaaDoorAN5
namespace Go.Proofs.YtamcloifhjafcaaDoor
open Pw Go
set_option maxRecDepth 100000
set_option linter.unusedSimpArgs false

def cZero : Ctr
  | [.agg [.int .i64 k, .bool bd, .int .u64 bo, .rof n _ _, .str nm]] => some (true, .bool (k == 0 && !bd && bo == 0 && decide ((n : Int) = 0) && (nm == [])))
  | _ => none
def cSoundI (g : Nat) : Ctr
  | [n, .int .i64 d] => some (isNode g n && decide (0 ≤ d) && decide (d ≤ 1000), .bool (soundB d.toNat (nodeOf g n)))
  | _ => none
def cSoundR (g : Nat) : Ctr
  | [n, .int .i64 d] => some (isNode g n && decide (1 ≤ d) && decide (d ≤ 201), .bool (soundB (201 - d).toNat (nodeOf g n)))
  | _ => none
def kidsA (g : Nat) (x : NodeG) : AV := .rof x.kids.length (fun i => nodeA g (x.kids.getD i treeD)) false
def invSI (g : Nat) (x : NodeG) (d : Int) : Inv := ⟨Nat, 50, fun i => ⟨[(0, kidsA g x), (1, .fn (.func 143) [] [.ptr 1 0 0 0]), (6, kidsA g x), (7, .int .i64 x.kids.length), (8, .int .i64 i)], [(1, .row 0 1 true (.lst [.int .i64 d]))]⟩, fun i => i ≤ x.kids.length ∧ ∀ j, j < i → soundB (d - 1).toNat (x.kids.getD j treeD) = true, fun i => x.kids.length - i⟩
def invSR (g : Nat) (x : NodeG) (d : Int) : Inv := ⟨Nat, 50, fun i => ⟨[(1, .int .i64 d), (2, .ptr 0 0 0 0), (5, .int .i64 i)], [(0, .row 0 9 true (.lst [nodeA g x]))]⟩, fun i => i ≤ x.kids.length ∧ ∀ j, j < i → soundB (201 - (d + 1)).toNat (x.kids.getD j treeD) = true, fun i => x.kids.length - i⟩
def tblSI (g : Nat) : List (Nat × Ctr) := [(140, cAtom), (126, cSoundI g)]
def tblSR (g : Nat) : List (Nat × Ctr) := [(114, cAtom), (81, cSoundR g)]

theorem soundI_vc (g : Nat) (x : NodeG) (d : Int) (r : Bool) : (vcFun (mkG Tryd.prog gN (tblOf (tblSI g)) (fun f b => if f = 152 ∧ b = 0 then some (invSI (g + 1) x d) else none) 0) 20 126 [nodeA (g + 2) x, .int .i64 d] .nil 0 (retP 3 (.bool r))).sat = (
  VB (d == (0 : Int)) (false = r)
    (VB ((TreeG.val x).fst == (1 : Int))
      (NB
        ((decide ((TreeG.val x).snd.snd.snd.fst.snd.snd.snd.fst.length ≤ (1000000 : Nat)) &&
        condsB (TreeG.val x).snd.snd.snd.fst.snd.snd.snd.fst.length fun (i : Nat) => condA ((TreeG.val x).snd.snd.snd.fst.snd.snd.snd.fst.getD i condD)) &&
        decide ((TreeG.val x).snd.snd.snd.fst.snd.snd.snd.snd.fst.length ≤ (9223372036854775807 : Nat)))
        ((atomS (TreeG.val x).snd.snd.snd.fst.fst (TreeG.val x).snd.snd.snd.fst.snd.fst (TreeG.val x).snd.snd.snd.fst.snd.snd.fst (TreeG.val x).snd.snd.snd.fst.snd.snd.snd.fst.length
        (fun (i : Nat) => ((TreeG.val x).snd.snd.snd.fst.snd.snd.snd.fst.getD i condD).fst) (TreeG.val x).snd.snd.snd.fst.snd.snd.snd.snd.fst &&
        decide ((TreeG.val x).snd.fst ≥ (0 : Int)) &&
        decide ((TreeG.val x).snd.fst ≤ (99 : Int)) &&
        decide ((TreeG.val x).snd.snd.fst ≥ (0 : Int)) &&
        decide ((TreeG.val x).snd.snd.fst ≤ (99 : Int)) &&
        (↑(TreeG.kids x).length : Int) == (0 : Int)) =
        r))
      (VB ((TreeG.val x).fst == (2 : Int))
        (NB
        ((decide ((TreeG.val x).snd.snd.snd.fst.snd.snd.snd.fst.length ≤ (1000000 : Nat)) &&
        condsB (TreeG.val x).snd.snd.snd.fst.snd.snd.snd.fst.length fun (i : Nat) => condA ((TreeG.val x).snd.snd.snd.fst.snd.snd.snd.fst.getD i condD)) &&
        decide ((TreeG.val x).snd.snd.snd.fst.snd.snd.snd.snd.fst.length ≤ (9223372036854775807 : Nat)))
        ((atomS (TreeG.val x).snd.snd.snd.fst.fst (TreeG.val x).snd.snd.snd.fst.snd.fst (TreeG.val x).snd.snd.snd.fst.snd.snd.fst (TreeG.val x).snd.snd.snd.fst.snd.snd.snd.fst.length
        (fun (i : Nat) => ((TreeG.val x).snd.snd.snd.fst.snd.snd.snd.fst.getD i condD).fst) (TreeG.val x).snd.snd.snd.fst.snd.snd.snd.snd.fst &&
        (TreeG.val x).snd.fst == (0 : Int) &&
        (TreeG.val x).snd.snd.fst == (0 : Int) &&
        (↑(TreeG.kids x).length : Int) == (0 : Int)) =
        r))
        (VB ((TreeG.val x).fst == (3 : Int))
        (VB ((TreeG.val x).fst == (3 : Int))
        (VB (isW true (decide ((↑(TreeG.kids x).length : Int) ≥ (2 : Int)) && (TreeG.val x).snd.fst == (0 : Int) && (TreeG.val x).snd.snd.fst == (0 : Int)))
        (VB
        (isW true
        (decide ((↑(TreeG.kids x).length : Int) ≥ (2 : Int)) && (TreeG.val x).snd.fst == (0 : Int) && (TreeG.val x).snd.snd.fst == (0 : Int) &&
        ((TreeG.val x).snd.snd.snd.fst.fst == (0 : Int) && !(TreeG.val x).snd.snd.snd.fst.snd.fst && (TreeG.val x).snd.snd.snd.fst.snd.snd.fst == (0 : Int) &&
        (↑(TreeG.val x).snd.snd.snd.fst.snd.snd.snd.fst.length : Int) == (0 : Int) &&
        (TreeG.val x).snd.snd.snd.fst.snd.snd.snd.snd.fst == [])))
        ((∃ (i : Nat),
        (i ≤ (TreeG.kids x).length ∧ ∀ (j : Nat), j < i → soundB (d - (1 : Int)).toNat ((TreeG.kids x).getD j treeD) = true) ∧
        (((TreeG.kids x).length = (TreeG.kids x).length ∧
        (∀ (i : Nat),
        i < (TreeG.kids x).length →
        (nodeA (g + (1 : Nat)) ((TreeG.kids x).getD i treeD)).sub (nodeA (g + (1 : Nat)) ((TreeG.kids x).getD i treeD)) ∧
        (nodeA (g + (1 : Nat)) ((TreeG.kids x).getD i treeD)).cells.length = (nodeA (g + (1 : Nat)) ((TreeG.kids x).getD i treeD)).cells.length) ∧
        (false = true → false = true)) ∧
        (Fn.func (143 : Nat) = Fn.func (143 : FuncId) ∧ True ∧ ((0 : Nat) = (0 : Nat) ∧ (0 : Nat) = (0 : Nat) ∧ (0 : Nat) = (0 : Nat)) ∧ True) ∧
        ((TreeG.kids x).length = (TreeG.kids x).length ∧
        (∀ (i : Nat),
        i < (TreeG.kids x).length →
        (nodeA (g + (1 : Nat)) ((TreeG.kids x).getD i treeD)).sub (nodeA (g + (1 : Nat)) ((TreeG.kids x).getD i treeD)) ∧
        (nodeA (g + (1 : Nat)) ((TreeG.kids x).getD i treeD)).cells.length = (nodeA (g + (1 : Nat)) ((TreeG.kids x).getD i treeD)).cells.length) ∧
        (false = true → false = true)) ∧
        (↑(TreeG.kids x).length : Int) = (↑(TreeG.kids x).length : Int) ∧ (0 : Int) = (↑i : Int) ∧ True) ∧
        ((0 : Nat) = (0 : Nat) ∧ (true = true → true = true) ∧ (d = d ∧ [AV.int IntKind.i64 d].length = [AV.int IntKind.i64 d].length) ∧ True) ∧ True) ∧
        ∀ (i : Nat),
        (i ≤ (TreeG.kids x).length ∧ ∀ (j : Nat), j < i → soundB (d - (1 : Int)).toNat ((TreeG.kids x).getD j treeD) = true) →
        VB (decide ((↑i : Int) < (↑(TreeG.kids x).length : Int)))
        (NB (decide ((0 : Int) ≤ (↑i : Int) ∧ (↑i : Int) < (↑(TreeG.kids x).length : Int)))
        (NB
        (isNode g (nodeA (g + (1 : Nat)) ((TreeG.kids x).getD (↑i : Int).toNat treeD)) && decide ((0 : Int) ≤ IntKind.i64.wrap (d - (1 : Int))) &&
        decide (IntKind.i64.wrap (d - (1 : Int)) ≤ (1000 : Int)))
        (VB (!soundB (IntKind.i64.wrap (d - (1 : Int))).toNat (nodeOf g (nodeA (g + (1 : Nat)) ((TreeG.kids x).getD (↑i : Int).toNat treeD))))
        ((decide ((↑(TreeG.kids x).length : Int) ≥ (2 : Int)) && (TreeG.val x).snd.fst == (0 : Int) && (TreeG.val x).snd.snd.fst == (0 : Int) &&
        ((TreeG.val x).snd.snd.snd.fst.fst == (0 : Int) && !(TreeG.val x).snd.snd.snd.fst.snd.fst && (TreeG.val x).snd.snd.snd.fst.snd.snd.fst == (0 : Int) &&
        (↑(TreeG.val x).snd.snd.snd.fst.snd.snd.snd.fst.length : Int) == (0 : Int) &&
        (TreeG.val x).snd.snd.snd.fst.snd.snd.snd.snd.fst == []) &&
        !decide ((↑i : Int) ≥ (0 : Int))) =
        r)
        (∃ (i' : Nat),
        (i' ≤ (TreeG.kids x).length ∧ ∀ (j : Nat), j < i' → soundB (d - (1 : Int)).toNat ((TreeG.kids x).getD j treeD) = true) ∧
        (invSI (g + (1 : Nat)) x d).μ i' < (invSI (g + (1 : Nat)) x d).μ i ∧
        (((TreeG.kids x).length = (TreeG.kids x).length ∧
        (∀ (i : Nat),
        i < (TreeG.kids x).length →
        (nodeA (g + (1 : Nat)) ((TreeG.kids x).getD i treeD)).sub (nodeA (g + (1 : Nat)) ((TreeG.kids x).getD i treeD)) ∧
        (nodeA (g + (1 : Nat)) ((TreeG.kids x).getD i treeD)).cells.length = (nodeA (g + (1 : Nat)) ((TreeG.kids x).getD i treeD)).cells.length) ∧
        (false = true → false = true)) ∧
        (Fn.func (143 : FuncId) = Fn.func (143 : FuncId) ∧ True ∧ ((0 : Nat) = (0 : Nat) ∧ (0 : Nat) = (0 : Nat) ∧ (0 : Nat) = (0 : Nat)) ∧ True) ∧
        ((TreeG.kids x).length = (TreeG.kids x).length ∧
        (∀ (i : Nat),
        i < (TreeG.kids x).length →
        (nodeA (g + (1 : Nat)) ((TreeG.kids x).getD i treeD)).sub (nodeA (g + (1 : Nat)) ((TreeG.kids x).getD i treeD)) ∧
        (nodeA (g + (1 : Nat)) ((TreeG.kids x).getD i treeD)).cells.length = (nodeA (g + (1 : Nat)) ((TreeG.kids x).getD i treeD)).cells.length) ∧
        (false = true → false = true)) ∧
        (↑(TreeG.kids x).length : Int) = (↑(TreeG.kids x).length : Int) ∧ IntKind.i64.wrap ((↑i : Int) + (1 : Int)) = (↑i' : Int) ∧ True) ∧
        ((0 : Nat) = (0 : Nat) ∧ (true = true → true = true) ∧ (d = d ∧ [AV.int IntKind.i64 d].length = [AV.int IntKind.i64 d].length) ∧ True) ∧ True))))
        ((decide ((↑(TreeG.kids x).length : Int) ≥ (2 : Int)) && (TreeG.val x).snd.fst == (0 : Int) && (TreeG.val x).snd.snd.fst == (0 : Int) &&
        ((TreeG.val x).snd.snd.snd.fst.fst == (0 : Int) && !(TreeG.val x).snd.snd.snd.fst.snd.fst && (TreeG.val x).snd.snd.snd.fst.snd.snd.fst == (0 : Int) &&
        (↑(TreeG.val x).snd.snd.snd.fst.snd.snd.snd.fst.length : Int) == (0 : Int) &&
        (TreeG.val x).snd.snd.snd.fst.snd.snd.snd.snd.fst == []) &&
        true) =
        r))
        ((decide ((↑(TreeG.kids x).length : Int) ≥ (2 : Int)) && (TreeG.val x).snd.fst == (0 : Int) && (TreeG.val x).snd.snd.fst == (0 : Int) &&
        ((TreeG.val x).snd.snd.snd.fst.fst == (0 : Int) && !(TreeG.val x).snd.snd.snd.fst.snd.fst && (TreeG.val x).snd.snd.snd.fst.snd.snd.fst == (0 : Int) &&
        (↑(TreeG.val x).snd.snd.snd.fst.snd.snd.snd.fst.length : Int) == (0 : Int) &&
        (TreeG.val x).snd.snd.snd.fst.snd.snd.snd.snd.fst == []) &&
        true) =
        r))
        (VB (isW true (decide ((↑(TreeG.kids x).length : Int) ≥ (2 : Int)) && (TreeG.val x).snd.fst == (0 : Int) && (TreeG.val x).snd.snd.fst == (0 : Int) && false))
        ((∃ (i : Nat),
        (i ≤ (TreeG.kids x).length ∧ ∀ (j : Nat), j < i → soundB (d - (1 : Int)).toNat ((TreeG.kids x).getD j treeD) = true) ∧
        (((TreeG.kids x).length = (TreeG.kids x).length ∧
        (∀ (i : Nat),
        i < (TreeG.kids x).length →
        (nodeA (g + (1 : Nat)) ((TreeG.kids x).getD i treeD)).sub (nodeA (g + (1 : Nat)) ((TreeG.kids x).getD i treeD)) ∧
        (nodeA (g + (1 : Nat)) ((TreeG.kids x).getD i treeD)).cells.length = (nodeA (g + (1 : Nat)) ((TreeG.kids x).getD i treeD)).cells.length) ∧
        (false = true → false = true)) ∧
        (Fn.func (143 : Nat) = Fn.func (143 : FuncId) ∧ True ∧ ((0 : Nat) = (0 : Nat) ∧ (0 : Nat) = (0 : Nat) ∧ (0 : Nat) = (0 : Nat)) ∧ True) ∧
        ((TreeG.kids x).length = (TreeG.kids x).length ∧
        (∀ (i : Nat),
        i < (TreeG.kids x).length →
        (nodeA (g + (1 : Nat)) ((TreeG.kids x).getD i treeD)).sub (nodeA (g + (1 : Nat)) ((TreeG.kids x).getD i treeD)) ∧
        (nodeA (g + (1 : Nat)) ((TreeG.kids x).getD i treeD)).cells.length = (nodeA (g + (1 : Nat)) ((TreeG.kids x).getD i treeD)).cells.length) ∧
        (false = true → false = true)) ∧
        (↑(TreeG.kids x).length : Int) = (↑(TreeG.kids x).length : Int) ∧ (0 : Int) = (↑i : Int) ∧ True) ∧
        ((0 : Nat) = (0 : Nat) ∧ (true = true → true = true) ∧ (d = d ∧ [AV.int IntKind.i64 d].length = [AV.int IntKind.i64 d].length) ∧ True) ∧ True) ∧
        ∀ (i : Nat),
        (i ≤ (TreeG.kids x).length ∧ ∀ (j : Nat), j < i → soundB (d - (1 : Int)).toNat ((TreeG.kids x).getD j treeD) = true) →
        VB (decide ((↑i : Int) < (↑(TreeG.kids x).length : Int)))
        (NB (decide ((0 : Int) ≤ (↑i : Int) ∧ (↑i : Int) < (↑(TreeG.kids x).length : Int)))
        (NB
        (isNode g (nodeA (g + (1 : Nat)) ((TreeG.kids x).getD (↑i : Int).toNat treeD)) && decide ((0 : Int) ≤ IntKind.i64.wrap (d - (1 : Int))) &&
        decide (IntKind.i64.wrap (d - (1 : Int)) ≤ (1000 : Int)))
        (VB (!soundB (IntKind.i64.wrap (d - (1 : Int))).toNat (nodeOf g (nodeA (g + (1 : Nat)) ((TreeG.kids x).getD (↑i : Int).toNat treeD))))
        ((decide ((↑(TreeG.kids x).length : Int) ≥ (2 : Int)) && (TreeG.val x).snd.fst == (0 : Int) && (TreeG.val x).snd.snd.fst == (0 : Int) && false && !decide ((↑i : Int) ≥ (0 : Int))) = r)
        (∃ (i' : Nat),
        (i' ≤ (TreeG.kids x).length ∧ ∀ (j : Nat), j < i' → soundB (d - (1 : Int)).toNat ((TreeG.kids x).getD j treeD) = true) ∧
        (invSI (g + (1 : Nat)) x d).μ i' < (invSI (g + (1 : Nat)) x d).μ i ∧
        (((TreeG.kids x).length = (TreeG.kids x).length ∧
        (∀ (i : Nat),
        i < (TreeG.kids x).length →
        (nodeA (g + (1 : Nat)) ((TreeG.kids x).getD i treeD)).sub (nodeA (g + (1 : Nat)) ((TreeG.kids x).getD i treeD)) ∧
        (nodeA (g + (1 : Nat)) ((TreeG.kids x).getD i treeD)).cells.length = (nodeA (g + (1 : Nat)) ((TreeG.kids x).getD i treeD)).cells.length) ∧
        (false = true → false = true)) ∧
        (Fn.func (143 : FuncId) = Fn.func (143 : FuncId) ∧ True ∧ ((0 : Nat) = (0 : Nat) ∧ (0 : Nat) = (0 : Nat) ∧ (0 : Nat) = (0 : Nat)) ∧ True) ∧
        ((TreeG.kids x).length = (TreeG.kids x).length ∧
        (∀ (i : Nat),
        i < (TreeG.kids x).length →
        (nodeA (g + (1 : Nat)) ((TreeG.kids x).getD i treeD)).sub (nodeA (g + (1 : Nat)) ((TreeG.kids x).getD i treeD)) ∧
        (nodeA (g + (1 : Nat)) ((TreeG.kids x).getD i treeD)).cells.length = (nodeA (g + (1 : Nat)) ((TreeG.kids x).getD i treeD)).cells.length) ∧
        (false = true → false = true)) ∧
        (↑(TreeG.kids x).length : Int) = (↑(TreeG.kids x).length : Int) ∧ IntKind.i64.wrap ((↑i : Int) + (1 : Int)) = (↑i' : Int) ∧ True) ∧
        ((0 : Nat) = (0 : Nat) ∧ (true = true → true = true) ∧ (d = d ∧ [AV.int IntKind.i64 d].length = [AV.int IntKind.i64 d].length) ∧ True) ∧ True))))
        ((decide ((↑(TreeG.kids x).length : Int) ≥ (2 : Int)) && (TreeG.val x).snd.fst == (0 : Int) && (TreeG.val x).snd.snd.fst == (0 : Int) && false && true) = r))
        ((decide ((↑(TreeG.kids x).length : Int) ≥ (2 : Int)) && (TreeG.val x).snd.fst == (0 : Int) && (TreeG.val x).snd.snd.fst == (0 : Int) && false && true) = r)))
        (false = r))
        (VB ((TreeG.val x).fst == (4 : Int))
        (VB (isW true (decide ((↑(TreeG.kids x).length : Int) ≥ (2 : Int)) && (TreeG.val x).snd.fst == (0 : Int) && (TreeG.val x).snd.snd.fst == (0 : Int)))
        (VB
        (isW true
        (decide ((↑(TreeG.kids x).length : Int) ≥ (2 : Int)) && (TreeG.val x).snd.fst == (0 : Int) && (TreeG.val x).snd.snd.fst == (0 : Int) &&
        ((TreeG.val x).snd.snd.snd.fst.fst == (0 : Int) && !(TreeG.val x).snd.snd.snd.fst.snd.fst && (TreeG.val x).snd.snd.snd.fst.snd.snd.fst == (0 : Int) &&
        (↑(TreeG.val x).snd.snd.snd.fst.snd.snd.snd.fst.length : Int) == (0 : Int) &&
        (TreeG.val x).snd.snd.snd.fst.snd.snd.snd.snd.fst == [])))
        ((∃ (i : Nat),
        (i ≤ (TreeG.kids x).length ∧ ∀ (j : Nat), j < i → soundB (d - (1 : Int)).toNat ((TreeG.kids x).getD j treeD) = true) ∧
        (((TreeG.kids x).length = (TreeG.kids x).length ∧
        (∀ (i : Nat),
        i < (TreeG.kids x).length →
        (nodeA (g + (1 : Nat)) ((TreeG.kids x).getD i treeD)).sub (nodeA (g + (1 : Nat)) ((TreeG.kids x).getD i treeD)) ∧
        (nodeA (g + (1 : Nat)) ((TreeG.kids x).getD i treeD)).cells.length = (nodeA (g + (1 : Nat)) ((TreeG.kids x).getD i treeD)).cells.length) ∧
        (false = true → false = true)) ∧
        (Fn.func (143 : Nat) = Fn.func (143 : FuncId) ∧ True ∧ ((0 : Nat) = (0 : Nat) ∧ (0 : Nat) = (0 : Nat) ∧ (0 : Nat) = (0 : Nat)) ∧ True) ∧
        ((TreeG.kids x).length = (TreeG.kids x).length ∧
        (∀ (i : Nat),
        i < (TreeG.kids x).length →
        (nodeA (g + (1 : Nat)) ((TreeG.kids x).getD i treeD)).sub (nodeA (g + (1 : Nat)) ((TreeG.kids x).getD i treeD)) ∧
        (nodeA (g + (1 : Nat)) ((TreeG.kids x).getD i treeD)).cells.length = (nodeA (g + (1 : Nat)) ((TreeG.kids x).getD i treeD)).cells.length) ∧
        (false = true → false = true)) ∧
        (↑(TreeG.kids x).length : Int) = (↑(TreeG.kids x).length : Int) ∧ (0 : Int) = (↑i : Int) ∧ True) ∧
        ((0 : Nat) = (0 : Nat) ∧ (true = true → true = true) ∧ (d = d ∧ [AV.int IntKind.i64 d].length = [AV.int IntKind.i64 d].length) ∧ True) ∧ True) ∧
        ∀ (i : Nat),
        (i ≤ (TreeG.kids x).length ∧ ∀ (j : Nat), j < i → soundB (d - (1 : Int)).toNat ((TreeG.kids x).getD j treeD) = true) →
        VB (decide ((↑i : Int) < (↑(TreeG.kids x).length : Int)))
        (NB (decide ((0 : Int) ≤ (↑i : Int) ∧ (↑i : Int) < (↑(TreeG.kids x).length : Int)))
        (NB
        (isNode g (nodeA (g + (1 : Nat)) ((TreeG.kids x).getD (↑i : Int).toNat treeD)) && decide ((0 : Int) ≤ IntKind.i64.wrap (d - (1 : Int))) &&
        decide (IntKind.i64.wrap (d - (1 : Int)) ≤ (1000 : Int)))
        (VB (!soundB (IntKind.i64.wrap (d - (1 : Int))).toNat (nodeOf g (nodeA (g + (1 : Nat)) ((TreeG.kids x).getD (↑i : Int).toNat treeD))))
        ((decide ((↑(TreeG.kids x).length : Int) ≥ (2 : Int)) && (TreeG.val x).snd.fst == (0 : Int) && (TreeG.val x).snd.snd.fst == (0 : Int) &&
        ((TreeG.val x).snd.snd.snd.fst.fst == (0 : Int) && !(TreeG.val x).snd.snd.snd.fst.snd.fst && (TreeG.val x).snd.snd.snd.fst.snd.snd.fst == (0 : Int) &&
        (↑(TreeG.val x).snd.snd.snd.fst.snd.snd.snd.fst.length : Int) == (0 : Int) &&
        (TreeG.val x).snd.snd.snd.fst.snd.snd.snd.snd.fst == []) &&
        !decide ((↑i : Int) ≥ (0 : Int))) =
        r)
        (∃ (i' : Nat),
        (i' ≤ (TreeG.kids x).length ∧ ∀ (j : Nat), j < i' → soundB (d - (1 : Int)).toNat ((TreeG.kids x).getD j treeD) = true) ∧
        (invSI (g + (1 : Nat)) x d).μ i' < (invSI (g + (1 : Nat)) x d).μ i ∧
        (((TreeG.kids x).length = (TreeG.kids x).length ∧
        (∀ (i : Nat),
        i < (TreeG.kids x).length →
        (nodeA (g + (1 : Nat)) ((TreeG.kids x).getD i treeD)).sub (nodeA (g + (1 : Nat)) ((TreeG.kids x).getD i treeD)) ∧
        (nodeA (g + (1 : Nat)) ((TreeG.kids x).getD i treeD)).cells.length = (nodeA (g + (1 : Nat)) ((TreeG.kids x).getD i treeD)).cells.length) ∧
        (false = true → false = true)) ∧
        (Fn.func (143 : FuncId) = Fn.func (143 : FuncId) ∧ True ∧ ((0 : Nat) = (0 : Nat) ∧ (0 : Nat) = (0 : Nat) ∧ (0 : Nat) = (0 : Nat)) ∧ True) ∧
        ((TreeG.kids x).length = (TreeG.kids x).length ∧
        (∀ (i : Nat),
        i < (TreeG.kids x).length →
        (nodeA (g + (1 : Nat)) ((TreeG.kids x).getD i treeD)).sub (nodeA (g + (1 : Nat)) ((TreeG.kids x).getD i treeD)) ∧
        (nodeA (g + (1 : Nat)) ((TreeG.kids x).getD i treeD)).cells.length = (nodeA (g + (1 : Nat)) ((TreeG.kids x).getD i treeD)).cells.length) ∧
        (false = true → false = true)) ∧
        (↑(TreeG.kids x).length : Int) = (↑(TreeG.kids x).length : Int) ∧ IntKind.i64.wrap ((↑i : Int) + (1 : Int)) = (↑i' : Int) ∧ True) ∧
        ((0 : Nat) = (0 : Nat) ∧ (true = true → true = true) ∧ (d = d ∧ [AV.int IntKind.i64 d].length = [AV.int IntKind.i64 d].length) ∧ True) ∧ True))))
        ((decide ((↑(TreeG.kids x).length : Int) ≥ (2 : Int)) && (TreeG.val x).snd.fst == (0 : Int) && (TreeG.val x).snd.snd.fst == (0 : Int) &&
        ((TreeG.val x).snd.snd.snd.fst.fst == (0 : Int) && !(TreeG.val x).snd.snd.snd.fst.snd.fst && (TreeG.val x).snd.snd.snd.fst.snd.snd.fst == (0 : Int) &&
        (↑(TreeG.val x).snd.snd.snd.fst.snd.snd.snd.fst.length : Int) == (0 : Int) &&
        (TreeG.val x).snd.snd.snd.fst.snd.snd.snd.snd.fst == []) &&
        true) =
        r))
        ((decide ((↑(TreeG.kids x).length : Int) ≥ (2 : Int)) && (TreeG.val x).snd.fst == (0 : Int) && (TreeG.val x).snd.snd.fst == (0 : Int) &&
        ((TreeG.val x).snd.snd.snd.fst.fst == (0 : Int) && !(TreeG.val x).snd.snd.snd.fst.snd.fst && (TreeG.val x).snd.snd.snd.fst.snd.snd.fst == (0 : Int) &&
        (↑(TreeG.val x).snd.snd.snd.fst.snd.snd.snd.fst.length : Int) == (0 : Int) &&
        (TreeG.val x).snd.snd.snd.fst.snd.snd.snd.snd.fst == []) &&
        true) =
        r))
        (VB (isW true (decide ((↑(TreeG.kids x).length : Int) ≥ (2 : Int)) && (TreeG.val x).snd.fst == (0 : Int) && (TreeG.val x).snd.snd.fst == (0 : Int) && false))
        ((∃ (i : Nat),
        (i ≤ (TreeG.kids x).length ∧ ∀ (j : Nat), j < i → soundB (d - (1 : Int)).toNat ((TreeG.kids x).getD j treeD) = true) ∧
        (((TreeG.kids x).length = (TreeG.kids x).length ∧
        (∀ (i : Nat),
        i < (TreeG.kids x).length →
        (nodeA (g + (1 : Nat)) ((TreeG.kids x).getD i treeD)).sub (nodeA (g + (1 : Nat)) ((TreeG.kids x).getD i treeD)) ∧
        (nodeA (g + (1 : Nat)) ((TreeG.kids x).getD i treeD)).cells.length = (nodeA (g + (1 : Nat)) ((TreeG.kids x).getD i treeD)).cells.length) ∧
        (false = true → false = true)) ∧
        (Fn.func (143 : Nat) = Fn.func (143 : FuncId) ∧ True ∧ ((0 : Nat) = (0 : Nat) ∧ (0 : Nat) = (0 : Nat) ∧ (0 : Nat) = (0 : Nat)) ∧ True) ∧
        ((TreeG.kids x).length = (TreeG.kids x).length ∧
        (∀ (i : Nat),
        i < (TreeG.kids x).length →
        (nodeA (g + (1 : Nat)) ((TreeG.kids x).getD i treeD)).sub (nodeA (g + (1 : Nat)) ((TreeG.kids x).getD i treeD)) ∧
        (nodeA (g + (1 : Nat)) ((TreeG.kids x).getD i treeD)).cells.length = (nodeA (g + (1 : Nat)) ((TreeG.kids x).getD i treeD)).cells.length) ∧
        (false = true → false = true)) ∧
        (↑(TreeG.kids x).length : Int) = (↑(TreeG.kids x).length : Int) ∧ (0 : Int) = (↑i : Int) ∧ True) ∧
        ((0 : Nat) = (0 : Nat) ∧ (true = true → true = true) ∧ (d = d ∧ [AV.int IntKind.i64 d].length = [AV.int IntKind.i64 d].length) ∧ True) ∧ True) ∧
        ∀ (i : Nat),
        (i ≤ (TreeG.kids x).length ∧ ∀ (j : Nat), j < i → soundB (d - (1 : Int)).toNat ((TreeG.kids x).getD j treeD) = true) →
        VB (decide ((↑i : Int) < (↑(TreeG.kids x).length : Int)))
        (NB (decide ((0 : Int) ≤ (↑i : Int) ∧ (↑i : Int) < (↑(TreeG.kids x).length : Int)))
        (NB
        (isNode g (nodeA (g + (1 : Nat)) ((TreeG.kids x).getD (↑i : Int).toNat treeD)) && decide ((0 : Int) ≤ IntKind.i64.wrap (d - (1 : Int))) &&
        decide (IntKind.i64.wrap (d - (1 : Int)) ≤ (1000 : Int)))
        (VB (!soundB (IntKind.i64.wrap (d - (1 : Int))).toNat (nodeOf g (nodeA (g + (1 : Nat)) ((TreeG.kids x).getD (↑i : Int).toNat treeD))))
        ((decide ((↑(TreeG.kids x).length : Int) ≥ (2 : Int)) && (TreeG.val x).snd.fst == (0 : Int) && (TreeG.val x).snd.snd.fst == (0 : Int) && false && !decide ((↑i : Int) ≥ (0 : Int))) = r)
        (∃ (i' : Nat),
        (i' ≤ (TreeG.kids x).length ∧ ∀ (j : Nat), j < i' → soundB (d - (1 : Int)).toNat ((TreeG.kids x).getD j treeD) = true) ∧
        (invSI (g + (1 : Nat)) x d).μ i' < (invSI (g + (1 : Nat)) x d).μ i ∧
        (((TreeG.kids x).length = (TreeG.kids x).length ∧
        (∀ (i : Nat),
        i < (TreeG.kids x).length →
        (nodeA (g + (1 : Nat)) ((TreeG.kids x).getD i treeD)).sub (nodeA (g + (1 : Nat)) ((TreeG.kids x).getD i treeD)) ∧
        (nodeA (g + (1 : Nat)) ((TreeG.kids x).getD i treeD)).cells.length = (nodeA (g + (1 : Nat)) ((TreeG.kids x).getD i treeD)).cells.length) ∧
        (false = true → false = true)) ∧
        (Fn.func (143 : FuncId) = Fn.func (143 : FuncId) ∧ True ∧ ((0 : Nat) = (0 : Nat) ∧ (0 : Nat) = (0 : Nat) ∧ (0 : Nat) = (0 : Nat)) ∧ True) ∧
        ((TreeG.kids x).length = (TreeG.kids x).length ∧
        (∀ (i : Nat),
        i < (TreeG.kids x).length →
        (nodeA (g + (1 : Nat)) ((TreeG.kids x).getD i treeD)).sub (nodeA (g + (1 : Nat)) ((TreeG.kids x).getD i treeD)) ∧
        (nodeA (g + (1 : Nat)) ((TreeG.kids x).getD i treeD)).cells.length = (nodeA (g + (1 : Nat)) ((TreeG.kids x).getD i treeD)).cells.length) ∧
        (false = true → false = true)) ∧
        (↑(TreeG.kids x).length : Int) = (↑(TreeG.kids x).length : Int) ∧ IntKind.i64.wrap ((↑i : Int) + (1 : Int)) = (↑i' : Int) ∧ True) ∧
        ((0 : Nat) = (0 : Nat) ∧ (true = true → true = true) ∧ (d = d ∧ [AV.int IntKind.i64 d].length = [AV.int IntKind.i64 d].length) ∧ True) ∧ True))))
        ((decide ((↑(TreeG.kids x).length : Int) ≥ (2 : Int)) && (TreeG.val x).snd.fst == (0 : Int) && (TreeG.val x).snd.snd.fst == (0 : Int) && false && true) = r))
        ((decide ((↑(TreeG.kids x).length : Int) ≥ (2 : Int)) && (TreeG.val x).snd.fst == (0 : Int) && (TreeG.val x).snd.snd.fst == (0 : Int) && false && true) = r)))
        (false = r)))))) := by
  kernel_rfl

theorem soundR_vc (g : Nat) (x : NodeG) (d : Int) (r : Bool) : (vcFun (mkG Tryd.prog gN (tblOf (tblSR g)) (fun f b => if f = 81 ∧ b = 1 then some (invSR (g + 2) x d) else none) 0) 20 81 [nodeA (g + 2) x, .int .i64 d] .nil 0 (retP 3 (.bool r))).sat = (
  VB (decide (d > (200 : Int))) (false = r)
    (VB ((TreeG.val x).fst == (1 : Int))
      (NB
        ((decide ((TreeG.val x).snd.snd.snd.fst.snd.snd.snd.fst.length ≤ (1000000 : Nat)) &&
        condsB (TreeG.val x).snd.snd.snd.fst.snd.snd.snd.fst.length fun (i : Nat) => condA ((TreeG.val x).snd.snd.snd.fst.snd.snd.snd.fst.getD i condD)) &&
        decide ((TreeG.val x).snd.snd.snd.fst.snd.snd.snd.snd.fst.length ≤ (9223372036854775807 : Nat)))
        ((atomS (TreeG.val x).snd.snd.snd.fst.fst (TreeG.val x).snd.snd.snd.fst.snd.fst (TreeG.val x).snd.snd.snd.fst.snd.snd.fst (TreeG.val x).snd.snd.snd.fst.snd.snd.snd.fst.length
        (fun (i : Nat) => ((TreeG.val x).snd.snd.snd.fst.snd.snd.snd.fst.getD i condD).fst) (TreeG.val x).snd.snd.snd.fst.snd.snd.snd.snd.fst &&
        decide ((TreeG.val x).snd.fst ≥ (0 : Int)) &&
        decide ((TreeG.val x).snd.fst ≤ (99 : Int)) &&
        decide ((TreeG.val x).snd.snd.fst ≥ (0 : Int)) &&
        decide ((TreeG.val x).snd.snd.fst ≤ (99 : Int)) &&
        (↑(TreeG.kids x).length : Int) == (0 : Int)) =
        r))
      (VB ((TreeG.val x).fst == (2 : Int))
        (NB
        ((decide ((TreeG.val x).snd.snd.snd.fst.snd.snd.snd.fst.length ≤ (1000000 : Nat)) &&
        condsB (TreeG.val x).snd.snd.snd.fst.snd.snd.snd.fst.length fun (i : Nat) => condA ((TreeG.val x).snd.snd.snd.fst.snd.snd.snd.fst.getD i condD)) &&
        decide ((TreeG.val x).snd.snd.snd.fst.snd.snd.snd.snd.fst.length ≤ (9223372036854775807 : Nat)))
        ((atomS (TreeG.val x).snd.snd.snd.fst.fst (TreeG.val x).snd.snd.snd.fst.snd.fst (TreeG.val x).snd.snd.snd.fst.snd.snd.fst (TreeG.val x).snd.snd.snd.fst.snd.snd.snd.fst.length
        (fun (i : Nat) => ((TreeG.val x).snd.snd.snd.fst.snd.snd.snd.fst.getD i condD).fst) (TreeG.val x).snd.snd.snd.fst.snd.snd.snd.snd.fst &&
        (TreeG.val x).snd.fst == (0 : Int) &&
        (TreeG.val x).snd.snd.fst == (0 : Int) &&
        (↑(TreeG.kids x).length : Int) == (0 : Int)) =
        r))
        (VB ((TreeG.val x).fst == (3 : Int))
        (VB ((TreeG.val x).fst == (3 : Int))
        (VB (isW false (decide ((↑(TreeG.kids x).length : Int) < (2 : Int)) || (TreeG.val x).snd.fst != (0 : Int) || (TreeG.val x).snd.snd.fst != (0 : Int)))
        (VB
        (decide ((↑(TreeG.kids x).length : Int) < (2 : Int)) || (TreeG.val x).snd.fst != (0 : Int) || (TreeG.val x).snd.snd.fst != (0 : Int) ||
        !((TreeG.val x).snd.snd.snd.fst.fst == (0 : Int) && !(TreeG.val x).snd.snd.snd.fst.snd.fst && (TreeG.val x).snd.snd.snd.fst.snd.snd.fst == (0 : Int) &&
        (↑(TreeG.val x).snd.snd.snd.fst.snd.snd.snd.fst.length : Int) == (0 : Int) &&
        (TreeG.val x).snd.snd.snd.fst.snd.snd.snd.snd.fst == []))
        (false = r)
        ((∃ (i : Nat),
        (i ≤ (TreeG.kids x).length ∧ ∀ (j : Nat), j < i → soundB ((201 : Int) - (d + (1 : Int))).toNat ((TreeG.kids x).getD j treeD) = true) ∧
        (d = d ∧ ((0 : Nat) = (0 : Nat) ∧ (0 : Nat) = (0 : Nat) ∧ (0 : Nat) = (0 : Nat)) ∧ (0 : Int) = (↑i : Int) ∧ True) ∧
        ((0 : Nat) = (0 : Nat) ∧
        (true = true → true = true) ∧ ((nodeA (g + (2 : Nat)) x).sub (nodeA (g + (2 : Nat)) x) ∧ (nodeA (g + (2 : Nat)) x).cells.length = (nodeA (g + (2 : Nat)) x).cells.length) ∧ True) ∧
        True) ∧
        ∀ (i : Nat),
        (i ≤ (TreeG.kids x).length ∧ ∀ (j : Nat), j < i → soundB ((201 : Int) - (d + (1 : Int))).toNat ((TreeG.kids x).getD j treeD) = true) →
        VB (decide ((↑i : Int) < (↑(TreeG.kids x).length : Int)))
        (NB (decide ((0 : Int) ≤ (↑i : Int) ∧ (↑i : Int) < (↑(TreeG.kids x).length : Int)))
        (NB
        (isNode g (nodeA (g + (1 : Nat)) ((TreeG.kids x).getD (↑i : Int).toNat (TreeG.mk nodeD []))) && decide ((1 : Int) ≤ IntKind.i64.wrap (d + (1 : Int))) &&
        decide (IntKind.i64.wrap (d + (1 : Int)) ≤ (201 : Int)))
        (VB (!soundB ((201 : Int) - IntKind.i64.wrap (d + (1 : Int))).toNat (nodeOf g (nodeA (g + (1 : Nat)) ((TreeG.kids x).getD (↑i : Int).toNat (TreeG.mk nodeD []))))) (false = r)
        (∃ (i' : Nat),
        (i' ≤ (TreeG.kids x).length ∧ ∀ (j : Nat), j < i' → soundB ((201 : Int) - (d + (1 : Int))).toNat ((TreeG.kids x).getD j treeD) = true) ∧
        (invSR (g + (2 : Nat)) x d).μ i' < (invSR (g + (2 : Nat)) x d).μ i ∧
        (d = d ∧ ((0 : Nat) = (0 : Nat) ∧ (0 : Nat) = (0 : Nat) ∧ (0 : Nat) = (0 : Nat)) ∧ IntKind.i64.wrap ((↑i : Int) + (1 : Int)) = (↑i' : Int) ∧ True) ∧
        ((0 : Nat) = (0 : Nat) ∧
        (true = true → true = true) ∧ ((nodeA (g + (2 : Nat)) x).sub (nodeA (g + (2 : Nat)) x) ∧ (nodeA (g + (2 : Nat)) x).cells.length = (nodeA (g + (2 : Nat)) x).cells.length) ∧ True) ∧
        True))))
        (true = r)))
        (VB (decide ((↑(TreeG.kids x).length : Int) < (2 : Int)) || (TreeG.val x).snd.fst != (0 : Int) || (TreeG.val x).snd.snd.fst != (0 : Int) || true) (false = r)
        ((∃ (i : Nat),
        (i ≤ (TreeG.kids x).length ∧ ∀ (j : Nat), j < i → soundB ((201 : Int) - (d + (1 : Int))).toNat ((TreeG.kids x).getD j treeD) = true) ∧
        (d = d ∧ ((0 : Nat) = (0 : Nat) ∧ (0 : Nat) = (0 : Nat) ∧ (0 : Nat) = (0 : Nat)) ∧ (0 : Int) = (↑i : Int) ∧ True) ∧
        ((0 : Nat) = (0 : Nat) ∧
        (true = true → true = true) ∧ ((nodeA (g + (2 : Nat)) x).sub (nodeA (g + (2 : Nat)) x) ∧ (nodeA (g + (2 : Nat)) x).cells.length = (nodeA (g + (2 : Nat)) x).cells.length) ∧ True) ∧
        True) ∧
        ∀ (i : Nat),
        (i ≤ (TreeG.kids x).length ∧ ∀ (j : Nat), j < i → soundB ((201 : Int) - (d + (1 : Int))).toNat ((TreeG.kids x).getD j treeD) = true) →
        VB (decide ((↑i : Int) < (↑(TreeG.kids x).length : Int)))
        (NB (decide ((0 : Int) ≤ (↑i : Int) ∧ (↑i : Int) < (↑(TreeG.kids x).length : Int)))
        (NB
        (isNode g (nodeA (g + (1 : Nat)) ((TreeG.kids x).getD (↑i : Int).toNat (TreeG.mk nodeD []))) && decide ((1 : Int) ≤ IntKind.i64.wrap (d + (1 : Int))) &&
        decide (IntKind.i64.wrap (d + (1 : Int)) ≤ (201 : Int)))
        (VB (!soundB ((201 : Int) - IntKind.i64.wrap (d + (1 : Int))).toNat (nodeOf g (nodeA (g + (1 : Nat)) ((TreeG.kids x).getD (↑i : Int).toNat (TreeG.mk nodeD []))))) (false = r)
        (∃ (i' : Nat),
        (i' ≤ (TreeG.kids x).length ∧ ∀ (j : Nat), j < i' → soundB ((201 : Int) - (d + (1 : Int))).toNat ((TreeG.kids x).getD j treeD) = true) ∧
        (invSR (g + (2 : Nat)) x d).μ i' < (invSR (g + (2 : Nat)) x d).μ i ∧
        (d = d ∧ ((0 : Nat) = (0 : Nat) ∧ (0 : Nat) = (0 : Nat) ∧ (0 : Nat) = (0 : Nat)) ∧ IntKind.i64.wrap ((↑i : Int) + (1 : Int)) = (↑i' : Int) ∧ True) ∧
        ((0 : Nat) = (0 : Nat) ∧
        (true = true → true = true) ∧ ((nodeA (g + (2 : Nat)) x).sub (nodeA (g + (2 : Nat)) x) ∧ (nodeA (g + (2 : Nat)) x).cells.length = (nodeA (g + (2 : Nat)) x).cells.length) ∧ True) ∧
        True))))
        (true = r))))
        (false = r))
        (VB ((TreeG.val x).fst == (4 : Int))
        (VB (isW false (decide ((↑(TreeG.kids x).length : Int) < (2 : Int)) || (TreeG.val x).snd.fst != (0 : Int) || (TreeG.val x).snd.snd.fst != (0 : Int)))
        (VB
        (decide ((↑(TreeG.kids x).length : Int) < (2 : Int)) || (TreeG.val x).snd.fst != (0 : Int) || (TreeG.val x).snd.snd.fst != (0 : Int) ||
        !((TreeG.val x).snd.snd.snd.fst.fst == (0 : Int) && !(TreeG.val x).snd.snd.snd.fst.snd.fst && (TreeG.val x).snd.snd.snd.fst.snd.snd.fst == (0 : Int) &&
        (↑(TreeG.val x).snd.snd.snd.fst.snd.snd.snd.fst.length : Int) == (0 : Int) &&
        (TreeG.val x).snd.snd.snd.fst.snd.snd.snd.snd.fst == []))
        (false = r)
        ((∃ (i : Nat),
        (i ≤ (TreeG.kids x).length ∧ ∀ (j : Nat), j < i → soundB ((201 : Int) - (d + (1 : Int))).toNat ((TreeG.kids x).getD j treeD) = true) ∧
        (d = d ∧ ((0 : Nat) = (0 : Nat) ∧ (0 : Nat) = (0 : Nat) ∧ (0 : Nat) = (0 : Nat)) ∧ (0 : Int) = (↑i : Int) ∧ True) ∧
        ((0 : Nat) = (0 : Nat) ∧
        (true = true → true = true) ∧ ((nodeA (g + (2 : Nat)) x).sub (nodeA (g + (2 : Nat)) x) ∧ (nodeA (g + (2 : Nat)) x).cells.length = (nodeA (g + (2 : Nat)) x).cells.length) ∧ True) ∧
        True) ∧
        ∀ (i : Nat),
        (i ≤ (TreeG.kids x).length ∧ ∀ (j : Nat), j < i → soundB ((201 : Int) - (d + (1 : Int))).toNat ((TreeG.kids x).getD j treeD) = true) →
        VB (decide ((↑i : Int) < (↑(TreeG.kids x).length : Int)))
        (NB (decide ((0 : Int) ≤ (↑i : Int) ∧ (↑i : Int) < (↑(TreeG.kids x).length : Int)))
        (NB
        (isNode g (nodeA (g + (1 : Nat)) ((TreeG.kids x).getD (↑i : Int).toNat (TreeG.mk nodeD []))) && decide ((1 : Int) ≤ IntKind.i64.wrap (d + (1 : Int))) &&
        decide (IntKind.i64.wrap (d + (1 : Int)) ≤ (201 : Int)))
        (VB (!soundB ((201 : Int) - IntKind.i64.wrap (d + (1 : Int))).toNat (nodeOf g (nodeA (g + (1 : Nat)) ((TreeG.kids x).getD (↑i : Int).toNat (TreeG.mk nodeD []))))) (false = r)
        (∃ (i' : Nat),
        (i' ≤ (TreeG.kids x).length ∧ ∀ (j : Nat), j < i' → soundB ((201 : Int) - (d + (1 : Int))).toNat ((TreeG.kids x).getD j treeD) = true) ∧
        (invSR (g + (2 : Nat)) x d).μ i' < (invSR (g + (2 : Nat)) x d).μ i ∧
        (d = d ∧ ((0 : Nat) = (0 : Nat) ∧ (0 : Nat) = (0 : Nat) ∧ (0 : Nat) = (0 : Nat)) ∧ IntKind.i64.wrap ((↑i : Int) + (1 : Int)) = (↑i' : Int) ∧ True) ∧
        ((0 : Nat) = (0 : Nat) ∧
        (true = true → true = true) ∧ ((nodeA (g + (2 : Nat)) x).sub (nodeA (g + (2 : Nat)) x) ∧ (nodeA (g + (2 : Nat)) x).cells.length = (nodeA (g + (2 : Nat)) x).cells.length) ∧ True) ∧
        True))))
        (true = r)))
        (VB (decide ((↑(TreeG.kids x).length : Int) < (2 : Int)) || (TreeG.val x).snd.fst != (0 : Int) || (TreeG.val x).snd.snd.fst != (0 : Int) || true) (false = r)
        ((∃ (i : Nat),
        (i ≤ (TreeG.kids x).length ∧ ∀ (j : Nat), j < i → soundB ((201 : Int) - (d + (1 : Int))).toNat ((TreeG.kids x).getD j treeD) = true) ∧
        (d = d ∧ ((0 : Nat) = (0 : Nat) ∧ (0 : Nat) = (0 : Nat) ∧ (0 : Nat) = (0 : Nat)) ∧ (0 : Int) = (↑i : Int) ∧ True) ∧
        ((0 : Nat) = (0 : Nat) ∧
        (true = true → true = true) ∧ ((nodeA (g + (2 : Nat)) x).sub (nodeA (g + (2 : Nat)) x) ∧ (nodeA (g + (2 : Nat)) x).cells.length = (nodeA (g + (2 : Nat)) x).cells.length) ∧ True) ∧
        True) ∧
        ∀ (i : Nat),
        (i ≤ (TreeG.kids x).length ∧ ∀ (j : Nat), j < i → soundB ((201 : Int) - (d + (1 : Int))).toNat ((TreeG.kids x).getD j treeD) = true) →
        VB (decide ((↑i : Int) < (↑(TreeG.kids x).length : Int)))
        (NB (decide ((0 : Int) ≤ (↑i : Int) ∧ (↑i : Int) < (↑(TreeG.kids x).length : Int)))
        (NB
        (isNode g (nodeA (g + (1 : Nat)) ((TreeG.kids x).getD (↑i : Int).toNat (TreeG.mk nodeD []))) && decide ((1 : Int) ≤ IntKind.i64.wrap (d + (1 : Int))) &&
        decide (IntKind.i64.wrap (d + (1 : Int)) ≤ (201 : Int)))
        (VB (!soundB ((201 : Int) - IntKind.i64.wrap (d + (1 : Int))).toNat (nodeOf g (nodeA (g + (1 : Nat)) ((TreeG.kids x).getD (↑i : Int).toNat (TreeG.mk nodeD []))))) (false = r)
        (∃ (i' : Nat),
        (i' ≤ (TreeG.kids x).length ∧ ∀ (j : Nat), j < i' → soundB ((201 : Int) - (d + (1 : Int))).toNat ((TreeG.kids x).getD j treeD) = true) ∧
        (invSR (g + (2 : Nat)) x d).μ i' < (invSR (g + (2 : Nat)) x d).μ i ∧
        (d = d ∧ ((0 : Nat) = (0 : Nat) ∧ (0 : Nat) = (0 : Nat) ∧ (0 : Nat) = (0 : Nat)) ∧ IntKind.i64.wrap ((↑i : Int) + (1 : Int)) = (↑i' : Int) ∧ True) ∧
        ((0 : Nat) = (0 : Nat) ∧
        (true = true → true = true) ∧ ((nodeA (g + (2 : Nat)) x).sub (nodeA (g + (2 : Nat)) x) ∧ (nodeA (g + (2 : Nat)) x).cells.length = (nodeA (g + (2 : Nat)) x).cells.length) ∧ True) ∧
        True))))
        (true = r))))
        (false = r)))))) := by
  kernel_rfl

end Go.Proofs.YtamcloifhjafcaaDoor
