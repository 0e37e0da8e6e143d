/- WELL-FORMED 3: some node, conditions. -/
import Derived.Test.YtamcloifhjafcaaGreatDoorWF1
namespace Go.Proofs.YtamcloifhjafcaaGreatDoor
open Pw Go
set_option maxRecDepth 100000
set_option linter.unusedSimpArgs false
def itNd (g : Nat) : FuncId → List AV → List AV → Option Itr := fun h first cap =>
 if h = 111 then
  match first, cap with
  | [], [.rptr n 0] => reN n fun n => some (itW g (nodeOf g n) (isNode g n) (.tup []) (.tup []))
  | _, _ => none
 else none
noncomputable def EN1 (g : Nat) : Env := { mkG Tryz.prog gN (tblOf []) (fun _ _ => none) 0 with itr := itWV g }
def fulP (x : NodeG) : Bool := decide ((x.kids.length : Int) > 8) || decide (((ac (nat x)).length : Int) > 4)
def rngP (x : NodeG) : Bool := nk x == 1 && (decide (x.val.2.1 < 1) || decide (x.val.2.1 > x.val.2.2.1) || decide (x.val.2.2.1 > 6))
def badN (x : NodeG) (i : Nat) : Bool := nk (x.kids.getD i treeD) == 2 && (nk x != 3 || (i : Int) == 0 || (i : Int) == IntKind.i64.wrap ((x.kids.length : Int) - 1))
def stdP (x : NodeG) : Bool := (List.range x.kids.length).any fun i => badN x i
def invSt (f : Nat) (x : NodeG) : Inv := ⟨Nat, 50, fun i => ⟨[(1, .ptr 1 0 0 0), (3, .int .i64 (IntKind.i64.wrap (x.kids.length - 1))), (11, kidsA f x), (12, .int .i64 x.kids.length), (13, .int .i64 i)], [(1, .row 0 9 true (.lst [nodeA (f + 1) x]))]⟩, fun i => i ≤ x.kids.length ∧ ∀ j, j < i → badN x j = false, fun i => x.kids.length - i⟩
def cP1 (p : NodeG → Bool) (d : Nat) : Ctr
 | [n] => some (isNodeT d n && decide ((nodeOf d n).kids.length ≤ 40), .bool (p (nodeOf d n)))
 | _ => none
def invSo (x : NodeG) (p : NodeG → Bool) (f : Nat) : Inv := ⟨Nat, 80, fun j => ⟨[], [(1, .row 0 1 true (.lst [.fn (.func f) [] []])), (2, .row 0 1 false (.lst [.bool false]))]⟩, fun j => j ≤ (nds 8 x).length ∧ ∀ i, i < j → p ((nds 8 x).getD i treeD) = false, fun j => j⟩
noncomputable def ESo (x : NodeG) (p : NodeG → Bool) (f d : Nat) : Env := { mkG Tryz.prog gN (tblOf [(f, cP1 p d)]) (fun h b => if h = 78 ∧ b = 200003 then some (invSo x p f) else none) 0 with itr := itNd 8 }
theorem nodes1_vc (g : Nat) (x : NodeG) (l n0 : Nat) (M0 : Nat → Nat → Option Value) (Φ Ψ : Nat → (Nat → Prop) → (Nat → Prop) → World → Prop) : (vcFun (EN1 g) 20 111 [.yld 0, .rptr (nodeA (g + 4) x) 0] (.node (.loop (.abs 0 true (AbsS.of Tryz.prog (itW g x true (.tup []) (.tup [])) l n0 M0 Φ Ψ)) noRec) .nil .nil) 1 (retI (itW g x true (.tup []) (.tup [])))).sat = ( NB (true && isNode g (nodeA (g + (4 : Nat)) x)) ((Tryz.prog = Tryz.prog ∧ (0 : Nat) + (nds g (nodeOf g (nodeA (g + (4 : Nat)) x))).length ≤ (nds g x).length ∧ ∀ (j : Nat), j < (nds g (nodeOf g (nodeA (g + (4 : Nat)) x))).length → AV.subL ((itW g (nodeOf g (nodeA (g + (4 : Nat)) x)) (isNode g (nodeA (g + (4 : Nat)) x)) (AV.bool true) (AV.bool false)).el j) [nodeA (4 : Nat) ((nds g x).getD ((0 : Nat) + j) treeD)]) ∧ (True ∧ (0 : Nat) + (nds g (nodeOf g (nodeA (g + (4 : Nat)) x))).length = (nds g x).length) ∧ ∀ (i : Nat), True)) := by
 kernel_rfl
theorem ful1_vc (x : NodeG) (b : Bool) : (vcFun (mkG Tryz.prog gN (tblOf []) (fun _ _ => none) 0) 20 79 [nodeA 2 x] .nil 0 (retP 3 (.bool b))).sat = ( (decide ((↑(TreeG.kids x).length : Int) > (8 : Int)) || decide ((↑(TreeG.val x).snd.snd.snd.fst.snd.snd.snd.fst.length : Int) > (4 : Int))) = b) := by
 kernel_rfl
theorem rng1_vc (x : NodeG) (b : Bool) : (vcFun (mkG Tryz.prog gN (tblOf []) (fun _ _ => none) 0) 20 81 [nodeA 2 x] .nil 0 (retP 3 (.bool b))).sat = ( ((TreeG.val x).fst == (1 : Int) && (decide ((TreeG.val x).snd.fst < (1 : Int)) || decide ((TreeG.val x).snd.fst > (TreeG.val x).snd.snd.fst) || decide ((TreeG.val x).snd.snd.fst > (6 : Int)))) = b) := by
 kernel_rfl
theorem std1_vc (x : NodeG) (b : Bool) : (vcFun (mkG Tryz.prog gN (tblOf []) (fun h b => if h = 83 ∧ b = 0 then some (invSt 2 x) else none) 0) 20 82 [nodeA 3 x] .nil 0 (retP 3 (.bool b))).sat = ( (∃ (i : Nat), (i ≤ (TreeG.kids x).length ∧ ∀ (j : Nat), j < i → badN x j = false) ∧ (((0 : Nat) = (0 : Nat) ∧ (0 : Nat) = (0 : Nat) ∧ (0 : Nat) = (0 : Nat)) ∧ IntKind.i64.wrap ((↑(TreeG.kids x).length : Int) - (1 : Int)) = IntKind.i64.wrap ((↑(TreeG.kids x).length : Int) - (1 : Int)) ∧ ((TreeG.kids x).length = (TreeG.kids x).length ∧ (∀ (i : Nat), i < (TreeG.kids x).length → (nodeA (2 : Nat) ((TreeG.kids x).getD i treeD)).sub (nodeA (2 : Nat) ((TreeG.kids x).getD i treeD)) ∧ (nodeA (2 : Nat) ((TreeG.kids x).getD i treeD)).cells.length = (nodeA (2 : Nat) ((TreeG.kids x).getD i treeD)).cells.length) ∧ (false = true → false = true)) ∧ (↑(TreeG.kids x).length : Int) = (↑(TreeG.kids x).length : Int) ∧ (0 : Int) = (↑i : Int) ∧ True) ∧ ((0 : Nat) = (0 : Nat) ∧ (true = true → true = true) ∧ ((nodeA (3 : Nat) x).sub (nodeA (3 : Nat) x) ∧ (nodeA (3 : Nat) x).cells.length = (nodeA (3 : Nat) x).cells.length) ∧ True) ∧ True) ∧ ∀ (i : Nat), (i ≤ (TreeG.kids x).length ∧ ∀ (j : Nat), j < i → badN x j = false) → VB (decide ((↑i : Int) < (↑(TreeG.kids x).length : Int))) (NB (decide ((0 : Int) ≤ (↑i : Int) ∧ (↑i : Int) < (↑(TreeG.kids x).length : Int))) (VB (((TreeG.kids x).getD (↑i : Int).toNat treeD).val.fst == (2 : Int) && ((TreeG.val x).fst != (3 : Int) || (↑i : Int) == (0 : Int) || (↑i : Int) == IntKind.i64.wrap ((↑(TreeG.kids x).length : Int) - (1 : Int)))) (true = b) (∃ (i' : Nat), (i' ≤ (TreeG.kids x).length ∧ ∀ (j : Nat), j < i' → badN x j = false) ∧ (invSt (2 : Nat) x).μ i' < (invSt (2 : Nat) x).μ i ∧ (((0 : Nat) = (0 : Nat) ∧ (0 : Nat) = (0 : Nat) ∧ (0 : Nat) = (0 : Nat)) ∧ IntKind.i64.wrap ((↑(TreeG.kids x).length : Int) - (1 : Int)) = IntKind.i64.wrap ((↑(TreeG.kids x).length : Int) - (1 : Int)) ∧ ((TreeG.kids x).length = (TreeG.kids x).length ∧ (∀ (i : Nat), i < (TreeG.kids x).length → (nodeA (2 : Nat) ((TreeG.kids x).getD i treeD)).sub (nodeA (2 : Nat) ((TreeG.kids x).getD i treeD)) ∧ (nodeA (2 : Nat) ((TreeG.kids x).getD i treeD)).cells.length = (nodeA (2 : Nat) ((TreeG.kids x).getD i treeD)).cells.length) ∧ (false = true → false = true)) ∧ (↑(TreeG.kids x).length : Int) = (↑(TreeG.kids x).length : Int) ∧ IntKind.i64.wrap ((↑i : Int) + (1 : Int)) = (↑i' : Int) ∧ True) ∧ ((0 : Nat) = (0 : Nat) ∧ (true = true → true = true) ∧ ((nodeA (3 : Nat) x).sub (nodeA (3 : Nat) x) ∧ (nodeA (3 : Nat) x).cells.length = (nodeA (3 : Nat) x).cells.length) ∧ True) ∧ True))) (false = b)) := by
 kernel_rfl
theorem someF_vc (x : NodeG) (w : Int) (hs : List HaveG) (es : List AggG) (p : NodeG → Bool) (b : Bool) : (vcFun (ESo x p 79 2) 20 78 [qA x w hs es, .fn (.func 79) [] []] .nil 0 (retP 4 (.bool b))).sat = ( NB (isNode (8 : Nat) (nodeA (16 : Nat) x) && true && true && true && true) ((∃ (i : Nat), (i ≤ (nds (8 : Nat) x).length ∧ ∀ (i_1 : Nat), i_1 < i → p ((nds (8 : Nat) x).getD i_1 treeD) = false) ∧ (invSo x p (79 : Nat)).μ i = (0 : Nat) ∧ True ∧ ((0 : Nat) = (0 : Nat) ∧ (true = true → true = true) ∧ ((Fn.func (79 : FuncId) = Fn.func (79 : Nat) ∧ True ∧ True) ∧ [AV.fn (Fn.func (79 : FuncId)) [] []].length = [AV.fn (Fn.func (79 : Nat)) [] []].length) ∧ True) ∧ ((0 : Nat) = (0 : Nat) ∧ (false = true → true = true) ∧ (false = false ∧ [AV.bool false].length = [AV.bool false].length) ∧ True) ∧ True) ∧ (∀ (i : Nat), (i ≤ (nds (8 : Nat) x).length ∧ ∀ (i_1 : Nat), i_1 < i → p ((nds (8 : Nat) x).getD i_1 treeD) = false) ∧ (invSo x p (79 : Nat)).μ i < (nds (8 : Nat) (nodeOf (8 : Nat) (nodeA (16 : Nat) x))).length → NB (isNodeT (2 : Nat) (nodeA (4 : Nat) ((nds (8 : Nat) (nodeOf (8 : Nat) (nodeA (16 : Nat) x))).getD ((invSo x p (79 : Nat)).μ i) treeD)) && decide ((TreeG.kids (nodeOf (2 : Nat) (nodeA (4 : Nat) ((nds (8 : Nat) (nodeOf (8 : Nat) (nodeA (16 : Nat) x))).getD ((invSo x p (79 : Nat)).μ i) treeD)))).length ≤ (40 : Nat))) (VB (p (nodeOf (2 : Nat) (nodeA (4 : Nat) ((nds (8 : Nat) (nodeOf (8 : Nat) (nodeA (16 : Nat) x))).getD ((invSo x p (79 : Nat)).μ i) treeD)))) (true = b) (∃ (i' : Nat), (i' ≤ (nds (8 : Nat) x).length ∧ ∀ (i : Nat), i < i' → p ((nds (8 : Nat) x).getD i treeD) = false) ∧ (invSo x p (79 : Nat)).μ i' = (invSo x p (79 : Nat)).μ i + (1 : Nat) ∧ True ∧ ((0 : Nat) = (0 : Nat) ∧ (true = true → true = true) ∧ ((Fn.func (79 : Nat) = Fn.func (79 : Nat) ∧ True ∧ True) ∧ [AV.fn (Fn.func (79 : Nat)) [] []].length = [AV.fn (Fn.func (79 : Nat)) [] []].length) ∧ True) ∧ ((0 : Nat) = (0 : Nat) ∧ (false = true → false = true) ∧ (false = false ∧ [AV.bool false].length = [AV.bool false].length) ∧ True) ∧ True))) ∧ ∀ (i : Nat), (i ≤ (nds (8 : Nat) x).length ∧ ∀ (i_1 : Nat), i_1 < i → p ((nds (8 : Nat) x).getD i_1 treeD) = false) ∧ (invSo x p (79 : Nat)).μ i = (nds (8 : Nat) (nodeOf (8 : Nat) (nodeA (16 : Nat) x))).length → false = b)) := by
 kernel_rfl
theorem someR_vc (x : NodeG) (w : Int) (hs : List HaveG) (es : List AggG) (p : NodeG → Bool) (b : Bool) : (vcFun (ESo x p 81 2) 20 78 [qA x w hs es, .fn (.func 81) [] []] .nil 0 (retP 4 (.bool b))).sat = ( NB (isNode (8 : Nat) (nodeA (16 : Nat) x) && true && true && true && true) ((∃ (i : Nat), (i ≤ (nds (8 : Nat) x).length ∧ ∀ (i_1 : Nat), i_1 < i → p ((nds (8 : Nat) x).getD i_1 treeD) = false) ∧ (invSo x p (81 : Nat)).μ i = (0 : Nat) ∧ True ∧ ((0 : Nat) = (0 : Nat) ∧ (true = true → true = true) ∧ ((Fn.func (81 : FuncId) = Fn.func (81 : Nat) ∧ True ∧ True) ∧ [AV.fn (Fn.func (81 : FuncId)) [] []].length = [AV.fn (Fn.func (81 : Nat)) [] []].length) ∧ True) ∧ ((0 : Nat) = (0 : Nat) ∧ (false = true → true = true) ∧ (false = false ∧ [AV.bool false].length = [AV.bool false].length) ∧ True) ∧ True) ∧ (∀ (i : Nat), (i ≤ (nds (8 : Nat) x).length ∧ ∀ (i_1 : Nat), i_1 < i → p ((nds (8 : Nat) x).getD i_1 treeD) = false) ∧ (invSo x p (81 : Nat)).μ i < (nds (8 : Nat) (nodeOf (8 : Nat) (nodeA (16 : Nat) x))).length → NB (isNodeT (2 : Nat) (nodeA (4 : Nat) ((nds (8 : Nat) (nodeOf (8 : Nat) (nodeA (16 : Nat) x))).getD ((invSo x p (81 : Nat)).μ i) treeD)) && decide ((TreeG.kids (nodeOf (2 : Nat) (nodeA (4 : Nat) ((nds (8 : Nat) (nodeOf (8 : Nat) (nodeA (16 : Nat) x))).getD ((invSo x p (81 : Nat)).μ i) treeD)))).length ≤ (40 : Nat))) (VB (p (nodeOf (2 : Nat) (nodeA (4 : Nat) ((nds (8 : Nat) (nodeOf (8 : Nat) (nodeA (16 : Nat) x))).getD ((invSo x p (81 : Nat)).μ i) treeD)))) (true = b) (∃ (i' : Nat), (i' ≤ (nds (8 : Nat) x).length ∧ ∀ (i : Nat), i < i' → p ((nds (8 : Nat) x).getD i treeD) = false) ∧ (invSo x p (81 : Nat)).μ i' = (invSo x p (81 : Nat)).μ i + (1 : Nat) ∧ True ∧ ((0 : Nat) = (0 : Nat) ∧ (true = true → true = true) ∧ ((Fn.func (81 : Nat) = Fn.func (81 : Nat) ∧ True ∧ True) ∧ [AV.fn (Fn.func (81 : Nat)) [] []].length = [AV.fn (Fn.func (81 : Nat)) [] []].length) ∧ True) ∧ ((0 : Nat) = (0 : Nat) ∧ (false = true → false = true) ∧ (false = false ∧ [AV.bool false].length = [AV.bool false].length) ∧ True) ∧ True))) ∧ ∀ (i : Nat), (i ≤ (nds (8 : Nat) x).length ∧ ∀ (i_1 : Nat), i_1 < i → p ((nds (8 : Nat) x).getD i_1 treeD) = false) ∧ (invSo x p (81 : Nat)).μ i = (nds (8 : Nat) (nodeOf (8 : Nat) (nodeA (16 : Nat) x))).length → false = b)) := by
 kernel_rfl
theorem someO_vc (x : NodeG) (w : Int) (hs : List HaveG) (es : List AggG) (p : NodeG → Bool) (b : Bool) : (vcFun (ESo x p 82 3) 20 78 [qA x w hs es, .fn (.func 82) [] []] .nil 0 (retP 4 (.bool b))).sat = ( NB (isNode (8 : Nat) (nodeA (16 : Nat) x) && true && true && true && true) ((∃ (i : Nat), (i ≤ (nds (8 : Nat) x).length ∧ ∀ (i_1 : Nat), i_1 < i → p ((nds (8 : Nat) x).getD i_1 treeD) = false) ∧ (invSo x p (82 : Nat)).μ i = (0 : Nat) ∧ True ∧ ((0 : Nat) = (0 : Nat) ∧ (true = true → true = true) ∧ ((Fn.func (82 : FuncId) = Fn.func (82 : Nat) ∧ True ∧ True) ∧ [AV.fn (Fn.func (82 : FuncId)) [] []].length = [AV.fn (Fn.func (82 : Nat)) [] []].length) ∧ True) ∧ ((0 : Nat) = (0 : Nat) ∧ (false = true → true = true) ∧ (false = false ∧ [AV.bool false].length = [AV.bool false].length) ∧ True) ∧ True) ∧ (∀ (i : Nat), (i ≤ (nds (8 : Nat) x).length ∧ ∀ (i_1 : Nat), i_1 < i → p ((nds (8 : Nat) x).getD i_1 treeD) = false) ∧ (invSo x p (82 : Nat)).μ i < (nds (8 : Nat) (nodeOf (8 : Nat) (nodeA (16 : Nat) x))).length → NB (isNodeT (3 : Nat) (nodeA (4 : Nat) ((nds (8 : Nat) (nodeOf (8 : Nat) (nodeA (16 : Nat) x))).getD ((invSo x p (82 : Nat)).μ i) treeD)) && decide ((TreeG.kids (nodeOf (3 : Nat) (nodeA (4 : Nat) ((nds (8 : Nat) (nodeOf (8 : Nat) (nodeA (16 : Nat) x))).getD ((invSo x p (82 : Nat)).μ i) treeD)))).length ≤ (40 : Nat))) (VB (p (nodeOf (3 : Nat) (nodeA (4 : Nat) ((nds (8 : Nat) (nodeOf (8 : Nat) (nodeA (16 : Nat) x))).getD ((invSo x p (82 : Nat)).μ i) treeD)))) (true = b) (∃ (i' : Nat), (i' ≤ (nds (8 : Nat) x).length ∧ ∀ (i : Nat), i < i' → p ((nds (8 : Nat) x).getD i treeD) = false) ∧ (invSo x p (82 : Nat)).μ i' = (invSo x p (82 : Nat)).μ i + (1 : Nat) ∧ True ∧ ((0 : Nat) = (0 : Nat) ∧ (true = true → true = true) ∧ ((Fn.func (82 : Nat) = Fn.func (82 : Nat) ∧ True ∧ True) ∧ [AV.fn (Fn.func (82 : Nat)) [] []].length = [AV.fn (Fn.func (82 : Nat)) [] []].length) ∧ True) ∧ ((0 : Nat) = (0 : Nat) ∧ (false = true → false = true) ∧ (false = false ∧ [AV.bool false].length = [AV.bool false].length) ∧ True) ∧ True))) ∧ ∀ (i : Nat), (i ≤ (nds (8 : Nat) x).length ∧ ∀ (i_1 : Nat), i_1 < i → p ((nds (8 : Nat) x).getD i_1 treeD) = false) ∧ (invSo x p (82 : Nat)).μ i = (nds (8 : Nat) (nodeOf (8 : Nat) (nodeA (16 : Nat) x))).length → false = b)) := by
 kernel_rfl
end Go.Proofs.YtamcloifhjafcaaGreatDoor
namespace Go.Proofs.YtamcloifhjafcaaGreatDoor
open Pw Go
set_option maxRecDepth 100000
set_option linter.unusedSimpArgs false
theorem EN1_ok : CtrOK (EN1 8) :=
 ⟨(mkG_ctr (P := Tryz.prog) (gl := gN) (inv := fun _ _ => none) (n := 0) (tblG_nil _ _)).1, itWV_ok (visitW_iter 8)⟩
theorem nodes1_iter (x : NodeG) (hl : litB 8 x = true) : IterC Tryz.prog gN 111 [] [.rptr (nodeA 12 x) 0] (itW 8 x true (.tup []) (.tup [])) := by
 refine IterC.of_vc (E := EN1 8) (n := 20) mix EN1_ok rfl rfl rfl rfl fun l n0 M0 Φ Ψ => (nodes1_vc 8 x l n0 M0 Φ Ψ).mpr ?_
 rw [isNode_of hl (by omega), nodeOf_of hl (by omega)]
 refine NB_intro rfl ⟨⟨rfl, by omega, fun j hj => ?_⟩, ⟨trivial, by omega⟩, fun _ => trivial⟩
 rw [Nat.zero_add]
 exact subL_nd (Nat.le_refl _)
theorem itNd_ok : ∀ f first cap it, itNd 8 f first cap = some it → it.nd = true → IterC Tryz.prog gN f first cap it := by
 intro f first cap it e hnd
 unfold itNd at e
 split at e
 ·rename_i hf
  subst hf
  split at e
  ·rename_i n
   have e := reN_some e
   cases e
   have h1 : isNode 8 n = true := hnd
   have h2 := h1
   rw [isNode, Bool.and_eq_true] at h2
   have hs := node_subA 8 12 _ h2.1
   have hc : n.cells.length = 9 := by
    have := isNodeS_cells 8 n h2.1
    simpa using this
   rw [h1]
   refine IterC.caps (cap' := [.rptr (nodeA 12 (nodeOf 8 n)) 0]) ⟨⟨⟨hs, by rw [nodeA_cells, hc]⟩, rfl⟩, trivial⟩ (nodes1_iter _ h2.2)
  ·cases e
 ·cases e
theorem nds_mem : ∀ (g : Nat) (x : NodeG), litB g x = true → ∀ y ∈ nds g x, y.kids.length ≤ 40
 | 0, _, h, _, _ => by cases h
 | g + 1, x, h, y, hy => by
  simp only [nds, List.mem_cons, List.mem_flatten, List.mem_map] at hy
  rcases hy with rfl | ⟨l, ⟨k, hk, rfl⟩, hy⟩
  ·exact litB_kids h
  ·obtain ⟨i, hi, rfl⟩ := List.mem_iff_getElem.1 hk
   have := litB_kid h hi
   rw [show x.kids.getD i treeD = x.kids[i] by rw [List.getD_eq_getElem?_getD, List.getElem?_eq_getElem hi]; rfl] at this
   exact nds_mem g _ this y hy
theorem nds_kids {g : Nat} {x : NodeG} (h : litB g x = true) {j : Nat} (hj : j < (nds g x).length) : ((nds g x).getD j treeD).kids.length ≤ 40 := by
 rw [List.getD_eq_getElem?_getD, List.getElem?_eq_getElem hj]
 exact nds_mem g x h _ (List.getElem_mem hj)
theorem cut_kids (d : Nat) (x : NodeG) : (cutN (d + 1) x).kids.length = x.kids.length := by show (x.kids.map (cutN d)).length = _; simp
theorem cut_kid {d : Nat} {x : NodeG} {i : Nat} (hi : i < x.kids.length) : (cutN (d + 1) x).kids.getD i treeD = cutN d (x.kids.getD i treeD) := by show (x.kids.map (cutN d)).getD i treeD = _; simp [List.getD, hi]
theorem fulP_cut (x : NodeG) : fulP (cutN 2 x) = fulP x := by
 simp only [fulP, cut_kids]
 rfl
theorem rngP_cut (x : NodeG) : rngP (cutN 2 x) = rngP x := rfl
theorem stdP_cut (x : NodeG) : stdP (cutN 3 x) = stdP x := by
 have hb : ∀ i, i < x.kids.length → badN (cutN 3 x) i = badN x i := fun i hi => by
  simp only [badN, cut_kids, cut_kid hi]
  rfl
 unfold stdP
 rw [cut_kids, Bool.eq_iff_iff, List.any_eq_true, List.any_eq_true]
 constructor
 ·rintro ⟨i, hi, h⟩
  exact ⟨i, hi, by rw [← hb i (by simpa using hi)]; exact h⟩
 ·rintro ⟨i, hi, h⟩
  exact ⟨i, hi, by rw [hb i (by simpa using hi)]; exact h⟩
theorem p1_of {g d : Nat} {p : NodeG → Bool} (h : ∀ x : NodeG, x.kids.length ≤ 40 → PureC Tryz.prog gN g [nodeA d x] (.bool (p x))) : PureG Tryz.prog gN g (cP1 p d) := by
 intro args nd v he hnd
 unfold cP1 at he
 split at he <;> cases he
 rw [Bool.and_eq_true, decide_eq_true_eq] at hnd
 refine pureT_node hnd.1 fun x e => ?_
 rw [e] at hnd ⊢
 exact h x hnd.2
theorem ful1_ok : PureG Tryz.prog gN 79 (cP1 fulP 2) := p1_of fun x _ => pure_vcG (d := 3) mix (tblG_nil _ _) ((ful1_vc x _).mpr rfl)
theorem rng1_ok : PureG Tryz.prog gN 81 (cP1 rngP 2) := p1_of fun x _ => pure_vcG (d := 3) mix (tblG_nil _ _) ((rng1_vc x _).mpr rfl)
theorem std1_ok : PureG Tryz.prog gN 82 (cP1 stdP 3) := p1_of fun x hk => by
 refine pure_vcG (d := 3) mix (tblG_nil _ _) ((std1_vc x _).mpr ?_)
 simp only [nodeA_refl, EqI, true_and, and_true, imp_self, implies_true, Int.toNat_natCast]
 refine ⟨⟨0, ⟨Nat.zero_le _, fun j hj => by omega⟩, rfl⟩, fun i ⟨hi1, hi2⟩ => VB_intro (fun h => ?_) (fun h => ?_)⟩
 ·have hlt : i < x.kids.length := by have := of_decide_eq_true h; omega
  refine NB_intro (decide_eq_true (by omega)) (VB_intro (fun h2 => ?_) (fun h2 => ?_))
  ·exact (List.any_eq_true.2 ⟨i, by simpa using hlt, h2⟩).symm
  ·refine ⟨i + 1, ⟨hlt, fun j hj => ?_⟩, by simp only [invSt]; omega, by rw [wrap_i64_id (by omega) (by omega)]; rfl⟩
   rcases Nat.lt_or_ge j i with h' | h'
   ·exact hi2 j h'
   ·obtain rfl : j = i := by omega
    exact h2
 ·have hie : i = x.kids.length := by have := of_decide_eq_false h; omega
  subst hie
  symm
  rw [stdP, List.any_eq_false]
  intro i hi
  rw [hi2 i (by simpa using hi)]
  simp
theorem ESo_ok {x : NodeG} {p : NodeG → Bool} {f d : Nat} (h : PureG Tryz.prog gN f (cP1 p d)) : CtrOK (ESo x p f d) :=
 ⟨(mkG_ctr (P := Tryz.prog) (gl := gN) (inv := fun _ _ => none) (n := 0) (tblG_cons h (tblG_nil _ _))).1, itNd_ok⟩
theorem any_nds {p : NodeG → Bool} {l : List NodeG} {i : Nat} (hi : i < l.length) (h : p (l.getD i treeD) = true) : l.any p = true := by
 refine List.any_eq_true.2 ⟨_, ?_, h⟩
 rw [List.getD_eq_getElem?_getD, List.getElem?_eq_getElem hi]
 exact List.getElem_mem hi
theorem none_nds {p : NodeG → Bool} {l : List NodeG} (h : ∀ i, i < l.length → p (l.getD i treeD) = false) : l.any p = false := by
 rw [List.any_eq_false]
 intro y hy
 obtain ⟨i, hi, rfl⟩ := List.mem_iff_getElem.1 hy
 have := h i hi
 rw [List.getD_eq_getElem?_getD, List.getElem?_eq_getElem hi] at this
 have this : p l[i] = false := this
 simp [this]
theorem someF_pure (x : NodeG) (w : Int) (hs : List HaveG) (es : List AggG) (hl : litB 8 x = true) : PureC Tryz.prog gN 78 [qA x w hs es, .fn (.func 79) [] []] (.bool ((nds 8 x).any fulP)) := by
 refine pure_vcE (E := ESo x fulP 79 2) (k := 20) (d := 4) mix (ESo_ok ful1_ok) ((someF_vc x w hs es fulP _).mpr ?_)
 rw [isNode_of hl (show 8 < 16 by decide), nodeOf_of hl (show 8 < 16 by decide)]
 simp only [EqI, true_and, and_true, imp_self, implies_true, Int.toNat_natCast, Bool.and_self, NB_t]
 refine ⟨⟨0, ⟨Nat.zero_le _, fun i hi => by omega⟩, rfl⟩, fun i ⟨⟨hi1, hi2⟩, hi3⟩ => ?_, fun i ⟨⟨hi1, hi2⟩, hi3⟩ => ?_⟩
 ·have hi3 : i < (nds 8 x).length := hi3
  have hk := nds_kids hl hi3
  rw [(nodeT_is 2 4 _ (by decide)).2, fulP_cut, cut_kids]
  refine NB_intro (by rw [(nodeT_is 2 4 _ (by decide)).1, Bool.true_and]; exact decide_eq_true hk) (VB_intro (fun h => ?_) (fun h => ?_))
  ·exact (any_nds hi3 h).symm
  ·refine ⟨i + 1, ⟨hi3, fun j hj => ?_⟩, rfl⟩
   rcases Nat.lt_or_ge j i with h' | h'
   ·exact hi2 j h'
   ·obtain rfl : j = i := by omega
    exact h
 ·have hi3 : i = (nds 8 x).length := hi3
  subst hi3
  exact (none_nds hi2).symm
theorem someR_pure (x : NodeG) (w : Int) (hs : List HaveG) (es : List AggG) (hl : litB 8 x = true) : PureC Tryz.prog gN 78 [qA x w hs es, .fn (.func 81) [] []] (.bool ((nds 8 x).any rngP)) := by
 refine pure_vcE (E := ESo x rngP 81 2) (k := 20) (d := 4) mix (ESo_ok rng1_ok) ((someR_vc x w hs es rngP _).mpr ?_)
 rw [isNode_of hl (show 8 < 16 by decide), nodeOf_of hl (show 8 < 16 by decide)]
 simp only [EqI, true_and, and_true, imp_self, implies_true, Int.toNat_natCast, Bool.and_self, NB_t]
 refine ⟨⟨0, ⟨Nat.zero_le _, fun i hi => by omega⟩, rfl⟩, fun i ⟨⟨hi1, hi2⟩, hi3⟩ => ?_, fun i ⟨⟨hi1, hi2⟩, hi3⟩ => ?_⟩
 ·have hi3 : i < (nds 8 x).length := hi3
  have hk := nds_kids hl hi3
  rw [(nodeT_is 2 4 _ (by decide)).2, rngP_cut, cut_kids]
  refine NB_intro (by rw [(nodeT_is 2 4 _ (by decide)).1, Bool.true_and]; exact decide_eq_true hk) (VB_intro (fun h => ?_) (fun h => ?_))
  ·exact (any_nds hi3 h).symm
  ·refine ⟨i + 1, ⟨hi3, fun j hj => ?_⟩, rfl⟩
   rcases Nat.lt_or_ge j i with h' | h'
   ·exact hi2 j h'
   ·obtain rfl : j = i := by omega
    exact h
 ·have hi3 : i = (nds 8 x).length := hi3
  subst hi3
  exact (none_nds hi2).symm
theorem someO_pure (x : NodeG) (w : Int) (hs : List HaveG) (es : List AggG) (hl : litB 8 x = true) : PureC Tryz.prog gN 78 [qA x w hs es, .fn (.func 82) [] []] (.bool ((nds 8 x).any stdP)) := by
 refine pure_vcE (E := ESo x stdP 82 3) (k := 20) (d := 4) mix (ESo_ok std1_ok) ((someO_vc x w hs es stdP _).mpr ?_)
 rw [isNode_of hl (show 8 < 16 by decide), nodeOf_of hl (show 8 < 16 by decide)]
 simp only [EqI, true_and, and_true, imp_self, implies_true, Int.toNat_natCast, Bool.and_self, NB_t]
 refine ⟨⟨0, ⟨Nat.zero_le _, fun i hi => by omega⟩, rfl⟩, fun i ⟨⟨hi1, hi2⟩, hi3⟩ => ?_, fun i ⟨⟨hi1, hi2⟩, hi3⟩ => ?_⟩
 ·have hi3 : i < (nds 8 x).length := hi3
  have hk := nds_kids hl hi3
  rw [(nodeT_is 3 4 _ (by decide)).2, stdP_cut, cut_kids]
  refine NB_intro (by rw [(nodeT_is 3 4 _ (by decide)).1, Bool.true_and]; exact decide_eq_true hk) (VB_intro (fun h => ?_) (fun h => ?_))
  ·exact (any_nds hi3 h).symm
  ·refine ⟨i + 1, ⟨hi3, fun j hj => ?_⟩, rfl⟩
   rcases Nat.lt_or_ge j i with h' | h'
   ·exact hi2 j h'
   ·obtain rfl : j = i := by omega
    exact h
 ·have hi3 : i = (nds 8 x).length := hi3
  subst hi3
  exact (none_nds hi2).symm
end Go.Proofs.YtamcloifhjafcaaGreatDoor
