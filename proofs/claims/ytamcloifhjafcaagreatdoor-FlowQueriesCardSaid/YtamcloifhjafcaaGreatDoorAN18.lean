/- NODES 18: copies of conditions; leaves, conditions. -/
import Derived.Test.YtamcloifhjafcaaGreatDoorAN16
namespace Go.Proofs.YtamcloifhjafcaaGreatDoor
open Pw Go
set_option maxRecDepth 100000
set_option linter.unusedSimpArgs false
theorem pure_vcE {E : Env} {f : FuncId} {k d : Nat} {args : List AV} {v : AV} (hm : E.P.follows .mixedOrders = true) (hctr : CtrOK E) (hs : (vcFun E k f args .nil 0 (retP d v)).sat) : PureC E.P E.gl f args v := PureC.of_vc hm hctr hs
noncomputable def EQ : Env := { mkG Tryz.prog gN (tblOf []) (fun _ _ => none) 0 with nq := true }
def cClone : Ctr | [.rof n f _] => some (decide (n ≤ 1000) && (List.range n).all (fun i => isCond (f i)), .rof n (fun i => condA (condOf (f i))) false) | _ => none
def cLeaf : Ctr | [n] => some (isNodeT 1 n, .bool (isLeaf (nodeOf 1 n))) | _ => none
def cLeaves (g : Nat) : Ctr | [n] => some (isNode g n && decide ((leavesL g (nodeOf g n)).length ≤ 1000), .rof (leavesL g (nodeOf g n)).length (fun k => nodeA 2 ((leavesL g (nodeOf g n)).getD k treeD)) false) | _ => none
def lvK (g : Nat) (l : List NodeG) (i : Nat) : List NodeG := ((l.take i).map (leavesL g)).flatten
def invLv (g : Nat) (x : NodeG) : Inv := ⟨Nat × Nat, 70, fun p => ⟨[(1, .ptr 0 0 0 0), (3, .sl 60 p.2 0 (lvK g x.kids p.1).length none), (4, .int .i64 p.1)], [(0, .row 0 9 true (.lst [nodeA (g + 2) x])), (60, .row p.2 9 true (.fn (lvK g x.kids p.1).length (fun k => nodeA 2 ((lvK g x.kids p.1).getD k treeD))))]⟩, fun p => p.1 ≤ x.kids.length, fun p => x.kids.length - p.1⟩
theorem clone_vc (l : List CondG) : (vcFun EQ 20 34 [condsA l] .nil 0 (retP 3 (condsA l))).sat = ( ∀ (i : Bool), (i = true → l.length = (0 : Nat)) → VB (false ^^ i) (l.length = (0 : Nat)) (NB (true && room ((0 : Nat) + l.length) (16 : Nat) && true && (l.length != (0 : Nat) || true)) ((0 : Nat) + l.length = l.length ∧ (∀ (i : Nat), i < (0 : Nat) + l.length → ((l.getD ((0 : Nat) + i) condD).fst = (l.getD i condD).fst ∧ (l.getD ((0 : Nat) + i) condD).snd.fst = (l.getD i condD).snd.fst ∧ True) ∧ [AV.int IntKind.i64 (l.getD ((0 : Nat) + i) condD).fst, AV.int IntKind.i64 (l.getD ((0 : Nat) + i) condD).snd.fst].length = [AV.int IntKind.i64 (l.getD i condD).fst, AV.int IntKind.i64 (l.getD i condD).snd.fst].length) ∧ (false = true → decide (none = some ((0 : Nat) + l.length)) = true)))) := by
 kernel_rfl
theorem leaf_vc (x : NodeG) (r : Bool) : (vcFun (mkG Tryz.prog gN (tblOf []) (fun _ _ => none) 0) 20 49 [nodeA 1 x] .nil 0 (retP 3 (.bool r))).sat = ( ((TreeG.val x).fst == (1 : Int) || (TreeG.val x).fst == (2 : Int)) = r) := by
 kernel_rfl
theorem leaves_vc (g : Nat) (x : NodeG) (L : List NodeG) : (vcFun (mkG Tryz.prog gN (tblOf [(66, cLeaves g)]) (fun f b => if f = 66 ∧ b = 0 then some (invLv g x) else none) 0) 20 66 [nodeA (g + 2) x] .nil 0 (retP 4 (.rof L.length (fun k => nodeA 2 (L.getD k treeD)) false))).sat = ( VB ((TreeG.val x).fst == (1 : Int) || (TreeG.val x).fst == (2 : Int)) ([nodeA (g + (2 : Nat)) x].length = L.length ∧ (((nodeA (g + (2 : Nat)) x).sub (nodeA (2 : Nat) (L.getD (0 : Nat) treeD)) ∧ (nodeA (g + (2 : Nat)) x).cells.length = (nodeA (2 : Nat) (L.getD (0 : Nat) treeD)).cells.length) ∧ True) ∧ (false = true → true = true)) ((∃ (i : Nat × Nat), i.fst.le (TreeG.kids x).length ∧ (((0 : Nat) = (0 : Nat) ∧ (0 : Nat) = (0 : Nat) ∧ (0 : Nat) = (0 : Nat)) ∧ ((lvK g (TreeG.kids x) i.fst).length = (0 : Nat) ∧ i.snd = i.snd ∧ (lvK g (TreeG.kids x) i.fst).length = (0 : Nat)) ∧ (0 : Int) = (↑i.fst : Int) ∧ True) ∧ ((0 : Nat) = (0 : Nat) ∧ (true = true → true = true) ∧ ((nodeA (g + (2 : Nat)) x).sub (nodeA (g + (2 : Nat)) x) ∧ (nodeA (g + (2 : Nat)) x).cells.length = (nodeA (g + (2 : Nat)) x).cells.length) ∧ True) ∧ (lvK g (TreeG.kids x) i.fst).length = (0 : Nat) ∧ True) ∧ ∀ (i : Nat × Nat), i.fst.le (TreeG.kids x).length → VB (decide ((↑i.fst : Int) < (↑(TreeG.kids x).length : Int))) (NB (decide ((0 : Int) ≤ (↑i.fst : Int) ∧ (↑i.fst : Int) < (↑(TreeG.kids x).length : Int))) (NB (isNode g (nodeA (g + (1 : Nat)) ((TreeG.kids x).getD (↑i.fst : Int).toNat (TreeG.mk nodeD []))) && decide ((leavesL g (nodeOf g (nodeA (g + (1 : Nat)) ((TreeG.kids x).getD (↑i.fst : Int).toNat (TreeG.mk nodeD []))))).length ≤ (1000 : Nat))) (NB (true && decide (i.snd = i.snd) && room ((lvK g (TreeG.kids x) i.fst).length + (leavesL g (nodeOf g (nodeA (g + (1 : Nat)) ((TreeG.kids x).getD (↑i.fst : Int).toNat (TreeG.mk nodeD []))))).length) (112 : Nat)) (∃ (i' : Nat × Nat), i'.fst.le (TreeG.kids x).length ∧ (invLv g x).μ i' < (invLv g x).μ i ∧ (((0 : Nat) = (0 : Nat) ∧ (0 : Nat) = (0 : Nat) ∧ (0 : Nat) = (0 : Nat)) ∧ (i.snd + (1 : Nat) = i'.snd ∧ (0 : Nat) = (0 : Nat) ∧ (lvK g (TreeG.kids x) i.fst).length + (leavesL g (nodeOf g (nodeA (g + (1 : Nat)) ((TreeG.kids x).getD (↑i.fst : Int).toNat (TreeG.mk nodeD []))))).length = (lvK g (TreeG.kids x) i'.fst).length ∧ (@Eq (Option Nat) none none ∨ @Eq (Option Nat) none none)) ∧ IntKind.i64.wrap ((↑i.fst : Int) + (1 : Int)) = (↑i'.fst : Int) ∧ True) ∧ ((0 : Nat) = (0 : Nat) ∧ (true = true → true = true) ∧ ((nodeA (g + (2 : Nat)) x).sub (nodeA (g + (2 : Nat)) x) ∧ (nodeA (g + (2 : Nat)) x).cells.length = (nodeA (g + (2 : Nat)) x).cells.length) ∧ True) ∧ (i.snd + (1 : Nat) = i'.snd ∧ (true = true → true = true) ∧ (lvK g (TreeG.kids x) i.fst).length + (leavesL g (nodeOf g (nodeA (g + (1 : Nat)) ((TreeG.kids x).getD (↑i.fst : Int).toNat (TreeG.mk nodeD []))))).length = (lvK g (TreeG.kids x) i'.fst).length ∧ ∀ (i_1 : Nat), i_1 < (lvK g (TreeG.kids x) i.fst).length + (leavesL g (nodeOf g (nodeA (g + (1 : Nat)) ((TreeG.kids x).getD (↑i.fst : Int).toNat (TreeG.mk nodeD []))))).length → (if i_1 < (lvK g (TreeG.kids x) i.fst).length then nodeA (2 : Nat) ((lvK g (TreeG.kids x) i.fst).getD ((0 : Nat) + i_1) treeD) else nodeA (2 : Nat) ((leavesL g (nodeOf g (nodeA (g + (1 : Nat)) ((TreeG.kids x).getD (↑i.fst : Int).toNat (TreeG.mk nodeD []))))).getD (i_1 - (lvK g (TreeG.kids x) i.fst).length) treeD)).sub (nodeA (2 : Nat) ((lvK g (TreeG.kids x) i'.fst).getD i_1 treeD)) ∧ (if i_1 < (lvK g (TreeG.kids x) i.fst).length then nodeA (2 : Nat) ((lvK g (TreeG.kids x) i.fst).getD ((0 : Nat) + i_1) treeD) else nodeA (2 : Nat) ((leavesL g (nodeOf g (nodeA (g + (1 : Nat)) ((TreeG.kids x).getD (↑i.fst : Int).toNat (TreeG.mk nodeD []))))).getD (i_1 - (lvK g (TreeG.kids x) i.fst).length) treeD)).cells.length = (nodeA (2 : Nat) ((lvK g (TreeG.kids x) i'.fst).getD i_1 treeD)).cells.length) ∧ True)))) (NB (decide (i.snd = i.snd)) ((lvK g (TreeG.kids x) i.fst).length = L.length ∧ (∀ (i_1 : Nat), i_1 < (lvK g (TreeG.kids x) i.fst).length → (nodeA (2 : Nat) ((lvK g (TreeG.kids x) i.fst).getD ((0 : Nat) + i_1) treeD)).sub (nodeA (2 : Nat) (L.getD i_1 treeD)) ∧ (nodeA (2 : Nat) ((lvK g (TreeG.kids x) i.fst).getD ((0 : Nat) + i_1) treeD)).cells.length = (nodeA (2 : Nat) (L.getD i_1 treeD)).cells.length) ∧ (false = true → decide (none = some (lvK g (TreeG.kids x) i.fst).length) = true))))) := by
 kernel_rfl
end Go.Proofs.YtamcloifhjafcaaGreatDoor
namespace Go.Proofs.YtamcloifhjafcaaGreatDoor
open Pw Go
set_option maxRecDepth 100000
set_option linter.unusedSimpArgs false
theorem EQ_ok : CtrOK EQ := ⟨(mkG_ctr (P := Tryz.prog) (gl := gN) (inv := fun _ _ => none) (n := 0) (tblG_nil _ _)).1, itr_none rfl⟩
theorem clone_ok : PureG Tryz.prog gN 34 cClone := by
 intro args nd v he hnd
 unfold cClone at he
 split at he <;> cases he
 rename_i n f ex
 simp only [Bool.and_eq_true, decide_eq_true_eq, List.all_eq_true, List.mem_range] at hnd
 obtain ⟨h1, h2⟩ := hnd
 have hlen : ((List.range n).map fun i => condOf (f i)).length = n := by simp
 have hget : ∀ i, i < n → ((List.range n).map fun i => condOf (f i)).getD i condD = condOf (f i) := fun i hi => by simp [List.getD, hi]
 have key : PureC Tryz.prog gN 34 [condsA ((List.range n).map fun i => condOf (f i))] (condsA ((List.range n).map fun i => condOf (f i))) := by
  refine pure_vcE (E := EQ) (k := 20) (d := 3) mix EQ_ok ((clone_vc _).mpr ?_)
  rw [hlen]
  intro b hb
  cases b with
  | true => exact VB_intro (fun _ => hb rfl) (fun h => by cases h)
  | false =>
   refine VB_intro (fun h => by cases h) (fun _ => NB_intro (by simp [room]; omega) ⟨by omega, fun i hi => ⟨⟨by rw [Nat.zero_add], by rw [Nat.zero_add], trivial⟩, rfl⟩, fun h => by cases h⟩)
 have hs1 : (AV.rof n f ex).sub (condsA ((List.range n).map fun i => condOf (f i))) := by
  refine ⟨hlen.symm, fun i hi => ?_, fun h => by cases h⟩
  show (f i).sub (condA (((List.range n).map fun i => condOf (f i)).getD i condD)) ∧ _
  rw [hget i hi]
  exact cond_sub (f i) (h2 i hi)
 have hs2 : (condsA ((List.range n).map fun i => condOf (f i))).sub (.rof n (fun i => condA (condOf (f i))) false) := by
  refine ⟨hlen, fun i hi => ?_, fun h => h⟩
  rw [hlen] at hi
  show (condA (((List.range n).map fun i => condOf (f i)).getD i condD)).sub (condA (condOf (f i))) ∧ _
  rw [hget i hi]
  exact ⟨⟨by simp [AV.sub], by simp [AV.sub], trivial⟩, rfl⟩
 have h3 := PureC.args (args := [AV.rof n f ex]) (args' := [condsA ((List.range n).map fun i => condOf (f i))]) rfl (fun i hi => by cases i with | zero => exact hs1 | succ i => simp at hi) key
 exact fun M W vals hG hM hA => by
  obtain ⟨hf, hc⟩ := h3 M W vals hG hM hA
  exact ⟨hf, hc.mono fun e W' ⟨u, M', k1, k2, k3⟩ => ⟨u, M', k1, k2.sub _ hs2, k3⟩⟩
theorem leafC_ok : PureG Tryz.prog gN 49 cLeaf := by
 intro args nd v he hnd
 unfold cLeaf at he
 split at he <;> cases he
 refine pureT_node hnd fun x e => ?_
 rw [e]
 refine pure_vcG mix (tblG_nil _ _) ((leaf_vc x _).mpr ?_)
 simp [isLeaf, Bool.beq_eq_decide_eq]
theorem lvK_succ {g : Nat} {l : List NodeG} {i : Nat} (hi : i < l.length) : lvK g l (i + 1) = lvK g l i ++ leavesL g (l.getD i treeD) := by
 simp only [lvK, List.take_add_one, List.map_append, List.flatten_append]
 simp [List.getD, hi]
theorem lvK_mono {g : Nat} {l : List NodeG} {i : Nat} : ∀ (k : Nat), i + k ≤ l.length → (lvK g l i).length ≤ (lvK g l (i + k)).length
 | 0, _ => Nat.le_refl _
 | k + 1, h => by
  have h1 := lvK_mono (g := g) (l := l) (i := i) k (by omega)
  rw [show i + (k + 1) = i + k + 1 by omega, lvK_succ (by omega), List.length_append]
  omega
theorem lvK_le {g : Nat} {l : List NodeG} {i : Nat} (hi : i < l.length) : (lvK g l i).length + (leavesL g (l.getD i treeD)).length ≤ (lvK g l l.length).length := by
 have h1 := lvK_mono (g := g) (l := l) (i := i + 1) (l.length - (i + 1)) (by omega)
 rw [show i + 1 + (l.length - (i + 1)) = l.length by omega, lvK_succ hi, List.length_append] at h1
 exact h1
theorem leaves_of {g : Nat} (h : ∀ x, litB g x = true → (leavesL g x).length ≤ 1000 → PureC Tryz.prog gN 66 [nodeA (g + 1) x] (.rof (leavesL g x).length (fun k => nodeA 2 ((leavesL g x).getD k treeD)) false)) : PureG Tryz.prog gN 66 (cLeaves g) := by
 intro args nd v he hnd
 unfold cLeaves at he
 split at he <;> cases he
 simp only [Bool.and_eq_true, decide_eq_true_eq] at hnd
 refine pureN_node hnd.1 fun x hx e => ?_
 have h2 := hnd.2
 rw [e] at h2 ⊢
 exact h x hx h2
theorem nodeA_cl (f f' : Nat) (x y : NodeG) : (nodeA f x).cells.length = (nodeA f' y).cells.length := by rw [nodeA_cells, nodeA_cells]
theorem leaves_pure : ∀ (g : Nat) (x : NodeG), litB g x = true → (leavesL g x).length ≤ 1000 → PureC Tryz.prog gN 66 [nodeA (g + 1) x] (.rof (leavesL g x).length (fun k => nodeA 2 ((leavesL g x).getD k treeD)) false)
 | 0, _, h, _ => by cases h
 | g + 1, x, hl, hm => by
  refine pure_vcG (d := 4) mix (tblG_cons (leaves_of (leaves_pure g)) (tblG_nil _ _)) ((leaves_vc g x _).mpr ?_)
  have hk40 := litB_kids hl
  have hL : leavesL (g + 1) x = if isLeaf x = true then [x] else lvK g x.kids x.kids.length := by simp [leavesL, lvK]
  simp only [nodeA_refl, EqI, true_and, and_true, imp_self, implies_true, Int.toNat_natCast, Nat.zero_add, or_self]
  refine VB_intro (fun h => ?_) (fun h => ?_)
  ·have h : isLeaf x = true := by simpa [isLeaf, Bool.beq_eq_decide_eq] using h
   rw [hL, if_pos h]
   refine ⟨rfl, ?_⟩
   exact And.intro (show (nodeA (g + 2) x).sub (nodeA 2 x) from nodeA_sub' (by omega) x) (nodeA_cl _ _ _ _)
  ·have h : isLeaf x = false := by simpa [isLeaf, Bool.beq_eq_decide_eq] using h
   rw [hL, h] at hm ⊢
   simp only [Bool.false_eq_true, if_false] at hm ⊢
   refine ⟨⟨(0, 0), Nat.zero_le _, by simp [lvK]⟩, fun p hp => VB_intro (fun h => ?_) (fun h => ?_)⟩
   ·obtain ⟨i, gen⟩ := p
    have hlt : i < x.kids.length := by have := of_decide_eq_true h; simp only at this; omega
    have hkl := litB_kid hl hlt
    have hle := lvK_le (g := g) hlt
    show NB (decide ((0 : Int) ≤ (i : Int) ∧ (i : Int) < x.kids.length)) _
    simp only [isNode_of hkl (show g < g + 1 by omega), nodeOf_of hkl (show g < g + 1 by omega)]
    refine NB_intro (decide_eq_true (by omega)) (NB_intro (by simp only [Bool.true_and]; exact decide_eq_true (by omega)) (NB_intro (by simp only [Bool.true_and, decide_true, room]; exact decide_eq_true (by omega)) ⟨(i + 1, gen + 1), hlt, by simp only [invLv]; omega, ⟨⟨rfl, by rw [lvK_succ hlt, List.length_append]⟩, by rw [wrap_i64_id (by omega) (by omega)]; simp⟩, rfl, by rw [lvK_succ hlt, List.length_append], fun q hq => ?_⟩))
    rw [lvK_succ hlt]
    split
    ·rename_i hq2
     rw [List.getD_eq_getElem?_getD (l := lvK g x.kids i ++ _), List.getElem?_append_left hq2, ← List.getD_eq_getElem?_getD]
     exact ⟨nodeA_sub 2 0 _, rfl⟩
    ·rename_i hq2
     rw [List.getD_eq_getElem?_getD (l := lvK g x.kids i ++ _), List.getElem?_append_right (by omega), ← List.getD_eq_getElem?_getD]
     exact ⟨nodeA_sub 2 0 _, rfl⟩
   ·obtain ⟨i, gen⟩ := p
    have hp : i ≤ x.kids.length := hp
    have hie : i = x.kids.length := by have := of_decide_eq_false h; simp only at this; omega
    subst hie
    exact NB_intro (by simp) ⟨rfl, fun q hq => ⟨nodeA_sub 2 0 _, rfl⟩, fun h => h.elim⟩
end Go.Proofs.YtamcloifhjafcaaGreatDoor
