/- NODES 18: copies of conditions; leaves, conditions. -/
import Derived.Test.YtamcloifhjafcaaDoorAN16
namespace Go.Proofs.YtamcloifhjafcaaDoor
open Pw Go
set_option maxRecDepth 100000
set_option linter.unusedSimpArgs false
theorem pure_vcE {E : Env} {f : FuncId} {k d : Nat} {args : List AV} {v : AV} (hm : E.P.follows .mixedOrders = true) (hctr : CtrOK E) (hs : (vcFun E k f args .nil 0 (retP d v)).sat) : PureC E.P E.gl f args v := PureC.of_vc hm hctr hs
noncomputable def EQ : Env := { mkG Tryd.prog gN (tblOf []) (fun _ _ => none) 0 with nq := true }
def cClone : Ctr | [.rof n f _] => some (decide (n ≤ 1000) && (List.range n).all (fun i => isCond (f i)), .rof n (fun i => condA (condOf (f i))) false) | _ => none
def cLeaf : Ctr | [n] => some (isNodeT 1 n, .bool (isLeaf (nodeOf 1 n))) | _ => none
def lvK (g : Nat) (l : List NodeG) (i : Nat) : List NodeG := ((l.take i).map (leavesL g)).flatten
theorem clone_vc (l : List CondG) : (vcFun EQ 20 75 [condsA l] .nil 0 (retP 3 (condsA l))).sat = ( ∀ (i : Bool), (i = true → l.length = (0 : Nat)) → VB (false ^^ i) (l.length = (0 : Nat)) (NB (true && room ((0 : Nat) + l.length) (16 : Nat) && true && (l.length != (0 : Nat) || true)) ((0 : Nat) + l.length = l.length ∧ (∀ (i : Nat), i < (0 : Nat) + l.length → ((l.getD ((0 : Nat) + i) condD).fst = (l.getD i condD).fst ∧ (l.getD ((0 : Nat) + i) condD).snd.fst = (l.getD i condD).snd.fst ∧ True) ∧ [AV.int IntKind.i64 (l.getD ((0 : Nat) + i) condD).fst, AV.int IntKind.i64 (l.getD ((0 : Nat) + i) condD).snd.fst].length = [AV.int IntKind.i64 (l.getD i condD).fst, AV.int IntKind.i64 (l.getD i condD).snd.fst].length) ∧ (false = true → decide (none = some ((0 : Nat) + l.length)) = true)))) := by
 kernel_rfl
theorem leaf_vc (x : NodeG) (r : Bool) : (vcFun (mkG Tryd.prog gN (tblOf []) (fun _ _ => none) 0) 20 109 [nodeA 1 x] .nil 0 (retP 3 (.bool r))).sat = ( ((TreeG.val x).fst == (1 : Int) || (TreeG.val x).fst == (2 : Int)) = r) := by
 kernel_rfl
end Go.Proofs.YtamcloifhjafcaaDoor
namespace Go.Proofs.YtamcloifhjafcaaDoor
open Pw Go
set_option maxRecDepth 100000
set_option linter.unusedSimpArgs false
theorem EQ_ok : CtrOK EQ := ⟨(mkG_ctr (P := Tryd.prog) (gl := gN) (inv := fun _ _ => none) (n := 0) (tblG_nil _ _)).1, itr_none rfl⟩
theorem clone_ok : PureG Tryd.prog gN 75 cClone := by
 intro args nd v he hnd
 unfold cClone at he
 split at he <;> cases he
 rename_i n f ex
 simp only [Bool.and_eq_true, decide_eq_true_eq, List.all_eq_true, List.mem_range] at hnd
 obtain ⟨h1, h2⟩ := hnd
 have hlen : ((List.range n).map fun i => condOf (f i)).length = n := by simp
 have hget : ∀ i, i < n → ((List.range n).map fun i => condOf (f i)).getD i condD = condOf (f i) := fun i hi => by simp [List.getD, hi]
 have key : PureC Tryd.prog gN 75 [condsA ((List.range n).map fun i => condOf (f i))] (condsA ((List.range n).map fun i => condOf (f i))) := by
  refine pure_vcE (E := EQ) (k := 20) (d := 3) mix EQ_ok ((clone_vc _).mpr ?_)
  rw [hlen]
  intro b hb
  cases b with
  | true => exact VB_intro (fun _ => hb rfl) (fun h => by cases h)
  | false =>
   refine VB_intro (fun h => by cases h) (fun _ => NB_intro (by simp [room]; omega) ⟨by omega, fun i hi => ⟨⟨by rw [Nat.zero_add], by rw [Nat.zero_add], trivial⟩, rfl⟩, fun h => by cases h⟩)
 have hs1 : (AV.rof n f ex).sub (condsA ((List.range n).map fun i => condOf (f i))) := by
  refine ⟨hlen.symm, fun i hi => ?_, fun h => by cases h⟩
  show (f i).sub (condA (((List.range n).map fun i => condOf (f i)).getD i condD)) ∧ _
  rw [hget i hi]
  exact cond_sub (f i) (h2 i hi)
 have hs2 : (condsA ((List.range n).map fun i => condOf (f i))).sub (.rof n (fun i => condA (condOf (f i))) false) := by
  refine ⟨hlen, fun i hi => ?_, fun h => h⟩
  rw [hlen] at hi
  show (condA (((List.range n).map fun i => condOf (f i)).getD i condD)).sub (condA (condOf (f i))) ∧ _
  rw [hget i hi]
  exact ⟨⟨by simp [AV.sub], by simp [AV.sub], trivial⟩, rfl⟩
 have h3 := PureC.args (args := [AV.rof n f ex]) (args' := [condsA ((List.range n).map fun i => condOf (f i))]) rfl (fun i hi => by cases i with | zero => exact hs1 | succ i => simp at hi) key
 exact fun M W vals hG hM hA => by
  obtain ⟨hf, hc⟩ := h3 M W vals hG hM hA
  exact ⟨hf, hc.mono fun e W' ⟨u, M', k1, k2, k3⟩ => ⟨u, M', k1, k2.sub _ hs2, k3⟩⟩
theorem leafC_ok : PureG Tryd.prog gN 109 cLeaf := by
 intro args nd v he hnd
 unfold cLeaf at he
 split at he <;> cases he
 refine pureT_node hnd fun x e => ?_
 rw [e]
 refine pure_vcG mix (tblG_nil _ _) ((leaf_vc x _).mpr ?_)
 simp [isLeaf, Bool.beq_eq_decide_eq]
theorem lvK_succ {g : Nat} {l : List NodeG} {i : Nat} (hi : i < l.length) : lvK g l (i + 1) = lvK g l i ++ leavesL g (l.getD i treeD) := by
 simp only [lvK, List.take_add_one, List.map_append, List.flatten_append]
 simp [List.getD, hi]
end Go.Proofs.YtamcloifhjafcaaDoor
