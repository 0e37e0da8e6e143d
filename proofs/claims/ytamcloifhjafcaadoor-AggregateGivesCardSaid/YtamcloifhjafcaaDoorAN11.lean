/- NODES 11: light queries, conditions of the code. -/
import Derived.Test.YtamcloifhjafcaaDoorAN10
namespace Go.Proofs.YtamcloifhjafcaaDoor
open Pw Go
set_option maxRecDepth 100000
set_option linter.unusedSimpArgs false

theorem lightN_ok : PureG Tryd.prog gN 79 cLightN := by
  intro args nd v he hnd
  unfold cLightN at he
  split at he <;> cases he
  refine pureT_node hnd fun x e => ?_
  rw [e]
  refine pure_vcG mix (tblG_cons (weighC_of fun x => weigh_pure 8 x (by decide)) (tblG_nil _ _)) ((lightN_vc x _).mpr ?_)
  rw [(nodeT_is 9 9 x (Nat.le_refl _)).1, (nodeT_is 9 9 x (Nat.le_refl _)).2, weighS_cut 8]
  exact NB_intro rfl rfl
def lightQ (x : NodeG) (hs : List HaveG) (es : List AggG) : Bool := lightN x && decide (hs.length ≤ 10) && decide (es.length ≤ 10) && hs.all (fun h => decide (h.1.2.1.length ≤ 20)) && es.all (fun a => decide (a.2.1.length ≤ 20))
def invLQ1 (x : NodeG) (w : Int) (hs : List HaveG) (es : List AggG) : Inv := ⟨Nat, 50, fun i => ⟨[(1, .ptr 0 0 0 0), (3, .int .i64 i)], [(0, .row 0 12 true (.lst [qA x w hs es]))]⟩, fun i => i ≤ hs.length ∧ ∀ j, j < i → (hs.getD j haveD).1.2.1.length ≤ 20, fun i => hs.length - i⟩
def invLQ2 (x : NodeG) (w : Int) (hs : List HaveG) (es : List AggG) : Inv := ⟨Nat, 60, fun i => ⟨[(1, .ptr 0 0 0 0), (4, .int .i64 i)], [(0, .row 0 12 true (.lst [qA x w hs es]))]⟩, fun i => i ≤ es.length ∧ (∀ j, j < hs.length → (hs.getD j haveD).1.2.1.length ≤ 20) ∧ ∀ j, j < i → (es.getD j aggD).2.1.length ≤ 20, fun i => es.length - i⟩
theorem lightQ_vc (x : NodeG) (w : Int) (hs : List HaveG) (es : List AggG) (r : Bool) : (vcFun (mkG Tryd.prog gN (tblOf [(79, cLightN)]) (fun f b => if f = 45 ∧ b = 0 then some (invLQ1 x w hs es) else if f = 45 ∧ b = 2 then some (invLQ2 x w hs es) else none) 0) 20 45 [qA x w hs es] .nil 0 (retP 3 (.bool r))).sat = (
  NB (isNodeT (9 : Nat) (nodeA (16 : Nat) x))
    (VB (!lightN (nodeOf (9 : Nat) (nodeA (16 : Nat) x)) || decide ((↑hs.length : Int) > (10 : Int)) || decide ((↑es.length : Int) > (10 : Int))) (false = r)
      ((∃ (i : Nat),
        (i ≤ hs.length ∧ ∀ (j : Nat), j < i → (hs.getD j haveD).fst.snd.fst.length ≤ (20 : Nat)) ∧
        (((0 : Nat) = (0 : Nat) ∧ (0 : Nat) = (0 : Nat) ∧ (0 : Nat) = (0 : Nat)) ∧ (0 : Int) = (↑i : Int) ∧ True) ∧
        ((0 : Nat) = (0 : Nat) ∧ (true = true → true = true) ∧ ((qA x w hs es).sub (qA x w hs es) ∧ (qA x w hs es).cells.length = (qA x w hs es).cells.length) ∧ True) ∧ True) ∧
        ∀ (i : Nat),
        (i ≤ hs.length ∧ ∀ (j : Nat), j < i → (hs.getD j haveD).fst.snd.fst.length ≤ (20 : Nat)) →
        VB (decide ((↑i : Int) < (↑hs.length : Int)))
        (NB (decide ((0 : Int) ≤ (↑i : Int) ∧ (↑i : Int) < (↑hs.length : Int)))
        (VB (decide ((↑(hs.getD (↑i : Int).toNat haveD).fst.snd.fst.length : Int) > (20 : Int))) (false = r)
        (∃ (i' : Nat),
        (i' ≤ hs.length ∧ ∀ (j : Nat), j < i' → (hs.getD j haveD).fst.snd.fst.length ≤ (20 : Nat)) ∧
        (invLQ1 x w hs es).μ i' < (invLQ1 x w hs es).μ i ∧
        (((0 : Nat) = (0 : Nat) ∧ (0 : Nat) = (0 : Nat) ∧ (0 : Nat) = (0 : Nat)) ∧ IntKind.i64.wrap ((↑i : Int) + (1 : Int)) = (↑i' : Int) ∧ True) ∧
        ((0 : Nat) = (0 : Nat) ∧ (true = true → true = true) ∧ ((qA x w hs es).sub (qA x w hs es) ∧ (qA x w hs es).cells.length = (qA x w hs es).cells.length) ∧ True) ∧ True)))
        ((∃ (i : Nat),
        (i ≤ es.length ∧ (∀ (j : Nat), j < hs.length → (hs.getD j haveD).fst.snd.fst.length ≤ (20 : Nat)) ∧ ∀ (j : Nat), j < i → (es.getD j aggD).snd.fst.length ≤ (20 : Nat)) ∧
        (((0 : Nat) = (0 : Nat) ∧ (0 : Nat) = (0 : Nat) ∧ (0 : Nat) = (0 : Nat)) ∧ (0 : Int) = (↑i : Int) ∧ True) ∧
        ((0 : Nat) = (0 : Nat) ∧ (true = true → true = true) ∧ ((qA x w hs es).sub (qA x w hs es) ∧ (qA x w hs es).cells.length = (qA x w hs es).cells.length) ∧ True) ∧ True) ∧
        ∀ (i : Nat),
        (i ≤ es.length ∧ (∀ (j : Nat), j < hs.length → (hs.getD j haveD).fst.snd.fst.length ≤ (20 : Nat)) ∧ ∀ (j : Nat), j < i → (es.getD j aggD).snd.fst.length ≤ (20 : Nat)) →
        VB (decide ((↑i : Int) < (↑es.length : Int)))
        (NB (decide ((0 : Int) ≤ (↑i : Int) ∧ (↑i : Int) < (↑es.length : Int)))
        (VB (decide ((↑(es.getD (↑i : Int).toNat aggD).snd.fst.length : Int) > (20 : Int))) (false = r)
        (∃ (i' : Nat),
        (i' ≤ es.length ∧ (∀ (j : Nat), j < hs.length → (hs.getD j haveD).fst.snd.fst.length ≤ (20 : Nat)) ∧ ∀ (j : Nat), j < i' → (es.getD j aggD).snd.fst.length ≤ (20 : Nat)) ∧
        (invLQ2 x w hs es).μ i' < (invLQ2 x w hs es).μ i ∧
        (((0 : Nat) = (0 : Nat) ∧ (0 : Nat) = (0 : Nat) ∧ (0 : Nat) = (0 : Nat)) ∧ IntKind.i64.wrap ((↑i : Int) + (1 : Int)) = (↑i' : Int) ∧ True) ∧
        ((0 : Nat) = (0 : Nat) ∧ (true = true → true = true) ∧ ((qA x w hs es).sub (qA x w hs es) ∧ (qA x w hs es).cells.length = (qA x w hs es).cells.length) ∧ True) ∧ True)))
        (true = r))))) := by
  kernel_rfl

end Go.Proofs.YtamcloifhjafcaaDoor
