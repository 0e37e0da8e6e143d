/- NODES 30: the law AggregateNames, conditions. -/
import Derived.Test.YtamcloifhjafcaaDoorAN29
namespace Go.Proofs.YtamcloifhjafcaaDoor
open Pw Go
set_option maxRecDepth 100000
set_option linter.unusedSimpArgs false
end Go.Proofs.YtamcloifhjafcaaDoor
namespace Go.Proofs.YtamcloifhjafcaaDoor
open Pw Go
set_option maxRecDepth 100000
set_option linter.unusedSimpArgs false
theorem plA_refl (p : PlG) : (plA p).sub (plA p) := ⟨by simp [AV.sub], by simp [AV.sub], trivial⟩
def evR (ev : List EvG) : Prop := ∀ k, k < ev.length → rng64 (ev.getD k evD).2.2.2.2.1
theorem evR_all {ev : List EvG} (h : evR ev) (k : Nat) : rng64 (ev.getD k evD).2.2.2.2.1 := by
 by_cases hk : k < ev.length
 ·exact h k hk
 ·rw [List.getD_eq_getElem?_getD, List.getElem?_eq_none (by omega)]
  show rng64 0
  simp [rng64]
theorem nV_ok {x : NodeG} {w : Int} {hs : List HaveG} {es : List AggG} {ev : List EvG} {ps : List PlG} (nm : List UInt8) (hp : ps.length ≤ 60) (he : evR ev) : (nV x w hs es ev ps nm).length ≤ 60 ∧ ∀ i, i < (nV x w hs es ev ps nm).length → rng64 ((nV x w hs es ev ps nm).getD i 0) := by
 show (nmVal _ _ _ _ _ _).length ≤ 60 ∧ _
 unfold nV nmVal
 split
 ·refine ⟨Nat.le_trans (vlK_len _ _ _ _ _) hp, fun i hi => ?_⟩
  have hm : (vlK ev (atomsL 8 x) ps nm ps.length).getD i 0 ∈ vlK ev (atomsL 8 x) ps nm ps.length := by
   rw [List.getD_eq_getElem?_getD, List.getElem?_eq_getElem hi]
   exact List.getElem_mem hi
  obtain ⟨p, _, e⟩ := List.mem_map.1 hm
  rw [← e]
  exact evR_all he _
 ·exact ⟨Nat.zero_le _, fun i hi => by simp at hi⟩
end Go.Proofs.YtamcloifhjafcaaDoor
