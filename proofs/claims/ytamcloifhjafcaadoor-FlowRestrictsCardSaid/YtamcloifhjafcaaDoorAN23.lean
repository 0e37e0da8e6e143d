/- NODES 23: the atoms of a node, and which are negated: the document's contracts; tables. -/
import Derived.Test.YtamcloifhjafcaaDoorAN22
namespace Go.Proofs.YtamcloifhjafcaaDoor
open Pw Go
set_option maxRecDepth 100000
set_option linter.unusedSimpArgs false
theorem map_get {α β : Type} {f : α → β} {l : List α} {d : α} {d' : β} {i : Nat} (hi : i < l.length) : (l.map f).getD i d' = f (l.getD i d) := by simp [List.getD, hi]
theorem elems_few : ∀ (d : Nat) (e : Int) (x : NodeG), weighS d x ≤ 40 → ((elems d e x).length : Int) ≤ weighS d x
 | 0, _, _, h => by simp [weighS] at h
 | d + 1, e, x, h => by
  rw [elems_len]
  rw [weighS] at h ⊢
  split at h
  ·omega
  ·rename_i hc
   rw [if_neg hc]
   have mono : ∀ n, n ≤ x.kids.length → wsum (weighS d) x.kids n ≤ 40 := by
    intro n hn
    rcases (by omega : 40 < wsum (weighS d) x.kids n ∨ wsum (weighS d) x.kids n ≤ 40) with h1 | h1
    ·have := wsum_stay h1 (x.kids.length - n)
     rw [show n + (x.kids.length - n) = x.kids.length by omega] at this
     omega
    ·exact h1
   have key : ∀ n, n ≤ x.kids.length → (((1 + cntK d (e + 1) x.kids n : Nat)) : Int) ≤ wsum (weighS d) x.kids n := by
    intro n hn
    induction n with
    | zero => exact Int.le_refl _
    | succ n ih =>
     have h1 := ih (by omega)
     have h2 := mono (n + 1) hn
     have h3 := mono n (by omega)
     rw [wsum, if_pos h3] at h2 ⊢
     have h4 := (wsum_bounds d x n).1
     have h5 := elems_few d (e + 1) (x.kids.getD n treeD) (by omega)
     rw [cntK_succ (by omega)]
     omega
   exact key _ (Nat.le_refl _)
end Go.Proofs.YtamcloifhjafcaaDoor
