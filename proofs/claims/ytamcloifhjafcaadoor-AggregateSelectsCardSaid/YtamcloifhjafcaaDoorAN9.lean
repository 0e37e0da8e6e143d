/- NODES 9: light nodes, conditions of the code. -/
import Derived.Test.YtamcloifhjafcaaDoorAN7
namespace Go.Proofs.YtamcloifhjafcaaDoor
open Pw Go
set_option maxRecDepth 100000
set_option linter.unusedSimpArgs false
def wsum (w : NodeG → Int) (l : List NodeG) : Nat → Int
 | 0 => 1
 | i + 1 => if wsum w l i ≤ 40 then wsum w l i + w (l.getD i treeD) else wsum w l i
def weighS : Nat → NodeG → Int
 | 0, _ => 1000
 | d + 1, x => if 40 < x.kids.length ∨ 10 < (ac (nat x)).length ∨ 20 < (an (nat x)).length then 1000 else wsum (weighS d) x.kids x.kids.length
theorem weighS_bounds : ∀ (d : Nat) (x : NodeG), 1 ≤ weighS d x ∧ weighS d x ≤ 1000 + 40 * d
 | 0, _ => by simp [weighS]
 | d + 1, x => by
  rw [weighS]
  split
  ·omega
  ·have key : ∀ n, 1 ≤ wsum (weighS d) x.kids n ∧ wsum (weighS d) x.kids n ≤ 1000 + 40 * (d + 1) := by
    intro n
    induction n with
    | zero => simp only [wsum]; omega
    | succ n ih =>
     have := weighS_bounds d (x.kids.getD n treeD)
     rw [wsum]
     split <;> omega
   have := key x.kids.length
   omega
theorem wsum_stay {w : NodeG → Int} {l : List NodeG} {i : Nat} (h : 40 < wsum w l i) : ∀ k, wsum w l (i + k) = wsum w l i
 | 0 => rfl
 | k + 1 => by
  have := wsum_stay h k
  rw [show i + (k + 1) = (i + k) + 1 by omega, wsum, this, if_neg (by omega)]
theorem wsum_bounds (d : Nat) (x : NodeG) : ∀ n, 1 ≤ wsum (weighS d) x.kids n ∧ wsum (weighS d) x.kids n ≤ 1000 + 40 * (d + 1)
 | 0 => by simp only [wsum]; omega
 | n + 1 => by
  have h1 := wsum_bounds d x n
  have := weighS_bounds d (x.kids.getD n treeD)
  rw [wsum]
  split <;> omega
theorem weigh_lit : ∀ (d : Nat) (x : NodeG), weighS d x ≤ 40 → litB d x = true
 | 0, _, h => by simp [weighS] at h
 | d + 1, x, h => by
  rw [weighS] at h
  split at h
  ·omega
  ·rename_i hc
   have hc1 : x.kids.length ≤ 40 := by omega
   have hc2 : (ac (nat x)).length ≤ 10 := by omega
   have hc3 : (an (nat x)).length ≤ 20 := by omega
   have mono : ∀ n, n ≤ x.kids.length → wsum (weighS d) x.kids n ≤ 40 := by
    intro n hn
    rcases (by omega : 40 < wsum (weighS d) x.kids n ∨ wsum (weighS d) x.kids n ≤ 40) with h1 | h1
    ·have := wsum_stay h1 (x.kids.length - n)
     rw [show n + (x.kids.length - n) = x.kids.length by omega] at this
     omega
    ·exact h1
   unfold litB
   simp only [Bool.and_eq_true, decide_eq_true_eq, List.all_eq_true]
   refine ⟨⟨⟨hc2, hc3⟩, hc1⟩, fun k hk => ?_⟩
   obtain ⟨i, hi, rfl⟩ := List.mem_iff_getElem.1 hk
   have h1 := mono (i + 1) hi
   have h2 := mono i (by omega)
   have h3 := (wsum_bounds d x i).1
   rw [wsum, if_pos h2] at h1
   have h4 : x.kids.getD i treeD = x.kids[i] := by simp [List.getD, hi]
   rw [h4] at h1
   exact weigh_lit d _ (by omega)
end Go.Proofs.YtamcloifhjafcaaDoor
