/- NODES 9: light nodes, conditions of the code. -/
import Derived.Test.YtamcloifhjafcaaGreatDoorAN7
namespace Go.Proofs.YtamcloifhjafcaaGreatDoor
open Pw Go
set_option maxRecDepth 100000
set_option linter.unusedSimpArgs false
def wsum (w : NodeG → Int) (l : List NodeG) : Nat → Int
 | 0 => 1
 | i + 1 => if wsum w l i ≤ 40 then wsum w l i + w (l.getD i treeD) else wsum w l i
def weighS : Nat → NodeG → Int
 | 0, _ => 1000
 | d + 1, x => if 40 < x.kids.length ∨ 10 < (ac (nat x)).length ∨ 20 < (an (nat x)).length then 1000 else wsum (weighS d) x.kids x.kids.length
theorem weighS_cut : ∀ (d : Nat) (x : NodeG), weighS d (cutN (d + 1) x) = weighS d x
 | 0, _ => rfl
 | d + 1, x => by
  have hk : (cutN (d + 1 + 1) x).kids = x.kids.map (cutN (d + 1)) := rfl
  have hv : nat (cutN (d + 1 + 1) x) = nat x := rfl
  have hl : (cutN (d + 1 + 1) x).kids.length = x.kids.length := by rw [hk, List.length_map]
  have key : ∀ n, n ≤ x.kids.length → wsum (weighS d) (cutN (d + 1 + 1) x).kids n = wsum (weighS d) x.kids n := by
   intro n hn
   induction n with
   | zero => rfl
   | succ n ih =>
    have hg : (cutN (d + 1 + 1) x).kids.getD n treeD = cutN (d + 1) (x.kids.getD n treeD) := by
     rw [hk]
     simp [List.getD, show n < x.kids.length by omega]
    rw [wsum, wsum, ih (by omega), hg, weighS_cut d]
  rw [weighS, weighS, hv, hl, key _ (Nat.le_refl _)]
theorem weighS_bounds : ∀ (d : Nat) (x : NodeG), 1 ≤ weighS d x ∧ weighS d x ≤ 1000 + 40 * d
 | 0, _ => by simp [weighS]
 | d + 1, x => by
  rw [weighS]
  split
  ·omega
  ·have key : ∀ n, 1 ≤ wsum (weighS d) x.kids n ∧ wsum (weighS d) x.kids n ≤ 1000 + 40 * (d + 1) := by
    intro n
    induction n with
    | zero => simp only [wsum]; omega
    | succ n ih =>
     have := weighS_bounds d (x.kids.getD n treeD)
     rw [wsum]
     split <;> omega
   have := key x.kids.length
   omega
theorem wsum_stay {w : NodeG → Int} {l : List NodeG} {i : Nat} (h : 40 < wsum w l i) : ∀ k, wsum w l (i + k) = wsum w l i
 | 0 => rfl
 | k + 1 => by
  have := wsum_stay h k
  rw [show i + (k + 1) = (i + k) + 1 by omega, wsum, this, if_neg (by omega)]
theorem wsum_bounds (d : Nat) (x : NodeG) : ∀ n, 1 ≤ wsum (weighS d) x.kids n ∧ wsum (weighS d) x.kids n ≤ 1000 + 40 * (d + 1)
 | 0 => by simp only [wsum]; omega
 | n + 1 => by
  have h1 := wsum_bounds d x n
  have := weighS_bounds d (x.kids.getD n treeD)
  rw [wsum]
  split <;> omega
theorem weigh_lit : ∀ (d : Nat) (x : NodeG), weighS d x ≤ 40 → litB d x = true
 | 0, _, h => by simp [weighS] at h
 | d + 1, x, h => by
  rw [weighS] at h
  split at h
  ·omega
  ·rename_i hc
   have hc1 : x.kids.length ≤ 40 := by omega
   have hc2 : (ac (nat x)).length ≤ 10 := by omega
   have hc3 : (an (nat x)).length ≤ 20 := by omega
   have mono : ∀ n, n ≤ x.kids.length → wsum (weighS d) x.kids n ≤ 40 := by
    intro n hn
    rcases (by omega : 40 < wsum (weighS d) x.kids n ∨ wsum (weighS d) x.kids n ≤ 40) with h1 | h1
    ·have := wsum_stay h1 (x.kids.length - n)
     rw [show n + (x.kids.length - n) = x.kids.length by omega] at this
     omega
    ·exact h1
   unfold litB
   simp only [Bool.and_eq_true, decide_eq_true_eq, List.all_eq_true]
   refine ⟨⟨⟨hc2, hc3⟩, hc1⟩, fun k hk => ?_⟩
   obtain ⟨i, hi, rfl⟩ := List.mem_iff_getElem.1 hk
   have h1 := mono (i + 1) hi
   have h2 := mono i (by omega)
   have h3 := (wsum_bounds d x i).1
   rw [wsum, if_pos h2] at h1
   have h4 : x.kids.getD i treeD = x.kids[i] := by simp [List.getD, hi]
   rw [h4] at h1
   exact weigh_lit d _ (by omega)
def cWeigh (g : Nat) : Ctr
 | [n, .int .i64 d] => some (isNodeT (g + 1) n && decide (d = g), .int .i64 (weighS g (nodeOf (g + 1) n)))
 | _ => none
def invW (g : Nat) (x : NodeG) : Inv := ⟨Nat, 50, fun i => ⟨[(1, .int .i64 (g + 1 : Nat)), (2, .ptr 0 0 0 0), (5, .int .i64 (wsum (weighS g) x.kids i)), (6, .int .i64 i)], [(0, .row 0 9 true (.lst [nodeA (g + 2) x]))]⟩, fun i => i ≤ x.kids.length, fun i => x.kids.length - i⟩
theorem weigh0_vc (x : NodeG) (r : Int) : (vcFun (mkG Tryz.prog gN (tblOf []) (fun _ _ => none) 0) 20 40 [nodeA 1 x, .int .i64 0] .nil 0 (retP 3 (.int .i64 r))).sat = ( (1000 : Int) = r) := by
 kernel_rfl
theorem weigh_vc (g : Nat) (x : NodeG) (r : Int) : (vcFun (mkG Tryz.prog gN (tblOf [(40, cWeigh g)]) (fun f b => if f = 40 ∧ b = 0 then some (invW g x) else none) 0) 20 40 [nodeA (g + 2) x, .int .i64 ((g + 1 : Nat) : Int)] .nil 0 (retP 3 (.int .i64 r))).sat = ( VB ((↑(g + (1 : Nat)) : Int) == (0 : Int) || decide ((↑(TreeG.kids x).length : Int) > (40 : Int)) || decide ((↑(TreeG.val x).snd.snd.snd.fst.snd.snd.snd.fst.length : Int) > (10 : Int)) || decide ((↑(TreeG.val x).snd.snd.snd.fst.snd.snd.snd.snd.fst.length : Int) > (20 : Int))) ((1000 : Int) = r) ((∃ (i : Nat), i.le (TreeG.kids x).length ∧ ((↑(g + (1 : Nat)) : Int) = (↑(g + (1 : Nat)) : Int) ∧ ((0 : Nat) = (0 : Nat) ∧ (0 : Nat) = (0 : Nat) ∧ (0 : Nat) = (0 : Nat)) ∧ (1 : Int) = wsum (weighS g) (TreeG.kids x) i ∧ (0 : Int) = (↑i : Int) ∧ True) ∧ ((0 : Nat) = (0 : Nat) ∧ (true = true → true = true) ∧ ((nodeA (g + (2 : Nat)) x).sub (nodeA (g + (2 : Nat)) x) ∧ (nodeA (g + (2 : Nat)) x).cells.length = (nodeA (g + (2 : Nat)) x).cells.length) ∧ True) ∧ True) ∧ ∀ (i : Nat), i.le (TreeG.kids x).length → VB (decide ((↑i : Int) < (↑(TreeG.kids x).length : Int)) && decide (wsum (weighS g) (TreeG.kids x) i ≤ (40 : Int))) (NB (decide ((0 : Int) ≤ (↑i : Int) ∧ (↑i : Int) < (↑(TreeG.kids x).length : Int))) (NB (isNodeT (g + (1 : Nat)) (nodeA (g + (1 : Nat)) ((TreeG.kids x).getD (↑i : Int).toNat (TreeG.mk nodeD []))) && decide (IntKind.i64.wrap ((↑(g + (1 : Nat)) : Int) - (1 : Int)) = (↑g : Int))) (∃ (i' : Nat), i'.le (TreeG.kids x).length ∧ (invW g x).μ i' < (invW g x).μ i ∧ ((↑(g + (1 : Nat)) : Int) = (↑(g + (1 : Nat)) : Int) ∧ ((0 : Nat) = (0 : Nat) ∧ (0 : Nat) = (0 : Nat) ∧ (0 : Nat) = (0 : Nat)) ∧ IntKind.i64.wrap (wsum (weighS g) (TreeG.kids x) i + weighS g (nodeOf (g + (1 : Nat)) (nodeA (g + (1 : Nat)) ((TreeG.kids x).getD (↑i : Int).toNat (TreeG.mk nodeD []))))) = wsum (weighS g) (TreeG.kids x) i' ∧ IntKind.i64.wrap ((↑i : Int) + (1 : Int)) = (↑i' : Int) ∧ True) ∧ ((0 : Nat) = (0 : Nat) ∧ (true = true → true = true) ∧ ((nodeA (g + (2 : Nat)) x).sub (nodeA (g + (2 : Nat)) x) ∧ (nodeA (g + (2 : Nat)) x).cells.length = (nodeA (g + (2 : Nat)) x).cells.length) ∧ True) ∧ True))) (wsum (weighS g) (TreeG.kids x) i = r))) := by
 kernel_rfl
end Go.Proofs.YtamcloifhjafcaaGreatDoor
