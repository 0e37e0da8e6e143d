/- QUERIES OF NUMBERS 1: remainders, elements, leaves: conditions. -/
import Derived.Test.YtamcloifhjafcaaDoorAN23
namespace Go.Proofs.YtamcloifhjafcaaDoor
open Pw Go
set_option maxRecDepth 100000
set_option linter.unusedSimpArgs false
abbrev iqA (l : List Int) : AV := .rof l.length (fun i => .int .i64 (l.getD i 0)) false
def cMod : Ctr
 | [.int .i64 n, .int .i64 m] => some (decide (-9223372036854775808 ≤ n ∧ n ≤ 9223372036854775807 ∧ 1 ≤ m ∧ m ≤ 4611686018427387904), .int .i64 (n % m))
 | _ => none
theorem mod_vc (n m r : Int) : (vcFun (mkG Tryd.prog gN (tblOf []) (fun _ _ => none) 0) 20 54 [.int .i64 n, .int .i64 m] .nil 0 (retP 3 (.int .i64 r))).sat = ( VB (decide (m < (1 : Int))) ((0 : Int) = r) (NB (m != (0 : Int)) (VB (decide (n.tmod m < (0 : Int))) (IntKind.i64.wrap (n.tmod m + m) = r) (n.tmod m = r)))) := by
 kernel_rfl
theorem at_vc (l : List Int) (i r : Int) : (vcFun (mkG Tryd.prog gN (tblOf []) (fun _ _ => none) 0) 20 56 [iqA l, .int .i64 i] .nil 0 (retP 3 (.int .i64 r))).sat = ( VB (decide (i < (0 : Int)) || decide (i ≥ (↑l.length : Int))) ((0 : Int) = r) (NB (decide ((0 : Int) ≤ i ∧ i < (↑l.length : Int))) (l.getD i.toNat (0 : Int) = r))) := by
 kernel_rfl
theorem leafK_vc (f : Nat) (k p : Int) (x : NodeG) : (vcFun (mkG Tryd.prog gN (tblOf []) (fun _ _ => none) 0) 20 55 [.int .i64 k, .int .i64 p] .nil 0 (retP 4 (nodeA (f + 1) x))).sat = (let c8 := ((1 : Int) + (IntKind.i64.wrap (k.tdiv (108 : Int))).tmod (6 : Int))
 let c9 := ((IntKind.i64.wrap (k.tdiv (648 : Int))).tmod (5 : Int) - (2 : Int))
 let c7 := ((TreeG.val x).snd.snd.snd.fst.snd.snd.snd.fst.getD (0 : Nat) condD)
 let c0 := ([AV.agg [AV.int IntKind.i64 (IntKind.i64.wrap c8), AV.int IntKind.i64 (IntKind.i64.wrap c9)]].length = (TreeG.val x).snd.snd.snd.fst.snd.snd.snd.fst.length ∧ (((IntKind.i64.wrap c8 = c7.fst ∧ IntKind.i64.wrap c9 = c7.snd.fst ∧ True) ∧ [AV.int IntKind.i64 (IntKind.i64.wrap c8), AV.int IntKind.i64 (IntKind.i64.wrap c9)].length = [AV.int IntKind.i64 c7.fst, AV.int IntKind.i64 c7.snd.fst].length) ∧ True) ∧ (false = true → true = true))
 let c1 := ((IntKind.i64.wrap (k.tdiv (6480 : Int))).tmod (5 : Int) == (1 : Int))
 let c2 := ((1 : Int) + (IntKind.i64.wrap (k.tdiv (32400 : Int))).tmod (2 : Int))
 let c3 := ((2 : Int) + (IntKind.i64.wrap (k.tdiv (64800 : Int))).tmod (2 : Int))
 let c4 := ((IntKind.i64.wrap (k.tdiv (9 : Int))).tmod (4 : Int))
 let c5 := (IntKind.u8.wrap (IntKind.i64.wrap ((112 : Int) + p)))
 let c6 := ((IntKind.i64.wrap (k.tdiv (3240 : Int))).tmod (2 : Int) == (1 : Int))
 VB ((IntKind.i64.wrap (k.tdiv (3 : Int))).tmod (3 : Int) == (1 : Int)) (VB ((IntKind.i64.wrap (k.tdiv (36 : Int))).tmod (3 : Int) == (1 : Int)) (VB c6 (VB c1 ((1 : Int) = (TreeG.val x).fst ∧ IntKind.i64.wrap c2 = (TreeG.val x).snd.fst ∧ IntKind.i64.wrap c3 = (TreeG.val x).snd.snd.fst ∧ k.tmod (3 : Int) = (TreeG.val x).snd.snd.snd.fst.fst ∧ true = (TreeG.val x).snd.snd.snd.fst.snd.fst ∧ IntKind.u64.wrap c4 = (TreeG.val x).snd.snd.snd.fst.snd.snd.fst ∧ c0 ∧ List.map byteAV [AV.int IntKind.u8 c5] = (TreeG.val x).snd.snd.snd.fst.snd.snd.snd.snd.fst ∧ (TreeG.kids x).length = (0 : Nat) ∧ True) ((1 : Int) = (TreeG.val x).fst ∧ (1 : Int) = (TreeG.val x).snd.fst ∧ (1 : Int) = (TreeG.val x).snd.snd.fst ∧ k.tmod (3 : Int) = (TreeG.val x).snd.snd.snd.fst.fst ∧ true = (TreeG.val x).snd.snd.snd.fst.snd.fst ∧ IntKind.u64.wrap c4 = (TreeG.val x).snd.snd.snd.fst.snd.snd.fst ∧ c0 ∧ List.map byteAV [AV.int IntKind.u8 c5] = (TreeG.val x).snd.snd.snd.fst.snd.snd.snd.snd.fst ∧ (TreeG.kids x).length = (0 : Nat) ∧ True)) (VB c1 ((1 : Int) = (TreeG.val x).fst ∧ IntKind.i64.wrap c2 = (TreeG.val x).snd.fst ∧ IntKind.i64.wrap c3 = (TreeG.val x).snd.snd.fst ∧ k.tmod (3 : Int) = (TreeG.val x).snd.snd.snd.fst.fst ∧ true = (TreeG.val x).snd.snd.snd.fst.snd.fst ∧ IntKind.u64.wrap c4 = (TreeG.val x).snd.snd.snd.fst.snd.snd.fst ∧ c0 ∧ [] = (TreeG.val x).snd.snd.snd.fst.snd.snd.snd.snd.fst ∧ (TreeG.kids x).length = (0 : Nat) ∧ True) ((1 : Int) = (TreeG.val x).fst ∧ (1 : Int) = (TreeG.val x).snd.fst ∧ (1 : Int) = (TreeG.val x).snd.snd.fst ∧ k.tmod (3 : Int) = (TreeG.val x).snd.snd.snd.fst.fst ∧ true = (TreeG.val x).snd.snd.snd.fst.snd.fst ∧ IntKind.u64.wrap c4 = (TreeG.val x).snd.snd.snd.fst.snd.snd.fst ∧ c0 ∧ [] = (TreeG.val x).snd.snd.snd.fst.snd.snd.snd.snd.fst ∧ (TreeG.kids x).length = (0 : Nat) ∧ True))) (VB c6 (VB c1 ((1 : Int) = (TreeG.val x).fst ∧ IntKind.i64.wrap c2 = (TreeG.val x).snd.fst ∧ IntKind.i64.wrap c3 = (TreeG.val x).snd.snd.fst ∧ k.tmod (3 : Int) = (TreeG.val x).snd.snd.snd.fst.fst ∧ true = (TreeG.val x).snd.snd.snd.fst.snd.fst ∧ IntKind.u64.wrap c4 = (TreeG.val x).snd.snd.snd.fst.snd.snd.fst ∧ (TreeG.val x).snd.snd.snd.fst.snd.snd.snd.fst.length = (0 : Nat) ∧ List.map byteAV [AV.int IntKind.u8 c5] = (TreeG.val x).snd.snd.snd.fst.snd.snd.snd.snd.fst ∧ (TreeG.kids x).length = (0 : Nat) ∧ True) ((1 : Int) = (TreeG.val x).fst ∧ (1 : Int) = (TreeG.val x).snd.fst ∧ (1 : Int) = (TreeG.val x).snd.snd.fst ∧ k.tmod (3 : Int) = (TreeG.val x).snd.snd.snd.fst.fst ∧ true = (TreeG.val x).snd.snd.snd.fst.snd.fst ∧ IntKind.u64.wrap c4 = (TreeG.val x).snd.snd.snd.fst.snd.snd.fst ∧ (TreeG.val x).snd.snd.snd.fst.snd.snd.snd.fst.length = (0 : Nat) ∧ List.map byteAV [AV.int IntKind.u8 c5] = (TreeG.val x).snd.snd.snd.fst.snd.snd.snd.snd.fst ∧ (TreeG.kids x).length = (0 : Nat) ∧ True)) (VB c1 ((1 : Int) = (TreeG.val x).fst ∧ IntKind.i64.wrap c2 = (TreeG.val x).snd.fst ∧ IntKind.i64.wrap c3 = (TreeG.val x).snd.snd.fst ∧ k.tmod (3 : Int) = (TreeG.val x).snd.snd.snd.fst.fst ∧ true = (TreeG.val x).snd.snd.snd.fst.snd.fst ∧ IntKind.u64.wrap c4 = (TreeG.val x).snd.snd.snd.fst.snd.snd.fst ∧ (TreeG.val x).snd.snd.snd.fst.snd.snd.snd.fst.length = (0 : Nat) ∧ [] = (TreeG.val x).snd.snd.snd.fst.snd.snd.snd.snd.fst ∧ (TreeG.kids x).length = (0 : Nat) ∧ True) ((1 : Int) = (TreeG.val x).fst ∧ (1 : Int) = (TreeG.val x).snd.fst ∧ (1 : Int) = (TreeG.val x).snd.snd.fst ∧ k.tmod (3 : Int) = (TreeG.val x).snd.snd.snd.fst.fst ∧ true = (TreeG.val x).snd.snd.snd.fst.snd.fst ∧ IntKind.u64.wrap c4 = (TreeG.val x).snd.snd.snd.fst.snd.snd.fst ∧ (TreeG.val x).snd.snd.snd.fst.snd.snd.snd.fst.length = (0 : Nat) ∧ [] = (TreeG.val x).snd.snd.snd.fst.snd.snd.snd.snd.fst ∧ (TreeG.kids x).length = (0 : Nat) ∧ True)))) (VB ((IntKind.i64.wrap (k.tdiv (36 : Int))).tmod (3 : Int) == (1 : Int)) (VB c6 (VB c1 ((1 : Int) = (TreeG.val x).fst ∧ IntKind.i64.wrap c2 = (TreeG.val x).snd.fst ∧ IntKind.i64.wrap c3 = (TreeG.val x).snd.snd.fst ∧ k.tmod (3 : Int) = (TreeG.val x).snd.snd.snd.fst.fst ∧ false = (TreeG.val x).snd.snd.snd.fst.snd.fst ∧ (0 : Int) = (TreeG.val x).snd.snd.snd.fst.snd.snd.fst ∧ c0 ∧ List.map byteAV [AV.int IntKind.u8 c5] = (TreeG.val x).snd.snd.snd.fst.snd.snd.snd.snd.fst ∧ (TreeG.kids x).length = (0 : Nat) ∧ True) ((1 : Int) = (TreeG.val x).fst ∧ (1 : Int) = (TreeG.val x).snd.fst ∧ (1 : Int) = (TreeG.val x).snd.snd.fst ∧ k.tmod (3 : Int) = (TreeG.val x).snd.snd.snd.fst.fst ∧ false = (TreeG.val x).snd.snd.snd.fst.snd.fst ∧ (0 : Int) = (TreeG.val x).snd.snd.snd.fst.snd.snd.fst ∧ c0 ∧ List.map byteAV [AV.int IntKind.u8 c5] = (TreeG.val x).snd.snd.snd.fst.snd.snd.snd.snd.fst ∧ (TreeG.kids x).length = (0 : Nat) ∧ True)) (VB c1 ((1 : Int) = (TreeG.val x).fst ∧ IntKind.i64.wrap c2 = (TreeG.val x).snd.fst ∧ IntKind.i64.wrap c3 = (TreeG.val x).snd.snd.fst ∧ k.tmod (3 : Int) = (TreeG.val x).snd.snd.snd.fst.fst ∧ false = (TreeG.val x).snd.snd.snd.fst.snd.fst ∧ (0 : Int) = (TreeG.val x).snd.snd.snd.fst.snd.snd.fst ∧ c0 ∧ [] = (TreeG.val x).snd.snd.snd.fst.snd.snd.snd.snd.fst ∧ (TreeG.kids x).length = (0 : Nat) ∧ True) ((1 : Int) = (TreeG.val x).fst ∧ (1 : Int) = (TreeG.val x).snd.fst ∧ (1 : Int) = (TreeG.val x).snd.snd.fst ∧ k.tmod (3 : Int) = (TreeG.val x).snd.snd.snd.fst.fst ∧ false = (TreeG.val x).snd.snd.snd.fst.snd.fst ∧ (0 : Int) = (TreeG.val x).snd.snd.snd.fst.snd.snd.fst ∧ c0 ∧ [] = (TreeG.val x).snd.snd.snd.fst.snd.snd.snd.snd.fst ∧ (TreeG.kids x).length = (0 : Nat) ∧ True))) (VB c6 (VB c1 ((1 : Int) = (TreeG.val x).fst ∧ IntKind.i64.wrap c2 = (TreeG.val x).snd.fst ∧ IntKind.i64.wrap c3 = (TreeG.val x).snd.snd.fst ∧ k.tmod (3 : Int) = (TreeG.val x).snd.snd.snd.fst.fst ∧ false = (TreeG.val x).snd.snd.snd.fst.snd.fst ∧ (0 : Int) = (TreeG.val x).snd.snd.snd.fst.snd.snd.fst ∧ (TreeG.val x).snd.snd.snd.fst.snd.snd.snd.fst.length = (0 : Nat) ∧ List.map byteAV [AV.int IntKind.u8 c5] = (TreeG.val x).snd.snd.snd.fst.snd.snd.snd.snd.fst ∧ (TreeG.kids x).length = (0 : Nat) ∧ True) ((1 : Int) = (TreeG.val x).fst ∧ (1 : Int) = (TreeG.val x).snd.fst ∧ (1 : Int) = (TreeG.val x).snd.snd.fst ∧ k.tmod (3 : Int) = (TreeG.val x).snd.snd.snd.fst.fst ∧ false = (TreeG.val x).snd.snd.snd.fst.snd.fst ∧ (0 : Int) = (TreeG.val x).snd.snd.snd.fst.snd.snd.fst ∧ (TreeG.val x).snd.snd.snd.fst.snd.snd.snd.fst.length = (0 : Nat) ∧ List.map byteAV [AV.int IntKind.u8 c5] = (TreeG.val x).snd.snd.snd.fst.snd.snd.snd.snd.fst ∧ (TreeG.kids x).length = (0 : Nat) ∧ True)) (VB c1 ((1 : Int) = (TreeG.val x).fst ∧ IntKind.i64.wrap c2 = (TreeG.val x).snd.fst ∧ IntKind.i64.wrap c3 = (TreeG.val x).snd.snd.fst ∧ k.tmod (3 : Int) = (TreeG.val x).snd.snd.snd.fst.fst ∧ false = (TreeG.val x).snd.snd.snd.fst.snd.fst ∧ (0 : Int) = (TreeG.val x).snd.snd.snd.fst.snd.snd.fst ∧ (TreeG.val x).snd.snd.snd.fst.snd.snd.snd.fst.length = (0 : Nat) ∧ [] = (TreeG.val x).snd.snd.snd.fst.snd.snd.snd.snd.fst ∧ (TreeG.kids x).length = (0 : Nat) ∧ True) ((1 : Int) = (TreeG.val x).fst ∧ (1 : Int) = (TreeG.val x).snd.fst ∧ (1 : Int) = (TreeG.val x).snd.snd.fst ∧ k.tmod (3 : Int) = (TreeG.val x).snd.snd.snd.fst.fst ∧ false = (TreeG.val x).snd.snd.snd.fst.snd.fst ∧ (0 : Int) = (TreeG.val x).snd.snd.snd.fst.snd.snd.fst ∧ (TreeG.val x).snd.snd.snd.fst.snd.snd.snd.fst.length = (0 : Nat) ∧ [] = (TreeG.val x).snd.snd.snd.fst.snd.snd.snd.snd.fst ∧ (TreeG.kids x).length = (0 : Nat) ∧ True))))) := by
 kernel_rfl
end Go.Proofs.YtamcloifhjafcaaDoor
namespace Go.Proofs.YtamcloifhjafcaaDoor
open Pw Go
set_option maxRecDepth 100000
set_option linter.unusedSimpArgs false
theorem tdivW {k c : Int} (h0 : 0 ≤ k) (h1 : k ≤ 4611686018427387904) (hc : 1 ≤ c) : IntKind.i64.wrap (k.tdiv c) = k / c := by
 rw [Int.tdiv_eq_ediv_of_nonneg h0, wrap_i64_id]
 ·have := Int.ediv_nonneg h0 (show 0 ≤ c by omega); omega
 ·have := Int.ediv_le_self c h0; omega
theorem tmodE {k c : Int} (h0 : 0 ≤ k) : k.tmod c = k % c := Int.tmod_eq_emod_of_nonneg h0
theorem mod_ok : PureG Tryd.prog gN 54 cMod := by
 intro args nd v he hnd
 unfold cMod at he
 split at he <;> cases he
 rename_i n m
 have hnd := of_decide_eq_true hnd
 refine pure_vcG (d := 3) mix (tblG_nil _ _) ((mod_vc n m _).mpr ?_)
 have h1 := Int.tmod_lt_of_pos n (show 0 < m by omega)
 have h2 := Int.lt_tmod_of_pos n (show 0 < m by omega)
 have h3 : n % m = if n.tmod m < 0 then n.tmod m + m else n.tmod m := by
  rw [Int.emod_eq_tmod]
  by_cases hn : 0 ≤ n
  ·rw [if_pos (.inl hn)]
   have := Int.tmod_nonneg m hn
   rw [if_neg (by omega)]
   omega
  ·by_cases hd : m ∣ n
   ·rw [if_pos (.inr hd), Int.tmod_eq_zero_of_dvd hd]
    simp
   ·rw [if_neg (by simp [hn, hd])]
    have h4 : n.tmod m ≠ 0 := fun e => hd (Int.dvd_of_tmod_eq_zero e)
    have h5 : n.tmod m ≤ 0 := by
     have := Int.neg_tmod (a := n) (b := m)
     have := Int.tmod_nonneg m (show 0 ≤ -n by omega)
     omega
    rw [if_pos (by omega), Int.natAbs_of_nonneg (by omega)]
 refine VB_intro (fun h => by have := of_decide_eq_true h; omega) (fun h => NB_intro (by simp; omega) (VB_intro (fun h => ?_) (fun h => ?_)))
 ·have h := of_decide_eq_true h
  rw [wrap_i64_id (by omega) (by omega), h3, if_pos h]
 ·have h := of_decide_eq_false h
  rw [h3, if_neg h]
theorem at_ok (l : List Int) (i : Int) : PureC Tryd.prog gN 56 [iqA l, .int .i64 i] (.int .i64 (if i < 0 then 0 else l.getD i.toNat 0)) := by
 refine pure_vcG (d := 3) mix (tblG_nil _ _) ((at_vc l i _).mpr (VB_intro (fun h => ?_) (fun h => NB_intro ?_ ?_)))
 ·simp only [Bool.or_eq_true, decide_eq_true_eq] at h
  rcases h with h | h
  ·rw [if_pos h]
  ·split
   ·rfl
   ·rw [List.getD_eq_getElem?_getD, List.getElem?_eq_none (by omega)]
    rfl
 ·simp only [Bool.or_eq_false_iff, decide_eq_false_iff_not] at h
  exact decide_eq_true (by omega)
 ·simp only [Bool.or_eq_false_iff, decide_eq_false_iff_not] at h
  rw [if_neg h.1]
def leafN (k p : Int) : List UInt8 := if k / 3240 % 2 = 1 then [UInt8.ofNat ((112 + p) % 256).toNat] else []
def leafA (k p : Int) : AtomG := (k % 3, decide (k / 3 % 3 = 1), if k / 3 % 3 = 1 then k / 9 % 4 else 0, if k / 36 % 3 = 1 then [(1 + k / 108 % 6, k / 648 % 5 - 2, ())] else [], leafN k p, ())
def leafG (k p : Int) : NodeG := .mk (1, if k / 6480 % 5 = 1 then 1 + k / 32400 % 2 else 1, if k / 6480 % 5 = 1 then 2 + k / 64800 % 2 else 1, leafA k p, ()) []
theorem leafK_pure (f : Nat) {k p : Int} (hk : 0 ≤ k ∧ k ≤ 1073741823) (hp : 0 ≤ p ∧ p ≤ 20) : PureC Tryd.prog gN 55 [.int .i64 k, .int .i64 p] (nodeA (f + 1) (leafG k p)) := by
 refine pure_vcG (d := 4) mix (tblG_nil _ _) ((leafK_vc f k p _).mpr ?_)
 simp (disch := omega) only [tdivW, tmodE, wrap_i64_id, wrap_u64_id, wrap_u8]
 repeat' (with_reducible refine VB_intro (fun h => ?_) (fun h => ?_))
 all_goals simp only [beq_iff_eq, beq_eq_false_iff_ne] at *
 all_goals simp [leafG, leafA, leafN, TreeG.val, TreeG.kids, byteAV, *]
end Go.Proofs.YtamcloifhjafcaaDoor
