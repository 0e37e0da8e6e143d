/- NODES 3: atoms, conditions of both codes. -/
import Derived.Test.YtamcloifhjafcaaGreatDoorAN1
namespace Go.Proofs.YtamcloifhjafcaaGreatDoor
open Pw Go
set_option maxRecDepth 100000
set_option linter.unusedSimpArgs false
def tblN : List (Nat × Ctr) := [(109, cName), (90, cName)]
theorem tblN_ok : TblOK Tryz.prog gN (tblOf tblN) := tblG_cons nameI_ok (tblG_cons nameR_ok (tblG_nil _ _))
def atomL (k : Int) (bd : Bool) (bo : Int) (n : Nat) (o v : Nat → Int) (nm : List UInt8) : List AV := [.int .i64 k, .bool bd, .int .u64 bo, condsAV n o v, .str nm]
def invCF (n : Nat) (o v : Nat → Int) : Inv := ⟨Nat, 50, fun i => ⟨[(0, condsAV n o v), (1, .fn (.func 116) [] []), (7, .int .i64 n), (8, .int .i64 i)], []⟩, fun i => i ≤ n ∧ ∀ j, j < i → okOp (o j) = true, fun i => n - i⟩
def invAR (k : Int) (bd : Bool) (bo : Int) (n : Nat) (o v : Nat → Int) (nm : List UInt8) : Inv := ⟨Nat, 50, fun i => ⟨[(1, .ptr 0 0 0 0), (3, .int .i64 i)], [(0, .row 0 5 true (.lst [.agg (atomL k bd bo n o v nm)]))]⟩, fun i => i ≤ n ∧ ∀ j, j < i → okOp (o j) = true, fun i => n - i⟩
theorem atomI_vc (k : Int) (bd : Bool) (bo : Int) (n : Nat) (o v : Nat → Int) (nm : List UInt8) (r : Bool) : (vcFun (mkG Tryz.prog gN (tblOf tblN) (fun f b => if f = 119 ∧ b = 0 then some (invCF n o v) else none) 0) 20 103 [.agg [.int .i64 k, .bool bd, .int .u64 bo, .rof n (fun i => .agg [.int .i64 (o i), .int .i64 (v i)]) false, .str nm]] .nil 0 (retP 3 (.bool r))).sat = ( NB (impB (isW true (decide (k ≥ (0 : Int)) && decide (k ≤ (25 : Int)) && (bd || bo == (0 : Int))) && isW false (nm == [])) (decide (nm.length ≤ (9223372036854775807 : Nat)))) (VB (isW true (decide (k ≥ (0 : Int)) && decide (k ≤ (25 : Int)) && (bd || bo == (0 : Int)) && (nm == [] || nameS nm))) ((∃ (i : Nat), (i ≤ n ∧ ∀ (j : Nat), j < i → okOp (o j) = true) ∧ ((n = n ∧ (∀ (i : Nat), i < n → (o i = o i ∧ v i = v i ∧ True) ∧ [AV.int IntKind.i64 (o i), AV.int IntKind.i64 (v i)].length = [AV.int IntKind.i64 (o i), AV.int IntKind.i64 (v i)].length) ∧ (false = true → false = true)) ∧ (Fn.func (116 : Nat) = Fn.func (116 : FuncId) ∧ True ∧ True) ∧ (↑n : Int) = (↑n : Int) ∧ (0 : Int) = (↑i : Int) ∧ True) ∧ True) ∧ ∀ (i : Nat), (i ≤ n ∧ ∀ (j : Nat), j < i → okOp (o j) = true) → VB (decide ((↑i : Int) < (↑n : Int))) (NB (decide ((0 : Int) ≤ (↑i : Int) ∧ (↑i : Int) < (↑n : Int))) (VB (!(decide (o (↑i : Int).toNat ≥ (1 : Int)) && decide (o (↑i : Int).toNat ≤ (6 : Int)))) ((decide (k ≥ (0 : Int)) && decide (k ≤ (25 : Int)) && (bd || bo == (0 : Int)) && (nm == [] || nameS nm) && !decide ((↑i : Int) ≥ (0 : Int))) = r) (∃ (i' : Nat), (i' ≤ n ∧ ∀ (j : Nat), j < i' → okOp (o j) = true) ∧ (invCF n o v).μ i' < (invCF n o v).μ i ∧ ((n = n ∧ (∀ (i : Nat), i < n → (o i = o i ∧ v i = v i ∧ True) ∧ [AV.int IntKind.i64 (o i), AV.int IntKind.i64 (v i)].length = [AV.int IntKind.i64 (o i), AV.int IntKind.i64 (v i)].length) ∧ (false = true → false = true)) ∧ (Fn.func (116 : FuncId) = Fn.func (116 : FuncId) ∧ True ∧ True) ∧ (↑n : Int) = (↑n : Int) ∧ IntKind.i64.wrap ((↑i : Int) + (1 : Int)) = (↑i' : Int) ∧ True) ∧ True))) ((decide (k ≥ (0 : Int)) && decide (k ≤ (25 : Int)) && (bd || bo == (0 : Int)) && (nm == [] || nameS nm) && true) = r)) ((decide (k ≥ (0 : Int)) && decide (k ≤ (25 : Int)) && (bd || bo == (0 : Int)) && (nm == [] || nameS nm) && true) = r))) := by
 kernel_rfl
theorem atomR_vc (k : Int) (bd : Bool) (bo : Int) (n : Nat) (o v : Nat → Int) (nm : List UInt8) (r : Bool) : (vcFun (mkG Tryz.prog gN (tblOf tblN) (fun f b => if f = 88 ∧ b = 0 then some (invAR k bd bo n o v nm) else none) 0) 20 88 [.agg [.int .i64 k, .bool bd, .int .u64 bo, .rof n (fun i => .agg [.int .i64 (o i), .int .i64 (v i)]) false, .str nm]] .nil 0 (retP 3 (.bool r))).sat = ( (∃ (i : Nat), (i ≤ n ∧ ∀ (j : Nat), j < i → okOp (o j) = true) ∧ (((0 : Nat) = (0 : Nat) ∧ (0 : Nat) = (0 : Nat) ∧ (0 : Nat) = (0 : Nat)) ∧ (0 : Int) = (↑i : Int) ∧ True) ∧ ((0 : Nat) = (0 : Nat) ∧ (true = true → true = true) ∧ ((k = k ∧ bd = bd ∧ bo = bo ∧ (n = n ∧ (∀ (i : Nat), i < n → (o i = o i ∧ v i = v i ∧ True) ∧ [AV.int IntKind.i64 (o i), AV.int IntKind.i64 (v i)].length = [AV.int IntKind.i64 (o i), AV.int IntKind.i64 (v i)].length) ∧ (false = true → false = true)) ∧ nm = nm ∧ True) ∧ [AV.int IntKind.i64 k, AV.bool bd, AV.int IntKind.u64 bo, AV.rof n (fun (i : Nat) => AV.agg [AV.int IntKind.i64 (o i), AV.int IntKind.i64 (v i)]) false, AV.str nm].length = [AV.int IntKind.i64 k, AV.bool bd, AV.int IntKind.u64 bo, condsAV n o v, AV.str nm].length) ∧ True) ∧ True) ∧ ∀ (i : Nat), (i ≤ n ∧ ∀ (j : Nat), j < i → okOp (o j) = true) → VB (decide ((↑i : Int) < (↑n : Int))) (NB (decide ((0 : Int) ≤ (↑i : Int) ∧ (↑i : Int) < (↑n : Int))) (VB (!(decide (o (↑i : Int).toNat ≥ (1 : Int)) && decide (o (↑i : Int).toNat ≤ (6 : Int)))) (false = r) (∃ (i' : Nat), (i' ≤ n ∧ ∀ (j : Nat), j < i' → okOp (o j) = true) ∧ (invAR k bd bo n o v nm).μ i' < (invAR k bd bo n o v nm).μ i ∧ (((0 : Nat) = (0 : Nat) ∧ (0 : Nat) = (0 : Nat) ∧ (0 : Nat) = (0 : Nat)) ∧ IntKind.i64.wrap ((↑i : Int) + (1 : Int)) = (↑i' : Int) ∧ True) ∧ ((0 : Nat) = (0 : Nat) ∧ (true = true → true = true) ∧ ((k = k ∧ bd = bd ∧ bo = bo ∧ (n = n ∧ (∀ (i : Nat), i < n → (o i = o i ∧ v i = v i ∧ True) ∧ [AV.int IntKind.i64 (o i), AV.int IntKind.i64 (v i)].length = [AV.int IntKind.i64 (o i), AV.int IntKind.i64 (v i)].length) ∧ (false = true → false = true)) ∧ nm = nm ∧ True) ∧ [AV.int IntKind.i64 k, AV.bool bd, AV.int IntKind.u64 bo, condsAV n o v, AV.str nm].length = [AV.int IntKind.i64 k, AV.bool bd, AV.int IntKind.u64 bo, condsAV n o v, AV.str nm].length) ∧ True) ∧ True))) (NB (impB (isW true (decide (k ≥ (0 : Int)) && decide (k ≤ (25 : Int)) && (bd || bo == (0 : Int))) && isW false (nm == [])) (decide (nm.length ≤ (9223372036854775807 : Nat)))) ((decide (k ≥ (0 : Int)) && decide (k ≤ (25 : Int)) && (bd || bo == (0 : Int)) && (nm == [] || nameS nm)) = r))) := by
 kernel_rfl
end Go.Proofs.YtamcloifhjafcaaGreatDoor
namespace Go.Proofs.YtamcloifhjafcaaGreatDoor
open Pw Go
set_option maxRecDepth 100000
set_option linter.unusedSimpArgs false
def atomS (k : Int) (bd : Bool) (bo : Int) (n : Nat) (o : Nat → Int) (nm : List UInt8) : Bool := decide (k ≥ 0) && decide (k ≤ 25) && (bd || bo == 0) && (nm == [] || nameS nm) && okAll n o
theorem okAll_no {n : Nat} {o : Nat → Int} {i : Nat} (hi : i < n) (h : okOp (o i) = false) : okAll n o = false := by
 rw [Bool.eq_false_iff]
 intro hc
 have := okAll_iff.1 hc i hi
 rw [h] at this; cases this
theorem atomI_pure (k : Int) (bd : Bool) (bo : Int) (n : Nat) (o v : Nat → Int) (nm : List UInt8) (hn : n ≤ 1000000) (hm : nm.length ≤ 9223372036854775807) :
  PureC Tryz.prog gN 103 [.agg (atomL k bd bo n o v nm)] (.bool (atomS k bd bo n o nm)) := by
 refine pure_vcG mix tblN_ok ((atomI_vc k bd bo n o v nm _).mpr ?_)
 simp only [EqI, imp_self, true_and, and_true, implies_true, Int.toNat_natCast, List.length_cons, List.length_nil, hm, decide_true, isW_t]
 refine NB_intro (by cases (decide (k ≥ 0) && decide (k ≤ 25) && (bd || bo == 0) && isW false (nm == [])) <;> rfl) ?_
 have hS : atomS k bd bo n o nm = (decide (k ≥ 0) && decide (k ≤ 25) && (bd || bo == 0) && (nm == [] || nameS nm) && okAll n o) := rfl
 generalize (decide (k ≥ 0) && decide (k ≤ 25) && (bd || bo == 0) && (nm == [] || nameS nm)) = q at hS ⊢
 refine VB_intro (fun h => ?_) (fun h => by rw [hS, h]; rfl)
 subst h
 refine ⟨⟨0, ⟨by omega, fun j hj => by omega⟩, by simp⟩, fun i hi => ?_⟩
 obtain ⟨hi1, hi2⟩ := hi
 refine VB_intro (fun hlt => ?_) (fun hlt => ?_)
 ·have hlt' : i < n := by have := of_decide_eq_true hlt; omega
  refine NB_intro (decide_eq_true (by omega)) (VB_intro (fun hb => ?_) (fun hb => ?_))
  ·have hb' : okOp (o i) = false := (Bool.not_eq_true' _).mp hb
   rw [hS, okAll_no hlt' hb', decide_eq_true (show (i : Int) ≥ 0 by omega)]
   rfl
  ·have hb' : okOp (o i) = true := (Bool.not_eq_false' _).mp hb
   refine ⟨i + 1, ⟨by omega, fun j hj => ?_⟩, by simp only [invCF]; omega, by rw [wrap_i64_id (by omega) (by omega)]; omega⟩
   rcases Nat.lt_or_ge j i with h' | h'
   ·exact hi2 j h'
   ·obtain rfl : j = i := by omega
    exact hb'
 ·have hie : i = n := by have := of_decide_eq_false hlt; omega
  subst hie
  rw [hS, okAll_iff.2 hi2]
theorem atomR_pure (k : Int) (bd : Bool) (bo : Int) (n : Nat) (o v : Nat → Int) (nm : List UInt8) (hn : n ≤ 1000000) (hm : nm.length ≤ 9223372036854775807) :
  PureC Tryz.prog gN 88 [.agg (atomL k bd bo n o v nm)] (.bool (atomS k bd bo n o nm)) := by
 refine pure_vcG mix tblN_ok ((atomR_vc k bd bo n o v nm _).mpr ?_)
 simp only [EqI, imp_self, true_and, and_true, implies_true, Int.toNat_natCast, List.length_cons, List.length_nil, hm, decide_true, isW_t]
 have hS : atomS k bd bo n o nm = (decide (k ≥ 0) && decide (k ≤ 25) && (bd || bo == 0) && (nm == [] || nameS nm) && okAll n o) := rfl
 refine ⟨⟨0, ⟨by omega, fun j hj => by omega⟩, by simp⟩, fun i hi => ?_⟩
 obtain ⟨hi1, hi2⟩ := hi
 refine VB_intro (fun hlt => ?_) (fun hlt => ?_)
 ·have hlt' : i < n := by have := of_decide_eq_true hlt; omega
  refine NB_intro (decide_eq_true (by omega)) (VB_intro (fun hb => ?_) (fun hb => ?_))
  ·have hb' : okOp (o i) = false := (Bool.not_eq_true' _).mp hb
   rw [hS, okAll_no hlt' hb', Bool.and_false]
  ·have hb' : okOp (o i) = true := (Bool.not_eq_false' _).mp hb
   refine ⟨i + 1, ⟨by omega, fun j hj => ?_⟩, by simp only [invAR]; omega, by rw [wrap_i64_id (by omega) (by omega)]; omega⟩
   rcases Nat.lt_or_ge j i with h' | h'
   ·exact hi2 j h'
   ·obtain rfl : j = i := by omega
    exact hb'
 ·have hie : i = n := by have := of_decide_eq_false hlt; omega
  subst hie
  refine NB_intro (by cases (decide (k ≥ 0) && decide (k ≤ 25) && (bd || bo == 0) && isW false (nm == [])) <;> rfl) ?_
  rw [hS, okAll_iff.2 hi2, Bool.and_true]
def cAtom : Ctr
 | [.agg [.int .i64 k, .bool bd, .int .u64 bo, .rof n f _, .str nm]] => some (decide (n ≤ 1000000) && condsB n f && decide (nm.length ≤ 9223372036854775807), .bool (atomS k bd bo n (fun i => opOf (f i)) nm))
 | _ => none
theorem atom_sub {k : Int} {bd : Bool} {bo : Int} {n : Nat} {f : Nat → AV} {ex : Bool} {nm : List UInt8} (h : condsB n f = true) :
  (AV.agg [.int .i64 k, .bool bd, .int .u64 bo, .rof n f ex, .str nm]).sub (.agg (atomL k bd bo n (fun i => opOf (f i)) (fun i => valOf (f i)) nm)) := ⟨rfl, rfl, rfl, rof_cond_sub h, rfl, trivial⟩
theorem atom_of {g : Nat} (h : ∀ (k : Int) (bd : Bool) (bo : Int) (n : Nat) (o v : Nat → Int) (nm : List UInt8), n ≤ 1000000 → nm.length ≤ 9223372036854775807 → PureC Tryz.prog gN g [.agg (atomL k bd bo n o v nm)] (.bool (atomS k bd bo n o nm))) : PureG Tryz.prog gN g cAtom := by
 intro args nd v he hnd
 unfold cAtom at he
 split at he <;> cases he
 simp only [Bool.and_eq_true, decide_eq_true_eq] at hnd
 rename_i k bd bo n f ex nm
 refine PureC.args (args' := [.agg (atomL k bd bo n (fun i => opOf (f i)) (fun i => valOf (f i)) nm)]) rfl ?_ (h _ _ _ _ _ _ _ hnd.1.1 hnd.2)
 intro i hi
 match i, hi with
 | 0, _ => exact atom_sub hnd.1.2
end Go.Proofs.YtamcloifhjafcaaGreatDoor
