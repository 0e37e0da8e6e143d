/- NODES 1: names, conditions of both codes. -/
import Derived.Test.YtamcloifhjafcaaGreatDoorRows
import Derived.Test.YtamcloifhjafcaaGreatDoorN1
namespace Go.Proofs.YtamcloifhjafcaaGreatDoor
open Pw Go
set_option maxRecDepth 100000
set_option linter.unusedSimpArgs false
theorem mix : Tryz.prog.follows .mixedOrders = true := by kernel_rfl
def okOp (op : Int) : Bool := decide (1 ≤ op) && decide (op ≤ 6)
def condsAV (n : Nat) (o v : Nat → Int) : AV := .rof n (fun i => .agg [.int .i64 (o i), .int .i64 (v i)]) false
def opOf : AV → Int
 | .agg [.int _ n, _] => n
 | _ => 0
def valOf : AV → Int
 | .agg [_, .int _ n] => n
 | _ => 0
def isCondB : AV → Bool
 | .agg [.int .i64 _, .int .i64 _] => true
 | _ => false
def condsB (n : Nat) (f : Nat → AV) : Bool := (List.range n).all fun i => isCondB (f i)
theorem rof_cond_sub {n : Nat} {f : Nat → AV} {ex : Bool} (h : condsB n f = true) : (AV.rof n f ex).sub (condsAV n (fun i => opOf (f i)) (fun i => valOf (f i))) := by
 refine ⟨rfl, fun i hi => ?_, by simp⟩
 have := List.all_eq_true.1 h i (by simpa using hi)
 show (f i).sub (.agg [.int .i64 (opOf (f i)), .int .i64 (valOf (f i))]) ∧ (f i).cells.length = 2
 generalize f i = x at this
 unfold isCondB at this
 split at this
 ·exact ⟨⟨rfl, rfl, trivial⟩, rfl⟩
 ·cases this
def okAll (n : Nat) (o : Nat → Int) : Bool := (List.range n).all fun i => okOp (o i)
theorem okAll_iff {n : Nat} {o : Nat → Int} : okAll n o = true ↔ ∀ i, i < n → okOp (o i) = true := by simp [okAll]
def gN : Nat → AV := strsG 0 [[99, 111, 117, 110, 116], [115, 117, 109], [109, 105, 110], [109, 97, 120], [102, 105, 114, 115, 116], [108, 97, 115, 116]]
def lowC (s : List UInt8) (i : Nat) : Bool := decide (97 ≤ ((s.getD i 0).toNat : Int)) && decide (((s.getD i 0).toNat : Int) ≤ 122)
def invN1 (s : List UInt8) : Inv := ⟨Nat, 1, fun i => ⟨[(0, .str s), (13, .rof s.length (fun i => .int .u8 ((s.getD i 0).toNat)) false), (14, .int .i64 s.length), (15, .int .i64 i)], []⟩, fun i => i ≤ s.length ∧ ∀ j, j < i → lowC s j = true, fun i => s.length - i⟩
def invN2 (s : List UInt8) : Inv := ⟨Nat, 1, fun i => ⟨[(0, .str s), (3, .int .i64 i)], []⟩, fun i => i ≤ s.length ∧ ∀ j, j < i → lowC s j = true, fun i => s.length - i⟩
theorem nameI_vc (s : List UInt8) (r : Bool) : (vcFun (mkG Tryz.prog gN (tblOf []) (fun f b => if f = 109 ∧ b = 0 then some (invN1 s) else none) 8) 20 109 [.str s] .nil 0 (retP 3 (.bool r))).sat = ( VB (s == [] || decide ((↑s.length : Int) > (8 : Int))) (false = r) (NB (decide (s.length ≤ (9223372036854775807 : Nat))) ((∃ (i : Nat), (i ≤ s.length ∧ ∀ (j : Nat), j < i → lowC s j = true) ∧ (s = s ∧ (s.length = s.length ∧ (∀ (i : Nat), i < s.length → (↑(s.getD i (0 : UInt8)).toNat : Int) = (↑(s.getD i (0 : UInt8)).toNat : Int) ∧ [AV.int IntKind.u8 (↑(s.getD i (0 : UInt8)).toNat : Int)].length = [AV.int IntKind.u8 (↑(s.getD i (0 : UInt8)).toNat : Int)].length) ∧ (false = true → false = true)) ∧ (↑s.length : Int) = (↑s.length : Int) ∧ (0 : Int) = (↑i : Int) ∧ True) ∧ True) ∧ ∀ (i : Nat), (i ≤ s.length ∧ ∀ (j : Nat), j < i → lowC s j = true) → VB (decide ((↑i : Int) < (↑s.length : Int))) (NB (decide ((0 : Int) ≤ (↑i : Int) ∧ (↑i : Int) < (↑s.length : Int))) (VB (decide ((↑(s.getD (↑i : Int).toNat (0 : UInt8)).toNat : Int) < (97 : Int)) || decide ((↑(s.getD (↑i : Int).toNat (0 : UInt8)).toNat : Int) > (122 : Int))) (false = r) (∃ (i' : Nat), (i' ≤ s.length ∧ ∀ (j : Nat), j < i' → lowC s j = true) ∧ (invN1 s).μ i' < (invN1 s).μ i ∧ (s = s ∧ (s.length = s.length ∧ (∀ (i : Nat), i < s.length → (↑(s.getD i (0 : UInt8)).toNat : Int) = (↑(s.getD i (0 : UInt8)).toNat : Int) ∧ [AV.int IntKind.u8 (↑(s.getD i (0 : UInt8)).toNat : Int)].length = [AV.int IntKind.u8 (↑(s.getD i (0 : UInt8)).toNat : Int)].length) ∧ (false = true → false = true)) ∧ (↑s.length : Int) = (↑s.length : Int) ∧ IntKind.i64.wrap ((↑i : Int) + (1 : Int)) = (↑i' : Int) ∧ True) ∧ True))) (VB (s == [(119 : UInt8), (105 : UInt8), (116 : UInt8), (104 : UInt8), (105 : UInt8), (110 : UInt8)]) (VB (s == [(119 : UInt8), (105 : UInt8), (116 : UInt8), (104 : UInt8), (105 : UInt8), (110 : UInt8)]) (false = r) (VB (s == [(99 : UInt8), (111 : UInt8), (117 : UInt8), (110 : UInt8), (116 : UInt8)]) (false = r) (VB (s == [(115 : UInt8), (117 : UInt8), (109 : UInt8)]) (false = r) (VB (s == [(109 : UInt8), (105 : UInt8), (110 : UInt8)]) (false = r) (VB (s == [(109 : UInt8), (97 : UInt8), (120 : UInt8)]) (false = r) (VB (s == [(102 : UInt8), (105 : UInt8), (114 : UInt8), (115 : UInt8), (116 : UInt8)]) (false = r) (VB (s == [(108 : UInt8), (97 : UInt8), (115 : UInt8), (116 : UInt8)]) (false = r) (true = r)))))))) (VB (s == [(104 : UInt8), (97 : UInt8), (118 : UInt8), (105 : UInt8), (110 : UInt8), (103 : UInt8)]) (VB (s == [(104 : UInt8), (97 : UInt8), (118 : UInt8), (105 : UInt8), (110 : UInt8), (103 : UInt8)]) (false = r) (VB (s == [(99 : UInt8), (111 : UInt8), (117 : UInt8), (110 : UInt8), (116 : UInt8)]) (false = r) (VB (s == [(115 : UInt8), (117 : UInt8), (109 : UInt8)]) (false = r) (VB (s == [(109 : UInt8), (105 : UInt8), (110 : UInt8)]) (false = r) (VB (s == [(109 : UInt8), (97 : UInt8), (120 : UInt8)]) (false = r) (VB (s == [(102 : UInt8), (105 : UInt8), (114 : UInt8), (115 : UInt8), (116 : UInt8)]) (false = r) (VB (s == [(108 : UInt8), (97 : UInt8), (115 : UInt8), (116 : UInt8)]) (false = r) (true = r)))))))) (VB (s == [(97 : UInt8), (110 : UInt8), (100 : UInt8)]) (VB (s == [(97 : UInt8), (110 : UInt8), (100 : UInt8)]) (false = r) (VB (s == [(99 : UInt8), (111 : UInt8), (117 : UInt8), (110 : UInt8), (116 : UInt8)]) (false = r) (VB (s == [(115 : UInt8), (117 : UInt8), (109 : UInt8)]) (false = r) (VB (s == [(109 : UInt8), (105 : UInt8), (110 : UInt8)]) (false = r) (VB (s == [(109 : UInt8), (97 : UInt8), (120 : UInt8)]) (false = r) (VB (s == [(102 : UInt8), (105 : UInt8), (114 : UInt8), (115 : UInt8), (116 : UInt8)]) (false = r) (VB (s == [(108 : UInt8), (97 : UInt8), (115 : UInt8), (116 : UInt8)]) (false = r) (true = r)))))))) (VB (s == [(101 : UInt8), (109 : UInt8), (105 : UInt8), (116 : UInt8)]) (VB (s == [(101 : UInt8), (109 : UInt8), (105 : UInt8), (116 : UInt8)]) (false = r) (VB (s == [(99 : UInt8), (111 : UInt8), (117 : UInt8), (110 : UInt8), (116 : UInt8)]) (false = r) (VB (s == [(115 : UInt8), (117 : UInt8), (109 : UInt8)]) (false = r) (VB (s == [(109 : UInt8), (105 : UInt8), (110 : UInt8)]) (false = r) (VB (s == [(109 : UInt8), (97 : UInt8), (120 : UInt8)]) (false = r) (VB (s == [(102 : UInt8), (105 : UInt8), (114 : UInt8), (115 : UInt8), (116 : UInt8)]) (false = r) (VB (s == [(108 : UInt8), (97 : UInt8), (115 : UInt8), (116 : UInt8)]) (false = r) (true = r)))))))) (VB (s == [(110 : UInt8), (111 : UInt8), (116 : UInt8)]) (false = r) (VB (s == [(99 : UInt8), (111 : UInt8), (117 : UInt8), (110 : UInt8), (116 : UInt8)]) (false = r) (VB (s == [(115 : UInt8), (117 : UInt8), (109 : UInt8)]) (false = r) (VB (s == [(109 : UInt8), (105 : UInt8), (110 : UInt8)]) (false = r) (VB (s == [(109 : UInt8), (97 : UInt8), (120 : UInt8)]) (false = r) (VB (s == [(102 : UInt8), (105 : UInt8), (114 : UInt8), (115 : UInt8), (116 : UInt8)]) (false = r) (VB (s == [(108 : UInt8), (97 : UInt8), (115 : UInt8), (116 : UInt8)]) (false = r) (true = r))))))))))))))) := by
 kernel_rfl
theorem nameR_vc (s : List UInt8) (r : Bool) : (vcFun (mkG Tryz.prog gN (tblOf []) (fun f b => if f = 90 ∧ b = 0 then some (invN2 s) else none) 13) 20 90 [.str s] .nil 0 (retP 3 (.bool r))).sat = ( VB (decide ((↑s.length : Int) < (1 : Int)) || decide ((↑s.length : Int) > (8 : Int))) (false = r) ((∃ (i : Nat), (i ≤ s.length ∧ ∀ (j : Nat), j < i → lowC s j = true) ∧ (s = s ∧ (0 : Int) = (↑i : Int) ∧ True) ∧ True) ∧ ∀ (i : Nat), (i ≤ s.length ∧ ∀ (j : Nat), j < i → lowC s j = true) → VB (decide ((↑i : Int) < (↑s.length : Int))) (NB (decide ((0 : Int) ≤ (↑i : Int) ∧ (↑i : Int) < (↑s.length : Int))) (NB (impB (isW false (decide ((↑(s.getD (↑i : Int).toNat (0 : UInt8)).toNat : Int) < (97 : Int)))) (decide ((0 : Int) ≤ (↑i : Int) ∧ (↑i : Int) < (↑s.length : Int)))) (VB (decide ((↑(s.getD (↑i : Int).toNat (0 : UInt8)).toNat : Int) < (97 : Int)) || decide ((↑(s.getD (↑i : Int).toNat (0 : UInt8)).toNat : Int) > (122 : Int))) (false = r) (∃ (i' : Nat), (i' ≤ s.length ∧ ∀ (j : Nat), j < i' → lowC s j = true) ∧ (invN2 s).μ i' < (invN2 s).μ i ∧ (s = s ∧ IntKind.i64.wrap ((↑i : Int) + (1 : Int)) = (↑i' : Int) ∧ True) ∧ True)))) (VB ([(119 : UInt8), (105 : UInt8), (116 : UInt8), (104 : UInt8), (105 : UInt8), (110 : UInt8)] == s) (false = r) (VB ([(104 : UInt8), (97 : UInt8), (118 : UInt8), (105 : UInt8), (110 : UInt8), (103 : UInt8)] == s) (false = r) (VB ([(97 : UInt8), (110 : UInt8), (100 : UInt8)] == s) (false = r) (VB ([(101 : UInt8), (109 : UInt8), (105 : UInt8), (116 : UInt8)] == s) (false = r) (VB ([(110 : UInt8), (111 : UInt8), (116 : UInt8)] == s) (false = r) (VB ([(99 : UInt8), (111 : UInt8), (117 : UInt8), (110 : UInt8), (116 : UInt8)] == s) (false = r) (VB ([(115 : UInt8), (117 : UInt8), (109 : UInt8)] == s) (false = r) (VB ([(109 : UInt8), (105 : UInt8), (110 : UInt8)] == s) (false = r) (VB ([(109 : UInt8), (97 : UInt8), (120 : UInt8)] == s) (false = r) (VB ([(102 : UInt8), (105 : UInt8), (114 : UInt8), (115 : UInt8), (116 : UInt8)] == s) (false = r) (VB ([(108 : UInt8), (97 : UInt8), (115 : UInt8), (116 : UInt8)] == s) (false = r) (true = r)))))))))))))) := by
 kernel_rfl
end Go.Proofs.YtamcloifhjafcaaGreatDoor
namespace Go.Proofs.YtamcloifhjafcaaGreatDoor
open Pw Go
set_option maxRecDepth 100000
set_option linter.unusedSimpArgs false
def kwsL : List (List UInt8) := [[119, 105, 116, 104, 105, 110], [104, 97, 118, 105, 110, 103], [97, 110, 100], [101, 109, 105, 116], [110, 111, 116], [99, 111, 117, 110, 116], [115, 117, 109], [109, 105, 110], [109, 97, 120], [102, 105, 114, 115, 116], [108, 97, 115, 116]]
def nameS (s : List UInt8) : Bool := !(s == []) && decide (s.length ≤ 8) && (List.range s.length).all (lowC s) && !(kwsL.any fun w => w == s)
theorem kw_true {s w : List UInt8} (hw : w ∈ kwsL) (h : w = s) : (kwsL.any fun w => w == s) = true := List.any_eq_true.2 ⟨w, hw, by simpa using h⟩
theorem kw1 {s w : List UInt8} {r : Bool} {Q : Prop} (hr : r = !(kwsL.any fun w => w == s)) (hw : w ∈ kwsL) (h : (s == w) = false → Q) : VB (s == w) (false = r) Q :=
 VB_intro (fun e => by rw [hr, kw_true hw (by simpa using (beq_iff_eq.1 e).symm)]; rfl) h
theorem kw2 {s w : List UInt8} {r : Bool} {X Q : Prop} (hr : r = !(kwsL.any fun w => w == s)) (hw : w ∈ kwsL) (h : (s == w) = false → Q) : VB (s == w) (VB (s == w) (false = r) X) Q :=
 VB_intro (fun e => kw1 hr hw (fun e' => by rw [e] at e'; cases e')) h
theorem kw3 {s w : List UInt8} {r : Bool} {Q : Prop} (hr : r = !(kwsL.any fun w => w == s)) (hw : w ∈ kwsL) (h : (s == w) = false → Q) : VB (w == s) (false = r) Q :=
 VB_intro (fun e => by rw [hr, kw_true hw (by simpa using e)]; rfl) (fun e => h (by rw [Bool.eq_false_iff] at e ⊢; intro e'; exact e (by simpa using (beq_iff_eq.1 e').symm)))
theorem kw_false {s : List UInt8} (h : ∀ w ∈ kwsL, (s == w) = false) : true = !(kwsL.any fun w => w == s) := by
 have : (kwsL.any fun w => w == s) = false := by
  rw [Bool.eq_false_iff]
  intro hc
  obtain ⟨w, hw, e⟩ := List.any_eq_true.1 hc
  have := h w hw
  rw [Bool.eq_false_iff] at this
  exact this (by simpa using (beq_iff_eq.1 e).symm)
 rw [this]; rfl
theorem name_at {s : List UInt8} (h1 : s ≠ []) (h8 : s.length ≤ 8) (hl : ∀ j, j < s.length → lowC s j = true) : nameS s = !(kwsL.any fun w => w == s) := by
 have e1 : (s == []) = false := by simpa using h1
 have e2 : (List.range s.length).all (lowC s) = true := by simpa using hl
 simp only [nameS, e1, e2, h8, decide_true, Bool.not_false, Bool.true_and]
theorem name_low {s : List UInt8} {j : Nat} (hj : j < s.length) (hl : lowC s j = false) : false = nameS s := by
 have e2 : (List.range s.length).all (lowC s) = false := by
  rw [Bool.eq_false_iff]
  intro hc
  have := List.all_eq_true.1 hc j (by simpa using hj)
  rw [hl] at this; cases this
 simp [nameS, e2]
theorem nameI_pure (s : List UInt8) (hm : s.length ≤ 9223372036854775807) : PureC Tryz.prog gN 109 [.str s] (.bool (nameS s)) := by
 refine pure_vcG mix (tblG_nil _ _) ((nameI_vc s _).mpr ?_)
 simp only [EqI, imp_self, true_and, and_true, implies_true, Int.toNat_natCast, List.length_cons, List.length_nil]
 refine VB_intro (fun h => ?_) (fun h => ?_)
 ·simp only [Bool.or_eq_true, beq_iff_eq, decide_eq_true_eq] at h
  rcases h with h | h
  ·subst h; rfl
  ·have : ¬ s.length ≤ 8 := by omega
   simp [nameS, this]
 ·simp only [Bool.or_eq_false_iff, beq_eq_false_iff_ne, decide_eq_false_iff_not] at h
  refine NB_intro (decide_eq_true hm) ⟨⟨0, ⟨by omega, fun j hj => by omega⟩, by simp⟩, fun i hi => ?_⟩
  obtain ⟨hi1, hi2⟩ := hi
  refine VB_intro (fun hlt => ?_) (fun hlt => ?_)
  ·have hlt' : i < s.length := by have := of_decide_eq_true hlt; omega
   refine NB_intro (decide_eq_true (by omega)) (VB_intro (fun hb => ?_) (fun hb => ?_))
   ·refine name_low hlt' ?_
    simp only [Bool.or_eq_true, decide_eq_true_eq] at hb
    simp only [lowC, Bool.and_eq_false_iff, decide_eq_false_iff_not]
    omega
   ·simp only [Bool.or_eq_false_iff, decide_eq_false_iff_not] at hb
    refine ⟨i + 1, ⟨by omega, fun j hj => ?_⟩, by simp only [invN1]; omega, by rw [wrap_i64_id (by omega) (by omega)]; omega⟩
    rcases Nat.lt_or_ge j i with h' | h'
    ·exact hi2 j h'
    ·obtain rfl : j = i := by omega
     simp only [lowC, Bool.and_eq_true, decide_eq_true_eq]
     omega
  ·have hie : i = s.length := by have := of_decide_eq_false hlt; omega
   subst hie
   have hr := name_at h.1 (by omega) hi2
   refine kw2 hr (by decide) fun h1 => kw2 hr (by decide) fun h2 => kw2 hr (by decide) fun h3 => kw2 hr (by decide) fun h4 => kw1 hr (by decide) fun h5 =>
    kw1 hr (by decide) fun h6 => kw1 hr (by decide) fun h7 => kw1 hr (by decide) fun h8 => kw1 hr (by decide) fun h9 => kw1 hr (by decide) fun h10 => kw1 hr (by decide) fun h11 => ?_
   rw [hr]
   exact kw_false (by simp only [kwsL, List.forall_mem_cons]; exact ⟨h1, h2, h3, h4, h5, h6, h7, h8, h9, h10, h11, fun _ h => by cases h⟩)
theorem nameR_pure (s : List UInt8) : PureC Tryz.prog gN 90 [.str s] (.bool (nameS s)) := by
 refine pure_vcG mix (tblG_nil _ _) ((nameR_vc s _).mpr ?_)
 simp only [EqI, imp_self, true_and, and_true, implies_true, Int.toNat_natCast, List.length_cons, List.length_nil]
 refine VB_intro (fun h => ?_) (fun h => ?_)
 ·simp only [Bool.or_eq_true, decide_eq_true_eq] at h
  rcases h with h | h
  ·have : s = [] := List.eq_nil_of_length_eq_zero (by omega)
   subst this; rfl
  ·have : ¬ s.length ≤ 8 := by omega
   simp [nameS, this]
 ·simp only [Bool.or_eq_false_iff, decide_eq_false_iff_not] at h
  refine ⟨⟨0, ⟨by omega, fun j hj => by omega⟩, by simp⟩, fun i hi => ?_⟩
  obtain ⟨hi1, hi2⟩ := hi
  refine VB_intro (fun hlt => ?_) (fun hlt => ?_)
  ·have hlt' : i < s.length := by have := of_decide_eq_true hlt; omega
   have hd : decide ((0 : Int) ≤ (i : Int) ∧ (i : Int) < (s.length : Int)) = true := decide_eq_true (by omega)
   rw [hd]
   refine NB_intro rfl (NB_intro (by simp [impB_t]) (VB_intro (fun hb => ?_) (fun hb => ?_)))
   ·refine name_low hlt' ?_
    simp only [Bool.or_eq_true, decide_eq_true_eq] at hb
    simp only [lowC, Bool.and_eq_false_iff, decide_eq_false_iff_not]
    omega
   ·simp only [Bool.or_eq_false_iff, decide_eq_false_iff_not] at hb
    refine ⟨i + 1, ⟨by omega, fun j hj => ?_⟩, by simp only [invN2]; omega, by rw [wrap_i64_id (by omega) (by omega)]; omega⟩
    rcases Nat.lt_or_ge j i with h' | h'
    ·exact hi2 j h'
    ·obtain rfl : j = i := by omega
     simp only [lowC, Bool.and_eq_true, decide_eq_true_eq]
     omega
  ·have hie : i = s.length := by have := of_decide_eq_false hlt; omega
   subst hie
   have hr := name_at (fun e => by rw [e] at h; simp at h) (by omega) hi2
   refine kw3 hr (by decide) fun h1 => kw3 hr (by decide) fun h2 => kw3 hr (by decide) fun h3 => kw3 hr (by decide) fun h4 => kw3 hr (by decide) fun h5 =>
    kw3 hr (by decide) fun h6 => kw3 hr (by decide) fun h7 => kw3 hr (by decide) fun h8 => kw3 hr (by decide) fun h9 => kw3 hr (by decide) fun h10 => kw3 hr (by decide) fun h11 => ?_
   rw [hr]
   exact kw_false (by simp only [kwsL, List.forall_mem_cons]; exact ⟨h1, h2, h3, h4, h5, h6, h7, h8, h9, h10, h11, fun _ h => by cases h⟩)
def cName : Ctr
 | [.str s] => some (decide (s.length ≤ 9223372036854775807), .bool (nameS s))
 | _ => none
theorem nameI_ok : PureG Tryz.prog gN 109 cName := by
 intro args nd v he hnd
 unfold cName at he
 split at he <;> cases he
 exact nameI_pure _ (of_decide_eq_true hnd)
theorem nameR_ok : PureG Tryz.prog gN 90 cName := by
 intro args nd v he hnd
 unfold cName at he
 split at he <;> cases he
 exact nameR_pure _
end Go.Proofs.YtamcloifhjafcaaGreatDoor
