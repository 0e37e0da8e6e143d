/- QUERIES E5: own copies of nodes: conditions. -/
import Derived.Test.YtamcloifhjafcaaGreatDoorQE3
namespace Go.Proofs.YtamcloifhjafcaaGreatDoor
open Pw Go
set_option maxRecDepth 100000
set_option linter.unusedSimpArgs false
def cOwnA : Ctr
 | [.agg [.int .i64 k, .bool bd, .int .u64 bo, cs, .str nm]] => some (isEls isCond cs && decide ((elsOf condOf cs).length ≤ 1000), atomA (k, bd, bo, elsOf condOf cs, nm, ()))
 | _ => none
def cOwnN (g : Nat) : Ctr
 | [n] => some (isNode g n, nodeA (g + 1) (nodeOf g n))
 | _ => none
abbrev nodeR (g : Nat) (x : NodeG) : AV := .agg [.int .i64 (nk x), .int .i64 (nmn x), .int .i64 (nmx x), .int .i64 (nat x).1, .bool (nat x).2.1, .int .u64 (nat x).2.2.1, condsA (ac (nat x)), .str (an (nat x)), .rof x.kids.length (fun i => nodeA (g + 1) (x.kids.getD i treeD)) false]
def invOwnN (g : Nat) (x : NodeG) : Inv := ⟨Nat × Nat, 50, fun p => ⟨[(1, .ptr 0 0 0 0), (2, .ptr 1 0 0 0), (3, .sl 40 p.2 0 p.1 none), (4, .int .i64 p.1)],
 [(0, .row 0 9 true (.lst [nodeR g x])), (1, .row 0 9 true (.lst [.agg [.undef, .undef, .undef, .undef, .undef, .undef, .undef, .undef, .undef]])), (40, .row p.2 9 true (.fn p.1 (fun k => nodeA (g + 1) (x.kids.getD k treeD))))]⟩, fun p => p.1 ≤ x.kids.length, fun p => x.kids.length - p.1⟩
theorem ownA_vc (a : AtomG) : (vcFun (mkG Tryz.prog gN (tblOf []) (fun _ _ => none) 0) 20 42 [atomA a] .nil 0 (retP 4 (atomA a))).sat = ( NB (true && room ((0 : Nat) + (ac a).length) (16 : Nat) && true && ((ac a).length != (0 : Nat) || true)) (a.fst = a.fst ∧ a.snd.fst = a.snd.fst ∧ a.snd.snd.fst = a.snd.snd.fst ∧ ((0 : Nat) + (ac a).length = (ac a).length ∧ (∀ (i : Nat), i < (0 : Nat) + (ac a).length → (((ac a).getD ((0 : Nat) + i) condD).fst = ((ac a).getD i condD).fst ∧ ((ac a).getD ((0 : Nat) + i) condD).snd.fst = ((ac a).getD i condD).snd.fst ∧ True) ∧ [AV.int IntKind.i64 ((ac a).getD ((0 : Nat) + i) condD).fst, AV.int IntKind.i64 ((ac a).getD ((0 : Nat) + i) condD).snd.fst].length = [AV.int IntKind.i64 ((ac a).getD i condD).fst, AV.int IntKind.i64 ((ac a).getD i condD).snd.fst].length) ∧ (false = true → decide (none = some ((0 : Nat) + (ac a).length)) = true)) ∧ an a = an a ∧ True)) := by
 kernel_rfl
theorem ownN_vc (g : Nat) (x : NodeG) : (vcFun (mkG Tryz.prog gN (tblOf [(42, cOwnA), (23, cOwnN g)]) (fun f b => if f = 23 ∧ b = 0 then some (invOwnN g x) else none) 0) 20 23 [nodeR g x] .nil 0 (retP 4 (nodeR g x))).sat = ( NB (isEls isCond (AV.rof (ac (nat x)).length (fun (i : Nat) => condA ((ac (nat x)).getD i condD)) false) && decide ((elsOf condOf (AV.rof (ac (nat x)).length (fun (i : Nat) => condA ((ac (nat x)).getD i condD)) false)).length ≤ (1000 : Nat))) ((∃ (i : Nat × Nat), i.fst.le (TreeG.kids x).length ∧ (((0 : Nat) = (0 : Nat) ∧ (0 : Nat) = (0 : Nat) ∧ (0 : Nat) = (0 : Nat)) ∧ ((0 : Nat) = (0 : Nat) ∧ (0 : Nat) = (0 : Nat) ∧ (0 : Nat) = (0 : Nat)) ∧ (i.fst = (0 : Nat) ∧ i.snd = i.snd ∧ i.fst = (0 : Nat)) ∧ (0 : Int) = (↑i.fst : Int) ∧ True) ∧ ((0 : Nat) = (0 : Nat) ∧ (true = true → true = true) ∧ ((nk x = nk x ∧ nmn x = nmn x ∧ nmx x = nmx x ∧ (nat x).fst = (nat x).fst ∧ (nat x).snd.fst = (nat x).snd.fst ∧ (nat x).snd.snd.fst = (nat x).snd.snd.fst ∧ ((ac ((nat x).fst, (nat x).snd.fst, (nat x).snd.snd.fst, elsOf condOf (AV.rof (ac (nat x)).length (fun (i : Nat) => condA ((ac (nat x)).getD i condD)) false), an (nat x), ())).length = (ac (nat x)).length ∧ (∀ (i : Nat), i < (ac ((nat x).fst, (nat x).snd.fst, (nat x).snd.snd.fst, elsOf condOf (AV.rof (ac (nat x)).length (fun (i : Nat) => condA ((ac (nat x)).getD i condD)) false), an (nat x), ())).length → (((ac ((nat x).fst, (nat x).snd.fst, (nat x).snd.snd.fst, elsOf condOf (AV.rof (ac (nat x)).length (fun (i : Nat) => condA ((ac (nat x)).getD i condD)) false), an (nat x), ())).getD i condD).fst = ((ac (nat x)).getD i condD).fst ∧ ((ac ((nat x).fst, (nat x).snd.fst, (nat x).snd.snd.fst, elsOf condOf (AV.rof (ac (nat x)).length (fun (i : Nat) => condA ((ac (nat x)).getD i condD)) false), an (nat x), ())).getD i condD).snd.fst = ((ac (nat x)).getD i condD).snd.fst ∧ True) ∧ [AV.int IntKind.i64 ((ac ((nat x).fst, (nat x).snd.fst, (nat x).snd.snd.fst, elsOf condOf (AV.rof (ac (nat x)).length (fun (i : Nat) => condA ((ac (nat x)).getD i condD)) false), an (nat x), ())).getD i condD).fst, AV.int IntKind.i64 ((ac ((nat x).fst, (nat x).snd.fst, (nat x).snd.snd.fst, elsOf condOf (AV.rof (ac (nat x)).length (fun (i : Nat) => condA ((ac (nat x)).getD i condD)) false), an (nat x), ())).getD i condD).snd.fst].length = [AV.int IntKind.i64 ((ac (nat x)).getD i condD).fst, AV.int IntKind.i64 ((ac (nat x)).getD i condD).snd.fst].length) ∧ (false = true → false = true)) ∧ an ((nat x).fst, (nat x).snd.fst, (nat x).snd.snd.fst, elsOf condOf (AV.rof (ac (nat x)).length (fun (i : Nat) => condA ((ac (nat x)).getD i condD)) false), an (nat x), ()) = an (nat x) ∧ ((TreeG.kids x).length = (TreeG.kids x).length ∧ (∀ (i : Nat), i < (TreeG.kids x).length → (nodeA (g + (1 : Nat)) ((TreeG.kids x).getD i treeD)).sub (nodeA (g + (1 : Nat)) ((TreeG.kids x).getD i treeD)) ∧ (nodeA (g + (1 : Nat)) ((TreeG.kids x).getD i treeD)).cells.length = (nodeA (g + (1 : Nat)) ((TreeG.kids x).getD i treeD)).cells.length) ∧ (false = true → false = true)) ∧ True) ∧ [AV.int IntKind.i64 (nk x), AV.int IntKind.i64 (nmn x), AV.int IntKind.i64 (nmx x), AV.int IntKind.i64 (nat x).fst, AV.bool (nat x).snd.fst, AV.int IntKind.u64 (nat x).snd.snd.fst, AV.rof (ac ((nat x).fst, (nat x).snd.fst, (nat x).snd.snd.fst, elsOf condOf (AV.rof (ac (nat x)).length (fun (i : Nat) => condA ((ac (nat x)).getD i condD)) false), an (nat x), ())).length (fun (i : Nat) => condA ((ac ((nat x).fst, (nat x).snd.fst, (nat x).snd.snd.fst, elsOf condOf (AV.rof (ac (nat x)).length (fun (i : Nat) => condA ((ac (nat x)).getD i condD)) false), an (nat x), ())).getD i condD)) false, AV.str (an ((nat x).fst, (nat x).snd.fst, (nat x).snd.snd.fst, elsOf condOf (AV.rof (ac (nat x)).length (fun (i : Nat) => condA ((ac (nat x)).getD i condD)) false), an (nat x), ())), AV.rof (TreeG.kids x).length (fun (i : Nat) => nodeA (g + (1 : Nat)) ((TreeG.kids x).getD i treeD)) false].length = [AV.int IntKind.i64 (nk x), AV.int IntKind.i64 (nmn x), AV.int IntKind.i64 (nmx x), AV.int IntKind.i64 (nat x).fst, AV.bool (nat x).snd.fst, AV.int IntKind.u64 (nat x).snd.snd.fst, condsA (ac (nat x)), AV.str (an (nat x)), AV.rof (TreeG.kids x).length (fun (i : Nat) => nodeA (g + (1 : Nat)) ((TreeG.kids x).getD i treeD)) false].length) ∧ True) ∧ ((0 : Nat) = (0 : Nat) ∧ (true = true → true = true) ∧ ((True ∧ True ∧ True ∧ True ∧ True ∧ True ∧ True ∧ True ∧ True ∧ True) ∧ [AV.int IntKind.i64 (0 : Int), AV.int IntKind.i64 (0 : Int), AV.int IntKind.i64 (0 : Int), AV.int IntKind.i64 (0 : Int), AV.bool false, AV.int IntKind.u64 (0 : Int), AV.nils, AV.str [], AV.nils].length = [AV.undef, AV.undef, AV.undef, AV.undef, AV.undef, AV.undef, AV.undef, AV.undef, AV.undef].length) ∧ True) ∧ i.fst = (0 : Nat) ∧ True) ∧ ∀ (i : Nat × Nat), i.fst.le (TreeG.kids x).length → VB (decide ((↑i.fst : Int) < (↑(TreeG.kids x).length : Int))) (NB (decide ((0 : Int) ≤ (↑i.fst : Int) ∧ (↑i.fst : Int) < (↑(TreeG.kids x).length : Int))) (NB (isNode g (nodeA (g + (1 : Nat)) ((TreeG.kids x).getD (↑i.fst : Int).toNat treeD))) (NB (true && decide (i.snd = i.snd) && room (i.fst + (1 : Nat)) (112 : Nat)) (∃ (i' : Nat × Nat), i'.fst.le (TreeG.kids x).length ∧ (invOwnN g x).μ i' < (invOwnN g x).μ i ∧ (((0 : Nat) = (0 : Nat) ∧ (0 : Nat) = (0 : Nat) ∧ (0 : Nat) = (0 : Nat)) ∧ ((0 : Nat) = (0 : Nat) ∧ (0 : Nat) = (0 : Nat) ∧ (0 : Nat) = (0 : Nat)) ∧ (i.snd + (1 : Nat) = i'.snd ∧ (0 : Nat) = (0 : Nat) ∧ i.fst + (1 : Nat) = i'.fst ∧ (@Eq (Option Nat) none none ∨ @Eq (Option Nat) none none)) ∧ IntKind.i64.wrap ((↑i.fst : Int) + (1 : Int)) = (↑i'.fst : Int) ∧ True) ∧ ((0 : Nat) = (0 : Nat) ∧ (true = true → true = true) ∧ ((nk x = nk x ∧ nmn x = nmn x ∧ nmx x = nmx x ∧ (nat x).fst = (nat x).fst ∧ (nat x).snd.fst = (nat x).snd.fst ∧ (nat x).snd.snd.fst = (nat x).snd.snd.fst ∧ ((ac (nat x)).length = (ac (nat x)).length ∧ (∀ (i : Nat), i < (ac (nat x)).length → (((ac (nat x)).getD i condD).fst = ((ac (nat x)).getD i condD).fst ∧ ((ac (nat x)).getD i condD).snd.fst = ((ac (nat x)).getD i condD).snd.fst ∧ True) ∧ [AV.int IntKind.i64 ((ac (nat x)).getD i condD).fst, AV.int IntKind.i64 ((ac (nat x)).getD i condD).snd.fst].length = [AV.int IntKind.i64 ((ac (nat x)).getD i condD).fst, AV.int IntKind.i64 ((ac (nat x)).getD i condD).snd.fst].length) ∧ (false = true → false = true)) ∧ an (nat x) = an (nat x) ∧ ((TreeG.kids x).length = (TreeG.kids x).length ∧ (∀ (i : Nat), i < (TreeG.kids x).length → (nodeA (g + (1 : Nat)) ((TreeG.kids x).getD i treeD)).sub (nodeA (g + (1 : Nat)) ((TreeG.kids x).getD i treeD)) ∧ (nodeA (g + (1 : Nat)) ((TreeG.kids x).getD i treeD)).cells.length = (nodeA (g + (1 : Nat)) ((TreeG.kids x).getD i treeD)).cells.length) ∧ (false = true → false = true)) ∧ True) ∧ [AV.int IntKind.i64 (nk x), AV.int IntKind.i64 (nmn x), AV.int IntKind.i64 (nmx x), AV.int IntKind.i64 (nat x).fst, AV.bool (nat x).snd.fst, AV.int IntKind.u64 (nat x).snd.snd.fst, condsA (ac (nat x)), AV.str (an (nat x)), AV.rof (TreeG.kids x).length (fun (i : Nat) => nodeA (g + (1 : Nat)) ((TreeG.kids x).getD i treeD)) false].length = [AV.int IntKind.i64 (nk x), AV.int IntKind.i64 (nmn x), AV.int IntKind.i64 (nmx x), AV.int IntKind.i64 (nat x).fst, AV.bool (nat x).snd.fst, AV.int IntKind.u64 (nat x).snd.snd.fst, condsA (ac (nat x)), AV.str (an (nat x)), AV.rof (TreeG.kids x).length (fun (i : Nat) => nodeA (g + (1 : Nat)) ((TreeG.kids x).getD i treeD)) false].length) ∧ True) ∧ ((0 : Nat) = (0 : Nat) ∧ (true = true → true = true) ∧ ((True ∧ True ∧ True ∧ True ∧ True ∧ True ∧ True ∧ True ∧ True ∧ True) ∧ [AV.undef, AV.undef, AV.undef, AV.undef, AV.undef, AV.undef, AV.undef, AV.undef, AV.undef].length = [AV.undef, AV.undef, AV.undef, AV.undef, AV.undef, AV.undef, AV.undef, AV.undef, AV.undef].length) ∧ True) ∧ (i.snd + (1 : Nat) = i'.snd ∧ (true = true → true = true) ∧ i.fst + (1 : Nat) = i'.fst ∧ ∀ (i_1 : Nat), i_1 < i.fst + (1 : Nat) → (if i_1 < i.fst then nodeA (g + (1 : Nat)) ((TreeG.kids x).getD ((0 : Nat) + i_1) treeD) else ((Sq.lst [nodeA (g + (1 : Nat)) (nodeOf g (nodeA (g + (1 : Nat)) ((TreeG.kids x).getD (↑i.fst : Int).toNat treeD)))]).sub (0 : Nat) (1 : Nat)).get (i_1 - i.fst)).sub (nodeA (g + (1 : Nat)) ((TreeG.kids x).getD i_1 treeD)) ∧ (if i_1 < i.fst then nodeA (g + (1 : Nat)) ((TreeG.kids x).getD ((0 : Nat) + i_1) treeD) else ((Sq.lst [nodeA (g + (1 : Nat)) (nodeOf g (nodeA (g + (1 : Nat)) ((TreeG.kids x).getD (↑i.fst : Int).toNat treeD)))]).sub (0 : Nat) (1 : Nat)).get (i_1 - i.fst)).cells.length = (nodeA (g + (1 : Nat)) ((TreeG.kids x).getD i_1 treeD)).cells.length) ∧ True)))) (NB (true && (true && (true && (true && (true && (true && (true && (true && (decide (i.snd = i.snd) && true))))))))) (nk x = nk x ∧ nmn x = nmn x ∧ nmx x = nmx x ∧ (nat x).fst = (nat x).fst ∧ (nat x).snd.fst = (nat x).snd.fst ∧ (nat x).snd.snd.fst = (nat x).snd.snd.fst ∧ ((ac (nat x)).length = (ac (nat x)).length ∧ (∀ (i : Nat), i < (ac (nat x)).length → (((ac (nat x)).getD i condD).fst = ((ac (nat x)).getD i condD).fst ∧ ((ac (nat x)).getD i condD).snd.fst = ((ac (nat x)).getD i condD).snd.fst ∧ True) ∧ [AV.int IntKind.i64 ((ac (nat x)).getD i condD).fst, AV.int IntKind.i64 ((ac (nat x)).getD i condD).snd.fst].length = [AV.int IntKind.i64 ((ac (nat x)).getD i condD).fst, AV.int IntKind.i64 ((ac (nat x)).getD i condD).snd.fst].length) ∧ (false = true → false = true)) ∧ an (nat x) = an (nat x) ∧ (i.fst = (TreeG.kids x).length ∧ (∀ (i_1 : Nat), i_1 < i.fst → (nodeA (g + (1 : Nat)) ((TreeG.kids x).getD ((0 : Nat) + i_1) treeD)).sub (nodeA (g + (1 : Nat)) ((TreeG.kids x).getD i_1 treeD)) ∧ (nodeA (g + (1 : Nat)) ((TreeG.kids x).getD ((0 : Nat) + i_1) treeD)).cells.length = (nodeA (g + (1 : Nat)) ((TreeG.kids x).getD i_1 treeD)).cells.length) ∧ (false = true → decide (none = some i.fst) = true)) ∧ True)))) := by
 kernel_rfl
end Go.Proofs.YtamcloifhjafcaaGreatDoor
namespace Go.Proofs.YtamcloifhjafcaaGreatDoor
open Pw Go
set_option maxRecDepth 100000
set_option linter.unusedSimpArgs false
theorem ownA_pure (a : AtomG) (h : (ac a).length ≤ 1000) : PureC Tryz.prog gN 42 [atomA a] (atomA a) := by
 refine pure_vcG (d := 4) mix (tblG_nil _ _) ((ownA_vc a).mpr (NB_intro ?_ ⟨rfl, rfl, rfl, ⟨Nat.zero_add _, fun i _ => ⟨⟨by rw [Nat.zero_add], by rw [Nat.zero_add], trivial⟩, rfl⟩, fun h => by cases h⟩, rfl, trivial⟩))
 rw [Nat.zero_add]
 simp [room]
 omega
theorem ownA_ok : PureG Tryz.prog gN 42 cOwnA := by
 intro args nd v he hnd
 unfold cOwnA at he
 split at he <;> cases he
 rename_i k bd bo cs nm
 simp only [Bool.and_eq_true, decide_eq_true_eq] at hnd
 refine PureC.args (args' := [atomA (k, bd, bo, elsOf condOf cs, nm, ())]) rfl (fun i hi => ?_) (ownA_pure _ hnd.2)
 match i, hi with
 | 0, _ => exact ⟨int_sub _ _, bool_sub _, int_sub _ _, els_sub cond_sub hnd.1, AV.str_sub _, trivial⟩
 | i + 1, hi => exact absurd hi (by simp)
theorem ownN_of {g : Nat} (h : ∀ x, litB g x = true → PureC Tryz.prog gN 23 [nodeA (g + 1) x] (nodeA (g + 1) x)) : PureG Tryz.prog gN 23 (cOwnN g) := by
 intro args nd v he hnd
 unfold cOwnN at he
 split at he <;> cases he
 refine pureN_node hnd fun x hx e => ?_
 rw [e]
 exact h x hx
theorem ownN_pure : ∀ (g : Nat) (x : NodeG), litB g x = true → PureC Tryz.prog gN 23 [nodeA (g + 1) x] (nodeA (g + 1) x)
 | 0, _, h => by cases h
 | g + 1, x, hl => by
  show PureC Tryz.prog gN 23 [nodeR g x] (nodeR g x)
  refine pure_vcG (d := 4) mix (tblG_cons ownA_ok (tblG_cons (ownN_of (ownN_pure g)) (tblG_nil _ _))) ((ownN_vc g x).mpr ?_)
  have hk40 := litB_kids hl
  have hc := litB_conds hl
  rw [conds_of]
  refine NB_intro (by rw [conds_is, Bool.true_and]; exact decide_eq_true (Nat.le_trans hc (by decide))) ?_
  simp only [nodeA_refl, ac, an, nat, EqI, true_and, and_true, imp_self, implies_true, Int.toNat_natCast, Nat.zero_add, or_self]
  refine ⟨⟨(0, 0), Nat.zero_le _, ⟨⟨rfl, rfl⟩, rfl⟩, rfl, rfl⟩, fun p hp => ?_⟩
  obtain ⟨i, gen⟩ := p
  have hp : i ≤ x.kids.length := hp
  refine VB_intro (fun h1 => ?_) (fun h1 => ?_)
  ·have hlt : i < x.kids.length := by have := of_decide_eq_true h1; simp only at this; omega
   have hkl := litB_kid hl hlt
   refine NB_intro (decide_eq_true (by simp only; omega)) (NB_intro (isNode_of hkl (show g < g + 1 by omega)) (NB_intro (by simp [room]; omega) ⟨(i + 1, gen + 1), hlt, by show x.kids.length - (i + 1) < x.kids.length - i; omega, ?_⟩))
   simp only [nodeOf_of hkl (show g < g + 1 by omega)]
   exact ⟨⟨⟨trivial, trivial⟩, by rw [wrap_i64_id (by omega) (by omega)]; rfl⟩, trivial, trivial, sb_app (f := fun q => nodeA (g + 1) (x.kids.getD q treeD)) (G := fun q => nodeA (g + 1) (x.kids.getD q treeD)) (fun q _ => ⟨nodeA_sub _ 0 _, rfl⟩) ⟨nodeA_sub _ 0 _, rfl⟩⟩
  ·obtain rfl : i = x.kids.length := by have := of_decide_eq_false h1; simp only at this; omega
   exact NB_intro (by simp) (by simp)
theorem own16_pure {x : NodeG} (h : litB 8 x = true) : PureC Tryz.prog gN 23 [nodeA 16 x] (nodeA 16 x) :=
 pureRes (at16W (ownN_pure 8 x h)) (nodeA_up 8 9 16 x (litB_dep 8 x h) (by decide) (by decide))
theorem ownQ_pure {x : NodeG} (w : Int) {hs : List HaveG} {es : List AggG} (hq : LtW x hs es) : PureC Tryz.prog gN 6 [qA x w hs es] (qA x w hs es) := by
 have h1 := hq.nms.1
 have h2 := hq.nms.2.1
 refine pure_vcE (E := EOw x) (d := 4) mix ⟨(mkG_ctr (P := Tryz.prog) (gl := gN) (inv := fun _ _ => none) (n := 0) (tblG_cons (cAt_ok (own16_pure hq.lit)) (tblG_nil _ _))).1, itr_none rfl⟩ ((ownQ_vc x w hs es).mpr (NB_intro (atB_self _) (NB_intro (by simp [room]; omega) (NB_intro (by simp [room]; omega) ?_))))
 simp [nodeA_refl]
end Go.Proofs.YtamcloifhjafcaaGreatDoor
namespace Go.Proofs.YtamcloifhjafcaaGreatDoor
open Pw Go
set_option maxRecDepth 100000
set_option linter.unusedSimpArgs false
noncomputable def cAny (v : AV) : Ctr := fun _ => some (false, v)
theorem cAny_ok {g : Nat} {v : AV} : PureG Tryz.prog gN g (cAny v) := by
 intro args nd u he hnd
 cases he
 cases hnd
noncomputable def EFe (x : NodeG) (w : Int) (hs : List HaveG) (es : List AggG) (e : Int) : Env := { mkG Tryz.prog gN (tblOf [(24, cAt [qA x w hs es] (.int .i64 e)), (33, cAny q0E), (35, cAny .nils), (36, cAny .nils)])
 (fun _ _ => none) 0 with po := true, fzs := fun f => if f = 17 then [60007] else [] }
theorem rsFe_vc (x : NodeG) (w : Int) (hs : List HaveG) (es : List AggG) (c e : Int) : (vcFun (EFe x w hs es e) 20 17 [qA x w hs es, .int .u64 c] .nil 0 (retP 4 (.tup [q0E, .int .i64 e]))).sat = ( NB (atB [qA x w hs es] [qA x w hs es]) (VB (e != (0 : Int)) ((EqI (0 : Int) (0 : Int) ∧ EqI (0 : Int) (0 : Int) ∧ EqI (0 : Int) (0 : Int) ∧ EqI (0 : Int) (0 : Int) ∧ false = false ∧ EqI (0 : Int) (0 : Int) ∧ True ∧ @Eq (List UInt8) [] [] ∧ True ∧ EqI (0 : Int) (0 : Int) ∧ True ∧ True ∧ True) ∧ e = e ∧ True) False)) := by
 kernel_rfl
theorem rsFe_pure {x : NodeG} (w : Int) {hs : List HaveG} {es : List AggG} (hq : LtW x hs es) (h : wfE x w hs es ≠ 0) (c : Int) : PureC Tryz.prog gN 17 [qA x w hs es, .int .u64 c] (.tup [q0E, .int .i64 (wfE x w hs es)]) := by
 refine pure_vcE (E := EFe x w hs es (wfE x w hs es)) (d := 4) mix ⟨(mkG_ctr (P := Tryz.prog) (gl := gN) (inv := fun _ _ => none) (n := 0) (tblG_cons (cAt_ok (wf_pure w hq)) (tblG_cons cAny_ok (tblG_cons cAny_ok (tblG_cons cAny_ok (tblG_nil _ _)))))).1, itr_none rfl⟩ ((rsFe_vc x w hs es c _).mpr (NB_intro (atB_self _) (VB_intro (fun _ => ?_) (fun h2 => absurd (bne_eq_false_iff_eq.1 h2) h))))
 simp [EqI]
theorem sameE_pure : PureC Tryz.prog gN 19 [q0E, q0E] (.bool true) := pure_runT (t := tblOf []) (k := 60) (d := 9) mix (tblG_nil _ _) (by kernel_rfl)
end Go.Proofs.YtamcloifhjafcaaGreatDoor
