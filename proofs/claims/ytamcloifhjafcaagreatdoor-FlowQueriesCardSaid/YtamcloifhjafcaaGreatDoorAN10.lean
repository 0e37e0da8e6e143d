/- NODES 10: light nodes and queries. -/
import Derived.Test.YtamcloifhjafcaaGreatDoorAN9
namespace Go.Proofs.YtamcloifhjafcaaGreatDoor
open Pw Go
set_option maxRecDepth 100000
set_option linter.unusedSimpArgs false
abbrev AggG := Int × List UInt8 × Unit
abbrev HaveG := AggG × CondG × Unit
abbrev aggD : AggG := (0, [], ())
abbrev haveD : HaveG := (aggD, condD, ())
abbrev aggA (a : AggG) : AV := .agg [.int .i64 a.1, .str a.2.1]
abbrev haveA (h : HaveG) : AV := .agg [.int .i64 h.1.1, .str h.1.2.1, .int .i64 h.2.1.1, .int .i64 h.2.1.2.1]
abbrev qA (x : NodeG) (w : Int) (hs : List HaveG) (es : List AggG) : AV :=
 .agg [.int .i64 x.val.1, .int .i64 x.val.2.1, .int .i64 x.val.2.2.1, .int .i64 (nat x).1, .bool (nat x).2.1, .int .u64 (nat x).2.2.1, condsA (ac (nat x)), .str (an (nat x)), .rof x.kids.length (fun i => nodeA 15 (x.kids.getD i treeD)) false,
  .int .u64 w, .rof hs.length (fun i => haveA (hs.getD i haveD)) false, .rof es.length (fun i => aggA (es.getD i aggD)) false]
theorem weighC_of {g : Nat} (h : ∀ x, PureC Tryz.prog gN 40 [nodeA (g + 1) x, .int .i64 g] (.int .i64 (weighS g x))) : PureG Tryz.prog gN 40 (cWeigh g) := by
 intro args nd v he hnd
 unfold cWeigh at he
 split at he <;> cases he
 simp only [Bool.and_eq_true, decide_eq_true_eq] at hnd
 obtain ⟨hn, rfl⟩ := hnd
 refine pureT_node hn fun x e => ?_
 rw [e]
 exact h x
theorem weigh_pure : ∀ (g : Nat) (x : NodeG), g ≤ 1000 → PureC Tryz.prog gN 40 [nodeA (g + 1) x, .int .i64 g] (.int .i64 (weighS g x))
 | 0, x, _ => pure_vcG mix (tblG_nil _ _) ((weigh0_vc x _).mpr rfl)
 | g + 1, x, hg => by
  refine pure_vcG mix (tblG_cons (weighC_of fun x => weigh_pure g x (by omega)) (tblG_nil _ _)) ((weigh_vc g x _).mpr ?_)
  simp only [nodeA_refl, EqI, true_and, and_true, imp_self, implies_true, Int.toNat_natCast, nodeT_is _ _ _ (Nat.le_refl (g + 1)), weighS_cut, Bool.true_and]
  rw [weighS]
  simp only [ac, an, nat]
  refine VB_intro (fun h => ?_) (fun h => ?_)
  ·simp only [Bool.or_eq_true, beq_iff_eq, decide_eq_true_eq] at h
   rw [if_pos (by omega)]
  ·simp only [Bool.or_eq_false_iff, beq_eq_false_iff_ne, decide_eq_false_iff_not] at h
   rw [if_neg (by omega)]
   refine ⟨⟨0, Nat.zero_le _, rfl, rfl⟩, fun i hi => VB_intro (fun h1 => ?_) (fun h1 => ?_)⟩
   ·simp only [Bool.and_eq_true, decide_eq_true_eq] at h1
    have hb := weighS_bounds g (x.kids.getD i (TreeG.mk nodeD []))
    have hw := wsum_bounds g x i
    refine NB_intro (decide_eq_true (by omega)) (NB_intro (decide_eq_true (by rw [wrap_i64_id (by omega) (by omega)]; omega)) ⟨i + 1, by show i + 1 ≤ _; omega, by simp only [invW]; omega, ?_, by rw [wrap_i64_id (by omega) (by omega)]; omega⟩)
    rw [wrap_i64_id (by omega) (by omega), wsum, if_pos h1.2]
   ·have hi' : i ≤ x.kids.length := hi
    rcases (by omega : i = x.kids.length ∨ i < x.kids.length) with e | e
    ·rw [e]
    ·have h2 : 40 < wsum (weighS g) x.kids i := by
      simp only [Bool.and_eq_false_iff, decide_eq_false_iff_not] at h1
      omega
     have := wsum_stay h2 (x.kids.length - i)
     rw [show i + (x.kids.length - i) = x.kids.length by omega] at this
     exact this.symm
def lightN (x : NodeG) : Bool := decide (weighS 8 x ≤ 40)
def cLightN : Ctr
 | [n] => some (isNodeT 9 n, .bool (lightN (nodeOf 9 n)))
 | _ => none
theorem lightN_vc (x : NodeG) (r : Bool) : (vcFun (mkG Tryz.prog gN (tblOf [(40, cWeigh 8)]) (fun _ _ => none) 0) 20 20 [nodeA 9 x] .nil 0 (retP 3 (.bool r))).sat = ( NB (isNodeT ((8 : Nat) + (1 : Nat)) (nodeA (9 : Nat) x) && true) (decide (weighS (8 : Nat) (nodeOf ((8 : Nat) + (1 : Nat)) (nodeA (9 : Nat) x)) ≤ (40 : Int)) = r)) := by
 kernel_rfl
end Go.Proofs.YtamcloifhjafcaaGreatDoor
namespace Go.Proofs.YtamcloifhjafcaaGreatDoor
open Pw Go
set_option maxRecDepth 100000
set_option linter.unusedSimpArgs false
theorem lightN_ok : PureG Tryz.prog gN 20 cLightN := by
 intro args nd v he hnd
 unfold cLightN at he
 split at he <;> cases he
 refine pureT_node hnd fun x e => ?_
 rw [e]
 refine pure_vcG mix (tblG_cons (weighC_of fun x => weigh_pure 8 x (by decide)) (tblG_nil _ _)) ((lightN_vc x _).mpr ?_)
 rw [(nodeT_is 9 9 x (Nat.le_refl _)).1, (nodeT_is 9 9 x (Nat.le_refl _)).2, weighS_cut 8]
 exact NB_intro rfl rfl
def lightQ (x : NodeG) (hs : List HaveG) (es : List AggG) : Bool := lightN x && decide (hs.length ≤ 10) && decide (es.length ≤ 10) && hs.all (fun h => decide (h.1.2.1.length ≤ 20)) && es.all (fun a => decide (a.2.1.length ≤ 20))
def invLQ1 (x : NodeG) (w : Int) (hs : List HaveG) (es : List AggG) : Inv := ⟨Nat, 50, fun i => ⟨[(1, .ptr 0 0 0 0), (3, .int .i64 i)], [(0, .row 0 12 true (.lst [qA x w hs es]))]⟩, fun i => i ≤ hs.length ∧ ∀ j, j < i → (hs.getD j haveD).1.2.1.length ≤ 20, fun i => hs.length - i⟩
def invLQ2 (x : NodeG) (w : Int) (hs : List HaveG) (es : List AggG) : Inv := ⟨Nat, 60, fun i => ⟨[(1, .ptr 0 0 0 0), (4, .int .i64 i)], [(0, .row 0 12 true (.lst [qA x w hs es]))]⟩, fun i => i ≤ es.length ∧ (∀ j, j < hs.length → (hs.getD j haveD).1.2.1.length ≤ 20) ∧ ∀ j, j < i → (es.getD j aggD).2.1.length ≤ 20, fun i => es.length - i⟩
theorem lightQ_vc (x : NodeG) (w : Int) (hs : List HaveG) (es : List AggG) (r : Bool) : (vcFun (mkG Tryz.prog gN (tblOf [(20, cLightN)]) (fun f b => if f = 4 ∧ b = 0 then some (invLQ1 x w hs es) else if f = 4 ∧ b = 2 then some (invLQ2 x w hs es) else none) 0) 20 4 [qA x w hs es] .nil 0 (retP 3 (.bool r))).sat = ( NB (isNodeT (9 : Nat) (nodeA (16 : Nat) x)) (VB (!lightN (nodeOf (9 : Nat) (nodeA (16 : Nat) x)) || decide ((↑hs.length : Int) > (10 : Int)) || decide ((↑es.length : Int) > (10 : Int))) (false = r) ((∃ (i : Nat), (i ≤ hs.length ∧ ∀ (j : Nat), j < i → (hs.getD j haveD).fst.snd.fst.length ≤ (20 : Nat)) ∧ (((0 : Nat) = (0 : Nat) ∧ (0 : Nat) = (0 : Nat) ∧ (0 : Nat) = (0 : Nat)) ∧ (0 : Int) = (↑i : Int) ∧ True) ∧ ((0 : Nat) = (0 : Nat) ∧ (true = true → true = true) ∧ ((qA x w hs es).sub (qA x w hs es) ∧ (qA x w hs es).cells.length = (qA x w hs es).cells.length) ∧ True) ∧ True) ∧ ∀ (i : Nat), (i ≤ hs.length ∧ ∀ (j : Nat), j < i → (hs.getD j haveD).fst.snd.fst.length ≤ (20 : Nat)) → VB (decide ((↑i : Int) < (↑hs.length : Int))) (NB (decide ((0 : Int) ≤ (↑i : Int) ∧ (↑i : Int) < (↑hs.length : Int))) (VB (decide ((↑(hs.getD (↑i : Int).toNat haveD).fst.snd.fst.length : Int) > (20 : Int))) (false = r) (∃ (i' : Nat), (i' ≤ hs.length ∧ ∀ (j : Nat), j < i' → (hs.getD j haveD).fst.snd.fst.length ≤ (20 : Nat)) ∧ (invLQ1 x w hs es).μ i' < (invLQ1 x w hs es).μ i ∧ (((0 : Nat) = (0 : Nat) ∧ (0 : Nat) = (0 : Nat) ∧ (0 : Nat) = (0 : Nat)) ∧ IntKind.i64.wrap ((↑i : Int) + (1 : Int)) = (↑i' : Int) ∧ True) ∧ ((0 : Nat) = (0 : Nat) ∧ (true = true → true = true) ∧ ((qA x w hs es).sub (qA x w hs es) ∧ (qA x w hs es).cells.length = (qA x w hs es).cells.length) ∧ True) ∧ True))) ((∃ (i : Nat), (i ≤ es.length ∧ (∀ (j : Nat), j < hs.length → (hs.getD j haveD).fst.snd.fst.length ≤ (20 : Nat)) ∧ ∀ (j : Nat), j < i → (es.getD j aggD).snd.fst.length ≤ (20 : Nat)) ∧ (((0 : Nat) = (0 : Nat) ∧ (0 : Nat) = (0 : Nat) ∧ (0 : Nat) = (0 : Nat)) ∧ (0 : Int) = (↑i : Int) ∧ True) ∧ ((0 : Nat) = (0 : Nat) ∧ (true = true → true = true) ∧ ((qA x w hs es).sub (qA x w hs es) ∧ (qA x w hs es).cells.length = (qA x w hs es).cells.length) ∧ True) ∧ True) ∧ ∀ (i : Nat), (i ≤ es.length ∧ (∀ (j : Nat), j < hs.length → (hs.getD j haveD).fst.snd.fst.length ≤ (20 : Nat)) ∧ ∀ (j : Nat), j < i → (es.getD j aggD).snd.fst.length ≤ (20 : Nat)) → VB (decide ((↑i : Int) < (↑es.length : Int))) (NB (decide ((0 : Int) ≤ (↑i : Int) ∧ (↑i : Int) < (↑es.length : Int))) (VB (decide ((↑(es.getD (↑i : Int).toNat aggD).snd.fst.length : Int) > (20 : Int))) (false = r) (∃ (i' : Nat), (i' ≤ es.length ∧ (∀ (j : Nat), j < hs.length → (hs.getD j haveD).fst.snd.fst.length ≤ (20 : Nat)) ∧ ∀ (j : Nat), j < i' → (es.getD j aggD).snd.fst.length ≤ (20 : Nat)) ∧ (invLQ2 x w hs es).μ i' < (invLQ2 x w hs es).μ i ∧ (((0 : Nat) = (0 : Nat) ∧ (0 : Nat) = (0 : Nat) ∧ (0 : Nat) = (0 : Nat)) ∧ IntKind.i64.wrap ((↑i : Int) + (1 : Int)) = (↑i' : Int) ∧ True) ∧ ((0 : Nat) = (0 : Nat) ∧ (true = true → true = true) ∧ ((qA x w hs es).sub (qA x w hs es) ∧ (qA x w hs es).cells.length = (qA x w hs es).cells.length) ∧ True) ∧ True))) (true = r))))) := by
 kernel_rfl
end Go.Proofs.YtamcloifhjafcaaGreatDoor
