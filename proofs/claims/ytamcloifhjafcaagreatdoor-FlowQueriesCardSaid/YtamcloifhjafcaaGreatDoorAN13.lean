/- NODES 13: the checks of queries: contracts of the parts, conditions of the whole. -/
import Derived.Test.YtamcloifhjafcaaGreatDoorAN12
namespace Go.Proofs.YtamcloifhjafcaaGreatDoor
open Pw Go
set_option maxRecDepth 100000
set_option linter.unusedSimpArgs false
theorem agg_of {g : Nat} (h : ∀ (f : Int) (s : List UInt8), s.length ≤ 9223372036854775807 → PureC Tryz.prog gN g [.agg [.int .i64 f, .str s]] (.bool (aggB f s))) : PureG Tryz.prog gN g cAgg := by
 intro args nd v he hnd
 unfold cAgg at he
 split at he <;> cases he
 exact h _ _ (of_decide_eq_true hnd)
theorem aggI_ok : PureG Tryz.prog gN 93 cAgg := agg_of fun f s hs => pure_vcG mix tblN_ok ((aggI_vc f s _).mpr (NB_intro (by simp [impB, hs]) rfl))
theorem aggR_ok : PureG Tryz.prog gN 70 cAgg := agg_of fun f s hs => pure_vcG mix tblN_ok ((aggR_vc f s _).mpr (NB_intro (by simp [impB, hs]) rfl))
theorem soundE_of {g : Nat} (h : ∀ x, litB 8 x = true → PureC Tryz.prog gN g [nodeA 9 x] (.int .i64 (sndE x))) : PureG Tryz.prog gN g cSoundE := by
 intro args nd v he hnd
 unfold cSoundE at he
 split at he <;> cases he
 refine pureN_node hnd fun x hx e => ?_
 rw [e]
 exact h x hx
theorem sndI_ok : PureG Tryz.prog gN 67 cSoundE := soundE_of fun x hx => by
 refine pure_vcG mix (tblG_cons (cSoundI_ok 8) (tblG_nil _ _)) ((sndI_vc x _).mpr ?_)
 rw [isNode_of hx (by decide), nodeOf_of hx (by decide)]
 show VB (!sndB x) (3 = sndE x) (0 = sndE x)
 unfold sndE
 cases sndB x <;> rfl
theorem sndR_ok : PureG Tryz.prog gN 65 cSoundE := soundE_of fun x hx => by
 refine pure_vcG mix (tblG_cons (cSoundR_ok 8) (tblG_nil _ _)) ((sndR_vc x _).mpr ?_)
 rw [isNode_of hx (by decide), nodeOf_of hx (by decide)]
 show VB (!sndB x) (3 = sndE x) (0 = sndE x)
 unfold sndE
 cases sndB x <;> rfl
noncomputable def atB (args canon : List AV) : Bool := @decide (args = canon) (Classical.propDecidable _)
theorem atB_self (l : List AV) : atB l l = true := by simp [atB]
noncomputable def cAt (canon : List AV) (v : AV) : Ctr := fun args => some (atB args canon, v)
theorem cAt_ok {g : Nat} {canon : List AV} {v : AV} (h : PureC Tryz.prog gN g canon v) : PureG Tryz.prog gN g (cAt canon v) := by
 intro args nd u he hnd
 cases he
 have : args = canon := by simpa [atB] using hnd
 rw [this]
 exact h
def namesB (hs : List HaveG) (es : List AggG) : Prop := hs.length ≤ 10 ∧ es.length ≤ 10 ∧ (∀ i, i < hs.length → (hs.getD i haveD).1.2.1.length ≤ 30) ∧ ∀ i, i < es.length → (es.getD i aggD).2.1.length ≤ 30
theorem hc_pure (hs : List HaveG) (h10 : hs.length ≤ 10) (h20 : ∀ i, i < hs.length → (hs.getD i haveD).1.2.1.length ≤ 30) : PureC Tryz.prog gN 91 [havesA hs, .fn (.func 92) [] []] (.bool (!hs.all haveB)) := by
 refine pure_vcG mix (tblG_cons aggI_ok (tblG_nil _ _)) ((hcI_vc hs _).mpr ?_)
 simp only [EqI, true_and, and_true, imp_self, implies_true, Int.toNat_natCast, isW_t, isW_f, Bool.not_not, Bool.or_true]
 refine ⟨⟨0, ⟨by omega, fun j hj => by omega⟩, rfl⟩, fun i ⟨hi1, hi2⟩ => VB_intro (fun h => ?_) (fun h => ?_)⟩
 ·have hlt : i < hs.length := by have := of_decide_eq_true h; omega
  have hb : haveB (hs.getD i haveD) = (aggB (hs.getD i haveD).1.1 (hs.getD i haveD).1.2.1 && (decide ((hs.getD i haveD).2.1.1 ≥ 1) && decide ((hs.getD i haveD).2.1.1 ≤ 6))) := rfl
  have go : haveB (hs.getD i haveD) = true → ∃ i' : Nat, (i' ≤ hs.length ∧ ∀ j, j < i' → haveB (hs.getD j haveD) = true) ∧ (invHC hs).μ i' < (invHC hs).μ i ∧ IntKind.i64.wrap ((i : Int) + 1) = i' := fun hh =>
   ⟨i + 1, ⟨by omega, fun j hj => by
    rcases Nat.lt_or_ge j i with h' | h'
    ·exact hi2 j h'
    ·obtain rfl : j = i := by omega
     exact hh⟩, by simp only [invHC]; omega, by rw [wrap_i64_id (by omega) (by omega)]; omega⟩
  have no : haveB (hs.getD i haveD) = false → decide ((i : Int) ≥ 0) = !hs.all haveB := fun hh => by rw [all_no (d := haveD) hlt hh, decide_eq_true (show (i : Int) ≥ 0 by omega)]; rfl
  refine NB_intro (decide_eq_true (by omega)) (NB_intro (decide_eq_true (by have := h20 i hlt; omega)) ?_)
  generalize aggB (hs.getD i haveD).1.1 (hs.getD i haveD).1.2.1 = A at hb ⊢
  generalize (decide ((hs.getD i haveD).2.1.1 ≥ 1) && decide ((hs.getD i haveD).2.1.1 ≤ 6)) = B at hb ⊢
  cases A <;> cases B <;> simp only [VB, Bool.not_true, Bool.not_false, Bool.or_true, Bool.or_false, Bool.true_or] <;> first | exact go hb | exact no hb
 ·have hie : i = hs.length := by have := of_decide_eq_false h; omega
  subst hie
  rw [(all_at (d := haveD)).2 hi2]
  rfl
theorem ac_pure (es : List AggG) (h10 : es.length ≤ 10) (h20 : ∀ i, i < es.length → (es.getD i aggD).2.1.length ≤ 30) : PureC Tryz.prog gN 95 [aggsA es, .fn (.func 96) [] []] (.bool (!es.all aggBG)) := by
 refine pure_vcG mix (tblG_cons aggI_ok (tblG_nil _ _)) ((acI_vc es _).mpr ?_)
 simp only [EqI, true_and, and_true, imp_self, implies_true, Int.toNat_natCast, isW_t, isW_f, Bool.not_not, Bool.or_true]
 refine ⟨⟨0, ⟨by omega, fun j hj => by omega⟩, rfl⟩, fun i ⟨hi1, hi2⟩ => VB_intro (fun h => ?_) (fun h => ?_)⟩
 ·have hlt : i < es.length := by have := of_decide_eq_true h; omega
  refine NB_intro (decide_eq_true (by omega)) (NB_intro (decide_eq_true (by have := h20 i hlt; omega)) (VB_intro (fun hh => ?_) (fun hh => ?_)))
  ·have hh : aggBG (es.getD i aggD) = false := (Bool.not_eq_true' _).mp hh
   rw [all_no (d := aggD) hlt hh, decide_eq_true (show (i : Int) ≥ 0 by omega)]; rfl
  ·have hh : aggBG (es.getD i aggD) = true := (Bool.not_eq_false' _).mp hh
   exact ⟨i + 1, ⟨by omega, fun j hj => by
    rcases Nat.lt_or_ge j i with h' | h'
    ·exact hi2 j h'
    ·obtain rfl : j = i := by omega
     exact hh⟩, by simp only [invAC]; omega, by rw [wrap_i64_id (by omega) (by omega)]; omega⟩
 ·have hie : i = es.length := by have := of_decide_eq_false h; omega
  subst hie
  rw [(all_at (d := aggD)).2 hi2]
  rfl
def chkE (x : NodeG) (w : Int) (hs : List HaveG) (es : List AggG) : Int := if sndB x = true ∧ w ≤ 99999 ∧ hs.all haveB = true ∧ es.all aggBG = true then 0 else 3
def invCR1 (x : NodeG) (w : Int) (hs : List HaveG) (es : List AggG) : Inv := ⟨Nat, 50, fun i => ⟨[(1, .ptr 0 0 0 0), (3, .int .i64 i)], [(0, .row 0 12 true (.lst [qA x w hs es]))]⟩, fun i => i ≤ hs.length ∧ ∀ j, j < i → haveB (hs.getD j haveD) = true, fun i => hs.length - i⟩
def invCR2 (x : NodeG) (w : Int) (hs : List HaveG) (es : List AggG) : Inv := ⟨Nat, 60, fun i => ⟨[(1, .ptr 0 0 0 0), (4, .int .i64 i)], [(0, .row 0 12 true (.lst [qA x w hs es]))]⟩, fun i => i ≤ es.length ∧ (∀ j, j < hs.length → haveB (hs.getD j haveD) = true) ∧ ∀ j, j < i → aggBG (es.getD j aggD) = true, fun i => es.length - i⟩
noncomputable def tblQI (hs : List HaveG) (es : List AggG) : List (Nat × Ctr) := [(67, cSoundE), (91, cAt [havesA hs, .fn (.func 92) [] []] (.bool (!hs.all haveB))),
 (95, cAt [aggsA es, .fn (.func 96) [] []] (.bool (!es.all aggBG)))]
theorem chkI_vc (x : NodeG) (w : Int) (hs : List HaveG) (es : List AggG) (r : Int) : (vcFun (mkG Tryz.prog gN (tblOf (tblQI hs es)) (fun _ _ => none) 0) 20 77 [qA x w hs es] .nil 0 (retP 3 (.int .i64 r))).sat = ( NB (isNode (8 : Nat) (nodeA (16 : Nat) x)) (VB (sndE (nodeOf (8 : Nat) (nodeA (16 : Nat) x)) != (0 : Int)) (sndE (nodeOf (8 : Nat) (nodeA (16 : Nat) x)) = r) (NB (impB (isW false (decide (w > (99999 : Int)))) (atB [AV.rof hs.length (fun (i : Nat) => haveA (hs.getD i haveD)) false, AV.fn (Fn.func (92 : Nat)) [] []] [havesA hs, AV.fn (Fn.func (92 : FuncId)) [] []])) (NB (impB (isW false (decide (w > (99999 : Int)) || !hs.all haveB)) (atB [AV.rof es.length (fun (i : Nat) => aggA (es.getD i aggD)) false, AV.fn (Fn.func (96 : Nat)) [] []] [aggsA es, AV.fn (Fn.func (96 : FuncId)) [] []])) (VB (decide (w > (99999 : Int)) || !hs.all haveB || !es.all aggBG) ((3 : Int) = r) ((0 : Int) = r)))))) := by
 kernel_rfl
theorem chkR_vc (x : NodeG) (w : Int) (hs : List HaveG) (es : List AggG) (r : Int) : (vcFun (mkG Tryz.prog gN (tblOf [(69, cSoundR 8), (70, cAgg)]) (fun f b => if f = 50 ∧ b = 0 then some (invCR1 x w hs es) else if f = 50 ∧ b = 2 then some (invCR2 x w hs es) else none) 0) 20 50 [qA x w hs es] .nil 0 (retP 3 (.int .i64 r))).sat = ( NB (isNode (8 : Nat) (nodeA (16 : Nat) x) && true && true) (VB (!soundB ((201 : Int) - (1 : Int)).toNat (nodeOf (8 : Nat) (nodeA (16 : Nat) x)) || decide (w > (99999 : Int))) ((3 : Int) = r) ((∃ (i : Nat), (i ≤ hs.length ∧ ∀ (j : Nat), j < i → haveB (hs.getD j haveD) = true) ∧ (((0 : Nat) = (0 : Nat) ∧ (0 : Nat) = (0 : Nat) ∧ (0 : Nat) = (0 : Nat)) ∧ (0 : Int) = (↑i : Int) ∧ True) ∧ ((0 : Nat) = (0 : Nat) ∧ (true = true → true = true) ∧ ((qA x w hs es).sub (qA x w hs es) ∧ (qA x w hs es).cells.length = (qA x w hs es).cells.length) ∧ True) ∧ True) ∧ ∀ (i : Nat), (i ≤ hs.length ∧ ∀ (j : Nat), j < i → haveB (hs.getD j haveD) = true) → VB (decide ((↑i : Int) < (↑hs.length : Int))) (NB (decide ((0 : Int) ≤ (↑i : Int) ∧ (↑i : Int) < (↑hs.length : Int))) (NB (decide ((hs.getD (↑i : Int).toNat haveD).fst.snd.fst.length ≤ (9223372036854775807 : Nat))) (NB (impB (isW false !aggB (hs.getD (↑i : Int).toNat haveD).fst.fst (hs.getD (↑i : Int).toNat haveD).fst.snd.fst) (decide ((0 : Int) ≤ (↑i : Int) ∧ (↑i : Int) < (↑hs.length : Int)))) (VB (isW false !aggB (hs.getD (↑i : Int).toNat haveD).fst.fst (hs.getD (↑i : Int).toNat haveD).fst.snd.fst) (VB (!aggB (hs.getD (↑i : Int).toNat haveD).fst.fst (hs.getD (↑i : Int).toNat haveD).fst.snd.fst || !(decide ((hs.getD (↑i : Int).toNat haveD).snd.fst.fst ≥ (1 : Int)) && decide ((hs.getD (↑i : Int).toNat haveD).snd.fst.fst ≤ (6 : Int)))) ((3 : Int) = r) (∃ (i' : Nat), (i' ≤ hs.length ∧ ∀ (j : Nat), j < i' → haveB (hs.getD j haveD) = true) ∧ (invCR1 x w hs es).μ i' < (invCR1 x w hs es).μ i ∧ (((0 : Nat) = (0 : Nat) ∧ (0 : Nat) = (0 : Nat) ∧ (0 : Nat) = (0 : Nat)) ∧ IntKind.i64.wrap ((↑i : Int) + (1 : Int)) = (↑i' : Int) ∧ True) ∧ ((0 : Nat) = (0 : Nat) ∧ (true = true → true = true) ∧ ((qA x w hs es).sub (qA x w hs es) ∧ (qA x w hs es).cells.length = (qA x w hs es).cells.length) ∧ True) ∧ True)) (VB (!aggB (hs.getD (↑i : Int).toNat haveD).fst.fst (hs.getD (↑i : Int).toNat haveD).fst.snd.fst || true) ((3 : Int) = r) (∃ (i' : Nat), (i' ≤ hs.length ∧ ∀ (j : Nat), j < i' → haveB (hs.getD j haveD) = true) ∧ (invCR1 x w hs es).μ i' < (invCR1 x w hs es).μ i ∧ (((0 : Nat) = (0 : Nat) ∧ (0 : Nat) = (0 : Nat) ∧ (0 : Nat) = (0 : Nat)) ∧ IntKind.i64.wrap ((↑i : Int) + (1 : Int)) = (↑i' : Int) ∧ True) ∧ ((0 : Nat) = (0 : Nat) ∧ (true = true → true = true) ∧ ((qA x w hs es).sub (qA x w hs es) ∧ (qA x w hs es).cells.length = (qA x w hs es).cells.length) ∧ True) ∧ True)))))) ((∃ (i : Nat), (i ≤ es.length ∧ (∀ (j : Nat), j < hs.length → haveB (hs.getD j haveD) = true) ∧ ∀ (j : Nat), j < i → aggBG (es.getD j aggD) = true) ∧ (((0 : Nat) = (0 : Nat) ∧ (0 : Nat) = (0 : Nat) ∧ (0 : Nat) = (0 : Nat)) ∧ (0 : Int) = (↑i : Int) ∧ True) ∧ ((0 : Nat) = (0 : Nat) ∧ (true = true → true = true) ∧ ((qA x w hs es).sub (qA x w hs es) ∧ (qA x w hs es).cells.length = (qA x w hs es).cells.length) ∧ True) ∧ True) ∧ ∀ (i : Nat), (i ≤ es.length ∧ (∀ (j : Nat), j < hs.length → haveB (hs.getD j haveD) = true) ∧ ∀ (j : Nat), j < i → aggBG (es.getD j aggD) = true) → VB (decide ((↑i : Int) < (↑es.length : Int))) (NB (decide ((0 : Int) ≤ (↑i : Int) ∧ (↑i : Int) < (↑es.length : Int))) (NB (decide ((es.getD (↑i : Int).toNat aggD).snd.fst.length ≤ (9223372036854775807 : Nat))) (VB (!aggB (es.getD (↑i : Int).toNat aggD).fst (es.getD (↑i : Int).toNat aggD).snd.fst) ((3 : Int) = r) (∃ (i' : Nat), (i' ≤ es.length ∧ (∀ (j : Nat), j < hs.length → haveB (hs.getD j haveD) = true) ∧ ∀ (j : Nat), j < i' → aggBG (es.getD j aggD) = true) ∧ (invCR2 x w hs es).μ i' < (invCR2 x w hs es).μ i ∧ (((0 : Nat) = (0 : Nat) ∧ (0 : Nat) = (0 : Nat) ∧ (0 : Nat) = (0 : Nat)) ∧ IntKind.i64.wrap ((↑i : Int) + (1 : Int)) = (↑i' : Int) ∧ True) ∧ ((0 : Nat) = (0 : Nat) ∧ (true = true → true = true) ∧ ((qA x w hs es).sub (qA x w hs es) ∧ (qA x w hs es).cells.length = (qA x w hs es).cells.length) ∧ True) ∧ True)))) ((0 : Int) = r))))) := by
 kernel_rfl
end Go.Proofs.YtamcloifhjafcaaGreatDoor
namespace Go.Proofs.YtamcloifhjafcaaGreatDoor
open Pw Go
set_option maxRecDepth 100000
set_option linter.unusedSimpArgs false
theorem chkI_pure (x : NodeG) (w : Int) (hs : List HaveG) (es : List AggG) (hx : litB 8 x = true) (hn : namesB hs es) : PureC Tryz.prog gN 77 [qA x w hs es] (.int .i64 (chkE x w hs es)) := by
 refine pure_vcG mix (tblG_cons sndI_ok (tblG_cons (cAt_ok (hc_pure hs hn.1 hn.2.2.1)) (tblG_cons (cAt_ok (ac_pure es hn.2.1 hn.2.2.2)) (tblG_nil _ _)))) ((chkI_vc x w hs es _).mpr ?_)
 rw [isNode_of hx (by decide), nodeOf_of hx (by decide)]
 have e1 : ∀ b, impB b (atB [havesA hs, .fn (.func 92) [] []] [havesA hs, .fn (.func 92) [] []]) = true := fun b => by rw [atB_self]; cases b <;> rfl
 have e2 : ∀ b, impB b (atB [aggsA es, .fn (.func 96) [] []] [aggsA es, .fn (.func 96) [] []]) = true := fun b => by rw [atB_self]; cases b <;> rfl
 refine NB_intro rfl (VB_intro (fun h => ?_) (fun h => NB_intro (e1 _) (NB_intro (e2 _) (VB_intro (fun h1 => ?_) (fun h1 => ?_)))))
 ·have hs' : sndE x ≠ 0 := by simpa using h
  unfold sndE at hs' ⊢
  unfold chkE
  cases hq : sndB x with
  | true => rw [hq] at hs'; exact absurd rfl hs'
  | false => rfl
 ·have hs' : sndE x = 0 := by simpa using h
  simp only [Bool.or_eq_true, decide_eq_true_eq, Bool.not_eq_true'] at h1
  unfold chkE
  rw [if_neg]
  rintro ⟨_, a, b, c⟩
  rw [b, c] at h1
  rcases h1 with (h1 | h1) | h1
  ·omega
  ·cases h1
  ·cases h1
 ·have hs' : sndE x = 0 := by simpa using h
  simp only [Bool.or_eq_false_iff, decide_eq_false_iff_not, Bool.not_eq_false'] at h1
  have hsn : sndB x = true := by
   unfold sndE at hs'
   cases hq : sndB x with
   | true => rfl
   | false => rw [hq] at hs'; cases hs'
  unfold chkE
  rw [if_pos ⟨hsn, by omega, h1.1.2, h1.2⟩]
theorem chkR_pure (x : NodeG) (w : Int) (hs : List HaveG) (es : List AggG) (hx : litB 8 x = true) (hn : namesB hs es) : PureC Tryz.prog gN 50 [qA x w hs es] (.int .i64 (chkE x w hs es)) := by
 refine pure_vcG mix (tblG_cons (cSoundR_ok 8) (tblG_cons aggR_ok (tblG_nil _ _))) ((chkR_vc x w hs es _).mpr ?_)
 obtain ⟨hn1, hn2, hn3, hn4⟩ := hn
 rw [isNode_of hx (by decide), nodeOf_of hx (by decide)]
 simp only [qA_refl, EqI, true_and, and_true, imp_self, implies_true, Int.toNat_natCast, isW_t, isW_f, Bool.not_not, Bool.or_true, VB_t]
 refine NB_intro rfl (VB_intro (fun h => ?_) (fun h => ?_))
 ·simp only [Bool.or_eq_true, decide_eq_true_eq, Bool.not_eq_true'] at h
  unfold chkE
  rw [if_neg]
  rintro ⟨a, b, _⟩
  rcases h with h | h
  ·have h : sndB x = false := h
   rw [a] at h; cases h
  ·omega
 ·simp only [Bool.or_eq_false_iff, decide_eq_false_iff_not, Bool.not_eq_false'] at h
  obtain ⟨h1, h2⟩ := h
  have h1 : sndB x = true := h1
  have hE : chkE x w hs es = if hs.all haveB = true ∧ es.all aggBG = true then 0 else 3 := by
   unfold chkE
   simp only [h1, true_and, show w ≤ 99999 by omega]
  rw [hE]
  refine ⟨⟨0, ⟨by omega, fun j hj => by omega⟩, rfl⟩, fun i ⟨hi1, hi2⟩ => VB_intro (fun h => ?_) (fun h => ?_)⟩
  ·have hlt : i < hs.length := by have := of_decide_eq_true h; omega
   have hb : haveB (hs.getD i haveD) = (aggB (hs.getD i haveD).1.1 (hs.getD i haveD).1.2.1 && (decide ((hs.getD i haveD).2.1.1 ≥ 1) && decide ((hs.getD i haveD).2.1.1 ≤ 6))) := rfl
   have go : haveB (hs.getD i haveD) = true → ∃ i' : Nat, (i' ≤ hs.length ∧ ∀ j, j < i' → haveB (hs.getD j haveD) = true) ∧ (invCR1 x w hs es).μ i' < (invCR1 x w hs es).μ i ∧ IntKind.i64.wrap ((i : Int) + 1) = i' := fun hh =>
    ⟨i + 1, ⟨by omega, fun j hj => by
     rcases Nat.lt_or_ge j i with h' | h'
     ·exact hi2 j h'
     ·obtain rfl : j = i := by omega
      exact hh⟩, by simp only [invCR1]; omega, by rw [wrap_i64_id (by omega) (by omega)]; omega⟩
   have no : haveB (hs.getD i haveD) = false → (3 : Int) = if hs.all haveB = true ∧ es.all aggBG = true then 0 else 3 := fun hh => by rw [all_no (d := haveD) hlt hh]; rfl
   have hd : decide ((0 : Int) ≤ i ∧ (i : Int) < hs.length) = true := decide_eq_true (by omega)
   rw [hd]
   refine NB_intro rfl (NB_intro (decide_eq_true (by have := hn3 i hlt; omega)) (NB_intro (by simp [impB]) ?_))
   generalize aggB (hs.getD i haveD).1.1 (hs.getD i haveD).1.2.1 = A at hb ⊢
   generalize (decide ((hs.getD i haveD).2.1.1 ≥ 1) && decide ((hs.getD i haveD).2.1.1 ≤ 6)) = B at hb ⊢
   cases A <;> cases B <;> simp only [VB, Bool.not_true, Bool.not_false, Bool.or_true, Bool.or_false, Bool.true_or] <;> first | exact go hb | exact no hb
  ·have hie : i = hs.length := by have := of_decide_eq_false h; omega
   subst hie
   have ha : hs.all haveB = true := (all_at (d := haveD)).2 hi2
   simp only [ha, true_and]
   refine ⟨⟨0, ⟨by omega, hi2, fun j hj => by omega⟩, rfl⟩, fun i ⟨hj1, _, hj2⟩ => VB_intro (fun h => ?_) (fun h => ?_)⟩
   ·have hlt : i < es.length := by have := of_decide_eq_true h; omega
    refine NB_intro (decide_eq_true (by omega)) (NB_intro (decide_eq_true (by have := hn4 i hlt; omega)) (VB_intro (fun hh => ?_) (fun hh => ?_)))
    ·have hh : aggBG (es.getD i aggD) = false := (Bool.not_eq_true' _).mp hh
     rw [all_no (d := aggD) hlt hh]; rfl
    ·have hh : aggBG (es.getD i aggD) = true := (Bool.not_eq_false' _).mp hh
     exact ⟨i + 1, ⟨by omega, hi2, fun j hj => by
      rcases Nat.lt_or_ge j i with h' | h'
      ·exact hj2 j h'
      ·obtain rfl : j = i := by omega
       exact hh⟩, by simp only [invCR2]; omega, by rw [wrap_i64_id (by omega) (by omega)]; omega⟩
   ·have hie : i = es.length := by have := of_decide_eq_false h; omega
    subst hie
    rw [(all_at (d := aggD)).2 hj2]
    rfl
theorem light_lit {x : NodeG} {hs : List HaveG} {es : List AggG} (h : lightQ x hs es = true) : litB 8 x = true ∧ namesB hs es := by
 simp only [lightQ, Bool.and_eq_true, decide_eq_true_eq] at h
 obtain ⟨⟨⟨⟨h1, h2⟩, h3⟩, h4⟩, h5⟩ := h
 refine ⟨weigh_lit 8 x (of_decide_eq_true h1), h2, h3, fun i hi => ?_, fun i hi => ?_⟩
 ·exact Nat.le_trans (of_decide_eq_true ((all_at (d := haveD)).1 h4 i hi)) (by decide)
 ·exact Nat.le_trans (of_decide_eq_true ((all_at (d := aggD)).1 h5 i hi)) (by decide)
end Go.Proofs.YtamcloifhjafcaaGreatDoor
