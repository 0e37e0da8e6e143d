/- NODES 13: the checks of queries: contracts of the parts, conditions of the whole. -/
import Derived.Test.YtamcloifhjafcaaDoorAN12
namespace Go.Proofs.YtamcloifhjafcaaDoor
open Pw Go
set_option maxRecDepth 100000
set_option linter.unusedSimpArgs false
theorem agg_of {g : Nat} (h : ∀ (f : Int) (s : List UInt8), s.length ≤ 9223372036854775807 → PureC Tryd.prog gN g [.agg [.int .i64 f, .str s]] (.bool (aggB f s))) : PureG Tryd.prog gN g cAgg := by
  intro args nd v he hnd
  unfold cAgg at he
  split at he <;> cases he
  exact h _ _ (of_decide_eq_true hnd)
theorem aggI_ok : PureG Tryd.prog gN 102 cAgg := agg_of fun f s hs => pure_vcG mix tblN_ok ((aggI_vc f s _).mpr (NB_intro (by simp [impB, hs]) rfl))
theorem aggR_ok : PureG Tryd.prog gN 82 cAgg := agg_of fun f s hs => pure_vcG mix tblN_ok ((aggR_vc f s _).mpr (NB_intro (by simp [impB, hs]) rfl))
theorem soundE_of {g : Nat} (h : ∀ x, litB 8 x = true → PureC Tryd.prog gN g [nodeA 9 x] (.int .i64 (sndE x))) : PureG Tryd.prog gN g cSoundE := by
  intro args nd v he hnd
  unfold cSoundE at he
  split at he <;> cases he
  refine pureN_node hnd fun x hx e => ?_
  rw [e]
  exact h x hx
theorem sndI_ok : PureG Tryd.prog gN 99 cSoundE := soundE_of fun x hx => by
  refine pure_vcG mix (tblG_cons (cSoundI_ok 8) (tblG_nil _ _)) ((sndI_vc x _).mpr ?_)
  rw [isNode_of hx (by decide), nodeOf_of hx (by decide)]
  show VB (!sndB x) (3 = sndE x) (0 = sndE x)
  unfold sndE
  cases sndB x <;> rfl
theorem sndR_ok : PureG Tryd.prog gN 67 cSoundE := soundE_of fun x hx => by
  refine pure_vcG mix (tblG_cons (cSoundR_ok 8) (tblG_nil _ _)) ((sndR_vc x _).mpr ?_)
  rw [isNode_of hx (by decide), nodeOf_of hx (by decide)]
  show VB (!sndB x) (3 = sndE x) (0 = sndE x)
  unfold sndE
  cases sndB x <;> rfl
noncomputable def atB (args canon : List AV) : Bool := @decide (args = canon) (Classical.propDecidable _)
theorem atB_self (l : List AV) : atB l l = true := by simp [atB]
noncomputable def cAt (canon : List AV) (v : AV) : Ctr := fun args => some (atB args canon, v)
theorem cAt_ok {g : Nat} {canon : List AV} {v : AV} (h : PureC Tryd.prog gN g canon v) : PureG Tryd.prog gN g (cAt canon v) := by
  intro args nd u he hnd
  cases he
  have : args = canon := by simpa [atB] using hnd
  rw [this]
  exact h
def namesB (hs : List HaveG) (es : List AggG) : Prop := hs.length ≤ 10 ∧ es.length ≤ 10 ∧ (∀ i, i < hs.length → (hs.getD i haveD).1.2.1.length ≤ 20) ∧ ∀ i, i < es.length → (es.getD i aggD).2.1.length ≤ 20
theorem hc_pure (hs : List HaveG) (h10 : hs.length ≤ 10) (h20 : ∀ i, i < hs.length → (hs.getD i haveD).1.2.1.length ≤ 20) : PureC Tryd.prog gN 100 [havesA hs, .fn (.func 101) [] []] (.bool (!hs.all haveB)) := by
  refine pure_vcG mix (tblG_cons aggI_ok (tblG_nil _ _)) ((hcI_vc hs _).mpr ?_)
  simp only [EqI, true_and, and_true, imp_self, implies_true, Int.toNat_natCast, isW_t, isW_f, Bool.not_not, Bool.or_true]
  refine ⟨⟨0, ⟨by omega, fun j hj => by omega⟩, rfl⟩, fun i ⟨hi1, hi2⟩ => VB_intro (fun h => ?_) (fun h => ?_)⟩
  · have hlt : i < hs.length := by have := of_decide_eq_true h; omega
    have hb : haveB (hs.getD i haveD) = (aggB (hs.getD i haveD).1.1 (hs.getD i haveD).1.2.1 && (decide ((hs.getD i haveD).2.1.1 ≥ 1) && decide ((hs.getD i haveD).2.1.1 ≤ 6))) := rfl
    have go : haveB (hs.getD i haveD) = true → ∃ i' : Nat, (i' ≤ hs.length ∧ ∀ j, j < i' → haveB (hs.getD j haveD) = true) ∧ (invHC hs).μ i' < (invHC hs).μ i ∧ IntKind.i64.wrap ((i : Int) + 1) = i' := fun hh =>
      ⟨i + 1, ⟨by omega, fun j hj => by
        rcases Nat.lt_or_ge j i with h' | h'
        · exact hi2 j h'
        · obtain rfl : j = i := by omega
          exact hh⟩, by simp only [invHC]; omega, by rw [wrap_i64_id (by omega) (by omega)]; omega⟩
    have no : haveB (hs.getD i haveD) = false → decide ((i : Int) ≥ 0) = !hs.all haveB := fun hh => by rw [all_no (d := haveD) hlt hh, decide_eq_true (show (i : Int) ≥ 0 by omega)]; rfl
    refine NB_intro (decide_eq_true (by omega)) (NB_intro (decide_eq_true (by have := h20 i hlt; omega)) ?_)
    generalize aggB (hs.getD i haveD).1.1 (hs.getD i haveD).1.2.1 = A at hb ⊢
    generalize (decide ((hs.getD i haveD).2.1.1 ≥ 1) && decide ((hs.getD i haveD).2.1.1 ≤ 6)) = B at hb ⊢
    cases A <;> cases B <;> simp only [VB, Bool.not_true, Bool.not_false, Bool.or_true, Bool.or_false, Bool.true_or] <;> first | exact go hb | exact no hb
  · have hie : i = hs.length := by have := of_decide_eq_false h; omega
    subst hie
    rw [(all_at (d := haveD)).2 hi2]
    rfl
theorem ac_pure (es : List AggG) (h10 : es.length ≤ 10) (h20 : ∀ i, i < es.length → (es.getD i aggD).2.1.length ≤ 20) : PureC Tryd.prog gN 104 [aggsA es, .fn (.func 105) [] []] (.bool (!es.all aggBG)) := by
  refine pure_vcG mix (tblG_cons aggI_ok (tblG_nil _ _)) ((acI_vc es _).mpr ?_)
  simp only [EqI, true_and, and_true, imp_self, implies_true, Int.toNat_natCast, isW_t, isW_f, Bool.not_not, Bool.or_true]
  refine ⟨⟨0, ⟨by omega, fun j hj => by omega⟩, rfl⟩, fun i ⟨hi1, hi2⟩ => VB_intro (fun h => ?_) (fun h => ?_)⟩
  · have hlt : i < es.length := by have := of_decide_eq_true h; omega
    refine NB_intro (decide_eq_true (by omega)) (NB_intro (decide_eq_true (by have := h20 i hlt; omega)) (VB_intro (fun hh => ?_) (fun hh => ?_)))
    · have hh : aggBG (es.getD i aggD) = false := (Bool.not_eq_true' _).mp hh
      rw [all_no (d := aggD) hlt hh, decide_eq_true (show (i : Int) ≥ 0 by omega)]; rfl
    · have hh : aggBG (es.getD i aggD) = true := (Bool.not_eq_false' _).mp hh
      exact ⟨i + 1, ⟨by omega, fun j hj => by
        rcases Nat.lt_or_ge j i with h' | h'
        · exact hi2 j h'
        · obtain rfl : j = i := by omega
          exact hh⟩, by simp only [invAC]; omega, by rw [wrap_i64_id (by omega) (by omega)]; omega⟩
  · have hie : i = es.length := by have := of_decide_eq_false h; omega
    subst hie
    rw [(all_at (d := aggD)).2 hi2]
    rfl
def chkE (x : NodeG) (w : Int) (hs : List HaveG) (es : List AggG) : Int := if sndB x = true ∧ w ≤ 99999 ∧ hs.all haveB = true ∧ es.all aggBG = true then 0 else 3
def invCR1 (x : NodeG) (w : Int) (hs : List HaveG) (es : List AggG) : Inv := ⟨Nat, 50, fun i => ⟨[(1, .ptr 0 0 0 0), (3, .int .i64 i)], [(0, .row 0 12 true (.lst [qA x w hs es]))]⟩, fun i => i ≤ hs.length ∧ ∀ j, j < i → haveB (hs.getD j haveD) = true, fun i => hs.length - i⟩
def invCR2 (x : NodeG) (w : Int) (hs : List HaveG) (es : List AggG) : Inv := ⟨Nat, 60, fun i => ⟨[(1, .ptr 0 0 0 0), (4, .int .i64 i)], [(0, .row 0 12 true (.lst [qA x w hs es]))]⟩, fun i => i ≤ es.length ∧ (∀ j, j < hs.length → haveB (hs.getD j haveD) = true) ∧ ∀ j, j < i → aggBG (es.getD j aggD) = true, fun i => es.length - i⟩
noncomputable def tblQI (hs : List HaveG) (es : List AggG) : List (Nat × Ctr) := [(99, cSoundE), (100, cAt [havesA hs, .fn (.func 101) [] []] (.bool (!hs.all haveB))),
  (104, cAt [aggsA es, .fn (.func 105) [] []] (.bool (!es.all aggBG)))]
theorem chkI_vc (x : NodeG) (w : Int) (hs : List HaveG) (es : List AggG) (r : Int) : (vcFun (mkG Tryd.prog gN (tblOf (tblQI hs es)) (fun _ _ => none) 0) 20 65 [qA x w hs es] .nil 0 (retP 3 (.int .i64 r))).sat = ( NB (isNode (8 : Nat) (nodeA (16 : Nat) x)) (VB (sndE (nodeOf (8 : Nat) (nodeA (16 : Nat) x)) != (0 : Int)) (sndE (nodeOf (8 : Nat) (nodeA (16 : Nat) x)) = r) (NB (impB (isW false (decide (w > (99999 : Int)))) (atB [AV.rof hs.length (fun (i : Nat) => haveA (hs.getD i haveD)) false, AV.fn (Fn.func (101 : Nat)) [] []] [havesA hs, AV.fn (Fn.func (101 : FuncId)) [] []])) (NB (impB (isW false (decide (w > (99999 : Int)) || !hs.all haveB)) (atB [AV.rof es.length (fun (i : Nat) => aggA (es.getD i aggD)) false, AV.fn (Fn.func (105 : Nat)) [] []] [aggsA es, AV.fn (Fn.func (105 : FuncId)) [] []])) (VB (decide (w > (99999 : Int)) || !hs.all haveB || !es.all aggBG) ((3 : Int) = r) ((0 : Int) = r)))))) := by
  kernel_rfl
theorem chkR_vc (x : NodeG) (w : Int) (hs : List HaveG) (es : List AggG) (r : Int) : (vcFun (mkG Tryd.prog gN (tblOf [(81, cSoundR 8), (82, cAgg)]) (fun f b => if f = 49 ∧ b = 0 then some (invCR1 x w hs es) else if f = 49 ∧ b = 2 then some (invCR2 x w hs es) else none) 0) 20 49 [qA x w hs es] .nil 0 (retP 3 (.int .i64 r))).sat = ( NB (isNode (8 : Nat) (nodeA (16 : Nat) x) && true && true) (VB (!soundB ((201 : Int) - (1 : Int)).toNat (nodeOf (8 : Nat) (nodeA (16 : Nat) x)) || decide (w > (99999 : Int))) ((3 : Int) = r) ((∃ (i : Nat), (i ≤ hs.length ∧ ∀ (j : Nat), j < i → haveB (hs.getD j haveD) = true) ∧ (((0 : Nat) = (0 : Nat) ∧ (0 : Nat) = (0 : Nat) ∧ (0 : Nat) = (0 : Nat)) ∧ (0 : Int) = (↑i : Int) ∧ True) ∧ ((0 : Nat) = (0 : Nat) ∧ (true = true → true = true) ∧ ((qA x w hs es).sub (qA x w hs es) ∧ (qA x w hs es).cells.length = (qA x w hs es).cells.length) ∧ True) ∧ True) ∧ ∀ (i : Nat), (i ≤ hs.length ∧ ∀ (j : Nat), j < i → haveB (hs.getD j haveD) = true) → VB (decide ((↑i : Int) < (↑hs.length : Int))) (NB (decide ((0 : Int) ≤ (↑i : Int) ∧ (↑i : Int) < (↑hs.length : Int))) (NB (decide ((hs.getD (↑i : Int).toNat haveD).fst.snd.fst.length ≤ (9223372036854775807 : Nat))) (NB (impB (isW false !aggB (hs.getD (↑i : Int).toNat haveD).fst.fst (hs.getD (↑i : Int).toNat haveD).fst.snd.fst) (decide ((0 : Int) ≤ (↑i : Int) ∧ (↑i : Int) < (↑hs.length : Int)))) (VB (isW false !aggB (hs.getD (↑i : Int).toNat haveD).fst.fst (hs.getD (↑i : Int).toNat haveD).fst.snd.fst) (VB (!aggB (hs.getD (↑i : Int).toNat haveD).fst.fst (hs.getD (↑i : Int).toNat haveD).fst.snd.fst || !(decide ((hs.getD (↑i : Int).toNat haveD).snd.fst.fst ≥ (1 : Int)) && decide ((hs.getD (↑i : Int).toNat haveD).snd.fst.fst ≤ (6 : Int)))) ((3 : Int) = r) (∃ (i' : Nat), (i' ≤ hs.length ∧ ∀ (j : Nat), j < i' → haveB (hs.getD j haveD) = true) ∧ (invCR1 x w hs es).μ i' < (invCR1 x w hs es).μ i ∧ (((0 : Nat) = (0 : Nat) ∧ (0 : Nat) = (0 : Nat) ∧ (0 : Nat) = (0 : Nat)) ∧ IntKind.i64.wrap ((↑i : Int) + (1 : Int)) = (↑i' : Int) ∧ True) ∧ ((0 : Nat) = (0 : Nat) ∧ (true = true → true = true) ∧ ((qA x w hs es).sub (qA x w hs es) ∧ (qA x w hs es).cells.length = (qA x w hs es).cells.length) ∧ True) ∧ True)) (VB (!aggB (hs.getD (↑i : Int).toNat haveD).fst.fst (hs.getD (↑i : Int).toNat haveD).fst.snd.fst || true) ((3 : Int) = r) (∃ (i' : Nat), (i' ≤ hs.length ∧ ∀ (j : Nat), j < i' → haveB (hs.getD j haveD) = true) ∧ (invCR1 x w hs es).μ i' < (invCR1 x w hs es).μ i ∧ (((0 : Nat) = (0 : Nat) ∧ (0 : Nat) = (0 : Nat) ∧ (0 : Nat) = (0 : Nat)) ∧ IntKind.i64.wrap ((↑i : Int) + (1 : Int)) = (↑i' : Int) ∧ True) ∧ ((0 : Nat) = (0 : Nat) ∧ (true = true → true = true) ∧ ((qA x w hs es).sub (qA x w hs es) ∧ (qA x w hs es).cells.length = (qA x w hs es).cells.length) ∧ True) ∧ True)))))) ((∃ (i : Nat), (i ≤ es.length ∧ (∀ (j : Nat), j < hs.length → haveB (hs.getD j haveD) = true) ∧ ∀ (j : Nat), j < i → aggBG (es.getD j aggD) = true) ∧ (((0 : Nat) = (0 : Nat) ∧ (0 : Nat) = (0 : Nat) ∧ (0 : Nat) = (0 : Nat)) ∧ (0 : Int) = (↑i : Int) ∧ True) ∧ ((0 : Nat) = (0 : Nat) ∧ (true = true → true = true) ∧ ((qA x w hs es).sub (qA x w hs es) ∧ (qA x w hs es).cells.length = (qA x w hs es).cells.length) ∧ True) ∧ True) ∧ ∀ (i : Nat), (i ≤ es.length ∧ (∀ (j : Nat), j < hs.length → haveB (hs.getD j haveD) = true) ∧ ∀ (j : Nat), j < i → aggBG (es.getD j aggD) = true) → VB (decide ((↑i : Int) < (↑es.length : Int))) (NB (decide ((0 : Int) ≤ (↑i : Int) ∧ (↑i : Int) < (↑es.length : Int))) (NB (decide ((es.getD (↑i : Int).toNat aggD).snd.fst.length ≤ (9223372036854775807 : Nat))) (VB (!aggB (es.getD (↑i : Int).toNat aggD).fst (es.getD (↑i : Int).toNat aggD).snd.fst) ((3 : Int) = r) (∃ (i' : Nat), (i' ≤ es.length ∧ (∀ (j : Nat), j < hs.length → haveB (hs.getD j haveD) = true) ∧ ∀ (j : Nat), j < i' → aggBG (es.getD j aggD) = true) ∧ (invCR2 x w hs es).μ i' < (invCR2 x w hs es).μ i ∧ (((0 : Nat) = (0 : Nat) ∧ (0 : Nat) = (0 : Nat) ∧ (0 : Nat) = (0 : Nat)) ∧ IntKind.i64.wrap ((↑i : Int) + (1 : Int)) = (↑i' : Int) ∧ True) ∧ ((0 : Nat) = (0 : Nat) ∧ (true = true → true = true) ∧ ((qA x w hs es).sub (qA x w hs es) ∧ (qA x w hs es).cells.length = (qA x w hs es).cells.length) ∧ True) ∧ True)))) ((0 : Int) = r))))) := by
  kernel_rfl
end Go.Proofs.YtamcloifhjafcaaDoor
