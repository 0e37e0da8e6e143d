/- WELL-FORMED 9: well-formed queries. -/
import Derived.Test.YtamcloifhjafcaaDoorWF8
namespace Go.Proofs.YtamcloifhjafcaaDoor
open Pw Go
set_option maxRecDepth 100000
set_option linter.unusedSimpArgs false
theorem leaves_leW : ∀ (g : Nat) (d : Int) (x : NodeG), (leavesL g x).length ≤ (elems g d x).length
  | 0, _, _ => Nat.le_refl _
  | g + 1, d, x => by
    rw [elems_len]
    simp only [leavesL]
    split
    · simp
    · have key : ∀ n, n ≤ x.kids.length → (lvK g x.kids n).length ≤ cntK g (d + 1) x.kids n := by
        intro n hn
        induction n with
        | zero => exact Nat.le_refl _
        | succ n ih =>
          rw [lvK_succ (by omega), cntK_succ (by omega), List.length_append]
          have := leaves_leW g (d + 1) (x.kids.getD n treeD)
          have := ih (by omega)
          omega
      have h := key _ (Nat.le_refl _)
      have e : (x.kids.map (leavesL g)).flatten = lvK g x.kids x.kids.length := by simp [lvK]
      rw [e]
      omega
theorem AN_lenW (x : NodeG) : (atomsL 8 x).length = (negL 8 x).length := by
  unfold atomsL negL
  split <;> simp
theorem AN_leW (x : NodeG) : (atomsL 8 x).length ≤ (leavesL 8 x).length := by
  unfold atomsL
  split <;> simp
structure LtW (x : NodeG) (hs : List HaveG) (es : List AggG) : Prop where
  lit : litB 8 x = true
  nms : namesB hs es
  few : (elems 8 1 x).length ≤ 1000
theorem LtW.of {x : NodeG} {hs : List HaveG} {es : List AggG} (h : lightQ x hs es = true) : LtW x hs es := by
  obtain ⟨h1, h2⟩ := light_lit h
  refine ⟨h1, h2, ?_⟩
  simp only [lightQ, Bool.and_eq_true, decide_eq_true_eq] at h
  have h3 : weighS 8 x ≤ 40 := of_decide_eq_true h.1.1.1.1
  have := elems_few 8 1 x h3
  omega
theorem LtW.lv {x : NodeG} {hs : List HaveG} {es : List AggG} (h : LtW x hs es) : (leavesL 8 x).length ≤ 1000 := Nat.le_trans (leaves_leW 8 1 x) h.few
theorem at16W {P : Program} {gl : Nat → AV} {f : FuncId} {x : NodeG} {v : AV} (h : PureC P gl f [nodeA 9 x] v) : PureC P gl f [nodeA 16 x] v :=
  PureC.args (args' := [nodeA 9 x]) rfl (fun i hi => by
    cases i with
    | zero => exact nodeA_sub' (by decide) x
    | succ i => simp at hi) h
def fullE (x : NodeG) (hs : List HaveG) (es : List AggG) : Int := if (decide (((atomsL 8 x).length : Int) > 12) || decide ((hs.length : Int) > 4) || decide ((es.length : Int) > 4) || (nds 8 x).any fulP) = true then 6 else 0
def depE (x : NodeG) : Int := if decide (dpth x > 6) = true then 22 else 0
def rngE (x : NodeG) (w : Int) : Int := if (decide (w > 10000) || (nds 8 x).any rngP) = true then 2 else 0
def ordE (x : NodeG) : Int := if (nk x == 2 || (nds 8 x).any stdP) = true then 9 else 0
def nmE (x : NodeG) (hs : List HaveG) (es : List AggG) : Int := nmdE (atomsL 8 x) (negL 8 x) (usQ hs es)
def wfE (x : NodeG) (w : Int) (hs : List HaveG) (es : List AggG) : Int :=
  if chkE x w hs es ≠ 0 then chkE x w hs es else if fullE x hs es ≠ 0 then fullE x hs es else if depE x ≠ 0 then depE x else if rngE x w ≠ 0 then rngE x w else if ordE x ≠ 0 then ordE x else nmE x hs es
section
variable {x : NodeG} (w : Int) {hs : List HaveG} {es : List AggG} (hq : LtW x hs es)
theorem VB_if {b : Bool} {u v r : Int} (h : r = if b = true then u else v) : VB b (u = r) (v = r) := by
  cases b <;> exact h.symm
include hq in
theorem someW_ok : PureG Tryd.prog gN 133 (cSomeW x w hs es ((nds 8 x).any fulP) ((nds 8 x).any rngP) ((nds 8 x).any stdP)) := by
  intro args nd v he hnd
  unfold cSomeW at he
  split at he <;> cases he
  rename_i q g
  simp only [Bool.and_eq_true, Bool.or_eq_true, beq_iff_eq] at hnd
  obtain ⟨h1, h2⟩ := hnd
  have hqa : [q] = [qA x w hs es] := by simpa [atB] using h1
  cases hqa
  rcases h2 with (rfl | rfl) | rfl
  · exact someF_pure x w hs es hq.lit
  · exact someR_pure x w hs es hq.lit
  · exact someO_pure x w hs es hq.lit
include hq in
theorem tblFu_ok : TblOK Tryd.prog gN (tblOf (tblFu x w hs es (atomsL 8 x) (sndE x) ((nds 8 x).any fulP) ((nds 8 x).any rngP) ((nds 8 x).any stdP) (dpth x))) :=
  tblG_cons (cAt_ok (at16W (atomsI_pure x hq.lit hq.few))) (tblG_cons (cAt_ok (at16W (depth_pure x hq.lit hq.few))) (tblG_cons (someW_ok w hq) (tblG_nil _ _)))
include hq in
theorem full_pure : PureC Tryd.prog gN 120 [qA x w hs es] (.int .i64 (fullE x hs es)) :=
  pure_vcG (d := 3) mix (tblFu_ok w hq) ((full_vc x w hs es _ _ _ _ _ _ _).mpr (NB_intro (atB_self _) (NB_intro (impB_t.2 fun _ => by rw [atB_self]; rfl) (VB_if rfl))))
include hq in
theorem deep_pure : PureC Tryd.prog gN 121 [qA x w hs es] (.int .i64 (depE x)) :=
  pure_vcG (d := 3) mix (tblFu_ok w hq) ((deep_vc x w hs es _ _ _ _ _ _ _).mpr (NB_intro (atB_self _) (VB_if rfl)))
include hq in
theorem ranged_pure : PureC Tryd.prog gN 122 [qA x w hs es] (.int .i64 (rngE x w)) :=
  pure_vcG (d := 3) mix (tblFu_ok w hq) ((ranged_vc x w hs es _ _ _ _ _ _ _).mpr (NB_intro (impB_t.2 fun _ => by rw [atB_self]; rfl) (VB_if rfl)))
include hq in
theorem ordered_pure : PureC Tryd.prog gN 123 [qA x w hs es] (.int .i64 (ordE x)) :=
  pure_vcG (d := 3) mix (tblFu_ok w hq) ((ordered_vc x w hs es _ _ _ _ _ _ _).mpr (NB_intro (impB_t.2 fun _ => by rw [atB_self]; rfl) (VB_if rfl)))
include hq in
theorem soundW_pure : PureC Tryd.prog gN 119 [qA x w hs es] (.int .i64 (chkE x w hs es)) :=
  pure_vcG (d := 3) mix (tblG_cons (cAt_ok (chkI_pure x w hs es hq.lit hq.nms)) (tblG_nil _ _)) ((sound_vc x w hs es _ _).mpr (NB_intro (atB_self _) rfl))
include hq in
theorem namedW_pure : PureC Tryd.prog gN 124 [qA x w hs es] (.int .i64 (nmE x hs es)) :=
  pure_vcG (d := 3) mix (tblG_cons (cAt_ok (at16W (atomsI_pure x hq.lit hq.few))) (tblG_cons (cAt_ok (at16W (negI_pure x hq.lit hq.few))) (tblG_cons (cAt_ok (uses_pure x w hs es hq.nms.1 hq.nms.2.1)) (tblG_nil _ _))))
    (named_sat x w hs es _ _ (sndE x) (sndE x) _ (AN_lenW x) (Nat.le_trans (AN_leW x) hq.lv) (Nat.le_trans (usE_len _) (by have := hq.nms.1; have := hq.nms.2.1; omega)))
include hq in
theorem wf_pure : PureC Tryd.prog gN 57 [qA x w hs es] (.int .i64 (wfE x w hs es)) := by
  refine pure_vcG (d := 3) mix (tblG_cons (cAt_ok (soundW_pure w hq)) (tblG_cons (cAt_ok (full_pure w hq)) (tblG_cons (cAt_ok (deep_pure w hq)) (tblG_cons (cAt_ok (ranged_pure w hq)) (tblG_cons (cAt_ok (ordered_pure w hq)) (tblG_cons (cAt_ok (namedW_pure w hq)) (tblG_nil _ _))))))) ((check_vc x w hs es _ _ _ _ _ _ _).mpr ?_)
  unfold wfE
  generalize chkE x w hs es = e1
  generalize fullE x hs es = e2
  generalize depE x = e3
  generalize rngE x w = e4
  generalize ordE x = e5
  generalize nmE x hs es = e6
  rw [show atB [qA x w hs es] [qA x w hs es] = true from atB_self _]
  simp only [NB_t]
  refine VB_intro (fun h => (if_pos (bne_iff_ne.1 h)).symm) (fun h => ?_)
  rw [if_neg (not_not_intro (bne_eq_false_iff_eq.1 h))]
  refine VB_intro (fun h => (if_pos (bne_iff_ne.1 h)).symm) (fun h => ?_)
  rw [if_neg (not_not_intro (bne_eq_false_iff_eq.1 h))]
  refine VB_intro (fun h => (if_pos (bne_iff_ne.1 h)).symm) (fun h => ?_)
  rw [if_neg (not_not_intro (bne_eq_false_iff_eq.1 h))]
  refine VB_intro (fun h => (if_pos (bne_iff_ne.1 h)).symm) (fun h => ?_)
  rw [if_neg (not_not_intro (bne_eq_false_iff_eq.1 h))]
  refine VB_intro (fun h => (if_pos (bne_iff_ne.1 h)).symm) (fun h => ?_)
  rw [if_neg (not_not_intro (bne_eq_false_iff_eq.1 h))]
  exact VB_intro (fun _ => rfl) (fun _ => rfl)
end
end Go.Proofs.YtamcloifhjafcaaDoor
