/- SELECTS 3: contracts: the check of a match of any length, Select, copies of nodes, equal matches. -/
import Derived.Test.YtamcloifhjafcaaDoorSE1
namespace Go.Proofs.YtamcloifhjafcaaDoor
open Pw Go
set_option maxRecDepth 100000
set_option linter.unusedSimpArgs false
section
variable {x : NodeG} {w : Int} {hs : List HaveG} {es : List AggG} {ev : List EvG} {ps : List PlG}
theorem checkB_pure (hq : Lt x hs es) (hp : ps.length ≤ top64) : PureC Tryd.prog gN 16 [qA x w hs es, evsA ev, mA ps] (.int .i64 (mE x w hs es ev ps)) :=
 pure_vcG (d := 4) mix (tblG_cons (cAt_ok (given_pure hq hp)) (tblG_nil _ _)) ((checkB_vc x w hs es ev ps _ _ _).mpr (NB_intro (atB_self _) rfl))
theorem isMB_mA (h : ps.length ≤ top64) : isMB (mA ps) = true := by
 simp only [isMB, Bool.and_eq_true, decide_eq_true_eq]
 exact ⟨h, List.all_eq_true.2 fun _ _ => rfl⟩
theorem isMB_sub {m : AV} (h : isMB m = true) : m.sub (mA (psOf m)) ∧ (psOf m).length ≤ top64 := by
 unfold isMB at h
 split at h
 ·rename_i n f ex
  simp only [Bool.and_eq_true, decide_eq_true_eq, List.all_eq_true, List.mem_range] at h
  obtain ⟨h1, h2⟩ := h
  have hlen : (psOf (.agg [.rof n f ex])).length = n := by simp [psOf]
  refine ⟨⟨⟨hlen.symm, fun i hi => ?_, fun h => by cases h⟩, trivial⟩, by rw [hlen]; exact h1⟩
  have hg : (psOf (.agg [.rof n f ex])).getD i plD = plOf (f i) := by simp [psOf, List.getD, hi]
  show (f i).sub (plA ((psOf (.agg [.rof n f ex])).getD i plD)) ∧ (f i).cells.length = (plA ((psOf (.agg [.rof n f ex])).getD i plD)).cells.length
  rw [hg]
  exact pl_sub (f i) (h2 i hi)
 ·cases h
theorem chkB_ok (hq : Lt x hs es) : PureG Tryd.prog gN 16 (cChkB x w hs es ev) := by
 intro args nd v he hnd
 unfold cChkB at he
 split at he <;> cases he
 rename_i q e m
 rw [Bool.and_eq_true] at hnd
 obtain ⟨h2, h3⟩ := hnd
 have h2 : [q, e] = [qA x w hs es, evsA ev] := by simpa [atB] using h2
 simp only [List.cons.injEq, and_true] at h2
 obtain ⟨rfl, rfl⟩ := h2
 have h3 := isMB_sub h3
 exact args3 h3.1 trivial (checkB_pure hq h3.2)
theorem mErr_asc {c : Int} {nE : Nat} {N : List Bool} (h : mErr c nE N ps = 0) : ∀ j, j < ps.length → (j : Int) ≤ (ps.getD j plD).1 := by
 have h1 := (mErr_in h).2
 have h2 : allBad N ps = true := by
  unfold mErr at h
  split at h
  ·omega
  ·split at h
   ·omega
   ·split at h
    ·omega
    ·simpa using ‹¬allBad N ps = false›
 intro j
 induction j with
 | zero => intro hj; exact (out_in (h1 0 hj)).1
 | succ j ih =>
  intro hj
  have h3 := ih (by omega)
  have h4 := List.all_eq_true.1 h2 (j + 1) (by simpa using hj)
  simp only [badB, Bool.not_eq_true', Bool.or_eq_false_iff, Bool.and_eq_false_iff, decide_eq_false_iff_not] at h4
  have h5 := h4.2
  rw [show j + 1 - 1 = j by omega] at h5
  omega
theorem mErr_len {c : Int} {nE : Nat} {N : List Bool} (h : mErr c nE N ps = 0) : ps.length ≤ nE := by
 rcases Nat.eq_zero_or_pos ps.length with h0 | h0
 ·omega
 ·have h1 := mErr_asc h (ps.length - 1) (by omega)
  have h2 := (out_in ((mErr_in h).2 (ps.length - 1) (by omega))).2.1
  omega
theorem firE_all {f : Nat → Int} {n : Nat} (h : firE f n = 0) : ∀ i, i < n → f i = 0 := by
 induction n with
 | zero => intro i hi; omega
 | succ n ih =>
  have h0 : firE f n = 0 := by
   by_cases h1 : firE f n = 0
   ·exact h1
   ·have : firE f (n + 1) = firE f n := if_pos h1
    omega
  intro i hi
  rw [firE_succ h0] at h
  rcases Nat.lt_or_ge i n with h1 | h1
  ·exact ih h0 i h1
  ·obtain rfl : i = n := by omega
   exact h
theorem firE_no {f : Nat → Int} {n : Nat} (h : ∀ i, i < n → f i = 0) : firE f n = 0 := by
 induction n with
 | zero => rfl
 | succ n ih =>
  rw [firE_succ (ih fun i hi => h i (by omega))]
  exact h n (by omega)
end
section
variable {x : NodeG} {w : Int} {hs : List HaveG} {es : List AggG} {ev : List EvG}
theorem ESB_ok (hq : Lt x hs es) (he : evR ev) (hr : hsR hs) (l : List MatG) : CtrOK (ESB x w hs es ev l) :=
 mkG_ctr (tblG_cons (cAt_ok (chkI_pure x w hs es hq.lit hq.nms)) (tblG_cons (chkB_ok hq) (tblG_cons (wanI_ok (fun _ => hq) he hr) (tblG_cons cloneP_ok (tblG_nil _ _)))))
theorem selB_sat (x : NodeG) (w : Int) (hs : List HaveG) (es : List AggG) (ev : List EvG) (l : List MatG) (h60 : ev.length ≤ 60) (h20 : l.length ≤ 20) (hp : ∀ i, i < l.length → (l.getD i mtD).1.length ≤ top64) :
  (vcFun (ESB x w hs es ev l) 20 36 [qA x w hs es, evsA ev, msA l] .nil 0 (retP 5 (.tup [msA (selV x w hs es ev l), .int .i64 (selE x w hs es ev l)]))).sat := by
 refine (selB_vc x w hs es ev l _ _).mpr (NB_intro (atB_self _) ?_)
 simp only [qA_refl, evsR, msR, EqI, true_and, and_true, imp_self, implies_true, Int.toNat_natCast, Nat.zero_add, or_self, psOf_mA, decide_true, NB_t, Bool.true_and, Bool.and_true]
 refine VB_intro (fun h => ?_) (fun h => ⟨⟨0, ⟨Nat.zero_le _, rfl⟩, rfl⟩, fun i ⟨hi1, hi2⟩ => VB_intro (fun h1 => NB_intro (decide_eq_true ?_) (NB_intro (by rw [atB_self]; exact isMB_mA (hp _ (by have := of_decide_eq_true h1; omega))) (VB_intro (fun h2 => ?_) (fun h2 => ?_)))) (fun h1 => ?_)⟩)
 ·have h : chkE x w hs es ≠ 0 := bne_iff_ne.1 h
  have h3 := selE_c (ev := ev) (l := l) h
  exact ⟨selV_n (by rw [h3]; exact h), h3.symm⟩
 ·have := of_decide_eq_true h1; omega
 ·have h : chkE x w hs es = 0 := bne_eq_false_iff_eq.1 h
  have h2 : mEi x w hs es ev l i ≠ 0 := bne_iff_ne.1 h2
  have h3 := firE_stop hi2 (by have := of_decide_eq_true h1; omega : i < l.length) h2
  have h4 := selE_m h (by rw [h3]; exact h2)
  rw [h3] at h4
  exact ⟨selV_n (by rw [h4]; exact h2), h4.symm⟩
 ·have h2 : mEi x w hs es ev l i = 0 := bne_eq_false_iff_eq.1 h2
  have hlt : i < l.length := by have := of_decide_eq_true h1; omega
  exact ⟨i + 1, ⟨hlt, by rw [firE_succ hi2]; exact h2⟩, by show l.length - (i + 1) < l.length - i; omega, by rw [wrap_i64_id (by omega) (by omega)]; rfl⟩
 ·have h : chkE x w hs es = 0 := bne_eq_false_iff_eq.1 h
  obtain rfl : i = l.length := by have := of_decide_eq_false h1; omega
  have hsE := selE_w h hi2
  have hp : ∀ i, i < l.length → (l.getD i mtD).1.length ≤ 60 := fun i hi => Nat.le_trans (mErr_len (firE_all hi2 i hi)) h60
  refine ⟨⟨(0, 0), ⟨Nat.zero_le _, rfl⟩, ⟨⟨rfl, rfl⟩, rfl⟩, rfl⟩, fun p ⟨hj1, hj2⟩ => ?_⟩
  obtain ⟨i, g⟩ := p
  have hle := kpt_len (x := x) (w := w) (hs := hs) (es := es) (ev := ev) (l := l) i
  refine VB_intro (fun h5 => NB_intro (decide_eq_true ?_) (NB_intro (gd_mA (hp _ ?_) rfl) (VB_intro (fun h2 => ?_) (fun h2 => VB_intro (fun h6 => NB_intro ?_ (NB_intro ?_ ?_)) (fun h6 => ?_))))) (fun h5 => ?_)
  ·have := of_decide_eq_true h5; simp only at *; omega
  ·have := of_decide_eq_true h5; simp only at *; omega
  ·have h2 : wnEi x w hs es ev l i ≠ 0 := bne_iff_ne.1 h2
   have h3 := firE_stop hj2 (by have := of_decide_eq_true h5; simp only at *; omega : i < l.length) h2
   rw [← hsE] at h3
   exact ⟨selV_n (by rw [h3]; exact h2), h3.symm⟩
  ·have hlt : i < l.length := by have := of_decide_eq_true h5; simp only at *; omega
   simp only [Bool.and_eq_true, decide_eq_true_eq]
   exact ⟨Nat.le_trans (hp i hlt) (by decide), List.all_eq_true.2 fun _ _ => rfl⟩
  ·simp [room]; omega
  ·have h2 : wnEi x w hs es ev l i = 0 := bne_eq_false_iff_eq.1 h2
   have hlt : i < l.length := by have := of_decide_eq_true h5; simp only at *; omega
   have hsu := kpt_succ (x := x) (w := w) (hs := hs) (es := es) (ev := ev) hlt
   rw [if_pos h6] at hsu
   have hsl : (kpt x w hs es ev l (i + 1)).length = (kpt x w hs es ev l i).length + 1 := by rw [hsu]; simp
   refine ⟨(i + 1, g + 1), ⟨hlt, by rw [firE_succ hj2]; exact h2⟩, by show l.length - (i + 1) < l.length - i; omega, ⟨⟨rfl, hsl.symm⟩, by rw [wrap_i64_id (by simp only; omega) (by simp only; omega)]; rfl⟩, rfl, hsl.symm, fun q hq => ?_⟩
   simp only [hsu]
   exact app_row (F := fun m : MatG => mA m.1) (L := kpt x w hs es ev l i) (a := l.getD i mtD) (d := mtD) hq (fun a => (mR _) ▸ trivial)
  ·have h2 : wnEi x w hs es ev l i = 0 := bne_eq_false_iff_eq.1 h2
   have hlt : i < l.length := by have := of_decide_eq_true h5; simp only at *; omega
   have hsu := kpt_succ (x := x) (w := w) (hs := hs) (es := es) (ev := ev) hlt
   rw [if_neg (by simpa using h6)] at hsu
   refine ⟨(i + 1, g), ⟨hlt, by rw [firE_succ hj2]; exact h2⟩, by show l.length - (i + 1) < l.length - i; omega, ?_⟩
   simp only [hsu]
   exact ⟨⟨⟨trivial, trivial⟩, by rw [wrap_i64_id (by omega) (by omega)]; rfl⟩, trivial, trivial, fun q hq => ⟨⟨trivial, fun _ _ => ⟨plA_refl _, trivial⟩⟩, trivial⟩⟩
  ·obtain rfl : i = l.length := by have := of_decide_eq_false h5; simp only at this hj1; omega
   have h0 := hsE.trans hj2
   rw [selV_f h0, h0]
   exact ⟨⟨rfl, fun q hq => ⟨⟨rfl, fun _ _ => ⟨plA_refl _, rfl⟩⟩, rfl⟩, fun h => by cases h⟩, rfl⟩
theorem selB_pure (hq : Lt x hs es) (he : evR ev) (hr : hsR hs) (l : List MatG) (h60 : ev.length ≤ 60) (h20 : l.length ≤ 20) (hp : ∀ i, i < l.length → (l.getD i mtD).1.length ≤ top64) : PureC Tryd.prog gN 36 [qA x w hs es, evsA ev, msA l] (.tup [msA (selV x w hs es ev l), .int .i64 (selE x w hs es ev l)]) :=
 pure_vcE (d := 5) mix (ESB_ok hq he hr l) (selB_sat x w hs es ev l h60 h20 hp)
end
theorem sameMM_ok : PureG Tryd.prog gN 20 cSMM := by
 intro args nd v he hnd
 unfold cSMM at he
 split at he <;> cases he
 rename_i a c
 simp only [Bool.and_eq_true] at hnd
 obtain ⟨h1, h2⟩ := hnd
 have k1 := isM_sub h1
 have k2 := isM_sub h2
 refine PureC.args (args' := [mA (psOf a), mA (psOf c)]) rfl (fun i hi => by
  match i, hi with
  | 0, _ => exact k1.1
  | 1, _ => exact k2.1
  | i + 2, hi => exact absurd hi (by simp)) ?_
 generalize psOf a = ps at k1
 generalize psOf c = qs at k2
 refine pure_vcG (d := 4) mix (tblG_nil _ _) ((sameMM_vc ps qs _).mpr ?_)
 simp only [mR, EqI, true_and, and_true, imp_self, implies_true, Int.toNat_natCast, Nat.zero_add, or_self]
 refine VB_intro (fun h => ?_) (fun h => ?_)
 ·have h : (ps.length : Int) ≠ qs.length := bne_iff_ne.1 h
  exact (decide_eq_false fun e => h (by rw [e])).symm
 ·have h : (ps.length : Int) = qs.length := bne_eq_false_iff_eq.1 h
  have hl : ps.length = qs.length := by omega
  refine ⟨⟨0, ⟨Nat.zero_le _, hl, fun j hj => by omega⟩, rfl⟩, fun i ⟨hi1, _, hi2⟩ => VB_intro (fun h1 => ?_) (fun h1 => ?_)⟩
  ·have hlt : i < ps.length := by have := of_decide_eq_true h1; omega
   have hb := k1.2
   refine NB_intro (decide_eq_true (by omega)) (NB_intro (decide_eq_true (by omega)) (VB_intro (fun h2 => ?_) (fun h2 => ?_)))
   ·refine (decide_eq_false fun e => ?_).symm
    subst e
    simp at h2
   ·have h3 : ps.getD i plD = qs.getD i plD := by
     generalize ps.getD i plD = p at h2
     generalize qs.getD i plD = q at h2
     obtain ⟨p1, p2, u⟩ := p
     obtain ⟨q1, q2, u'⟩ := q
     simp at h2
     rw [h2.1, h2.2]
    refine ⟨i + 1, ⟨hlt, hl, fun j hj => ?_⟩, by show ps.length - (i + 1) < ps.length - i; omega, by rw [wrap_i64_id (by omega) (by omega)]; omega⟩
    rcases Nat.lt_or_ge j i with h4 | h4
    ·exact hi2 j h4
    ·obtain rfl : j = i := by omega
     exact h3
  ·obtain rfl : i = ps.length := by have := of_decide_eq_false h1; omega
   refine (decide_eq_true ?_).symm
   apply List.ext_getElem hl
   intro j h2 h3
   have := hi2 j h2
   rwa [List.getD_eq_getElem?_getD, List.getElem?_eq_getElem h2, List.getD_eq_getElem?_getD, List.getElem?_eq_getElem h3] at this
end Go.Proofs.YtamcloifhjafcaaDoor
namespace Go.Proofs.YtamcloifhjafcaaDoor
open Pw Go
set_option maxRecDepth 100000
set_option linter.unusedSimpArgs false
theorem ownA_pure (a : AtomG) (h : (ac a).length ≤ 1000) : PureC Tryd.prog gN 106 [atomA a] (atomA a) := by
 refine pure_vcG (d := 4) mix (tblG_nil _ _) ((ownA_vc a).mpr (NB_intro ?_ ⟨rfl, rfl, rfl, ⟨Nat.zero_add _, fun i _ => ⟨⟨by rw [Nat.zero_add], by rw [Nat.zero_add], trivial⟩, rfl⟩, fun h => by cases h⟩, rfl, trivial⟩))
 rw [Nat.zero_add]
 simp [room]
 omega
theorem ownA_ok : PureG Tryd.prog gN 106 cOwnA := by
 intro args nd v he hnd
 unfold cOwnA at he
 split at he <;> cases he
 rename_i k bd bo cs nm
 simp only [Bool.and_eq_true, decide_eq_true_eq] at hnd
 refine PureC.args (args' := [atomA (k, bd, bo, elsOf condOf cs, nm, ())]) rfl (fun i hi => ?_) (ownA_pure _ hnd.2)
 match i, hi with
 | 0, _ => exact ⟨int_sub _ _, bool_sub _, int_sub _ _, els_sub cond_sub hnd.1, AV.str_sub _, trivial⟩
 | i + 1, hi => exact absurd hi (by simp)
theorem ownN_of {g : Nat} (h : ∀ x, litB g x = true → PureC Tryd.prog gN 69 [nodeA (g + 1) x] (nodeA (g + 1) x)) : PureG Tryd.prog gN 69 (cOwnN g) := by
 intro args nd v he hnd
 unfold cOwnN at he
 split at he <;> cases he
 refine pureN_node hnd fun x hx e => ?_
 rw [e]
 exact h x hx
theorem ownN_pure : ∀ (g : Nat) (x : NodeG), litB g x = true → PureC Tryd.prog gN 69 [nodeA (g + 1) x] (nodeA (g + 1) x)
  | 0, _, h => by cases h
  | g + 1, x, hl => by
    show PureC Tryd.prog gN 69 [nodeR g x] (nodeR g x)
    refine pure_vcG (d := 4) mix (tblG_cons ownA_ok (tblG_cons (ownN_of (ownN_pure g)) (tblG_nil _ _))) ((ownN_vc g x).mpr ?_)
    have hk40 := litB_kids hl
    have hc := litB_conds hl
    rw [conds_of]
    refine NB_intro (by rw [conds_is, Bool.true_and]; exact decide_eq_true (Nat.le_trans hc (by decide))) ?_
    simp only [nodeA_refl, ac, an, nat, EqI, true_and, and_true, imp_self, implies_true, Int.toNat_natCast, Nat.zero_add, or_self]
    refine ⟨⟨(0, 0), Nat.zero_le _, ⟨⟨rfl, rfl⟩, rfl⟩, rfl, rfl⟩, fun p hp => ?_⟩
    obtain ⟨i, gen⟩ := p
    have hp : i ≤ x.kids.length := hp
    refine VB_intro (fun h1 => ?_) (fun h1 => ?_)
    · have hlt : i < x.kids.length := by have := of_decide_eq_true h1; simp only at this; omega
      have hkl := litB_kid hl hlt
      refine NB_intro (decide_eq_true (by simp only; omega)) (NB_intro (isNode_of hkl (show g < g + 1 by omega)) (NB_intro (by simp [room]; omega) ⟨(i + 1, gen + 1), hlt, by show x.kids.length - (i + 1) < x.kids.length - i; omega, ?_⟩))
      simp only [nodeOf_of hkl (show g < g + 1 by omega)]
      exact ⟨⟨⟨trivial, trivial⟩, by rw [wrap_i64_id (by omega) (by omega)]; rfl⟩, trivial, trivial, sb_app (f := fun q => nodeA (g + 1) (x.kids.getD q treeD)) (G := fun q => nodeA (g + 1) (x.kids.getD q treeD)) (fun q _ => node_sb _ _) (node_sb _ _)⟩
    · obtain rfl : i = x.kids.length := by have := of_decide_eq_false h1; simp only at this; omega
      exact NB_intro (by simp) (by simp)
end Go.Proofs.YtamcloifhjafcaaDoor
namespace Go.Proofs.YtamcloifhjafcaaDoor
open Pw Go
set_option maxRecDepth 100000
set_option linter.unusedSimpArgs false
section
variable {x : NodeG} {w : Int} {hs hs' : List HaveG} {es : List AggG} {ev : List EvG} {ps : List PlG} {l : List MatG}
theorem getD_fst {i : Nat} (hi : i < l.length) : l.getD i mtD ∈ l := by
 rw [List.getD_eq_getElem?_getD, List.getElem?_eq_getElem hi]
 exact List.getElem_mem hi
theorem selE_0 (h : selE x w hs es ev l = 0) : chkE x w hs es = 0 ∧ (∀ m ∈ l, mE x w hs es ev m.1 = 0) ∧ ∀ m ∈ l, wnE x w hs es ev m.1 = 0 := by
 have h1 : chkE x w hs es = 0 := by
  by_cases h1 : chkE x w hs es = 0
  ·exact h1
  ·rw [selE_c h1] at h; omega
 have h2 : firE (mEi x w hs es ev l) l.length = 0 := by
  by_cases h2 : firE (mEi x w hs es ev l) l.length = 0
  ·exact h2
  ·rw [selE_m h1 h2] at h; omega
 rw [selE_w h1 h2] at h
 refine ⟨h1, fun m hm => ?_, fun m hm => ?_⟩
 ·obtain ⟨i, hi, rfl⟩ := List.mem_iff_getElem.1 hm
  have := firE_all h2 i hi
  simpa [mEi, List.getD, hi] using this
 ·obtain ⟨i, hi, rfl⟩ := List.mem_iff_getElem.1 hm
  have := firE_all h i hi
  simpa [wnEi, List.getD, hi] using this
theorem selE_mk (h1 : chkE x w hs es = 0) (h2 : ∀ m ∈ l, mE x w hs es ev m.1 = 0) (h3 : ∀ m ∈ l, wnE x w hs es ev m.1 = 0) : selE x w hs es ev l = 0 := by
 rw [selE_w h1 (firE_no fun i hi => h2 _ (getD_fst hi))]
 exact firE_no fun i hi => h3 _ (getD_fst hi)
theorem selV_0 (h : selE x w hs es ev l = 0) : selV x w hs es ev l = l.filter fun m => wnB x w hs es ev m.1 := by
 rw [selV_f h, kpt, List.take_length]
theorem selV_mem {m : MatG} (h : m ∈ selV x w hs es ev l) : m ∈ l := by
 unfold selV at h
 split at h
 ·cases h
 ·exact List.mem_of_mem_take (List.mem_filter.1 h).1
theorem selV_le : (selV x w hs es ev l).length ≤ l.length := by
 unfold selV
 split
 ·exact Nat.zero_le _
 ·exact kpt_len _
theorem sel_twice (h : selE x w hs es ev l = 0) : selE x w hs es ev (selV x w hs es ev l) = 0 ∧ selV x w hs es ev (selV x w hs es ev l) = selV x w hs es ev l := by
 obtain ⟨h1, h2, h3⟩ := selE_0 h
 have h4 : selE x w hs es ev (selV x w hs es ev l) = 0 := selE_mk h1 (fun m hm => h2 m (selV_mem hm)) fun m hm => h3 m (selV_mem hm)
 refine ⟨h4, ?_⟩
 rw [selV_0 h4, selV_0 h, List.filter_filter]
 congr 1
 funext m
 exact Bool.and_self _
theorem sel_all (h : selE x w [] es ev l = 0) : selV x w [] es ev l = l := by
 obtain ⟨h1, h2, h3⟩ := selE_0 h
 rw [selV_0 h, List.filter_eq_self]
 intro m hm
 rw [wnB, decide_eq_true (h3 m hm)]
 rfl
theorem mE_c (h : chkE x w hs es = 0) (h' : chkE x w hs' es = 0) : mE x w hs es ev ps = mE x w hs' es ev ps := by
 show mErr _ _ _ _ = mErr _ _ _ _
 rw [h, h']
theorem hB_c (h : chkE x w hs es = 0) (h' : chkE x w hs' es = 0) (a : HaveG) : hB x w hs es ev ps a = hB x w hs' es ev ps a := by
 have e := mE_c (ev := ev) (ps := ps) h h'
 show hvB (nmErr (mE x w hs es ev ps) _ _ _) _ _ _ (nmVal (mE x w hs es ev ps) _ _ _ _ _) = _
 rw [e]
theorem wn_more {h : HaveG} (h0 : wnE x w hs es ev ps = 0) (h1 : chkE x w hs es = 0) (h2 : chkE x w (hs ++ [h]) es = 0) (h3 : wnB x w (hs ++ [h]) es ev ps = true) : wnB x w hs es ev ps = true := by
 rw [wnB, Bool.and_eq_true] at h3 ⊢
 refine ⟨decide_eq_true h0, List.all_eq_true.2 fun i hi => ?_⟩
 have hi : i < hs.length := by simpa using hi
 have h4 := List.all_eq_true.1 h3.2 i (by simp; omega)
 have e : (hs ++ [h]).getD i haveD = hs.getD i haveD := getD_app1 hi
 have h5 : hB x w (hs ++ [h]) es ev ps ((hs ++ [h]).getD i haveD) = true := h4
 rw [e, hB_c h2 h1] at h5
 exact h5
theorem sel_more {h : HaveG} (h0 : selE x w hs es ev l = 0) (h1 : selE x w (hs ++ [h]) es ev l = 0) : List.Sublist (selV x w (hs ++ [h]) es ev l) (selV x w hs es ev l) := by
 have k0 := selE_0 h0
 have k1 := selE_0 h1
 have e : selV x w (hs ++ [h]) es ev l = (selV x w hs es ev l).filter fun m => wnB x w (hs ++ [h]) es ev m.1 := by
  rw [selV_0 h0, selV_0 h1, List.filter_filter]
  refine List.filter_congr fun m hm => ?_
  rw [Bool.eq_iff_iff, Bool.and_eq_true]
  exact ⟨fun g => ⟨g, wn_more (k0.2.2 m hm) k0.1 k1.1 g⟩, fun g => g.1⟩
 rw [e]
 exact List.filter_sublist
end
noncomputable def cntS (x : NodeG) (w : Int) (hs : List HaveG) (es : List AggG) (ev : List EvG) (A : List AtomG) (ps : List PlG) : Nat → Int
 | 0 => 0
 | k + 1 => if an (A.getD k atomD) = [] then cntS x w hs es ev A ps k else if nE x w hs es ev ps (an (A.getD k atomD)) = 0 then cntS x w hs es ev A ps k + (nV x w hs es ev ps (an (A.getD k atomD))).length else cntS x w hs es ev A ps k
theorem count_or {α : Type} {q r : α → Bool} (h : ∀ p, q p = true → r p = false) : ∀ L : List α, L.countP q + L.countP r = L.countP fun p => q p || r p
 | [] => rfl
 | a :: L => by
  have ih := count_or h L
  simp only [List.countP_cons]
  cases h1 : q a
  ·simp only [Bool.false_or, Bool.false_eq_true, if_false]
   omega
  ·rw [h a h1]
   simp only [Bool.true_or, if_true, Bool.false_eq_true, if_false]
   omega
section
variable {x : NodeG} {w : Int} {hs : List HaveG} {es : List AggG} {ev : List EvG} {ps : List PlG} {A : List AtomG}
def hasN (A : List AtomG) (k : Nat) (p : PlG) : Bool := (List.range k).any fun j => !(an (A.getD j atomD) == []) && isNm A (an (A.getD j atomD)) p
theorem hasN_succ (A : List AtomG) (k : Nat) (p : PlG) : hasN A (k + 1) p = (hasN A k p || (!(an (A.getD k atomD) == []) && isNm A (an (A.getD k atomD)) p)) := by
 simp [hasN, List.range_succ, List.any_append]
theorem nV_cnt (nm : List UInt8) : (nV x w hs es ev ps nm).length ≤ ps.countP (isNm (atomsL 8 x) nm) := by
 unfold nV nmVal
 split
 ·rw [vlK, List.length_map, List.take_length, List.countP_eq_length_filter]
  exact Nat.le_refl _
 ·exact Nat.zero_le _
theorem cnt_le (hA : A = atomsL 8 x) (hd : ∀ i j, i < j → j < A.length → an (A.getD i atomD) = [] ∨ an (A.getD i atomD) ≠ an (A.getD j atomD)) : ∀ k, k ≤ A.length → 0 ≤ cntS x w hs es ev A ps k ∧ cntS x w hs es ev A ps k ≤ ps.countP (hasN A k)
 | 0, _ => ⟨Int.le_refl _, by simp [cntS]⟩
 | k + 1, hk => by
  have ih := cnt_le hA hd k (by omega)
  have e : (fun p => hasN A (k + 1) p) = fun p => hasN A k p || (!(an (A.getD k atomD) == []) && isNm A (an (A.getD k atomD)) p) := by funext p; exact hasN_succ A k p
  have hm : ps.countP (hasN A k) ≤ ps.countP (hasN A (k + 1)) := List.countP_mono_left fun p _ hp => by rw [hasN_succ, hp]; rfl
  rw [cntS]
  split
  ·exact ⟨ih.1, by omega⟩
  ·rename_i hne
   split
   ·have hb : (!(an (A.getD k atomD) == [])) = true := by simpa using hne
    have h1 := count_or (q := hasN A k) (r := fun p => !(an (A.getD k atomD) == []) && isNm A (an (A.getD k atomD)) p) (fun p hp => by
     obtain ⟨j, hj, hp⟩ := List.any_eq_true.1 hp
     rw [Bool.and_eq_true] at hp
     rw [hb, Bool.true_and, Bool.eq_false_iff]
     intro hc
     have hj : j < k := by simpa using hj
     have e1 : an (A.getD p.2.1.toNat atomD) = an (A.getD j atomD) := by simpa [isNm] using hp.2
     have e2 : an (A.getD p.2.1.toNat atomD) = an (A.getD k atomD) := by simpa [isNm] using hc
     rcases hd j k hj (by omega) with h | h
     ·have h5 := hp.1; rw [h] at h5; exact absurd h5 (by decide)
     ·exact h (e1.symm.trans e2)) ps
    rw [← e] at h1
    have h2 := nV_cnt (x := x) (w := w) (hs := hs) (es := es) (ev := ev) (ps := ps) (an (A.getD k atomD))
    rw [← hA] at h2
    simp only [hb, Bool.true_and] at h1
    have h3 : ps.countP (isNm A (an (A.getD k atomD))) = ps.countP fun p => isNm A (an (A.getD k atomD)) p := rfl
    have h4 : ps.countP (hasN A (k + 1)) = ps.countP fun p => hasN A (k + 1) p := rfl
    omega
   ·exact ⟨ih.1, by omega⟩
theorem cnt_len (hA : A = atomsL 8 x) (hd : ∀ i j, i < j → j < A.length → an (A.getD i atomD) = [] ∨ an (A.getD i atomD) ≠ an (A.getD j atomD)) (k : Nat) (hk : k ≤ A.length) : 0 ≤ cntS x w hs es ev A ps k ∧ cntS x w hs es ev A ps k ≤ ps.length := by
 have h := cnt_le (x := x) (w := w) (hs := hs) (es := es) (ev := ev) (ps := ps) hA hd k hk
 have := List.countP_le_length (p := hasN A k) (l := ps)
 omega
end
def mtK (B C : List MatG) : Nat → Nat
 | 0 => 0
 | i + 1 => if mtK B C i < C.length ∧ (B.getD i mtD).1 = (C.getD (mtK B C i) mtD).1 then mtK B C i + 1 else mtK B C i
theorem sub_cases {α : Type} {a b : α} {l l' : List α} (h : List.Sublist (a :: l) (b :: l')) : List.Sublist (a :: l) l' ∨ a = b ∧ List.Sublist l l' := by
 generalize e1 : a :: l = L at h
 generalize e2 : b :: l' = L' at h
 cases h with
 | slnil => cases e1
 | cons _ h => cases e2; exact .inl h
 | cons_cons _ h => cases e1; cases e2; exact .inr ⟨rfl, h⟩
theorem drop_getD {α : Type} {L : List α} {d : α} {i : Nat} (hi : i < L.length) : L.drop i = L.getD i d :: L.drop (i + 1) := by
 rw [List.drop_eq_getElem_cons hi, List.getD_eq_getElem?_getD, List.getElem?_eq_getElem hi]
 rfl
theorem mtK_step {B C : List MatG} {i : Nat} (hi : i < B.length) (h : mtK B C i ≤ C.length ∧ List.Sublist (C.drop (mtK B C i)) (B.drop i)) : mtK B C (i + 1) ≤ C.length ∧ List.Sublist (C.drop (mtK B C (i + 1))) (B.drop (i + 1)) := by
 obtain ⟨h1, h2⟩ := h
 rw [drop_getD (d := mtD) hi] at h2
 rw [mtK]
 split
 ·rename_i h3
  refine ⟨h3.1, ?_⟩
  rw [drop_getD (d := mtD) h3.1] at h2
  rcases sub_cases h2 with h | h
  ·exact (List.sublist_cons_self _ _).trans h
  ·exact h.2
 ·rename_i h3
  refine ⟨h1, ?_⟩
  rcases Nat.lt_or_ge (mtK B C i) C.length with h4 | h4
  ·rw [drop_getD (d := mtD) h4] at h2 ⊢
   rcases sub_cases h2 with h | h
   ·exact h
   ·exact absurd ⟨h4, by rw [h.1]⟩ h3
  ·rw [List.drop_eq_nil_of_le h4]
   exact List.nil_sublist _
end Go.Proofs.YtamcloifhjafcaaDoor
namespace Go.Proofs.YtamcloifhjafcaaDoor
open Pw Go
set_option maxRecDepth 100000
set_option linter.unusedSimpArgs false
theorem own16_pure {x : NodeG} (h : litB 8 x = true) : PureC Tryd.prog gN 69 [nodeA 16 x] (nodeA 16 x) :=
 PureC.result (at16 (ownN_pure 8 x h)) (nodeA_up 8 9 16 x (litB_dep 8 x h) (by decide) (by decide))
theorem kq_names (l : List Int) : ∀ i j, i < j → j < (atomsL 8 (kqX l)).length → an ((atomsL 8 (kqX l)).getD i atomD) = [] ∨ an ((atomsL 8 (kqX l)).getD i atomD) ≠ an ((atomsL 8 (kqX l)).getD j atomD) := by
 intro i j hij hj
 have hn := kqLv_nm l
 rw [kqA_at] at hj ⊢
 rw [List.length_map] at hj
 have h1 := nmOf_map (L := kqLv l) (j := i) (by omega)
 have h2 := nmOf_map (L := kqLv l) (j := j) hj
 unfold nmOf at h1 h2
 rw [h1, h2]
 exact (List.pairwise_iff_getElem.1 hn.two) i j (by omega) hj hij
theorem kq_kn (l : List Int) {s : List UInt8} (h : s ∈ qNn l) : knK (atomsL 8 (kqX l)) (negL 8 (kqX l)) s (atomsL 8 (kqX l)).length = true := by
 have hn := kqLv_nm l
 obtain ⟨y, hy, e⟩ := hn.thr s h
 have hk : nk y = 1 := by
  rcases hn.one y hy with h1 | ⟨h1, _⟩
  ·rw [e] at h1
   have := nm_len h
   rw [h1] at this
   cases this
  ·exact h1
 obtain ⟨j, hj, rfl⟩ := List.mem_iff_getElem.1 hy
 refine List.any_eq_true.2 ⟨j, by simp [kqA_at, hj], ?_⟩
 rw [kqA_at, kqN_at, Bool.and_eq_true]
 refine ⟨?_, ?_⟩
 ·have := nmOf_map (L := kqLv l) hj
  unfold nmOf at this
  rw [this, e]
  simp
 ·simp [List.getD, hj]
  omega
section
variable {l : List Int} {ev : List EvG} {ps : List PlG}
theorem wn_kq (h : mE (kqX l) (kqW l) (kqHs l) (kqEs l) ev ps = 0) : wnE (kqX l) (kqW l) (kqHs l) (kqEs l) ev ps = 0 := by
 rw [wnE, if_neg (by simp [h])]
 refine firE_no fun i hi => ?_
 obtain ⟨k, hk, e, hm⟩ := kqH_have l _ (getD_mem (d := haveD) hi)
 have h1 : nE (kqX l) (kqW l) (kqHs l) (kqEs l) ev ps ((kqHs l).getD i haveD).1.2.1 = 0 := by
  show nmErr _ _ _ _ = 0
  rw [nmErr, if_neg (by simp [h]), kq_kn l hm]
  rfl
 show hvE (nE (kqX l) (kqW l) (kqHs l) (kqEs l) ev ps ((kqHs l).getD i haveD).1.2.1) _ _ = 0
 rw [h1, hvE, if_neg (by decide)]
 generalize (kqHs l).getD i haveD = a at e
 subst e
 have h2 := Int.emod_nonneg k (show (6 : Int) ≠ 0 by decide)
 have h3 := Int.emod_lt_of_pos k (show (0 : Int) < 6 by decide)
 have h4 := Int.emod_nonneg (k / 180) (show (6 : Int) ≠ 0 by decide)
 have h5 := Int.emod_lt_of_pos (k / 180) (show (0 : Int) < 6 by decide)
 show (if 1 + k % 6 < 1 ∨ 6 < 1 + k % 6 then 11 else satE (1 + k / 180 % 6)) = 0
 rw [if_neg (show ¬(1 + k % 6 < 1 ∨ 6 < 1 + k % 6) by omega)]
 rw [satE, if_pos (by omega)]
theorem sel_kq {m : List MatG} (h : selE (kqX l) (kqW l) [] (kqEs l) ev m = 0) : selE (kqX l) (kqW l) (kqHs l) (kqEs l) ev m = 0 := by
 obtain ⟨h1, h2, h3⟩ := selE_0 h
 have key : ∀ a ∈ m, mE (kqX l) (kqW l) (kqHs l) (kqEs l) ev a.1 = 0 := fun a ha => by rw [mE_c (chk_kq l) h1]; exact h2 a ha
 exact selE_mk (chk_kq l) key fun a ha => wn_kq (key a ha)
end
def HFn (hs : List HaveG) (h : HaveG) (n : Nat) : List HaveG := if n = 0 then [] else if n = hs.length then hs else hs ++ [h]
theorem HF_n (hs : List HaveG) (h : HaveG) : HFn hs h hs.length = hs := by
 unfold HFn
 split
 ·exact (List.length_eq_zero_iff.1 (by assumption)).symm
 ·simp
theorem HF_s (hs : List HaveG) (h : HaveG) : HFn hs h (hs.length + 1) = hs ++ [h] := by
 unfold HFn
 rw [if_neg (by omega), if_neg (by omega)]
section
variable (l : List Int) (ev : List EvG) (m : List MatG) (h : HaveG)
def VFx (n : Nat) : List MatG := selV (kqX l) (kqW l) (HFn (kqHs l) h n) (kqEs l) ev m
def EFx (n : Nat) : Int := selE (kqX l) (kqW l) (HFn (kqHs l) h n) (kqEs l) ev m
def OkS (q e mm : AV) : Prop := m.length ≤ 20 ∧ ev.length ≤ 60 ∧ h.1.2.1.length ≤ 30 ∧ e = evsA ev ∧ ∃ n, (n = 0 ∨ n = (kqHs l).length ∨ n = (kqHs l).length + 1) ∧ q.sub (qA (kqX l) (kqW l) (HFn (kqHs l) h n) (kqEs l)) ∧
 (mm = msA m ∨ n = (kqHs l).length ∧ EFx l ev m h n = 0 ∧ mm = msA (VFx l ev m h n))
noncomputable def okS (q e mm : AV) : Bool := @decide (OkS l ev m h q e mm) (Classical.propDecidable _)
def P0x (i : Nat) : Prop := i ≤ m.length
def P4x (i : Nat) : Prop := i ≤ (VFx l ev m h (kqHs l).length).length ∧ mtK (VFx l ev m h (kqHs l).length) (VFx l ev m h ((kqHs l).length + 1)) i ≤ (VFx l ev m h ((kqHs l).length + 1)).length ∧
 List.Sublist ((VFx l ev m h ((kqHs l).length + 1)).drop (mtK (VFx l ev m h (kqHs l).length) (VFx l ev m h ((kqHs l).length + 1)) i)) ((VFx l ev m h (kqHs l).length).drop i)
noncomputable def ESx : Env := ESL l (kqX l) (kqW l) (kqHs l) (kqEs l) ev m h (atomsL 8 (kqX l)) (VFx l ev m h) (EFx l ev m h) (okS l ev m h) (fun i k => cntS (kqX l) (kqW l) (kqHs l) (kqEs l) ev (atomsL 8 (kqX l)) (m.getD i.toNat mtD).1 k)
 (mtK (VFx l ev m h (kqHs l).length) (VFx l ev m h ((kqHs l).length + 1))) (P0x m) (P4x l ev m h)
end
section
variable {l : List Int} {ev : List EvG} {m : List MatG} {h : HaveG}
theorem lt_HF (h30 : h.1.2.1.length ≤ 30) {n : Nat} : Lt (kqX l) (HFn (kqHs l) h n) (kqEs l) := by
 have hq := Lt.of (light_kq l)
 have h3 := kqHs_len l
 refine ⟨hq.lit, ?_, hq.few⟩
 have ⟨n1, n2, n3, n4⟩ := hq.nms
 unfold HFn
 split
 ·exact ⟨Nat.zero_le _, n2, fun i hi => absurd hi (Nat.not_lt_zero i), n4⟩
 ·split
  ·exact hq.nms
  ·refine ⟨by simp; omega, n2, fun i hi => ?_, n4⟩
   rw [List.length_append, List.length_singleton] at hi
   rcases Nat.lt_or_ge i (kqHs l).length with h1 | h1
   ·rw [getD_app1 h1]; exact n3 i h1
   ·obtain rfl : i = (kqHs l).length := by omega
    have := getD_appn (L := kqHs l) (R := [h]) (d := haveD) (q := 0)
    rw [Nat.add_zero] at this
    rw [this]
    exact h30
theorem hr_kq : hsR (kqHs l) := fun i hi => by
 obtain ⟨k, hk, e, _⟩ := kqH_have l _ (getD_mem (d := haveD) hi)
 generalize (kqHs l).getD i haveD = a at e
 subst e
 show rng64 (1 + k % 6)
 have h2 := Int.emod_nonneg k (show (6 : Int) ≠ 0 by decide)
 have h3 := Int.emod_lt_of_pos k (show (0 : Int) < 6 by decide)
 simp only [rng64]
 omega
theorem hr_HF (hh : rng64 h.1.1) {n : Nat} : hsR (HFn (kqHs l) h n) := by
 unfold HFn
 split
 ·exact fun i hi => absurd hi (Nat.not_lt_zero i)
 ·split
  ·exact hr_kq
  ·intro i hi
   rw [List.length_append, List.length_singleton] at hi
   rcases Nat.lt_or_ge i (kqHs l).length with h1 | h1
   ·rw [getD_app1 h1]; exact hr_kq i h1
   ·obtain rfl : i = (kqHs l).length := by omega
    have := getD_appn (L := kqHs l) (R := [h]) (d := haveD) (q := 0)
    rw [Nat.add_zero] at this
    rw [this]
    exact hh
theorem HF_len {n : Nat} (hn : n = 0 ∨ n = (kqHs l).length ∨ n = (kqHs l).length + 1) : (HFn (kqHs l) h n).length = n := by
 rcases hn with rfl | rfl | rfl
 ·rfl
 ·rw [HF_n]
 ·rw [HF_s]; simp
theorem qsub_at {L : List AV} {x : NodeG} {w : Int} {hs : List HaveG} {es : List AggG} (h : (AV.agg L).sub (qA x w hs es)) : (L.getD 10 .undef).sub (.rof hs.length (fun i => haveA (hs.getD i haveD)) false) :=
 (subL_at _ _ (show AV.subL L _ from h)).2 10 (by first | exact (by decide : 10 < 12) | (rw [(subL_at _ _ (show AV.subL L _ from h)).1]; exact (by decide : 10 < 12)))
theorem cSel_ok (he : evR ev) (hh : rng64 h.1.1) (hp : ∀ i, i < m.length → (m.getD i mtD).1.length ≤ top64) : PureG Tryd.prog gN 36 (cSel (VFx l ev m h) (EFx l ev m h) (okS l ev m h)) := by
 have main : ∀ (L : List AV) (e mm : AV) (n : Nat), okS l ev m h (.agg L) e mm = true → (∀ k f, (L.getD 10 .undef).sub (.rof k f false) → k = n) → PureC Tryd.prog gN 36 [.agg L, e, mm] (.tup [msA (VFx l ev m h n), .int .i64 (EFx l ev m h n)]) := by
  intro L e mm n hok hn
  obtain ⟨h20, h60, h30, rfl, n', hn', hq, hm⟩ := @of_decide_eq_true _ (Classical.propDecidable _) hok
  have hk := hn _ _ (qsub_at hq)
  rw [HF_len hn'] at hk
  subst hk
  have sa : ∀ mm' : AV, mm'.sub mm' → ∀ i, i < [AV.agg L, evsA ev, mm'].length → ([AV.agg L, evsA ev, mm'].getD i .undef).sub ([qA (kqX l) (kqW l) (HFn (kqHs l) h n') (kqEs l), evsA ev, mm'].getD i .undef) := fun mm' hmm i hi => by
   match i, hi with
   | 0, _ => exact hq
   | 1, _ => exact evsA_refl
   | 2, _ => exact hmm
   | i + 3, hi => exact absurd hi (by simp)
  have hlt := lt_HF (l := l) h30 (n := n')
  have hhr := hr_HF (l := l) hh (n := n')
  rcases hm with rfl | ⟨rfl, h0, rfl⟩
  ·exact PureC.args (args' := [qA (kqX l) (kqW l) (HFn (kqHs l) h n') (kqEs l), evsA ev, msA m]) rfl (sa _ ((msR m) ▸ trivial)) (selB_pure (w := kqW l) hlt he hhr m h60 h20 hp)
  ·refine PureC.args (args' := [qA (kqX l) (kqW l) (HFn (kqHs l) h (kqHs l).length) (kqEs l), evsA ev, msA (VFx l ev m h (kqHs l).length)]) rfl (sa _ ((msR _) ▸ trivial)) ?_
   have h1 := sel_twice (l := m) h0
   have h2 := selB_pure (w := kqW l) hlt he hhr (VFx l ev m h (kqHs l).length) h60 (Nat.le_trans selV_le h20) (fun i hi => by
    obtain ⟨j, hj, e⟩ := List.mem_iff_getElem.1 (selV_mem (getD_fst hi))
    have := hp j hj
    rw [List.getD_eq_getElem?_getD, List.getElem?_eq_getElem hj] at this
    show ((selV _ _ _ _ _ _).getD i mtD).1.length ≤ _
    rw [← e]
    exact this)
   unfold VFx at h2 ⊢
   rw [h1.2, h1.1] at h2
   have h3 : EFx l ev m h (kqHs l).length = 0 := h0
   rw [h3]
   exact h2
 intro args nd v he' hnd
 unfold cSel at he'
 split at he'
 ·rename_i L e mm
  split at he'
  ·rename_i hL
   cases he'
   exact main L e mm 0 hnd fun k f hs => by rw [hL] at hs; exact hs
  ·rename_i n f ex hL
   cases he'
   exact main L e mm n hnd fun k f hs => by rw [hL] at hs; exact hs.1.symm
  ·cases he'
 ·cases he'
theorem ESx_ok (hl : ok64 l) (he : evR ev) (hh : rng64 h.1.1) (hp : ∀ i, i < m.length → (m.getD i mtD).1.length ≤ top64) : CtrOK (ESx l ev m h) := by
 have hq := Lt.of (light_kq l)
 refine ⟨(mkG_ctr (P := Tryd.prog) (gl := gN) (inv := fun _ _ => none) (n := 0) (tblG_cons (cAt_ok (query_pure l hl)) (tblG_cons awake_ok (tblG_cons (cAt_ok ?_) (tblG_cons (cAt_ok (own16_pure hq.lit)) (tblG_cons (cSel_ok he hh hp) (tblG_cons (nam_of fun _ _ s hp => namedI_pure hq hp s) (tblG_cons sameMM_ok (tblG_nil _ _))))))))).1, (mkG_ctr (P := Tryd.prog) (gl := gN) (inv := fun _ _ => none) (n := 0) (tblG_nil Tryd.prog gN)).2⟩
 have := at16 (atomsR_pure (kqX l) hq.lit hq.lv)
 rwa [show sndE (kqX l) = 0 by rw [sndE, if_pos (sndB_kq l)]] at this
end
end Go.Proofs.YtamcloifhjafcaaDoor
namespace Go.Proofs.YtamcloifhjafcaaDoor
open Pw Go
set_option maxRecDepth 100000
set_option linter.unusedSimpArgs false
theorem okS_of {l : List Int} {ev : List EvG} {m : List MatG} {h : HaveG} {q mm : AV} (n : Nat) (h20 : m.length ≤ 20) (h60 : ev.length ≤ 60) (h30 : h.1.2.1.length ≤ 30) (hn : n = 0 ∨ n = (kqHs l).length ∨ n = (kqHs l).length + 1)
  (hq : q.sub (qA (kqX l) (kqW l) (HFn (kqHs l) h n) (kqEs l))) (hm : mm = msA m ∨ n = (kqHs l).length ∧ EFx l ev m h n = 0 ∧ mm = msA (VFx l ev m h n)) : okS l ev m h q (evsA ev) mm = true :=
 @decide_eq_true _ (Classical.propDecidable _) ⟨h20, h60, h30, rfl, n, hn, hq, hm⟩
def allA (x : NodeG) (w : Int) (es : List AggG) (b : Bool) : AV := .agg [.int .i64 (nk x), .int .i64 (nmn x), .int .i64 (nmx x), .int .i64 (nat x).1, .bool (nat x).2.1, .int .u64 (nat x).2.2.1, condsA (ac (nat x)), .str (an (nat x)), .rof x.kids.length (fun i => nodeA 15 (x.kids.getD i treeD)) false,
  .int .u64 w, .nils, .rof es.length (fun k => aggA (es.getD k aggD)) b]
theorem all_sub (x : NodeG) (w : Int) (es : List AggG) (b : Bool) : (allA x w es b).sub (qA x w [] es) :=
 ⟨int_sub _ _, int_sub _ _, int_sub _ _, int_sub _ _, bool_sub _, int_sub _ _, ⟨rfl, fun i _ => ⟨⟨rfl, rfl, trivial⟩, rfl⟩, fun h => h⟩, AV.str_sub _, ⟨rfl, fun i hi => ⟨nodeA_sub 15 0 _, rfl⟩, fun h => h⟩, int_sub _ _, rfl, ⟨rfl, fun i _ => ⟨⟨int_sub _ _, AV.str_sub _, trivial⟩, rfl⟩, fun h => by cases h⟩, trivial⟩
theorem selects_sat (l : List Int) (ev : List EvG) (m : List MatG) (h : HaveG) :
  (vcFun (ESx l ev m h) 40 7 [iqA l, evsA ev, msA m, haveA h] .nil 0 (isBool true)).sat := by
 refine (selects_vc l (kqX l) (kqW l) (kqHs l) (kqEs l) ev m h _ _ _ _ _ _ _ _).mpr ?_
 simp only [qA_refl, evsR, msR, atsWR, nodeA_refl, EqI, true_and, and_true, imp_self, implies_true, Int.toNat_natCast, Nat.zero_add, or_self, psOf_mA, NB_t, Bool.true_and, Bool.and_true, decide_true]
 refine NB_intro (atB_self _) (VB_intro (fun _ => trivial) (fun hb => ?_))
 simp only [Bool.or_eq_false_iff, decide_eq_false_iff_not] at hb
 have h20 : m.length ≤ 20 := by omega
 have h60 : ev.length ≤ 60 := by omega
 have h30 : h.1.2.1.length ≤ 30 := by omega
 have l3 := kqHs_len l
 have l4 := kqEs_len l
 refine NB_intro (atB_self _) (NB_intro (atB_self _) (NB_intro (by simp [room]; omega) (NB_intro (by simp [room]; omega) (NB_intro (by simp [room]; omega) (NB_intro (atB_self _) (NB_intro (by simp [room]; omega) (NB_intro (by simp [room]; omega) (NB_intro ?_ (VB_intro (fun _ => trivial) (fun h0 => ?_))))))))))
 ·refine Eq.mp (α := okS l ev m h (allA (kqX l) (kqW l) (kqEs l) (decide (none = some ((kqEs l).length)))) (evsA ev) (msA m) = true) ?_ (okS_of 0 h20 h60 h30 (.inl rfl) ?_ (.inl rfl))
  ·kernel_rfl
  ·exact all_sub _ _ _ _
 ·have hE0 : EFx l ev m h 0 = 0 := bne_eq_false_iff_eq.1 h0
  have hEn : EFx l ev m h (kqHs l).length = 0 := by
   unfold EFx
   rw [HF_n]
   exact sel_kq hE0
  have hV0 : VFx l ev m h 0 = m := sel_all hE0
  have k0 := selE_0 hE0
  have hps : ∀ a ∈ m, a.1.length ≤ 60 := fun a ha => Nat.le_trans (mErr_len (k0.2.1 a ha)) h60
  have hA11 : (atomsL 8 (kqX l)).length ≤ 11 := by rw [kqA_at, List.length_map]; exact kqLv_len l
  have hle : (VFx l ev m h (kqHs l).length).length ≤ m.length := selV_le
  have hqn : (qA (kqX l) (kqW l) (kqHs l) (kqEs l)).sub (qA (kqX l) (kqW l) (HFn (kqHs l) h (kqHs l).length) (kqEs l)) := by
   rw [HF_n]
   exact (qA_refl _ _ _ _) ▸ trivial
  refine NB_intro (okS_of _ h20 h60 h30 (.inr (.inl rfl)) hqn (.inl rfl)) (VB_intro (fun h1 => ?_) (fun h1 => NB_intro (okS_of _ h20 h60 h30 (.inr (.inl rfl)) hqn (.inr ⟨rfl, hEn, rfl⟩)) (VB_intro (fun h2 => ?_) (fun h2 => ⟨⟨0, Nat.zero_le _, ?_⟩, fun i hi => VB_intro (fun h3 => ?_) (fun h3 => ?_)⟩))))
  ·rw [hV0, hEn] at h1
   simp at h1
   omega
  ·rw [hEn] at h2
   simp at h2
  ·have hS : ∀ x : HaveG, (haveA x).sub (haveA x) := fun x => ⟨int_sub _ _, AV.str_sub _, int_sub _ _, int_sub _ _, trivial⟩
   exact ⟨⟨⟨by simp, sb_one (F := haveA) (L := kqHs l) (a := h) (d := haveD) hS ⟨hS h, rfl⟩, fun h => by cases h⟩, fun h => by cases h⟩, rfl⟩
  ·rw [hV0] at h3 ⊢
   have hlt : i < m.length := by have := of_decide_eq_true h3; omega
   have hm60 := hps _ (getD_fst hlt)
   have hAB := hA11
   refine ⟨⟨0, Nat.zero_le _, rfl, rfl⟩, fun k hk => VB_intro (fun h4 => ?_) (fun h4 => ?_)⟩
   ·have hkl : k < (atomsL 8 (kqX l)).length := by have := of_decide_eq_true h4; omega
    have c1 := cnt_len (x := kqX l) (w := kqW l) (hs := kqHs l) (es := kqEs l) (ev := ev) (ps := (m.getD i mtD).1) rfl (kq_names l) (k + 1) hkl
    refine NB_intro (decide_eq_true (by omega)) (VB_intro (fun h5 => ?_) (fun h5 => NB_intro (decide_eq_true (by omega)) (NB_intro (decide_eq_true (by omega)) (NB_intro (gd_mA hm60 rfl) (VB_intro (fun h6 => ?_) (fun h6 => ?_))))))
    ·have h5 : an ((atomsL 8 (kqX l)).getD k atomD) = [] := by simpa using h5
     refine ⟨k + 1, hkl, by show (atomsL 8 (kqX l)).length - (k + 1) < (atomsL 8 (kqX l)).length - k; omega, ?_, by rw [wrap_i64_id (by omega) (by omega)]; rfl⟩
     rw [cntS, if_pos h5]
    ·have h5 : an ((atomsL 8 (kqX l)).getD k atomD) ≠ [] := by simpa using h5
     have h6 : nE (kqX l) (kqW l) (kqHs l) (kqEs l) ev (m.getD i mtD).1 (an ((atomsL 8 (kqX l)).getD k atomD)) = 0 := by simpa using h6
     have e : cntS (kqX l) (kqW l) (kqHs l) (kqEs l) ev (atomsL 8 (kqX l)) (m.getD i mtD).1 (k + 1) = cntS (kqX l) (kqW l) (kqHs l) (kqEs l) ev (atomsL 8 (kqX l)) (m.getD i mtD).1 k + (nV (kqX l) (kqW l) (kqHs l) (kqEs l) ev (m.getD i mtD).1 (an ((atomsL 8 (kqX l)).getD k atomD))).length := by
      rw [cntS, if_neg h5, if_pos h6]
     refine ⟨k + 1, hkl, by show (atomsL 8 (kqX l)).length - (k + 1) < (atomsL 8 (kqX l)).length - k; omega, ?_, by rw [wrap_i64_id (by omega) (by omega)]; rfl⟩
     rw [← e]
     exact wrap_i64_id (by omega) (by omega)
    ·have h5 : an ((atomsL 8 (kqX l)).getD k atomD) ≠ [] := by simpa using h5
     have h6 : nE (kqX l) (kqW l) (kqHs l) (kqEs l) ev (m.getD i mtD).1 (an ((atomsL 8 (kqX l)).getD k atomD)) ≠ 0 := by simpa using h6
     refine ⟨k + 1, hkl, by show (atomsL 8 (kqX l)).length - (k + 1) < (atomsL 8 (kqX l)).length - k; omega, ?_, by rw [wrap_i64_id (by omega) (by omega)]; rfl⟩
     rw [cntS, if_neg h5, if_neg h6]
   ·have hd : decide ((0 : Int) ≤ (i : Int) ∧ (i : Int) < m.length) = true := decide_eq_true (by omega)
    have c1 := cnt_len (x := kqX l) (w := kqW l) (hs := kqHs l) (es := kqEs l) (ev := ev) (ps := (m.getD i mtD).1) rfl (kq_names l) k hk
    rw [hd, isM_mA hm60]
    simp only [NB_t, decide_true, Bool.not_true, Bool.false_or, Bool.and_self, isW_f, Bool.not_false]
    refine NB_intro (impB_t.2 fun _ => rfl) (VB_intro (fun h5 => ?_) (fun _ => ⟨i + 1, hlt, by show m.length - (i + 1) < m.length - i; omega, by rw [wrap_i64_id (by omega) (by omega)]; rfl⟩))
    have := of_decide_eq_true h5
    omega
  ·have e1 : (kqHs l ++ [h]).length = (kqHs l).length + 1 := by simp
   rw [e1]
   refine NB_intro (okS_of ((kqHs l).length + 1) h20 h60 h30 (.inr (.inr rfl)) (by rw [HF_s]; exact (qA_refl _ _ _ _) ▸ trivial) (.inl rfl)) (VB_intro (fun _ => trivial) (fun h4 => ?_))
   have hEs : EFx l ev m h ((kqHs l).length + 1) = 0 := bne_eq_false_iff_eq.1 h4
   have hsub : List.Sublist (VFx l ev m h ((kqHs l).length + 1)) (VFx l ev m h (kqHs l).length) := by
    unfold VFx EFx at *
    rw [HF_n] at *
    rw [HF_s] at *
    exact sel_more hEn hEs
   have hb1 : ∀ n j, j < (VFx l ev m h n).length → ((VFx l ev m h n).getD j mtD).1.length ≤ 60 := fun n j hj => hps _ (selV_mem (getD_fst hj))
   have hle2 : (VFx l ev m h ((kqHs l).length + 1)).length ≤ m.length := selV_le
   refine ⟨⟨0, ⟨Nat.zero_le _, Nat.zero_le _, hsub⟩, ⟨rfl, fun i _ => ⟨⟨rfl, fun j _ => ⟨⟨rfl, rfl⟩, rfl⟩⟩, rfl⟩⟩, rfl, rfl⟩, fun i hi => ?_⟩
   obtain ⟨k1, k2⟩ := hi
   have step : i < (VFx l ev m h (kqHs l).length).length → P4x l ev m h (i + 1) := fun hlt => ⟨hlt, mtK_step hlt k2⟩
   have hatK : mtK (VFx l ev m h (kqHs l).length) (VFx l ev m h ((kqHs l).length + 1)) (i + 1) = if mtK (VFx l ev m h (kqHs l).length) (VFx l ev m h ((kqHs l).length + 1)) i < (VFx l ev m h ((kqHs l).length + 1)).length ∧ ((VFx l ev m h (kqHs l).length).getD i mtD).1 = ((VFx l ev m h ((kqHs l).length + 1)).getD (mtK (VFx l ev m h (kqHs l).length) (VFx l ev m h ((kqHs l).length + 1)) i) mtD).1 then mtK (VFx l ev m h (kqHs l).length) (VFx l ev m h ((kqHs l).length + 1)) i + 1 else mtK (VFx l ev m h (kqHs l).length) (VFx l ev m h ((kqHs l).length + 1)) i := rfl
   obtain ⟨k2, k3⟩ := k2
   refine VB_intro (fun h5 => ?_) (fun h5 => ?_)
   ·simp only [Bool.and_eq_true, decide_eq_true_eq] at h5
    have hlt : i < (VFx l ev m h (kqHs l).length).length := by omega
    have hat : mtK (VFx l ev m h (kqHs l).length) (VFx l ev m h ((kqHs l).length + 1)) i < (VFx l ev m h ((kqHs l).length + 1)).length := by omega
    refine NB_intro (decide_eq_true (by omega)) (NB_intro (decide_eq_true (by omega)) (NB_intro (by rw [isM_mA (hb1 _ _ hlt), isM_mA (hb1 _ _ hat)]; rfl) (VB_intro (fun h6 => ?_) (fun h6 => ?_))))
    ·have h6 := of_decide_eq_true h6
     rw [if_pos ⟨hat, h6⟩] at hatK
     exact ⟨i + 1, step hlt, by show (VFx l ev m h (kqHs l).length).length - (i + 1) < (VFx l ev m h (kqHs l).length).length - i; omega, by rw [hatK, wrap_i64_id (by omega) (by omega)]; rfl, by rw [wrap_i64_id (by omega) (by omega)]; rfl⟩
    ·have h6 := of_decide_eq_false h6
     rw [if_neg (fun hc => h6 hc.2)] at hatK
     exact ⟨i + 1, step hlt, by show (VFx l ev m h (kqHs l).length).length - (i + 1) < (VFx l ev m h (kqHs l).length).length - i; omega, by rw [hatK], by rw [wrap_i64_id (by omega) (by omega)]; rfl⟩
   ·simp only [Bool.and_eq_false_iff, decide_eq_false_iff_not] at h5
    have hfin : mtK (VFx l ev m h (kqHs l).length) (VFx l ev m h ((kqHs l).length + 1)) i = (VFx l ev m h ((kqHs l).length + 1)).length := by
     rcases h5 with h5 | h5
     ·have : i = (VFx l ev m h (kqHs l).length).length := by omega
      rw [List.drop_eq_nil_of_le (Nat.le_of_eq this.symm)] at k3
      have := List.sublist_nil.1 k3
      have := congrArg List.length this
      rw [List.length_drop] at this
      simp only [List.length_nil] at this
      omega
     ·omega
    rw [hfin]
    simp
end Go.Proofs.YtamcloifhjafcaaDoor
