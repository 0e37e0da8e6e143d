/- NODES 31: AggregateNames: its condition holds. -/
import Derived.Test.YtamcloifhjafcaaDoorAN30
namespace Go.Proofs.YtamcloifhjafcaaDoor
open Pw Go
set_option maxRecDepth 100000
set_option linter.unusedSimpArgs false

theorem plA_refl (p : PlG) : (plA p).sub (plA p) := ⟨by simp [AV.sub], by simp [AV.sub], trivial⟩
theorem ownM_pure (ps : List PlG) (hp : ps.length ≤ 40) : PureC Tryd.prog gN 12 [mA ps] (mA ps) := by
  refine pure_vcG (d := 4) mix (tblG_nil _ _) ((ownM_vc ps).mpr ?_)
  simp only [EqI, true_and, and_true, imp_self, implies_true, Int.toNat_natCast, Nat.zero_add, or_self]
  refine NB_intro (by simp [room]; omega) ?_
  simp only [Bool.false_eq_true, false_implies, and_true]
  exact fun i _ => plA_refl _
theorem sameM_pure (ps : List PlG) (hp : ps.length ≤ 40) : PureC Tryd.prog gN 20 [mA ps, mA ps] (.bool true) := by
  refine pure_vcG (d := 4) mix (tblG_nil _ _) ((sameM_vc ps).mpr ?_)
  simp only [EqI, true_and, and_true, imp_self, implies_true, Int.toNat_natCast, Nat.zero_add, or_self]
  refine VB_intro (fun h => by simp at h) (fun _ => ⟨⟨0, Nat.zero_le _, rfl⟩, fun i hi => VB_intro (fun h => ?_) (fun _ => trivial)⟩)
  have hlt : i < ps.length := by have := of_decide_eq_true h; omega
  refine NB_intro (decide_eq_true (by omega)) (NB_intro (decide_eq_true (by omega)) (VB_intro (fun h => by simp at h) (fun _ => ⟨i + 1, hlt, by simp only [invSM]; omega, by rw [wrap_i64_id (by omega) (by omega)]; omega⟩)))
theorem sameL_pure (L : List Int) (h : L.length ≤ 1000) (hv : ∀ i, i < L.length → rng64 (L.getD i 0)) : PureC Tryd.prog gN 15 [isA L, isA L] (.bool true) :=
  (same_ok.up) [isA L, isA L] _ _ rfl (by
    simp only [Bool.and_eq_true, decide_eq_true_eq]
    have hb : intsB L.length (fun k => AV.int .i64 (L.getD k 0)) = true := List.all_eq_true.2 fun i hi => inR_iff.2 (hv i (by simpa using hi))
    exact ⟨⟨⟨⟨by omega, trivial⟩, hb⟩, hb⟩, List.all_eq_true.2 fun i _ => decide_eq_true rfl⟩)
/-- The events' values are numbers of 64 bits. -/
def evR (ev : List EvG) : Prop := ∀ k, k < ev.length → rng64 (ev.getD k evD).2.2.2.2.1
theorem evR_all {ev : List EvG} (h : evR ev) (k : Nat) : rng64 (ev.getD k evD).2.2.2.2.1 := by
  by_cases hk : k < ev.length
  · exact h k hk
  · rw [List.getD_eq_getElem?_getD, List.getElem?_eq_none (by omega)]
    show rng64 0
    simp [rng64]
theorem nV_ok {x : NodeG} {w : Int} {hs : List HaveG} {es : List AggG} {ev : List EvG} {ps : List PlG} (nm : List UInt8) (hp : ps.length ≤ 40) (he : evR ev) : (nV x w hs es ev ps nm).length ≤ 40 ∧ ∀ i, i < (nV x w hs es ev ps nm).length → rng64 ((nV x w hs es ev ps nm).getD i 0) := by
  show (nmVal _ _ _ _ _ _).length ≤ 40 ∧ _
  unfold nV nmVal
  split
  · refine ⟨Nat.le_trans (vlK_len _ _ _ _ _) hp, fun i hi => ?_⟩
    have hm : (vlK ev (atomsL 8 x) ps nm ps.length).getD i 0 ∈ vlK ev (atomsL 8 x) ps nm ps.length := by
      rw [List.getD_eq_getElem?_getD, List.getElem?_eq_getElem hi]
      exact List.getElem_mem hi
    obtain ⟨p, _, e⟩ := List.mem_map.1 hm
    rw [← e]
    exact evR_all he _
  · exact ⟨Nat.zero_le _, fun i hi => by simp at hi⟩
def okAll' (x : NodeG) (hs : List HaveG) (es : List AggG) (ev : List EvG) (ps : List PlG) : Bool := lightQ x hs es && decide (ev.length ≤ 60) && decide (ps.length ≤ 40)
theorem EL_ok (x : NodeG) (w : Int) (hs : List HaveG) (es : List AggG) (ev : List EvG) (ps : List PlG) (h : HaveG) (he : evR ev) (hf : rng64 h.1.1) :
    TblOK Tryd.prog gN (tblOf (tblL x w hs es ev ps h (okAll' x hs es ev ps) (lightQ x hs es) (mE x w hs es ev ps) (nV x w hs es ev ps h.1.2.1) (nE x w hs es ev ps h.1.2.1) (hB x w hs es ev ps h) (hE x w hs es ev ps h))) := by
  have k : okAll' x hs es ev ps = true → Lt x hs es ∧ ps.length ≤ 40 := fun hb => by
    simp only [okAll', Bool.and_eq_true, decide_eq_true_eq] at hb
    exact ⟨Lt.of hb.1.1, hb.2⟩
  have kn : okAll' x hs es ev ps = true → ofNeed h.1.1 (nV x w hs es ev ps h.1.2.1) := fun hb => by
    have := nV_ok (x := x) (w := w) (hs := hs) (es := es) h.1.2.1 (k hb).2 he
    exact ⟨hf, by omega, this.2⟩
  refine tblG_cons (cAt_ok (lightQ_pure x w hs es)) (tblG_cons awake_ok (tblG_cons (cWh_ok fun hb => ownM_pure ps (k hb).2) (tblG_cons (cWh_ok fun hb => sameM_pure ps (k hb).2) (tblG_cons (cWh_ok fun hb => namedI_pure (k hb).1 (k hb).2 _) (tblG_cons (cWh_ok fun hb => namedP_pure (k hb).1 (k hb).2 h (kn hb))
    (tblG_cons (cWh_ok fun hb => ?_) (tblG_cons (cWh_ok fun hb => checkI_pure (k hb).1 (k hb).2 h (kn hb)) (tblG_cons (cWh_ok fun hb => refchk_pure (k hb).1 (k hb).2) (tblG_cons (cWh_ok fun hb => holdsI_pure (k hb).1 (k hb).2 h (kn hb)) (tblG_cons (cWh_ok fun hb => holdsP_pure (k hb).1 (k hb).2 h (kn hb)) (tblG_nil _ _)))))))))))
  have := nV_ok (x := x) (w := w) (hs := hs) (es := es) h.1.2.1 (k hb).2 he
  exact sameL_pure _ (by omega) this.2
noncomputable def ELx (x : NodeG) (w : Int) (hs : List HaveG) (es : List AggG) (ev : List EvG) (ps : List PlG) (h : HaveG) : Env := EL x w hs es ev ps h (okAll' x hs es ev ps) (lightQ x hs es) (mE x w hs es ev ps) (nV x w hs es ev ps h.1.2.1) (nE x w hs es ev ps h.1.2.1) (hB x w hs es ev ps h) (hE x w hs es ev ps h)
theorem names_sat (x : NodeG) (w : Int) (hs : List HaveG) (es : List AggG) (ev : List EvG) (ps : List PlG) (h : HaveG) :
    (vcFun (ELx x w hs es ev ps h) 40 3 [qA x w hs es, evsA ev, mA ps, haveA h] .nil 0 (isBool true)).sat := by
  refine (names_vc x w hs es ev ps h _ _ _ _ _ _ _).mpr (NB_intro (atB_self _) (VB_intro (fun _ => ?_) (fun h1 => ?_)))
  · first | rfl | trivial | simp
  simp only [Bool.or_eq_false_iff, Bool.not_eq_false', Bool.and_eq_true, decide_eq_true_eq, decide_eq_false_iff_not] at h1
  have hb : okAll' x hs es ev ps = true := by
    simp only [okAll', Bool.and_eq_true, decide_eq_true_eq]
    exact ⟨⟨h1.1.1.1, by omega⟩, by omega⟩
  rw [hb]
  have at' : ∀ l : List AV, (true && atB l l) = true := fun l => by rw [Bool.true_and]; exact atB_self l
  refine NB_intro (at' _) (NB_intro (at' _) (NB_intro (at' _) (NB_intro (at' _) (NB_intro (impB_t.2 fun _ => at' _) (NB_intro (impB_t.2 fun _ => at' _) ?_)))))
  simp only [bne_self_eq_false, Bool.or_self, VB_f]
  refine NB_intro (at' _) (NB_intro (at' _) (NB_intro (impB_t.2 fun _ => at' _) ?_))
  simp
end Go.Proofs.YtamcloifhjafcaaDoor
