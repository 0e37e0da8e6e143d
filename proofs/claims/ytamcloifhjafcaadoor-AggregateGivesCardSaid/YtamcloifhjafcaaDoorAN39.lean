/- NODES 39: wanted, emitted, selected: contracts; the law AggregateGives, conditions. -/
import Derived.Test.YtamcloifhjafcaaDoorAN38
namespace Go.Proofs.YtamcloifhjafcaaDoor
open Pw Go
set_option maxRecDepth 100000
set_option linter.unusedSimpArgs false

section
variable {x : NodeG} {w : Int} {hs : List HaveG} {es : List AggG} {ev : List EvG}
theorem ofNeed_nV {f : Int} {ps : List PlG} (nm : List UInt8) (hp : ps.length ≤ 40) (he : evR ev) (hf : rng64 f) : ofNeed f (nV x w hs es ev ps nm) := by
  have := nV_ok (x := x) (w := w) (hs := hs) (es := es) nm hp he
  exact ⟨hf, by omega, this.2⟩
theorem chk1_ok {b : Bool} (k : b = true → Lt x hs es) (he : evR ev) : PureG Tryd.prog gN 16 (cChk x w hs es ev b) :=
  chk_of fun hb _ hp => checkI_pure (k hb) hp haveD (ofNeed_nV _ hp he (by simp [rng64, haveD, aggD]))
theorem chk2_ok {b : Bool} (k : b = true → Lt x hs es) : PureG Tryd.prog gN 17 (cChk x w hs es ev b) :=
  chk_of fun hb _ hp => refchk_pure (k hb) hp
theorem tblWn_ok (hq : Lt x hs es) (he : evR ev) : TblOK Tryd.prog gN (tblOf (tblWn x w hs es ev)) :=
  tblG_cons (chk1_ok (fun _ => hq) he) (tblG_cons (chk2_ok (fun _ => hq)) (tblG_cons (hol_of fun _ _ a hp hr => holdsI_pure hq hp a (ofNeed_nV _ hp he hr)) (tblG_cons (holR_of fun _ _ a hp hr hm => holdsR_pure hq hp a (ofNeed_nV _ hp he hr) hm) (tblG_nil _ _))))
theorem tblEm_ok (hq : Lt x hs es) (he : evR ev) : TblOK Tryd.prog gN (tblOf (tblEm x w hs es ev)) :=
  tblG_cons (chk1_ok (fun _ => hq) he) (tblG_cons (chk2_ok (fun _ => hq)) (tblG_cons (nam_of fun _ _ s hp => namedI_pure hq hp s) (tblG_cons (namR_of fun _ _ s hp hm => namedR_pure hq hp s hm) (tblG_cons ofI_ok.up (tblG_cons ofR_ok.up (tblG_nil _ _))))))
def hsR (hs : List HaveG) : Prop := ∀ i, i < hs.length → rng64 (hs.getD i haveD).1.1
def esR' (es : List AggG) : Prop := ∀ i, i < es.length → rng64 (es.getD i aggD).1
theorem wan_of {g : Nat} {b : Bool} (h : b = true → ∀ ps : List PlG, ps.length ≤ 40 → PureC Tryd.prog gN g [qA x w hs es, evsA ev, mA ps] (.tup [.bool (wnB x w hs es ev ps), .int .i64 (wnE x w hs es ev ps)])) : PureG Tryd.prog gN g (cWan x w hs es ev b) := by
  intro args nd v he hnd
  unfold cWan at he
  split at he <;> cases he
  obtain ⟨hb, rfl, rfl, hm, hl⟩ := gd_of hnd
  exact args3 hm trivial (h hb _ hl)
theorem em_of {g : Nat} {b : Bool} (h : b = true → ∀ ps : List PlG, ps.length ≤ 40 → PureC Tryd.prog gN g [qA x w hs es, evsA ev, mA ps] (.tup [isA (emV x w hs es ev ps), .int .i64 (emS x w hs es ev ps), .int .i64 (emE x w hs es ev ps)])) : PureG Tryd.prog gN g (cEm x w hs es ev b) := by
  intro args nd v he hnd
  unfold cEm at he
  split at he <;> cases he
  obtain ⟨hb, rfl, rfl, hm, hl⟩ := gd_of hnd
  exact args3 hm trivial (h hb _ hl)
theorem wanI_ok {b : Bool} (k : b = true → Lt x hs es) (he : evR ev) (hr : hsR hs) : PureG Tryd.prog gN 32 (cWan x w hs es ev b) :=
  wan_of fun hb ps hp => pure_vcG (d := 4) mix (tblWn_ok (k hb) he) (wantI_sat x w hs es ev ps hp (k hb).nms.1 hr)
theorem wanR_ok {b : Bool} (k : b = true → Lt x hs es) (he : evR ev) (hr : hsR hs) : PureG Tryd.prog gN 33 (cWan x w hs es ev b) :=
  wan_of fun hb ps hp => pure_vcG (d := 4) mix (tblWn_ok (k hb) he) (wantR_sat x w hs es ev ps hp (k hb).nms.1 hr)
theorem emI_ok {b : Bool} (k : b = true → Lt x hs es) (he : evR ev) (hr : esR' es) : PureG Tryd.prog gN 34 (cEm x w hs es ev b) :=
  em_of fun hb ps hp => pure_vcG (d := 4) mix (tblEm_ok (k hb) he) (emI_sat x w hs es ev ps hp (k hb).nms.2.1 fun i hi => ofNeed_nV _ hp he (hr i hi))
theorem emR_ok {b : Bool} (k : b = true → Lt x hs es) (he : evR ev) (hr : esR' es) : PureG Tryd.prog gN 35 (cEm x w hs es ev b) :=
  em_of fun hb ps hp => pure_vcG (d := 4) mix (tblEm_ok (k hb) he) (emR_sat x w hs es ev ps hp (k hb).nms.2.1 fun i hi => ofNeed_nV _ hp he (hr i hi))
end
theorem pl_sub (a : AV) (h : isCond a = true) : a.sub (plA (plOf a)) ∧ a.cells.length = (plA (plOf a)).cells.length := by
  unfold isCond at h
  split at h
  · exact ⟨⟨by simp [AV.sub, plOf], by simp [AV.sub, plOf], trivial⟩, rfl⟩
  · cases h
theorem cloneP_ok : PureG Tryd.prog gN 66 cCloneP := by
  intro args nd v he hnd
  unfold cCloneP at he
  split at he <;> cases he
  rename_i n f ex
  simp only [Bool.and_eq_true, decide_eq_true_eq, List.all_eq_true, List.mem_range] at hnd
  obtain ⟨h1, h2⟩ := hnd
  have hlen : ((List.range n).map fun i => plOf (f i)).length = n := by simp
  have hget : ∀ i, i < n → ((List.range n).map fun i => plOf (f i)).getD i plD = plOf (f i) := fun i hi => by simp [List.getD, hi]
  have key : PureC Tryd.prog gN 66 [plsA ((List.range n).map fun i => plOf (f i))] (plsA ((List.range n).map fun i => plOf (f i))) := by
    refine pure_vcE (E := EQ) (k := 20) (d := 3) mix EQ_ok ((cloneP_vc _).mpr ?_)
    rw [hlen]
    intro b hb
    cases b with
    | true => exact VB_intro (fun _ => hb rfl) (fun h => by cases h)
    | false =>
      refine VB_intro (fun h => by cases h) (fun _ => NB_intro (by simp [room]; omega) ⟨by omega, fun i hi => ⟨by rw [Nat.zero_add]; exact plA_refl _, rfl⟩, fun h => by cases h⟩)
  have hs1 : (AV.rof n f ex).sub (plsA ((List.range n).map fun i => plOf (f i))) := by
    refine ⟨hlen.symm, fun i hi => ?_, fun h => by cases h⟩
    show (f i).sub (plA (((List.range n).map fun i => plOf (f i)).getD i plD)) ∧ _ = (plA (((List.range n).map fun i => plOf (f i)).getD i plD)).cells.length
    rw [hget i hi]
    exact pl_sub (f i) (h2 i hi)
  have hs2 : (plsA ((List.range n).map fun i => plOf (f i))).sub (.rof n (fun i => plA (plOf (f i))) false) := by
    refine ⟨hlen, fun i hi => ?_, fun h => h⟩
    rw [hlen] at hi
    show (plA (((List.range n).map fun i => plOf (f i)).getD i plD)).sub (plA (plOf (f i))) ∧ _
    rw [hget i hi]
    exact ⟨plA_refl _, rfl⟩
  have h3 := PureC.args (args := [AV.rof n f ex]) (args' := [plsA ((List.range n).map fun i => plOf (f i))]) rfl (fun i hi => by cases i with | zero => exact hs1 | succ i => simp at hi) key
  exact PureC.result h3 hs2
section
variable {x : NodeG} {w : Int} {hs : List HaveG} {es : List AggG} {ev : List EvG}
theorem ESl_ok (hq : Lt x hs es) (he : evR ev) (hr : hsR hs) (l : List MatG) : CtrOK (ESl x w hs es ev l) :=
  ⟨(mkG_ctr (P := Tryd.prog) (gl := gN) (inv := fun _ _ => none) (n := 0)
    (tblG_cons (cAt_ok (chkI_pure x w hs es hq.lit hq.nms)) (tblG_cons (cAt_ok (chkR_pure x w hs es hq.lit hq.nms)) (tblG_cons (chk1_ok (fun _ => hq) he) (tblG_cons (chk2_ok (fun _ => hq)) (tblG_cons (wanI_ok (fun _ => hq) he hr) (tblG_cons (wanR_ok (fun _ => hq) he hr) (tblG_cons cloneP_ok (tblG_nil _ _))))))))).1, (mkG_ctr (P := Tryd.prog) (gl := gN) (inv := fun _ _ => none) (n := 0) (tblG_nil Tryd.prog gN)).2⟩
theorem selI_pure (hq : Lt x hs es) (he : evR ev) (hr : hsR hs) (l : List MatG) (h20 : l.length ≤ 20) (hp : ∀ i, i < l.length → (l.getD i mtD).1.length ≤ 40) : PureC Tryd.prog gN 36 [qA x w hs es, evsA ev, msA l] (.tup [msA (selV x w hs es ev l), .int .i64 (selE x w hs es ev l)]) :=
  pure_vcE (d := 5) mix (ESl_ok hq he hr l) (selI_sat x w hs es ev l h20 hp)
theorem selR_pure (hq : Lt x hs es) (he : evR ev) (hr : hsR hs) (l : List MatG) (h20 : l.length ≤ 20) (hp : ∀ i, i < l.length → (l.getD i mtD).1.length ≤ 40) : PureC Tryd.prog gN 37 [qA x w hs es, evsA ev, msA l] (.tup [msA (selV x w hs es ev l), .int .i64 (selE x w hs es ev l)]) :=
  pure_vcE (d := 5) mix (ESl_ok hq he hr l) (selR_sat x w hs es ev l h20 hp)
end
end Go.Proofs.YtamcloifhjafcaaDoor
namespace Go.Proofs.YtamcloifhjafcaaDoor
open Pw Go
set_option maxRecDepth 100000
set_option linter.unusedSimpArgs false

/-- Two matches are the same. -/
def cSM : Ctr
  | [a, b] => some (isM a && isM b && decide (psOf a = psOf b), .bool true)
  | _ => none
def invGa (x : NodeG) (w : Int) (hs : List HaveG) (es : List AggG) (ev : List EvG) (l : List MatG) : Inv := ⟨Nat, 50, fun i => ⟨[(1, evsA ev), (2, msA l), (3, .ptr 0 0 0 0), (7, .int .i64 i)], [(0, .row 0 12 true (.lst [qA x w hs es]))]⟩, fun i => i ≤ l.length ∧ ∀ j, j < i → (l.getD j mtD).1.length ≤ 40, fun i => l.length - i⟩
def invGb (x : NodeG) (w : Int) (hs : List HaveG) (es : List AggG) (ev : List EvG) (l : List MatG) : Inv := ⟨Nat, 60, fun i => ⟨[(1, evsA ev), (2, msA l), (3, .ptr 0 0 0 0), (8, .int .i64 i)], [(0, .row 0 12 true (.lst [qA x w hs es]))]⟩, fun i => i ≤ l.length, fun i => l.length - i⟩
def invGc (V : List MatG) : Inv := ⟨Nat, 70, fun i => ⟨[(17, msA V), (19, msA V), (21, .int .i64 i)], []⟩, fun i => i ≤ V.length, fun i => V.length - i⟩
noncomputable def tblGi (x : NodeG) (w : Int) (hs : List HaveG) (es : List AggG) (ev : List EvG) (l : List MatG) (b lq : Bool) (V : List MatG) (E : Int) : List (Nat × Ctr) :=
  [(45, cAt [qA x w hs es] (.bool lq)), (11, cAwake), (15, cSame), (20, cSM),
   (32, cWan x w hs es ev b), (33, cWan x w hs es ev b), (34, cEm x w hs es ev b), (35, cEm x w hs es ev b),
   (36, cWh b [qA x w hs es, evsA ev, msA l] (.tup [msA V, .int .i64 E])), (37, cWh b [qA x w hs es, evsA ev, msA l] (.tup [msA V, .int .i64 E]))]
noncomputable def EG (x : NodeG) (w : Int) (hs : List HaveG) (es : List AggG) (ev : List EvG) (l : List MatG) (b lq : Bool) (V : List MatG) (E : Int) : Env := mkG Tryd.prog gN (tblOf (tblGi x w hs es ev l b lq V E)) (fun f c => if f = 6 ∧ c = 0 then some (invGa x w hs es ev l) else if f = 6 ∧ c = 2 then some (invGb x w hs es ev l) else if f = 6 ∧ c = 4 then some (invGc V) else none) 0

theorem gives_vc (x : NodeG) (w : Int) (hs : List HaveG) (es : List AggG) (ev : List EvG) (l : List MatG) (b lq : Bool) (V : List MatG) (E : Int) : (vcFun (EG x w hs es ev l b lq V E) 40 6 [qA x w hs es, evsA ev, msA l] .nil 0 (isBool true)).sat = (
  VB (isW false (decide ((↑l.length : Int) > (20 : Int))))
    (NB (atB [qA x w hs es] [qA x w hs es])
      (VB (decide ((↑l.length : Int) > (20 : Int)) || !(lq && decide ((↑ev.length : Int) ≤ (60 : Int)) && true)) (true = true)
        ((∃ (i : Nat),
        (i ≤ l.length ∧ ∀ (j : Nat), j < i → (l.getD j mtD).fst.length ≤ (40 : Nat)) ∧
        ((evsA ev).sub (evsA ev) ∧ (msA l).sub (msA l) ∧ ((0 : Nat) = (0 : Nat) ∧ (0 : Nat) = (0 : Nat) ∧ (0 : Nat) = (0 : Nat)) ∧ (0 : Int) = (↑i : Int) ∧ True) ∧
        ((0 : Nat) = (0 : Nat) ∧ (true = true → true = true) ∧ ((qA x w hs es).sub (qA x w hs es) ∧ (qA x w hs es).cells.length = (qA x w hs es).cells.length) ∧ True) ∧ True) ∧
        ∀ (i : Nat),
        (i ≤ l.length ∧ ∀ (j : Nat), j < i → (l.getD j mtD).fst.length ≤ (40 : Nat)) →
        VB (decide ((↑i : Int) < (↑l.length : Int)))
        (NB (decide ((0 : Int) ≤ (↑i : Int) ∧ (↑i : Int) < (↑l.length : Int)))
        (VB (decide ((↑(l.getD (↑i : Int).toNat mtD).fst.length : Int) > (40 : Int))) (true = true)
        (∃ (i' : Nat),
        (i' ≤ l.length ∧ ∀ (j : Nat), j < i' → (l.getD j mtD).fst.length ≤ (40 : Nat)) ∧
        (invGa x w hs es ev l).μ i' < (invGa x w hs es ev l).μ i ∧
        ((evsA ev).sub (evsA ev) ∧ (msA l).sub (msA l) ∧ ((0 : Nat) = (0 : Nat) ∧ (0 : Nat) = (0 : Nat) ∧ (0 : Nat) = (0 : Nat)) ∧ IntKind.i64.wrap ((↑i : Int) + (1 : Int)) = (↑i' : Int) ∧ True) ∧
        ((0 : Nat) = (0 : Nat) ∧ (true = true → true = true) ∧ ((qA x w hs es).sub (qA x w hs es) ∧ (qA x w hs es).cells.length = (qA x w hs es).cells.length) ∧ True) ∧ True)))
        ((∃ (i : Nat),
        i.le l.length ∧
        ((evsA ev).sub (evsA ev) ∧ (msA l).sub (msA l) ∧ ((0 : Nat) = (0 : Nat) ∧ (0 : Nat) = (0 : Nat) ∧ (0 : Nat) = (0 : Nat)) ∧ (0 : Int) = (↑i : Int) ∧ True) ∧
        ((0 : Nat) = (0 : Nat) ∧ (true = true → true = true) ∧ ((qA x w hs es).sub (qA x w hs es) ∧ (qA x w hs es).cells.length = (qA x w hs es).cells.length) ∧ True) ∧ True) ∧
        ∀ (i : Nat),
        i.le l.length →
        VB (decide ((↑i : Int) < (↑l.length : Int)))
        (NB (decide ((0 : Int) ≤ (↑i : Int) ∧ (↑i : Int) < (↑l.length : Int)))
        (NB (gd x w hs es ev b (qA x w hs es) (evsA ev) (mA (l.getD (↑i : Int).toNat mtD).fst))
        (NB (decide ((0 : Int) ≤ (↑i : Int) ∧ (↑i : Int) < (↑l.length : Int)))
        (NB (gd x w hs es ev b (qA x w hs es) (evsA ev) (mA (l.getD (↑i : Int).toNat mtD).fst))
        (VB
        (!wnB x w hs es ev (psOf (mA (l.getD (↑i : Int).toNat mtD).fst)) == wnB x w hs es ev (psOf (mA (l.getD (↑i : Int).toNat mtD).fst)) ||
        wnE x w hs es ev (psOf (mA (l.getD (↑i : Int).toNat mtD).fst)) != wnE x w hs es ev (psOf (mA (l.getD (↑i : Int).toNat mtD).fst)))
        (false = true)
        (NB (decide ((0 : Int) ≤ (↑i : Int) ∧ (↑i : Int) < (↑l.length : Int)))
        (NB (gd x w hs es ev b (qA x w hs es) (evsA ev) (mA (l.getD (↑i : Int).toNat mtD).fst))
        (NB (decide ((0 : Int) ≤ (↑i : Int) ∧ (↑i : Int) < (↑l.length : Int)))
        (NB (gd x w hs es ev b (qA x w hs es) (evsA ev) (mA (l.getD (↑i : Int).toNat mtD).fst))
        (NB
        (((decide ((emV x w hs es ev (psOf (mA (l.getD (↑i : Int).toNat mtD).fst))).length ≤ (1000000 : Nat)) &&
        decide ((emV x w hs es ev (psOf (mA (l.getD (↑i : Int).toNat mtD).fst))).length = (emV x w hs es ev (psOf (mA (l.getD (↑i : Int).toNat mtD).fst))).length) &&
        intsB (emV x w hs es ev (psOf (mA (l.getD (↑i : Int).toNat mtD).fst))).length fun (k : Nat) =>
        AV.int IntKind.i64 ((emV x w hs es ev (psOf (mA (l.getD (↑i : Int).toNat mtD).fst))).getD k (0 : Int))) &&
        intsB (emV x w hs es ev (psOf (mA (l.getD (↑i : Int).toNat mtD).fst))).length fun (k : Nat) =>
        AV.int IntKind.i64 ((emV x w hs es ev (psOf (mA (l.getD (↑i : Int).toNat mtD).fst))).getD k (0 : Int))) &&
        sameB (emV x w hs es ev (psOf (mA (l.getD (↑i : Int).toNat mtD).fst))).length
        (fun (k : Nat) => AV.int IntKind.i64 ((emV x w hs es ev (psOf (mA (l.getD (↑i : Int).toNat mtD).fst))).getD k (0 : Int))) fun (k : Nat) =>
        AV.int IntKind.i64 ((emV x w hs es ev (psOf (mA (l.getD (↑i : Int).toNat mtD).fst))).getD k (0 : Int)))
        (VB
        (false || emS x w hs es ev (psOf (mA (l.getD (↑i : Int).toNat mtD).fst)) != emS x w hs es ev (psOf (mA (l.getD (↑i : Int).toNat mtD).fst)) ||
        emE x w hs es ev (psOf (mA (l.getD (↑i : Int).toNat mtD).fst)) != emE x w hs es ev (psOf (mA (l.getD (↑i : Int).toNat mtD).fst)))
        (false = true)
        (∃ (i' : Nat),
        i'.le l.length ∧
        (invGb x w hs es ev l).μ i' < (invGb x w hs es ev l).μ i ∧
        ((evsA ev).sub (evsA ev) ∧
        (msA l).sub (msA l) ∧ ((0 : Nat) = (0 : Nat) ∧ (0 : Nat) = (0 : Nat) ∧ (0 : Nat) = (0 : Nat)) ∧ IntKind.i64.wrap ((↑i : Int) + (1 : Int)) = (↑i' : Int) ∧ True) ∧
        ((0 : Nat) = (0 : Nat) ∧ (true = true → true = true) ∧ ((qA x w hs es).sub (qA x w hs es) ∧ (qA x w hs es).cells.length = (qA x w hs es).cells.length) ∧ True) ∧
        True))))))))))))
        (NB (b && atB [qA x w hs es, evsA ev, msA l] [qA x w hs es, evsA ev, msA l])
        (NB (b && atB [qA x w hs es, evsA ev, msA l] [qA x w hs es, evsA ev, msA l])
        (VB ((↑V.length : Int) != (↑V.length : Int) || E != E) (false = true)
        ((∃ (i : Nat), i.le V.length ∧ ((msA V).sub (msA V) ∧ (msA V).sub (msA V) ∧ (0 : Int) = (↑i : Int) ∧ True) ∧ True) ∧
        ∀ (i : Nat),
        i.le V.length →
        VB (decide ((↑i : Int) < (↑V.length : Int)))
        (NB (decide ((0 : Int) ≤ (↑i : Int) ∧ (↑i : Int) < (↑V.length : Int)))
        (NB (decide ((0 : Int) ≤ (↑i : Int) ∧ (↑i : Int) < (↑V.length : Int)))
        (NB
        (isM (mA (V.getD (↑i : Int).toNat mtD).fst) && isM (mA (V.getD (↑i : Int).toNat mtD).fst) &&
        decide (psOf (mA (V.getD (↑i : Int).toNat mtD).fst) = psOf (mA (V.getD (↑i : Int).toNat mtD).fst)))
        (∃ (i' : Nat),
        i'.le V.length ∧ (invGc V).μ i' < (invGc V).μ i ∧ ((msA V).sub (msA V) ∧ (msA V).sub (msA V) ∧ IntKind.i64.wrap ((↑i : Int) + (1 : Int)) = (↑i' : Int) ∧ True) ∧ True))))
        (true = true)))))))))
    (VB (decide ((↑l.length : Int) > (20 : Int)) || true) (true = true)
      ((∃ (i : Nat),
        (i ≤ l.length ∧ ∀ (j : Nat), j < i → (l.getD j mtD).fst.length ≤ (40 : Nat)) ∧
        ((evsA ev).sub (evsA ev) ∧ (msA l).sub (msA l) ∧ ((0 : Nat) = (0 : Nat) ∧ (0 : Nat) = (0 : Nat) ∧ (0 : Nat) = (0 : Nat)) ∧ (0 : Int) = (↑i : Int) ∧ True) ∧
        ((0 : Nat) = (0 : Nat) ∧ (true = true → true = true) ∧ ((qA x w hs es).sub (qA x w hs es) ∧ (qA x w hs es).cells.length = (qA x w hs es).cells.length) ∧ True) ∧ True) ∧
        ∀ (i : Nat),
        (i ≤ l.length ∧ ∀ (j : Nat), j < i → (l.getD j mtD).fst.length ≤ (40 : Nat)) →
        VB (decide ((↑i : Int) < (↑l.length : Int)))
        (NB (decide ((0 : Int) ≤ (↑i : Int) ∧ (↑i : Int) < (↑l.length : Int)))
        (VB (decide ((↑(l.getD (↑i : Int).toNat mtD).fst.length : Int) > (40 : Int))) (true = true)
        (∃ (i' : Nat),
        (i' ≤ l.length ∧ ∀ (j : Nat), j < i' → (l.getD j mtD).fst.length ≤ (40 : Nat)) ∧
        (invGa x w hs es ev l).μ i' < (invGa x w hs es ev l).μ i ∧
        ((evsA ev).sub (evsA ev) ∧ (msA l).sub (msA l) ∧ ((0 : Nat) = (0 : Nat) ∧ (0 : Nat) = (0 : Nat) ∧ (0 : Nat) = (0 : Nat)) ∧ IntKind.i64.wrap ((↑i : Int) + (1 : Int)) = (↑i' : Int) ∧ True) ∧
        ((0 : Nat) = (0 : Nat) ∧ (true = true → true = true) ∧ ((qA x w hs es).sub (qA x w hs es) ∧ (qA x w hs es).cells.length = (qA x w hs es).cells.length) ∧ True) ∧ True)))
        ((∃ (i : Nat),
        i.le l.length ∧
        ((evsA ev).sub (evsA ev) ∧ (msA l).sub (msA l) ∧ ((0 : Nat) = (0 : Nat) ∧ (0 : Nat) = (0 : Nat) ∧ (0 : Nat) = (0 : Nat)) ∧ (0 : Int) = (↑i : Int) ∧ True) ∧
        ((0 : Nat) = (0 : Nat) ∧ (true = true → true = true) ∧ ((qA x w hs es).sub (qA x w hs es) ∧ (qA x w hs es).cells.length = (qA x w hs es).cells.length) ∧ True) ∧ True) ∧
        ∀ (i : Nat),
        i.le l.length →
        VB (decide ((↑i : Int) < (↑l.length : Int)))
        (NB (decide ((0 : Int) ≤ (↑i : Int) ∧ (↑i : Int) < (↑l.length : Int)))
        (NB (gd x w hs es ev b (qA x w hs es) (evsA ev) (mA (l.getD (↑i : Int).toNat mtD).fst))
        (NB (decide ((0 : Int) ≤ (↑i : Int) ∧ (↑i : Int) < (↑l.length : Int)))
        (NB (gd x w hs es ev b (qA x w hs es) (evsA ev) (mA (l.getD (↑i : Int).toNat mtD).fst))
        (VB
        (!wnB x w hs es ev (psOf (mA (l.getD (↑i : Int).toNat mtD).fst)) == wnB x w hs es ev (psOf (mA (l.getD (↑i : Int).toNat mtD).fst)) ||
        wnE x w hs es ev (psOf (mA (l.getD (↑i : Int).toNat mtD).fst)) != wnE x w hs es ev (psOf (mA (l.getD (↑i : Int).toNat mtD).fst)))
        (false = true)
        (NB (decide ((0 : Int) ≤ (↑i : Int) ∧ (↑i : Int) < (↑l.length : Int)))
        (NB (gd x w hs es ev b (qA x w hs es) (evsA ev) (mA (l.getD (↑i : Int).toNat mtD).fst))
        (NB (decide ((0 : Int) ≤ (↑i : Int) ∧ (↑i : Int) < (↑l.length : Int)))
        (NB (gd x w hs es ev b (qA x w hs es) (evsA ev) (mA (l.getD (↑i : Int).toNat mtD).fst))
        (NB
        (((decide ((emV x w hs es ev (psOf (mA (l.getD (↑i : Int).toNat mtD).fst))).length ≤ (1000000 : Nat)) &&
        decide ((emV x w hs es ev (psOf (mA (l.getD (↑i : Int).toNat mtD).fst))).length = (emV x w hs es ev (psOf (mA (l.getD (↑i : Int).toNat mtD).fst))).length) &&
        intsB (emV x w hs es ev (psOf (mA (l.getD (↑i : Int).toNat mtD).fst))).length fun (k : Nat) =>
        AV.int IntKind.i64 ((emV x w hs es ev (psOf (mA (l.getD (↑i : Int).toNat mtD).fst))).getD k (0 : Int))) &&
        intsB (emV x w hs es ev (psOf (mA (l.getD (↑i : Int).toNat mtD).fst))).length fun (k : Nat) =>
        AV.int IntKind.i64 ((emV x w hs es ev (psOf (mA (l.getD (↑i : Int).toNat mtD).fst))).getD k (0 : Int))) &&
        sameB (emV x w hs es ev (psOf (mA (l.getD (↑i : Int).toNat mtD).fst))).length
        (fun (k : Nat) => AV.int IntKind.i64 ((emV x w hs es ev (psOf (mA (l.getD (↑i : Int).toNat mtD).fst))).getD k (0 : Int))) fun (k : Nat) =>
        AV.int IntKind.i64 ((emV x w hs es ev (psOf (mA (l.getD (↑i : Int).toNat mtD).fst))).getD k (0 : Int)))
        (VB
        (false || emS x w hs es ev (psOf (mA (l.getD (↑i : Int).toNat mtD).fst)) != emS x w hs es ev (psOf (mA (l.getD (↑i : Int).toNat mtD).fst)) ||
        emE x w hs es ev (psOf (mA (l.getD (↑i : Int).toNat mtD).fst)) != emE x w hs es ev (psOf (mA (l.getD (↑i : Int).toNat mtD).fst)))
        (false = true)
        (∃ (i' : Nat),
        i'.le l.length ∧
        (invGb x w hs es ev l).μ i' < (invGb x w hs es ev l).μ i ∧
        ((evsA ev).sub (evsA ev) ∧
        (msA l).sub (msA l) ∧ ((0 : Nat) = (0 : Nat) ∧ (0 : Nat) = (0 : Nat) ∧ (0 : Nat) = (0 : Nat)) ∧ IntKind.i64.wrap ((↑i : Int) + (1 : Int)) = (↑i' : Int) ∧ True) ∧
        ((0 : Nat) = (0 : Nat) ∧ (true = true → true = true) ∧ ((qA x w hs es).sub (qA x w hs es) ∧ (qA x w hs es).cells.length = (qA x w hs es).cells.length) ∧ True) ∧
        True))))))))))))
        (NB (b && atB [qA x w hs es, evsA ev, msA l] [qA x w hs es, evsA ev, msA l])
        (NB (b && atB [qA x w hs es, evsA ev, msA l] [qA x w hs es, evsA ev, msA l])
        (VB ((↑V.length : Int) != (↑V.length : Int) || E != E) (false = true)
        ((∃ (i : Nat), i.le V.length ∧ ((msA V).sub (msA V) ∧ (msA V).sub (msA V) ∧ (0 : Int) = (↑i : Int) ∧ True) ∧ True) ∧
        ∀ (i : Nat),
        i.le V.length →
        VB (decide ((↑i : Int) < (↑V.length : Int)))
        (NB (decide ((0 : Int) ≤ (↑i : Int) ∧ (↑i : Int) < (↑V.length : Int)))
        (NB (decide ((0 : Int) ≤ (↑i : Int) ∧ (↑i : Int) < (↑V.length : Int)))
        (NB
        (isM (mA (V.getD (↑i : Int).toNat mtD).fst) && isM (mA (V.getD (↑i : Int).toNat mtD).fst) &&
        decide (psOf (mA (V.getD (↑i : Int).toNat mtD).fst) = psOf (mA (V.getD (↑i : Int).toNat mtD).fst)))
        (∃ (i' : Nat),
        i'.le V.length ∧ (invGc V).μ i' < (invGc V).μ i ∧ ((msA V).sub (msA V) ∧ (msA V).sub (msA V) ∧ IntKind.i64.wrap ((↑i : Int) + (1 : Int)) = (↑i' : Int) ∧ True) ∧ True))))
        (true = true))))))))) := by
  kernel_rfl

end Go.Proofs.YtamcloifhjafcaaDoor
