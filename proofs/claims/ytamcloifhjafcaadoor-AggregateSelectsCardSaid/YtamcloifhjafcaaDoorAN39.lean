/- NODES 39: wanted, emitted, selected: contracts; the law AggregateGives, conditions. -/
import Derived.Test.YtamcloifhjafcaaDoorAN38
namespace Go.Proofs.YtamcloifhjafcaaDoor
open Pw Go
set_option maxRecDepth 100000
set_option linter.unusedSimpArgs false
section
variable {x : NodeG} {w : Int} {hs : List HaveG} {es : List AggG} {ev : List EvG}
theorem ofNeed_nV {f : Int} {ps : List PlG} (nm : List UInt8) (hp : ps.length ≤ 60) (he : evR ev) (hf : rng64 f) : ofNeed f (nV x w hs es ev ps nm) := by
 have := nV_ok (x := x) (w := w) (hs := hs) (es := es) nm hp he
 exact ⟨hf, by omega, this.2⟩
theorem chk1_ok {b : Bool} (k : b = true → Lt x hs es) (he : evR ev) : PureG Tryd.prog gN 16 (cChk x w hs es ev b) :=
 chk_of fun hb _ hp => checkI_pure (k hb) hp haveD (ofNeed_nV _ hp he (by simp [rng64, haveD, aggD]))
theorem chk2_ok {b : Bool} (k : b = true → Lt x hs es) : PureG Tryd.prog gN 17 (cChk x w hs es ev b) :=
 chk_of fun hb _ hp => refchk_pure (k hb) hp
theorem tblWn_ok (hq : Lt x hs es) (he : evR ev) : TblOK Tryd.prog gN (tblOf (tblWn x w hs es ev)) :=
 tblG_cons (chk1_ok (fun _ => hq) he) (tblG_cons (chk2_ok (fun _ => hq)) (tblG_cons (hol_of fun _ _ a hp hr => holdsI_pure hq hp a (ofNeed_nV _ hp he hr)) (tblG_cons (holR_of fun _ _ a hp hr hm => holdsR_pure hq hp a (ofNeed_nV _ hp he hr) hm) (tblG_nil _ _))))
def hsR (hs : List HaveG) : Prop := ∀ i, i < hs.length → rng64 (hs.getD i haveD).1.1
theorem wan_of {g : Nat} {b : Bool} (h : b = true → ∀ ps : List PlG, ps.length ≤ 60 → PureC Tryd.prog gN g [qA x w hs es, evsA ev, mA ps] (.tup [.bool (wnB x w hs es ev ps), .int .i64 (wnE x w hs es ev ps)])) : PureG Tryd.prog gN g (cWan x w hs es ev b) := by
 intro args nd v he hnd
 unfold cWan at he
 split at he <;> cases he
 obtain ⟨hb, rfl, rfl, hm, hl⟩ := gd_of hnd
 exact args3 hm trivial (h hb _ hl)
theorem wanI_ok {b : Bool} (k : b = true → Lt x hs es) (he : evR ev) (hr : hsR hs) : PureG Tryd.prog gN 32 (cWan x w hs es ev b) :=
 wan_of fun hb ps hp => pure_vcG (d := 4) mix (tblWn_ok (k hb) he) (wantI_sat x w hs es ev ps hp (k hb).nms.1 hr)
end
theorem pl_sub (a : AV) (h : isCond a = true) : a.sub (plA (plOf a)) ∧ a.cells.length = (plA (plOf a)).cells.length := by
 unfold isCond at h
 split at h
 ·exact ⟨⟨by simp [AV.sub, plOf], by simp [AV.sub, plOf], trivial⟩, rfl⟩
 ·cases h
theorem cloneP_ok : PureG Tryd.prog gN 66 cCloneP := by
 intro args nd v he hnd
 unfold cCloneP at he
 split at he <;> cases he
 rename_i n f ex
 simp only [Bool.and_eq_true, decide_eq_true_eq, List.all_eq_true, List.mem_range] at hnd
 obtain ⟨h1, h2⟩ := hnd
 have hlen : ((List.range n).map fun i => plOf (f i)).length = n := by simp
 have hget : ∀ i, i < n → ((List.range n).map fun i => plOf (f i)).getD i plD = plOf (f i) := fun i hi => by simp [List.getD, hi]
 have key : PureC Tryd.prog gN 66 [plsA ((List.range n).map fun i => plOf (f i))] (plsA ((List.range n).map fun i => plOf (f i))) := by
  refine pure_vcE (E := EQ) (k := 20) (d := 3) mix EQ_ok ((cloneP_vc _).mpr ?_)
  rw [hlen]
  intro b hb
  cases b with
  | true => exact VB_intro (fun _ => hb rfl) (fun h => by cases h)
  | false =>
   refine VB_intro (fun h => by cases h) (fun _ => NB_intro (by simp [room]; omega) ⟨by omega, fun i hi => ⟨by rw [Nat.zero_add]; exact plA_refl _, rfl⟩, fun h => by cases h⟩)
 have hs1 : (AV.rof n f ex).sub (plsA ((List.range n).map fun i => plOf (f i))) := by
  refine ⟨hlen.symm, fun i hi => ?_, fun h => by cases h⟩
  show (f i).sub (plA (((List.range n).map fun i => plOf (f i)).getD i plD)) ∧ _ = (plA (((List.range n).map fun i => plOf (f i)).getD i plD)).cells.length
  rw [hget i hi]
  exact pl_sub (f i) (h2 i hi)
 have hs2 : (plsA ((List.range n).map fun i => plOf (f i))).sub (.rof n (fun i => plA (plOf (f i))) false) := by
  refine ⟨hlen, fun i hi => ?_, fun h => h⟩
  rw [hlen] at hi
  show (plA (((List.range n).map fun i => plOf (f i)).getD i plD)).sub (plA (plOf (f i))) ∧ _
  rw [hget i hi]
  exact ⟨plA_refl _, rfl⟩
 have h3 := PureC.args (args := [AV.rof n f ex]) (args' := [plsA ((List.range n).map fun i => plOf (f i))]) rfl (fun i hi => by cases i with | zero => exact hs1 | succ i => simp at hi) key
 exact PureC.result h3 hs2
section
variable {x : NodeG} {w : Int} {hs : List HaveG} {es : List AggG} {ev : List EvG}
end
end Go.Proofs.YtamcloifhjafcaaDoor
