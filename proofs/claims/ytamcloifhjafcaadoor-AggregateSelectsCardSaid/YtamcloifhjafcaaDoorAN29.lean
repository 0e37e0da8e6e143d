/- NODES 29: matches, names and haves: contracts of both codes. -/
import Derived.Test.YtamcloifhjafcaaDoorAN28
namespace Go.Proofs.YtamcloifhjafcaaDoor
open Pw Go
set_option maxRecDepth 100000
set_option linter.unusedSimpArgs false
theorem leaves_le : ∀ (g : Nat) (d : Int) (x : NodeG), (leavesL g x).length ≤ (elems g d x).length
 | 0, _, _ => Nat.le_refl _
 | g + 1, d, x => by
  rw [elems_len]
  simp only [leavesL]
  split
  ·simp
  ·have key : ∀ n, n ≤ x.kids.length → (lvK g x.kids n).length ≤ cntK g (d + 1) x.kids n := by
    intro n hn
    induction n with
    | zero => exact Nat.le_refl _
    | succ n ih =>
     rw [lvK_succ (by omega), cntK_succ (by omega), List.length_append]
     have := leaves_le g (d + 1) (x.kids.getD n treeD)
     have := ih (by omega)
     omega
   have h := key _ (Nat.le_refl _)
   have e : (x.kids.map (leavesL g)).flatten = lvK g x.kids x.kids.length := by simp [lvK]
   rw [e]
   omega
theorem AN_len (x : NodeG) : (atomsL 8 x).length = (negL 8 x).length := by
 unfold atomsL negL
 split <;> simp
theorem AN_le (x : NodeG) : (atomsL 8 x).length ≤ (leavesL 8 x).length := by
 unfold atomsL
 split <;> simp
structure Lt (x : NodeG) (hs : List HaveG) (es : List AggG) : Prop where
 lit : litB 8 x = true
 nms : namesB hs es
 few : (elems 8 1 x).length ≤ 1000
theorem Lt.of {x : NodeG} {hs : List HaveG} {es : List AggG} (h : lightQ x hs es = true) : Lt x hs es := by
 obtain ⟨h1, h2⟩ := light_lit h
 refine ⟨h1, h2, ?_⟩
 simp only [lightQ, Bool.and_eq_true, decide_eq_true_eq] at h
 have h3 : weighS 8 x ≤ 40 := of_decide_eq_true h.1.1.1.1
 have := elems_few 8 1 x h3
 omega
theorem Lt.lv {x : NodeG} {hs : List HaveG} {es : List AggG} (h : Lt x hs es) : (leavesL 8 x).length ≤ 1000 := Nat.le_trans (leaves_le 8 1 x) h.few
theorem at16 {P : Program} {gl : Nat → AV} {f : FuncId} {x : NodeG} {v : AV} (h : PureC P gl f [nodeA 9 x] v) : PureC P gl f [nodeA 16 x] v :=
 PureC.args (args' := [nodeA 9 x]) rfl (fun i hi => by
  cases i with
  | zero => exact nodeA_sub' (by decide) x
  | succ i => simp at hi) h
theorem PureC.result {P : Program} {gl : Nat → AV} {f : FuncId} {args : List AV} {v v' : AV} (h : PureC P gl f args v) (hs : v.sub v') : PureC P gl f args v' := fun M W vals hG hM hA => by
 obtain ⟨hf, hc⟩ := h M W vals hG hM hA
 exact ⟨hf, hc.mono fun e W' ⟨u, M', k1, k2, k3⟩ => ⟨u, M', k1, k2.sub _ hs, k3⟩⟩
section
variable {x : NodeG} {w : Int} {hs : List HaveG} {es : List AggG} {ev : List EvG} {ps : List PlG} (hq : Lt x hs es) (hev : ev.length ≤ 60) (hp : ps.length ≤ 60)
abbrev mE (x : NodeG) (w : Int) (hs : List HaveG) (es : List AggG) (ev : List EvG) (ps : List PlG) : Int := mErr (chkE x w hs es) ev.length (negL 8 x) ps
include hq in
theorem tblGv_ok : TblOK Tryd.prog gN (tblOf (tblGv x w hs es (chkE x w hs es) (sndE x) (sndE x) (atomsL 8 x) (negL 8 x))) :=
 tblG_cons (cAt_ok (chkI_pure x w hs es hq.lit hq.nms)) (tblG_cons (cAt_ok (at16 (atomsI_pure x hq.lit hq.few))) (tblG_cons (cAt_ok (at16 (negI_pure x hq.lit hq.few)))
  (tblG_cons (cAt_ok (chkR_pure x w hs es hq.lit hq.nms)) (tblG_cons (cAt_ok (at16 (atomsR_pure x hq.lit hq.lv))) (tblG_cons (cAt_ok (at16 (negR_pure x hq.lit hq.lv))) (tblG_nil _ _))))))
def ifL {α : Type} (m : Int) (L : List α) : List α := if m = 0 then L else []
include hq in
theorem given_pure (hpB : ps.length ≤ 9223372036854775807) : PureC Tryd.prog gN 47 [qA x w hs es, evsA ev, mA ps] (.tup [atsA (ifL (mE x w hs es ev ps) (atomsL 8 x)), bosA (ifL (mE x w hs es ev ps) (negL 8 x)), .int .i64 (mE x w hs es ev ps)]) := by
 refine PureC.result (pure_vcG (d := 4) mix (tblGv_ok hq) (given_sat x w hs es ev ps (chkE x w hs es) (sndE x) (sndE x) (atomsL 8 x) (negL 8 x) (AN_len x) hpB)) ?_
 refine ⟨?_, ?_, by simp [AV.sub], trivial⟩
 ·unfold ifL
  split
  ·exact ⟨rfl, fun i hi => ⟨atomA_refl _, rfl⟩, fun h => h⟩
  ·exact ⟨rfl, fun i hi => by simp at hi, fun h => h⟩
 ·unfold ifL
  split
  ·exact ⟨rfl, fun i hi => ⟨by simp [AV.sub], rfl⟩, fun h => h⟩
  ·exact ⟨rfl, fun i hi => by simp at hi, fun h => h⟩
include hq hp in
theorem refchk_pure : PureC Tryd.prog gN 17 [qA x w hs es, evsA ev, mA ps] (.int .i64 (mE x w hs es ev ps)) :=
 pure_vcG (d := 4) mix (tblGv_ok hq) (refchk_sat x w hs es ev ps (chkE x w hs es) (sndE x) (sndE x) (atomsL 8 x) (negL 8 x) hp)
theorem mErr_in {c : Int} {nE : Nat} {N : List Bool} {ps : List PlG} (h : mErr c nE N ps = 0) : c = 0 ∧ ∀ j, j < ps.length → outB nE N.length (ps.getD j plD) = false := by
 unfold mErr at h
 split at h
 ·omega
 ·split at h
  ·omega
  ·rename_i h1 h2
   refine ⟨by omega, fun j hj => ?_⟩
   have h2 : allOut nE N.length ps = true := by simpa using h2
   have := List.all_eq_true.1 h2 j (by simpa using hj)
   simpa using this
theorem ifL_0 {α : Type} {m : Int} {L : List α} (h : m = 0) : ifL m L = L := if_pos h
theorem nmErr_if {m : Int} {A : List AtomG} {N : List Bool} {nm : List UInt8} : nmErr m (ifL m A) (ifL m N) nm = nmErr m A N nm := by
 by_cases h : m = 0
 ·rw [ifL_0 h, ifL_0 h]
 ·simp [nmErr, h]
theorem nmVal_if {m : Int} {ev : List EvG} {A : List AtomG} {N : List Bool} {ps : List PlG} {nm : List UInt8} : nmVal m ev (ifL m A) (ifL m N) ps nm = nmVal m ev A N ps nm := by
 by_cases h : m = 0
 ·rw [ifL_0 h, ifL_0 h]
 ·simp [nmVal, nmErr, h]
abbrev nE (x : NodeG) (w : Int) (hs : List HaveG) (es : List AggG) (ev : List EvG) (ps : List PlG) (nm : List UInt8) : Int := nmErr (mE x w hs es ev ps) (atomsL 8 x) (negL 8 x) nm
abbrev nV (x : NodeG) (w : Int) (hs : List HaveG) (es : List AggG) (ev : List EvG) (ps : List PlG) (nm : List UInt8) : List Int := nmVal (mE x w hs es ev ps) ev (atomsL 8 x) (negL 8 x) ps nm
include hq hp in
theorem namedI_pure (nm : List UInt8) : PureC Tryd.prog gN 13 [qA x w hs es, evsA ev, mA ps, .str nm] (.tup [isA (nV x w hs es ev ps nm), .int .i64 (nE x w hs es ev ps nm)]) := by
 have h := named_sat x w hs es ev ps (mE x w hs es ev ps) (ifL (mE x w hs es ev ps) (atomsL 8 x)) (ifL (mE x w hs es ev ps) (negL 8 x)) nm
  (by unfold ifL; split; exact AN_len x; rfl) (by unfold ifL; split; exact Nat.le_trans (AN_le x) hq.lv; exact Nat.zero_le _) hp (fun hm => by rw [ifL_0 hm]; exact (mErr_in hm).2)
 rw [nmErr_if, nmVal_if] at h
 exact pure_vcG (d := 4) mix (tblG_cons (cAt_ok (given_pure hq (by omega))) (tblG_nil _ _)) h
include hq hp in
theorem namedR_pure (nm : List UInt8) (hm : mE x w hs es ev ps = 0) : PureC Tryd.prog gN 48 [qA x w hs es, evsA ev, mA ps, .str nm] (.tup [isA (nV x w hs es ev ps nm), .int .i64 (nE x w hs es ev ps nm)]) := by
 have h := refnamed_sat x w hs es ev ps (sndE x) (sndE x) (atomsL 8 x) (negL 8 x) nm (AN_len x) (Nat.le_trans (AN_le x) hq.lv) hp (mErr_in hm).2
 rw [← hm] at h
 exact pure_vcG (d := 4) mix (tblG_cons (cAt_ok (at16 (atomsR_pure x hq.lit hq.lv))) (tblG_cons (cAt_ok (at16 (negR_pure x hq.lit hq.lv))) (tblG_nil _ _))) h
def hvE (e f o : Int) : Int := if e ≠ 0 then e else if f < 1 ∨ 6 < f then 11 else satE o
def hvB (e f o v : Int) (L : List Int) : Bool := decide (hvE e f o = 0) && (ofE f L.length (fun i => L.getD i 0) == 0) && satV o v (ofV f L.length (fun i => L.getD i 0))
abbrev hE (x : NodeG) (w : Int) (hs : List HaveG) (es : List AggG) (ev : List EvG) (ps : List PlG) (h : HaveG) : Int := hvE (nE x w hs es ev ps h.1.2.1) h.1.1 h.2.1.1
abbrev hB (x : NodeG) (w : Int) (hs : List HaveG) (es : List AggG) (ev : List EvG) (ps : List PlG) (h : HaveG) : Bool := hvB (nE x w hs es ev ps h.1.2.1) h.1.1 h.2.1.1 h.2.1.2.1 (nV x w hs es ev ps h.1.2.1)
theorem ofE_11 (f : Int) (n : Nat) (a : Nat → Int) : ofE f n a = 11 ↔ (f < 1 ∨ 6 < f) := by
 unfold ofE sumE
 constructor
 ·intro h
  split at h
  ·assumption
  ·split at h
   ·omega
   ·split at h
    ·split at h <;> omega
    ·split at h <;> omega
 ·intro h
  rw [if_pos h]
def ofNeed (f : Int) (L : List Int) : Prop := rng64 f ∧ L.length ≤ 1000000 ∧ ∀ i, i < L.length → rng64 (L.getD i 0)
theorem of_need {f : Int} {L : List Int} (h : ofNeed f L) : (inR f && decide (L.length ≤ 1000000) && intsB L.length fun k => AV.int IntKind.i64 (L.getD k 0)) = true := by
 obtain ⟨h1, h2, h3⟩ := h
 simp only [Bool.and_eq_true, decide_eq_true_eq]
 refine ⟨⟨inR_iff.2 h1, h2⟩, List.all_eq_true.2 fun i hi => ?_⟩
 exact inR_iff.2 (h3 i (by simpa using hi))
theorem holdsI_sat (h : HaveG) (L : List Int) (e : Int) (hn : ofNeed h.1.1 L) :
  (vcFun (mkG Tryd.prog gN (tblOf (tblHI x w hs es ev ps h.1.2.1 L e)) (fun _ _ => none) 0) 20 18 [qA x w hs es, evsA ev, mA ps, haveA h] .nil 0 (retP 4 (.tup [.bool (hvB e h.1.1 h.2.1.1 h.2.1.2.1 L), .int .i64 (hvE e h.1.1 h.2.1.1)]))).sat := by
 refine (holdsI_vc x w hs es ev ps h L e _ _).mpr (NB_intro (atB_self _) (VB_intro (fun h1 => ?_) (fun h1 => VB_intro (fun h2 => ?_) (fun h2 => VB_intro (fun h3 => ?_) (fun h3 => NB_intro (of_need hn) (VB_intro (fun h4 => ?_) (fun h4 => ?_)))))))
 ·have h1 : e ≠ 0 := by simpa using h1
  have : hvE e h.1.1 h.2.1.1 = e := if_pos h1
  rw [hvB, this, decide_eq_false h1]
  exact ⟨rfl, rfl, trivial⟩
 ·have h1 : e = 0 := by simpa using h1
  simp only [Bool.or_eq_true, decide_eq_true_eq] at h2
  have : hvE e h.1.1 h.2.1.1 = 11 := by rw [hvE, if_neg (by omega), if_pos (by omega)]
  rw [hvB, this]
  exact ⟨rfl, rfl, trivial⟩
 ·have h1 : e = 0 := by simpa using h1
  simp only [Bool.or_eq_false_iff, decide_eq_false_iff_not] at h2
  have h3 : satE h.2.1.1 ≠ 0 := by simpa using h3
  have : hvE e h.1.1 h.2.1.1 = satE h.2.1.1 := by rw [hvE, if_neg (by omega), if_neg (by omega)]
  rw [hvB, this, decide_eq_false h3]
  exact ⟨rfl, rfl, trivial⟩
 ·have h1 : e = 0 := by simpa using h1
  simp only [Bool.or_eq_false_iff, decide_eq_false_iff_not] at h2
  have h3 : satE h.2.1.1 = 0 := by simpa using h3
  have : hvE e h.1.1 h.2.1.1 = 0 := by rw [hvE, if_neg (by omega), if_neg (by omega), h3]
  have h4 : (ofE h.1.1 L.length (fun i => L.getD i 0) == 0) = false := by simpa using h4
  rw [hvB, this, h4]
  exact ⟨rfl, rfl, trivial⟩
 ·have h1 : e = 0 := by simpa using h1
  simp only [Bool.or_eq_false_iff, decide_eq_false_iff_not] at h2
  have h3 : satE h.2.1.1 = 0 := by simpa using h3
  have : hvE e h.1.1 h.2.1.1 = 0 := by rw [hvE, if_neg (by omega), if_neg (by omega), h3]
  have h4 : (ofE h.1.1 L.length (fun i => L.getD i 0) == 0) = true := by simpa using h4
  rw [hvB, this, h4, h3]
  exact ⟨rfl, rfl, trivial⟩
theorem holdsR_sat (h : HaveG) (L : List Int) (e : Int) (hn : ofNeed h.1.1 L) :
  (vcFun (mkG Tryd.prog gN (tblOf (tblHR x w hs es ev ps h.1.2.1 L e)) (fun _ _ => none) 0) 20 53 [qA x w hs es, evsA ev, mA ps, haveA h] .nil 0 (retP 4 (.tup [.bool (hvB e h.1.1 h.2.1.1 h.2.1.2.1 L), .int .i64 (hvE e h.1.1 h.2.1.1)]))).sat := by
 refine (holdsR_vc x w hs es ev ps h L e _ _).mpr (NB_intro (atB_self _) (VB_intro (fun h1 => ?_) (fun h1 => NB_intro (of_need hn) (VB_intro (fun h2 => ?_) (fun h2 => VB_intro (fun h3 => ?_) (fun h3 => ?_))))))
 ·have h1 : e ≠ 0 := by simpa using h1
  have : hvE e h.1.1 h.2.1.1 = e := if_pos h1
  rw [hvB, this, decide_eq_false h1]
  exact ⟨rfl, rfl, trivial⟩
 ·have h1 : e = 0 := by simpa using h1
  have h2 : ofE h.1.1 L.length (fun i => L.getD i 0) = 11 := by simpa using h2
  have h5 := (ofE_11 _ _ _).1 h2
  have : hvE e h.1.1 h.2.1.1 = 11 := by rw [hvE, if_neg (by omega), if_pos (by omega)]
  rw [hvB, this, h2]
  exact ⟨rfl, rfl, trivial⟩
 ·have h1 : e = 0 := by simpa using h1
  have h2 : ofE h.1.1 L.length (fun i => L.getD i 0) ≠ 11 := by simpa using h2
  have h5 := fun hc => h2 ((ofE_11 h.1.1 L.length (fun i => L.getD i 0)).2 hc)
  have h3 : satE h.2.1.1 ≠ 0 := by simpa using h3
  have : hvE e h.1.1 h.2.1.1 = satE h.2.1.1 := by rw [hvE, if_neg (by omega), if_neg h5]
  rw [hvB, this, decide_eq_false h3]
  exact ⟨rfl, rfl, trivial⟩
 ·have h1 : e = 0 := by simpa using h1
  have h2 : ofE h.1.1 L.length (fun i => L.getD i 0) ≠ 11 := by simpa using h2
  have h5 := fun hc => h2 ((ofE_11 h.1.1 L.length (fun i => L.getD i 0)).2 hc)
  have h3 : satE h.2.1.1 = 0 := by simpa using h3
  have : hvE e h.1.1 h.2.1.1 = 0 := by rw [hvE, if_neg (by omega), if_neg h5, h3]
  rw [hvB, this]
  exact ⟨by rw [Bool.and_comm]; rfl, rfl, trivial⟩
include hq hp in
theorem holdsI_pure (h : HaveG) (hn : ofNeed h.1.1 (nV x w hs es ev ps h.1.2.1)) : PureC Tryd.prog gN 18 [qA x w hs es, evsA ev, mA ps, haveA h] (.tup [.bool (hB x w hs es ev ps h), .int .i64 (hE x w hs es ev ps h)]) := by
 exact pure_vcG (d := 4) mix (tblG_cons (cAt_ok (namedI_pure hq hp h.1.2.1)) (tblG_cons satI_ok.up (tblG_cons ofI_ok.up (tblG_nil _ _)))) (holdsI_sat h _ _ hn)
include hq hp in
theorem holdsR_pure (h : HaveG) (hn : ofNeed h.1.1 (nV x w hs es ev ps h.1.2.1)) (hm : mE x w hs es ev ps = 0) : PureC Tryd.prog gN 53 [qA x w hs es, evsA ev, mA ps, haveA h] (.tup [.bool (hB x w hs es ev ps h), .int .i64 (hE x w hs es ev ps h)]) :=
 pure_vcG (d := 4) mix (tblG_cons (cAt_ok (namedR_pure hq hp h.1.2.1 hm)) (tblG_cons satR_ok.up (tblG_cons ofR_ok.up (tblG_nil _ _)))) (holdsR_sat h _ _ hn)
include hq hp in
theorem tblP_ok (h : HaveG) (hn : ofNeed h.1.1 (nV x w hs es ev ps h.1.2.1)) : TblOK Tryd.prog gN (tblOf (tblP x w hs es ev ps h (mE x w hs es ev ps) (ifL (mE x w hs es ev ps) (atomsL 8 x)) (ifL (mE x w hs es ev ps) (negL 8 x)) (nV x w hs es ev ps h.1.2.1) (nE x w hs es ev ps h.1.2.1) (hB x w hs es ev ps h) (hE x w hs es ev ps h))) :=
 tblG_cons (cAt_ok (refchk_pure hq hp)) (tblG_cons (cIf_ok (namedR_pure hq hp h.1.2.1)) (tblG_cons (cIf_ok (holdsR_pure hq hp h hn)) (tblG_cons (cAt_ok (given_pure hq (by omega))) (tblG_nil _ _))))
include hq hp in
theorem checkI_pure (h : HaveG) (hn : ofNeed h.1.1 (nV x w hs es ev ps h.1.2.1)) : PureC Tryd.prog gN 16 [qA x w hs es, evsA ev, mA ps] (.int .i64 (mE x w hs es ev ps)) :=
 pure_vcG (d := 4) mix (tblP_ok hq hp h hn) ((checkP_vc x w hs es ev ps h _ _ _ _ _ _ _ _).mpr (NB_intro (atB_self _) rfl))
end
end Go.Proofs.YtamcloifhjafcaaDoor
