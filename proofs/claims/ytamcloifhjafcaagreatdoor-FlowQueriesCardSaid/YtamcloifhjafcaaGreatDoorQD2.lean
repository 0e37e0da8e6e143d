/- FLOW 2: what a query reads: contracts; the chapter's examples; the law FlowLeast: conditions. -/
import Derived.Test.YtamcloifhjafcaaGreatDoorQD1
namespace Go.Proofs.YtamcloifhjafcaaGreatDoor
open Pw Go
set_option maxRecDepth 100000
set_option linter.unusedSimpArgs false
section
variable {x : NodeG} (w : Int) {hs : List HaveG} {es : List AggG} (hq : LtW x hs es)
include hq in
theorem rd_pure (c : Int) : PureC Tryz.prog gN 25 [qA x w hs es, .int .u64 c] (.rptr (.agg [.int .u64 (rdL (atomsL 8 x) c (atomsL 8 x).length), .bool (rdO (atomsL 8 x) (atomsL 8 x).length)]) 0) := by
 have hA : (atomsL 8 x).length ≤ 1000 := Nat.le_trans (AN_leW x) hq.lv
 refine pure_vcG (d := 4) mix (tblG_cons (cAt_ok (at16W (atomsI_pure x hq.lit hq.few))) (tblG_nil _ _)) ((rd_vc x w hs es (atomsL 8 x) (sndE x) c _ _).mpr ?_)
 generalize atomsL 8 x = A at hA ⊢
 simp only [atsWR, EqI, true_and, and_true, imp_self, implies_true, Int.toNat_natCast, NB_t]
 refine NB_intro (atB_self _) ⟨⟨0, Nat.zero_le _, rfl, ⟨rfl, rfl⟩, rfl⟩, fun i hi => VB_intro (fun h => ?_) (fun h => ?_)⟩
 ·have hlt : i < A.length := by have := of_decide_eq_true h; omega
  have hw : IntKind.i64.wrap ((i : Int) + 1) = ((i + 1 : Nat) : Int) := by rw [wrap_i64_id (by omega) (by omega)]; rfl
  refine NB_intro (decide_eq_true (by omega)) (VB_intro (fun h2 => ?_) (fun h2 => ?_))
  ·exact ⟨i + 1, hlt, by show A.length - (i + 1) < A.length - i; omega, hw, ⟨by simp only [rdL, jn, atR, if_pos h2], rfl⟩, rfl⟩
  ·exact ⟨i + 1, hlt, by show A.length - (i + 1) < A.length - i; omega, hw, ⟨by simp only [rdL, jn, atR, h2, Bool.false_eq_true, if_false], rfl⟩, rfl⟩
 ·have hi : i ≤ A.length := hi
  obtain rfl : i = A.length := by have := of_decide_eq_false h; omega
  exact ⟨⟨rfl, rfl⟩, rfl⟩
def rdV (x : NodeG) (c : Int) : Int := rdL (atomsL 8 x) c (atomsL 8 x).length
def opV (x : NodeG) : Bool := rdO (atomsL 8 x) (atomsL 8 x).length
def RdV (x : NodeG) (w : Int) (hs : List HaveG) (es : List AggG) (c : Int) : Int := if wfE x w hs es = 0 then rdV x c else 0
def OpV (x : NodeG) (w : Int) (hs : List HaveG) (es : List AggG) : Bool := if wfE x w hs es = 0 then opV x else false
def CkV (x : NodeG) (w : Int) (hs : List HaveG) (es : List AggG) (c : Int) : Int := if wfE x w hs es = 0 ∧ andNotI .u64 (rdV x c) c ≠ 0 then 13 else wfE x w hs es
include hq in
theorem tblRd_ok (c : Int) : TblOK Tryz.prog gN (tblOf (tblRd x w hs es (wfE x w hs es) c (rdV x c) (opV x))) := tblG_cons (cAt_ok (wf_pure w hq)) (tblG_cons (cAt_ok (rd_pure w hq c)) (tblG_nil _ _))
include hq in
theorem read_pure (c : Int) : PureC Tryz.prog gN 7 [qA x w hs es, .int .u64 c] (.tup [.int .u64 (RdV x w hs es c), .int .i64 (wfE x w hs es)]) := by
 refine pure_vcG (d := 4) mix (tblRd_ok w hq c) ((read_vc x w hs es _ c _ _ _ _).mpr (NB_intro (atB_self _) (VB_intro (fun h => ?_) (fun h => NB_intro (atB_self _) ?_))))
 ·have h : wfE x w hs es ≠ 0 := bne_iff_ne.1 h
  rw [RdV, if_neg h]
  exact ⟨rfl, rfl, trivial⟩
 ·have h : wfE x w hs es = 0 := bne_eq_false_iff_eq.1 h
  rw [RdV, if_pos h, h]
  exact ⟨rfl, rfl, trivial⟩
include hq in
theorem open_pure : PureC Tryz.prog gN 13 [qA x w hs es] (.tup [.bool (OpV x w hs es), .int .i64 (wfE x w hs es)]) := by
 refine pure_vcG (d := 4) mix (tblRd_ok w hq 0) ((open_vc x w hs es _ _ _ _ _).mpr (NB_intro (atB_self _) (VB_intro (fun h => ?_) (fun h => NB_intro (atB_self _) ?_))))
 ·have h : wfE x w hs es ≠ 0 := bne_iff_ne.1 h
  rw [OpV, if_neg h]
  exact ⟨rfl, rfl, trivial⟩
 ·have h : wfE x w hs es = 0 := bne_eq_false_iff_eq.1 h
  rw [OpV, if_pos h, h]
  exact ⟨rfl, rfl, trivial⟩
include hq in
theorem fleastQ_pure : PureC Tryz.prog gN 9 [qA x w hs es] (.tup [.int .u64 (RdV x w hs es 0), .int .i64 (wfE x w hs es)]) :=
 pure_vcG (d := 4) mix (tblG_cons (cAt_ok (read_pure w hq 0)) (tblG_nil _ _)) ((fleastQ_vc x w hs es _ _ _ _).mpr (NB_intro (atB_self _) ⟨rfl, rfl, trivial⟩))
include hq in
theorem fcheck_pure (c : Int) : PureC Tryz.prog gN 11 [qA x w hs es, .int .u64 c] (.int .i64 (CkV x w hs es c)) := by
 refine pure_vcG (d := 4) mix (tblG_cons (cAt_ok (read_pure w hq c)) (tblG_nil _ _)) ((fcheck_vc x w hs es c _ _ _).mpr (NB_intro (atB_self _) ?_))
 by_cases h : wfE x w hs es = 0
 ·rw [h, RdV, if_pos h, CkV]
  refine VB_intro (fun _ => VB_intro (fun h2 => ?_) (fun h2 => ?_)) (fun h1 => by simp [isW] at h1)
  ·rw [if_pos ⟨h, by simpa using h2⟩]
  ·rw [if_neg (fun h3 => by simp [h3.2] at h2)]
   exact h.symm
 ·rw [CkV, if_neg (fun h2 => h h2.1)]
  have he : (wfE x w hs es == 0) = false := by simpa using h
  rw [he]
  exact rfl
end
def fwNode (k m a : Int) (b : Bool) (x : Int) : AV := .agg [.int .i64 k, .int .i64 m, .int .i64 m, .int .i64 a, .bool b, .int .u64 x, .nils, .str [], .nils]
def fwQry (l : List AV) (w : Int) : AV := .agg [.int .i64 3, .int .i64 0, .int .i64 0, .int .i64 0, .bool false, .int .u64 0, .nils, .str [], .rol l true, .int .u64 w, .nils, .nils]
def fwQ1 : AV := fwQry [fwNode 1 1 0 true 1, fwNode 2 0 1 true 2, fwNode 1 1 2 false 0] 5
def fwQ2 : AV := fwQry [fwNode 1 1 0 true 1, fwNode 1 1 1 true 2] 5
theorem fwf1 : PureC Tryz.prog gN 24 [fwQ1] (.int .i64 0) := pure_runT (t := tblOf []) (k := 60) (d := 9) mix (tblG_nil _ _) (by kernel_rfl)
theorem fwf2 : PureC Tryz.prog gN 24 [fwQ2] (.int .i64 0) := pure_runT (t := tblOf []) (k := 60) (d := 9) mix (tblG_nil _ _) (by kernel_rfl)
def tblFW : List (Nat × List AV × AV) := [(24, [fwQ1], .int .i64 0), (24, [fwQ2], .int .i64 0)]
theorem tblFW_ok : TblOK Tryz.prog gN (tblL tblFW) := tblL_cons fwf1 (tblL_cons fwf2 (tblL_nil _ _))
theorem awake11_runs : PureC Tryz.prog gN 5 [] (.bool true) := pure_runT (t := tblL tblFW) (k := 60) (d := 9) mix tblFW_ok (by kernel_rfl)
theorem awake11_ok : PureG Tryz.prog gN 5 (litCtr [([], .bool true)]) := litCtr_cons awake11_runs (litCtr_nil _ _ _)
end Go.Proofs.YtamcloifhjafcaaGreatDoor
