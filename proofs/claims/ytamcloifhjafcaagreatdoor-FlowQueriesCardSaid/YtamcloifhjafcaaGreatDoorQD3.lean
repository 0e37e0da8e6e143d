/- QUERIES D3: ref11: what a query reads: conditions. -/
import Derived.Test.YtamcloifhjafcaaGreatDoorQD2
namespace Go.Proofs.YtamcloifhjafcaaGreatDoor
open Pw Go
set_option maxRecDepth 100000
set_option linter.unusedSimpArgs false
def cAt11 : Ctr
 | [.agg [.int .i64 k, .bool bd, .int .u64 bo, cs, .str nm], .int .u64 c] => some (isEls isCond cs, .int .u64 (if bd = true then bo else c))
 | _ => none
section
variable (x : NodeG) (w : Int) (hs : List HaveG) (es : List AggG) (A : List AtomG) (e c l s : Int) (R : Int → Int)
noncomputable def cRd11 : Ctr
 | [q, .int .u64 c] => some (atB [q] [qA x w hs es], .tup [.int .u64 (R c), .int .i64 e])
 | _ => none
def invRd11 : Inv := ⟨Nat, 50, fun i => ⟨[(1, .int .u64 c), (6, atsW A), (8, .int .u64 (rdL A c i)), (9, .int .i64 i)], []⟩, fun i => i ≤ A.length, fun i => A.length - i⟩
def invOp11 : Inv := ⟨Nat, 50, fun i => ⟨[(4, atsW A), (5, .int .i64 e), (6, .int .i64 i)], []⟩, fun i => i ≤ A.length ∧ rdO A i = false, fun i => A.length - i⟩
def mtO (A : List AtomG) (l c : Int) (i : Nat) : Bool := (List.range i).any fun k => andNotI .u64 l (atR (A.getD k atomD) c) == 0
def invRs11 : Inv := ⟨Nat, 50, fun i => ⟨[(1, .int .u64 l), (2, .int .u64 c), (8, atsW A), (9, .int .i64 e), (10, .int .i64 i)], []⟩, fun i => i ≤ A.length ∧ mtO A l c i = false, fun i => A.length - i⟩
noncomputable def tbl11 : List (Nat × Ctr) := [(37, cAt [qA x w hs es] (.int .i64 e)), (46, cAt [nodeA 16 x] (.tup [atsW A, .int .i64 s])), (27, cAt11)]
noncomputable def tblB11 : List (Nat × Ctr) := [(26, cAt [qA x w hs es] (.tup [atsW A, .int .i64 e])), (27, cAt11)]
noncomputable def E11 : Env := mkG Tryz.prog gN (tblOf (tblB11 x w hs es A e)) (fun f b => if f = 8 ∧ b = 0 then some (invRd11 A c) else if f = 14 ∧ b = 0 then some (invOp11 A e) else if f = 16 ∧ b = 0 then some (invRs11 A e c l) else none) 0
end
theorem atom11_vc (a : AtomG) (c r : Int) : (vcFun (mkG Tryz.prog gN (tblOf []) (fun _ _ => none) 0) 20 27 [atomA a, .int .u64 c] .nil 0 (retP 3 (.int .u64 r))).sat = ( VB a.snd.fst (a.snd.snd.fst = r) (c = r)) := by
 kernel_rfl
theorem atoms11_vc (x : NodeG) (w : Int) (hs : List HaveG) (es : List AggG) (A L : List AtomG) (e s r : Int) : (vcFun (mkG Tryz.prog gN (tblOf (tbl11 x w hs es A e s)) (fun _ _ => none) 0) 20 26 [qA x w hs es] .nil 0 (retP 4 (.tup [atsW L, .int .i64 r]))).sat = ( NB (atB [qA x w hs es] [qA x w hs es]) (VB (e != (0 : Int)) (L.length = (0 : Nat) ∧ e = r ∧ True) (NB (atB [nodeA (16 : Nat) x] [nodeA (16 : Nat) x]) ((A.length = L.length ∧ (∀ (i : Nat), i < A.length → (atomA (A.getD i atomD)).sub (atomA (L.getD i atomD)) ∧ (atomA (A.getD i atomD)).cells.length = (atomA (L.getD i atomD)).cells.length) ∧ (false = true → false = true)) ∧ s = r ∧ True)))) := by
 kernel_rfl
theorem read11_vc (x : NodeG) (w : Int) (hs : List HaveG) (es : List AggG) (A : List AtomG) (e c l r s : Int) : (vcFun (E11 x w hs es A e c l) 20 8 [qA x w hs es, .int .u64 c] .nil 0 (retP 4 (.tup [.int .u64 r, .int .i64 s]))).sat = ( NB (atB [qA x w hs es] [qA x w hs es]) (VB (e != (0 : Int)) ((0 : Int) = r ∧ e = s ∧ True) ((∃ (i : Nat), i.le A.length ∧ (c = c ∧ (atsW A).sub (atsW A) ∧ (0 : Int) = rdL A c i ∧ (0 : Int) = (↑i : Int) ∧ True) ∧ True) ∧ ∀ (i : Nat), i.le A.length → VB (decide ((↑i : Int) < (↑A.length : Int))) (NB (decide ((0 : Int) ≤ (↑i : Int) ∧ (↑i : Int) < (↑A.length : Int))) (NB (isEls isCond (AV.rof (ac (A.getD (↑i : Int).toNat atomD)).length (fun (i_1 : Nat) => condA ((ac (A.getD (↑i : Int).toNat atomD)).getD i_1 condD)) false)) (∃ (i' : Nat), i'.le A.length ∧ (invRd11 A c).μ i' < (invRd11 A c).μ i ∧ (c = c ∧ (atsW A).sub (atsW A) ∧ orI IntKind.u64 (rdL A c i) (if (A.getD (↑i : Int).toNat atomD).snd.fst = true then (A.getD (↑i : Int).toNat atomD).snd.snd.fst else c) = rdL A c i' ∧ IntKind.i64.wrap ((↑i : Int) + (1 : Int)) = (↑i' : Int) ∧ True) ∧ True))) (rdL A c i = r ∧ (0 : Int) = s ∧ True)))) := by
 kernel_rfl
theorem open11_vc (x : NodeG) (w : Int) (hs : List HaveG) (es : List AggG) (A : List AtomG) (e c l : Int) (r : Bool) (s : Int) : (vcFun (E11 x w hs es A e c l) 20 14 [qA x w hs es] .nil 0 (retP 4 (.tup [.bool r, .int .i64 s]))).sat = ( NB (atB [qA x w hs es] [qA x w hs es]) ((∃ (i : Nat), (i ≤ A.length ∧ rdO A i = false) ∧ ((atsW A).sub (atsW A) ∧ e = e ∧ (0 : Int) = (↑i : Int) ∧ True) ∧ True) ∧ ∀ (i : Nat), i ≤ A.length ∧ rdO A i = false → VB (decide ((↑i : Int) < (↑A.length : Int))) (NB (decide ((0 : Int) ≤ (↑i : Int) ∧ (↑i : Int) < (↑A.length : Int))) (VB (!(A.getD (↑i : Int).toNat atomD).snd.fst) (true = r ∧ e = s ∧ True) (∃ (i' : Nat), (i' ≤ A.length ∧ rdO A i' = false) ∧ (invOp11 A e).μ i' < (invOp11 A e).μ i ∧ ((atsW A).sub (atsW A) ∧ e = e ∧ IntKind.i64.wrap ((↑i : Int) + (1 : Int)) = (↑i' : Int) ∧ True) ∧ True))) (false = r ∧ e = s ∧ True))) := by
 kernel_rfl
theorem reads11_vc (x : NodeG) (w : Int) (hs : List HaveG) (es : List AggG) (A : List AtomG) (e c l : Int) (r : Bool) (s : Int) : (vcFun (E11 x w hs es A e c l) 20 16 [qA x w hs es, .int .u64 l, .int .u64 c] .nil 0 (retP 4 (.tup [.bool r, .int .i64 s]))).sat = ( NB (atB [qA x w hs es] [qA x w hs es]) ((∃ (i : Nat), (i ≤ A.length ∧ mtO A l c i = false) ∧ (l = l ∧ c = c ∧ (atsW A).sub (atsW A) ∧ e = e ∧ (0 : Int) = (↑i : Int) ∧ True) ∧ True) ∧ ∀ (i : Nat), i ≤ A.length ∧ mtO A l c i = false → VB (decide ((↑i : Int) < (↑A.length : Int))) (NB (decide ((0 : Int) ≤ (↑i : Int) ∧ (↑i : Int) < (↑A.length : Int))) (NB (isEls isCond (AV.rof (ac (A.getD (↑i : Int).toNat atomD)).length (fun (i_1 : Nat) => condA ((ac (A.getD (↑i : Int).toNat atomD)).getD i_1 condD)) false)) (VB (andNotI IntKind.u64 l (if (A.getD (↑i : Int).toNat atomD).snd.fst = true then (A.getD (↑i : Int).toNat atomD).snd.snd.fst else c) == (0 : Int)) (true = r ∧ e = s ∧ True) (∃ (i' : Nat), (i' ≤ A.length ∧ mtO A l c i' = false) ∧ (invRs11 A e c l).μ i' < (invRs11 A e c l).μ i ∧ (l = l ∧ c = c ∧ (atsW A).sub (atsW A) ∧ e = e ∧ IntKind.i64.wrap ((↑i : Int) + (1 : Int)) = (↑i' : Int) ∧ True) ∧ True)))) (false = r ∧ e = s ∧ True))) := by
 kernel_rfl
theorem check11_vc (x : NodeG) (w : Int) (hs : List HaveG) (es : List AggG) (e c r : Int) (R : Int → Int) : (vcFun (mkG Tryz.prog gN (tblOf [(8, cRd11 x w hs es e R)]) (fun _ _ => none) 0) 20 12 [qA x w hs es, .int .u64 c] .nil 0 (retP 3 (.int .i64 r))).sat = ( NB (atB [qA x w hs es] [qA x w hs es]) (VB (e == (0 : Int) && andNotI IntKind.u64 (R c) c != (0 : Int)) ((13 : Int) = r) (e = r))) := by
 kernel_rfl
theorem least11_vc (x : NodeG) (w : Int) (hs : List HaveG) (es : List AggG) (e r s : Int) (R : Int → Int) : (vcFun (mkG Tryz.prog gN (tblOf [(8, cRd11 x w hs es e R)]) (fun _ _ => none) 0) 20 10 [qA x w hs es] .nil 0 (retP 3 (.tup [.int .u64 r, .int .i64 s]))).sat = ( NB (atB [qA x w hs es] [qA x w hs es]) (R (0 : Int) = r ∧ e = s ∧ True)) := by
 kernel_rfl
end Go.Proofs.YtamcloifhjafcaaGreatDoor
namespace Go.Proofs.YtamcloifhjafcaaGreatDoor
open Pw Go
set_option maxRecDepth 100000
set_option linter.unusedSimpArgs false
abbrev bv (n : Int) : BitVec 64 := BitVec.ofInt 64 n
theorem bv_nat (v : BitVec 64) : bv (v.toNat : Int) = v := by
 apply BitVec.eq_of_toNat_eq
 simp [BitVec.toNat_ofInt]
theorem wrapN (v : BitVec 64) : IntKind.u64.wrap (v.toNat : Int) = (v.toNat : Int) := wrap_u64_id (by omega) (by have := v.isLt; omega)
theorem orI_bv (a b : Int) : orI .u64 a b = ((bv a ||| bv b).toNat : Int) := wrapN _
theorem jn_or (a b : Int) : jn a b = orI .u64 a b := by
 show orI .u64 (orI .u64 0 a) b = _
 rw [orI_bv (orI .u64 0 a), orI_bv 0 a, bv_nat, orI_bv a b, show bv 0 = 0#64 from rfl, BitVec.zero_or]
theorem atom11_ok : PureG Tryz.prog gN 27 cAt11 := by
 intro args nd v he hnd
 unfold cAt11 at he
 split at he <;> cases he
 rename_i k bd bo cs nm c
 refine PureC.args (args' := [atomA (k, bd, bo, elsOf condOf cs, nm, ()), .int .u64 c]) rfl (fun i hi => by
  match i, hi with
  | 0, _ => exact ⟨int_sub _ _, bool_sub _, int_sub _ _, els_sub cond_sub hnd, AV.str_sub _, trivial⟩
  | 1, _ => exact int_sub _ _
  | i + 2, hi => exact absurd hi (by simp)) ?_
 refine pure_vcG (d := 3) mix (tblG_nil _ _) ((atom11_vc _ c _).mpr ?_)
 refine VB_intro (fun h => ?_) (fun h => ?_)
 ·have h : bd = true := h
  rw [if_pos h]
 ·have h : bd = false := h
  rw [if_neg (by simp [h])]
section
variable {x : NodeG} (w : Int) {hs : List HaveG} {es : List AggG} (hq : LtW x hs es)
def wfA (x : NodeG) (w : Int) (hs : List HaveG) (es : List AggG) : List AtomG := if wfE x w hs es = 0 then atomsL 8 x else []
theorem wf_snd (h : wfE x w hs es = 0) : sndE x = 0 := by
 have hc : chkE x w hs es = 0 := by
  by_cases hc : chkE x w hs es = 0
  ·exact hc
  ·have e2 : wfE x w hs es = chkE x w hs es := if_pos hc
   rw [e2] at h
   exact absurd h hc
 unfold chkE at hc
 split at hc
 ·rename_i h; rw [sndE, if_pos h.1]
 ·cases hc
include hq
theorem wfA_le : (wfA x w hs es).length ≤ 1000 := by
 unfold wfA
 split
 ·exact Nat.le_trans (AN_leW x) hq.lv
 ·exact Nat.zero_le _
theorem ref10_wf : PureC Tryz.prog gN 37 [qA x w hs es] (.int .i64 (wfE x w hs es)) := by
 have := ref10_pure w hq
 rwa [ref10_eq hq.lit] at this
theorem atoms11_pure : PureC Tryz.prog gN 26 [qA x w hs es] (.tup [atsW (wfA x w hs es), .int .i64 (wfE x w hs es)]) := by
 refine pure_vcG (d := 4) mix (tblG_cons (cAt_ok (ref10_wf w hq)) (tblG_cons (cAt_ok (at16W (atomsR_pure x hq.lit hq.lv))) (tblG_cons atom11_ok (tblG_nil _ _)))) ((atoms11_vc x w hs es (atomsL 8 x) _ _ (sndE x) _).mpr (NB_intro (atB_self _) (VB_intro (fun h => ?_) (fun h => NB_intro (atB_self _) ?_))))
 ·have h : wfE x w hs es ≠ 0 := bne_iff_ne.1 h
  exact ⟨by rw [wfA, if_neg h]; rfl, rfl, trivial⟩
 ·have h : wfE x w hs es = 0 := bne_eq_false_iff_eq.1 h
  rw [wfA, if_pos h, h]
  exact ⟨⟨rfl, fun i _ => ⟨atomA_refl _, rfl⟩, fun h => h⟩, wf_snd w h, trivial⟩
theorem E11_ok (c l : Int) : CtrOK (E11 x w hs es (wfA x w hs es) (wfE x w hs es) c l) :=
 mkG_ctr (tblG_cons (cAt_ok (atoms11_pure w hq)) (tblG_cons atom11_ok (tblG_nil _ _)))
theorem read11_pure (c : Int) : PureC Tryz.prog gN 8 [qA x w hs es, .int .u64 c] (.tup [.int .u64 (RdV x w hs es c), .int .i64 (wfE x w hs es)]) := by
 refine pure_vcE (d := 4) mix (E11_ok w hq c 0) ((read11_vc x w hs es _ _ c 0 _ _).mpr (NB_intro (atB_self _) ?_))
 have hA := wfA_le w hq
 refine VB_intro (fun h => ?_) (fun h => ?_)
 ·have h : wfE x w hs es ≠ 0 := bne_iff_ne.1 h
  exact ⟨by rw [RdV, if_neg h], rfl, trivial⟩
 ·have h : wfE x w hs es = 0 := bne_eq_false_iff_eq.1 h
  have e1 : wfA x w hs es = atomsL 8 x := if_pos h
  rw [e1] at hA ⊢
  simp only [atsWR, EqI, true_and, and_true, imp_self, implies_true, Int.toNat_natCast]
  refine ⟨⟨0, Nat.zero_le _, rfl, rfl⟩, fun i hi => VB_intro (fun h1 => ?_) (fun h1 => ?_)⟩
  ·have hlt : i < (atomsL 8 x).length := by have := of_decide_eq_true h1; omega
   refine NB_intro (decide_eq_true (by omega)) (NB_intro (conds_is _) ⟨i + 1, hlt, by show (atomsL 8 x).length - (i + 1) < (atomsL 8 x).length - i; omega, ?_, by rw [wrap_i64_id (by omega) (by omega)]; rfl⟩)
   rw [rdL, jn_or]
   rfl
  ·have hi : i ≤ (atomsL 8 x).length := hi
   obtain rfl : i = (atomsL 8 x).length := by have := of_decide_eq_false h1; omega
   exact ⟨by rw [RdV, if_pos h]; rfl, h.symm⟩
theorem open11_pure : PureC Tryz.prog gN 14 [qA x w hs es] (.tup [.bool (OpV x w hs es), .int .i64 (wfE x w hs es)]) := by
 refine pure_vcE (d := 4) mix (E11_ok w hq 0 0) ((open11_vc x w hs es _ _ 0 0 _ _).mpr (NB_intro (atB_self _) ?_))
 have hA := wfA_le w hq
 have hO : OpV x w hs es = rdO (wfA x w hs es) (wfA x w hs es).length := by
  rw [OpV, wfA]
  split <;> rfl
 rw [hO]
 generalize wfA x w hs es = A at hA ⊢
 simp only [atsWR, EqI, true_and, and_true, imp_self, implies_true, Int.toNat_natCast]
 have mono : ∀ i k, rdO A i = true → rdO A (i + k) = true := fun i k h => by
  induction k with
  | zero => exact h
  | succ k ih =>
   show (rdO A (i + k) || !(A.getD (i + k) atomD).2.1) = true
   rw [ih, Bool.true_or]
 refine ⟨⟨0, ⟨Nat.zero_le _, rfl⟩, rfl⟩, fun i ⟨hi1, hi2⟩ => VB_intro (fun h1 => NB_intro (decide_eq_true ?_) (VB_intro (fun h2 => ?_) (fun h2 => ?_))) (fun h1 => ?_)⟩
 ·have := of_decide_eq_true h1; omega
 ·have hlt : i < A.length := by have := of_decide_eq_true h1; omega
  have h3 : rdO A (i + 1) = true := by
   show (rdO A i || !(A.getD i atomD).2.1) = true
   rw [h2, Bool.or_true]
  have h4 := mono (i + 1) (A.length - (i + 1)) h3
  rw [show i + 1 + (A.length - (i + 1)) = A.length by omega] at h4
  rw [h4]
 ·have hlt : i < A.length := by have := of_decide_eq_true h1; omega
  refine ⟨i + 1, ⟨hlt, ?_⟩, by show A.length - (i + 1) < A.length - i; omega, by rw [wrap_i64_id (by omega) (by omega)]; rfl⟩
  show (rdO A i || !(A.getD i atomD).2.1) = false
  rw [hi2, h2]; rfl
 ·obtain rfl : i = A.length := by have := of_decide_eq_false h1; omega
  rw [hi2]
def RsV (x : NodeG) (w : Int) (hs : List HaveG) (es : List AggG) (l c : Int) : Bool := mtO (wfA x w hs es) l c (wfA x w hs es).length
theorem reads11_pure (l c : Int) : PureC Tryz.prog gN 16 [qA x w hs es, .int .u64 l, .int .u64 c] (.tup [.bool (RsV x w hs es l c), .int .i64 (wfE x w hs es)]) := by
 refine pure_vcE (d := 4) mix (E11_ok w hq c l) ((reads11_vc x w hs es _ _ c l _ _).mpr (NB_intro (atB_self _) ?_))
 have hA := wfA_le w hq
 rw [RsV]
 generalize wfA x w hs es = A at hA ⊢
 simp only [atsWR, EqI, true_and, and_true, imp_self, implies_true, Int.toNat_natCast]
 have hS : ∀ i, mtO A l c (i + 1) = (mtO A l c i || andNotI .u64 l (atR (A.getD i atomD) c) == 0) := fun i => by
  simp [mtO, List.range_succ, List.any_append]
 refine ⟨⟨0, ⟨Nat.zero_le _, rfl⟩, rfl⟩, fun i ⟨hi1, hi2⟩ => VB_intro (fun h1 => NB_intro (decide_eq_true ?_) (NB_intro (conds_is _) (VB_intro (fun h2 => ?_) (fun h2 => ?_)))) (fun h1 => ?_)⟩
 ·have := of_decide_eq_true h1; omega
 ·have hlt : i < A.length := by have := of_decide_eq_true h1; omega
  exact (List.any_eq_true.2 ⟨i, by simpa using hlt, h2⟩).symm
 ·have hlt : i < A.length := by have := of_decide_eq_true h1; omega
  have h2 : (andNotI .u64 l (atR (A.getD i atomD) c) == 0) = false := h2
  exact ⟨i + 1, ⟨hlt, by rw [hS, hi2, h2]; rfl⟩, by show A.length - (i + 1) < A.length - i; omega, by rw [wrap_i64_id (by omega) (by omega)]; rfl⟩
 ·obtain rfl : i = A.length := by have := of_decide_eq_false h1; omega
  rw [hi2]
theorem rdC11_ok : PureG Tryz.prog gN 8 (cRd11 x w hs es (wfE x w hs es) (RdV x w hs es)) := by
 intro args nd v he hnd
 unfold cRd11 at he
 split at he <;> cases he
 rename_i q c
 have h2 : [q] = [qA x w hs es] := by simpa [atB] using hnd
 cases h2
 exact read11_pure w hq _
theorem check11_pure (c : Int) : PureC Tryz.prog gN 12 [qA x w hs es, .int .u64 c] (.int .i64 (CkV x w hs es c)) := by
 refine pure_vcG (d := 3) mix (tblG_cons (rdC11_ok w hq) (tblG_nil _ _)) ((check11_vc x w hs es _ c _ _).mpr (NB_intro (atB_self _) (VB_intro (fun h => ?_) (fun h => ?_))))
 ·simp only [Bool.and_eq_true, beq_iff_eq, bne_iff_ne] at h
  have e1 : RdV x w hs es c = rdV x c := if_pos h.1
  rw [e1] at h
  rw [CkV, if_pos h]
 ·rw [CkV, if_neg]
  rintro ⟨h1, h2⟩
  have e1 : RdV x w hs es c = rdV x c := if_pos h1
  rw [e1, h1] at h
  simp at h
  exact h2 h
theorem least11_pure : PureC Tryz.prog gN 10 [qA x w hs es] (.tup [.int .u64 (RdV x w hs es 0), .int .i64 (wfE x w hs es)]) :=
 pure_vcG (d := 3) mix (tblG_cons (rdC11_ok w hq) (tblG_nil _ _)) ((least11_vc x w hs es _ _ _ _).mpr (NB_intro (atB_self _) ⟨rfl, rfl, trivial⟩))
end
end Go.Proofs.YtamcloifhjafcaaGreatDoor
