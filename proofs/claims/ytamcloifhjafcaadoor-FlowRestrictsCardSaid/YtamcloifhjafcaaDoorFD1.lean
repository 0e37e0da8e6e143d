/- FLOW 1: the query of numbers as a value; what a query reads: conditions. -/
import Derived.Test.YtamcloifhjafcaaDoorKQ6
namespace Go.Proofs.YtamcloifhjafcaaDoor
open Pw Go
set_option maxRecDepth 100000
set_option linter.unusedSimpArgs false
theorem nodeA_up : ∀ (g f f' : Nat) (x : NodeG), depN g x → g ≤ f → g ≤ f' → (nodeA f x).sub (nodeA f' x)
 | 0, _, _, _, h, _, _ => h.elim
 | g + 1, f + 1, f' + 1, x, h, hf, hf' =>
  subL9 (int_sub _ _) (int_sub _ _) (int_sub _ _) (int_sub _ _) (bool_sub _) (int_sub _ _) ⟨rfl, fun i _ => ⟨⟨rfl, rfl, trivial⟩, rfl⟩, fun h => h⟩ (AV.str_sub _)
   ⟨rfl, fun i hi => ⟨nodeA_up g f f' _ (h i hi) (by omega) (by omega), by rw [nodeA_cells, nodeA_cells]⟩, fun h => h⟩
theorem dep_leaf (g : Nat) (k p : Int) : depN (g + 1) (leafG k p) := fun i hi => absurd hi (Nat.not_lt_zero i)
theorem dep_pc (g : Nat) {x : NodeG} (h : Pc 9 x) : depN (g + 2) x := by
 intro i hi
 obtain ⟨k, p, e, _⟩ := pc_kids h _ (getD_mem (d := treeD) hi)
 rw [e]
 exact dep_leaf g k p
theorem kq_up (l : List Int) : (qA3 (kqX l) (kqW l) (kqHs l) (kqEs l)).sub (qA (kqX l) (kqW l) (kqHs l) (kqEs l)) := by
 have hk : ∀ i, i < (kqX l).kids.length → (nodeA 2 ((kqX l).kids.getD i treeD)).sub (nodeA 15 ((kqX l).kids.getD i treeD)) := by
  intro i hi
  refine nodeA_up 2 2 15 _ ?_ (by omega) (by omega)
  rcases kqX_cases l with ⟨x, e, h, _⟩ | ⟨K, e, _, _, _, h, _⟩
  ·rw [e] at hi ⊢
   obtain ⟨k, p, e, _⟩ := pc_kids h _ (getD_mem (d := treeD) hi)
   rw [e]
   exact dep_leaf 1 k p
  ·rw [e] at hi ⊢
   exact dep_pc 0 (h _ (getD_mem (d := treeD) hi))
 have := qA_refl (kqX l) (kqW l) (kqHs l) (kqEs l)
 refine ⟨int_sub _ _, int_sub _ _, int_sub _ _, int_sub _ _, bool_sub _, int_sub _ _, ⟨rfl, fun i _ => ⟨⟨rfl, rfl, trivial⟩, rfl⟩, fun h => h⟩, AV.str_sub _, ⟨rfl, fun i hi => ⟨hk i hi, by rw [nodeA_cells, nodeA_cells]⟩, fun h => h⟩, int_sub _ _, ?_, ?_, trivial⟩
 ·exact ⟨rfl, fun _ _ => ⟨⟨int_sub _ _, AV.str_sub _, int_sub _ _, int_sub _ _, trivial⟩, rfl⟩, fun h => h⟩
 ·exact ⟨rfl, fun _ _ => ⟨⟨int_sub _ _, AV.str_sub _, trivial⟩, rfl⟩, fun h => h⟩
theorem leafK_ok : PureG Tryd.prog gN 55 cLfK := by
 intro args nd v he hnd
 unfold cLfK at he
 split at he <;> cases he
 have hnd := of_decide_eq_true hnd
 rw [hide_eq]
 exact leafK_pure 2 ⟨hnd.1, hnd.2.1⟩ ⟨hnd.2.2.1, hnd.2.2.2⟩
theorem EKQ_ok (l : List Int) : CtrOK (EKQ l (kqX l) (qNn l)) :=
 ⟨(mkG_ctr (P := Tryd.prog) (gl := gN) (inv := fun _ _ => none) (n := 0) (tblG_cons mod_ok (tblG_cons (cAt_ok (by have := at_ok l 4; rwa [if_neg (by decide)] at this)) (tblG_cons leafK_ok (tblG_nil _ _))))).1, itr_none rfl⟩
theorem PureC.result' {P : Program} {gl : Nat → AV} {f : FuncId} {args : List AV} {v v' : AV} (h : PureC P gl f args v) (hs : v.sub v') : PureC P gl f args v' := fun M W vals hG hM hA => by
 obtain ⟨h1, h2⟩ := h M W vals hG hM hA
 exact ⟨h1, h2.mono fun e W' ⟨u, M', k1, k2, k3⟩ => ⟨u, M', k1, k2.sub v' hs, k3⟩⟩
theorem query_pure (l : List Int) (hl : ∀ i, -9223372036854775808 ≤ l.getD i 0 ∧ l.getD i 0 ≤ 9223372036854775807) : PureC Tryd.prog gN 21 [iqA l] (qA (kqX l) (kqW l) (kqHs l) (kqEs l)) :=
 PureC.result' (pure_vcE (E := EKQ l (kqX l) (qNn l)) (k := 20) (d := 4) mix (EKQ_ok l) (query_sat l hl)) (kq_up l)
def jn (a b : Int) : Int := orI .u64 (orI .u64 0 a) b
def atR (a : AtomG) (c : Int) : Int := if a.2.1 = true then a.2.2.1 else c
def rdL (A : List AtomG) (c : Int) : Nat → Int
 | 0 => 0
 | i + 1 => jn (rdL A c i) (atR (A.getD i atomD) c)
def rdO (A : List AtomG) : Nat → Bool
 | 0 => false
 | i + 1 => rdO A i || !(A.getD i atomD).2.1
def invRd (A : List AtomG) (c : Int) : Inv := ⟨Nat, 40, fun i => ⟨[(1, .int .u64 c), (5, .ptr 1 0 0 0), (17, atsW A), (18, .int .i64 A.length), (19, .int .i64 i)], [(1, .row 0 2 true (.lst [.agg [.int .u64 (rdL A c i), .bool (rdO A i)]]))]⟩, fun i => i ≤ A.length, fun i => A.length - i⟩
noncomputable def ERd (x : NodeG) (A : List AtomG) (e c : Int) : Env := mkG Tryd.prog gN (tblOf [(71, cAt [nodeA 16 x] (.tup [atsW A, .int .i64 e]))]) (fun f b => if f = 58 ∧ b = 0 then some (invRd A c) else none) 4
noncomputable def tblRd (x : NodeG) (w : Int) (hs : List HaveG) (es : List AggG) (e : Int) (c L : Int) (O : Bool) : List (Nat × Ctr) := [(57, cAt [qA x w hs es] (.int .i64 e)), (58, cAt [qA x w hs es, .int .u64 c] (.rptr (.agg [.int .u64 L, .bool O]) 0))]
theorem rd_vc (x : NodeG) (w : Int) (hs : List HaveG) (es : List AggG) (A : List AtomG) (e c L : Int) (O : Bool) : (vcFun (ERd x A e c) 20 58 [qA x w hs es, .int .u64 c] .nil 0 (retP 4 (.rptr (.agg [.int .u64 L, .bool O]) 0))).sat = ( NB (atB [nodeA (16 : Nat) x] [nodeA (16 : Nat) x]) ((∃ (i : Nat), i.le A.length ∧ (c = c ∧ ((0 : Nat) = (0 : Nat) ∧ (0 : Nat) = (0 : Nat) ∧ (0 : Nat) = (0 : Nat)) ∧ (atsW A).sub (atsW A) ∧ (↑A.length : Int) = (↑A.length : Int) ∧ (0 : Int) = (↑i : Int) ∧ True) ∧ ((0 : Nat) = (0 : Nat) ∧ (true = true → true = true) ∧ (((0 : Int) = rdL A c i ∧ false = rdO A i ∧ True) ∧ [AV.int IntKind.u64 (0 : Int), AV.bool false].length = [AV.int IntKind.u64 (rdL A c i), AV.bool (rdO A i)].length) ∧ True) ∧ True) ∧ ∀ (i : Nat), i.le A.length → VB (decide ((↑i : Int) < (↑A.length : Int))) (NB (decide ((0 : Int) ≤ (↑i : Int) ∧ (↑i : Int) < (↑A.length : Int))) (VB (A.getD (↑i : Int).toNat atomD).snd.fst (∃ (i' : Nat), i'.le A.length ∧ (invRd A c).μ i' < (invRd A c).μ i ∧ (c = c ∧ ((0 : Nat) = (0 : Nat) ∧ (0 : Nat) = (0 : Nat) ∧ (0 : Nat) = (0 : Nat)) ∧ (atsW A).sub (atsW A) ∧ (↑A.length : Int) = (↑A.length : Int) ∧ IntKind.i64.wrap ((↑i : Int) + (1 : Int)) = (↑i' : Int) ∧ True) ∧ ((0 : Nat) = (0 : Nat) ∧ (true = true → true = true) ∧ ((orI IntKind.u64 (orI IntKind.u64 (0 : Int) (rdL A c i)) (A.getD (↑i : Int).toNat atomD).snd.snd.fst = rdL A c i' ∧ (rdO A i || !(A.getD (↑i : Int).toNat atomD).snd.fst) = rdO A i' ∧ True) ∧ [AV.int IntKind.u64 (orI IntKind.u64 (orI IntKind.u64 (0 : Int) (rdL A c i)) (A.getD (↑i : Int).toNat atomD).snd.snd.fst), AV.bool (rdO A i || !(A.getD (↑i : Int).toNat atomD).snd.fst)].length = [AV.int IntKind.u64 (rdL A c i'), AV.bool (rdO A i')].length) ∧ True) ∧ True) (∃ (i' : Nat), i'.le A.length ∧ (invRd A c).μ i' < (invRd A c).μ i ∧ (c = c ∧ ((0 : Nat) = (0 : Nat) ∧ (0 : Nat) = (0 : Nat) ∧ (0 : Nat) = (0 : Nat)) ∧ (atsW A).sub (atsW A) ∧ (↑A.length : Int) = (↑A.length : Int) ∧ IntKind.i64.wrap ((↑i : Int) + (1 : Int)) = (↑i' : Int) ∧ True) ∧ ((0 : Nat) = (0 : Nat) ∧ (true = true → true = true) ∧ ((orI IntKind.u64 (orI IntKind.u64 (0 : Int) (rdL A c i)) c = rdL A c i' ∧ (rdO A i || !(A.getD (↑i : Int).toNat atomD).snd.fst) = rdO A i' ∧ True) ∧ [AV.int IntKind.u64 (orI IntKind.u64 (orI IntKind.u64 (0 : Int) (rdL A c i)) c), AV.bool (rdO A i || !(A.getD (↑i : Int).toNat atomD).snd.fst)].length = [AV.int IntKind.u64 (rdL A c i'), AV.bool (rdO A i')].length) ∧ True) ∧ True))) (((rdL A c i = L ∧ rdO A i = O ∧ True) ∧ [AV.int IntKind.u64 (rdL A c i), AV.bool (rdO A i)].length = [AV.int IntKind.u64 L, AV.bool O].length) ∧ (0 : Nat) = (0 : Nat)))) := by
 kernel_rfl
theorem read_vc (x : NodeG) (w : Int) (hs : List HaveG) (es : List AggG) (e c L : Int) (O : Bool) (r s : Int) : (vcFun (mkG Tryd.prog gN (tblOf (tblRd x w hs es e c L O)) (fun _ _ => none) 0) 20 25 [qA x w hs es, .int .u64 c] .nil 0 (retP 4 (.tup [.int .u64 r, .int .i64 s]))).sat = ( NB (atB [qA x w hs es] [qA x w hs es]) (VB (e != (0 : Int)) ((0 : Int) = r ∧ e = s ∧ True) (NB (atB [qA x w hs es, AV.int IntKind.u64 c] [qA x w hs es, AV.int IntKind.u64 c]) (L = r ∧ (0 : Int) = s ∧ True)))) := by
 kernel_rfl
theorem open_vc (x : NodeG) (w : Int) (hs : List HaveG) (es : List AggG) (e L : Int) (O : Bool) (r : Bool) (s : Int) : (vcFun (mkG Tryd.prog gN (tblOf (tblRd x w hs es e 0 L O)) (fun _ _ => none) 0) 20 23 [qA x w hs es] .nil 0 (retP 4 (.tup [.bool r, .int .i64 s]))).sat = ( NB (atB [qA x w hs es] [qA x w hs es]) (VB (e != (0 : Int)) (false = r ∧ e = s ∧ True) (NB (atB [qA x w hs es, AV.int IntKind.u64 (0 : Int)] [qA x w hs es, AV.int IntKind.u64 (0 : Int)]) (O = r ∧ (0 : Int) = s ∧ True)))) := by
 kernel_rfl
end Go.Proofs.YtamcloifhjafcaaDoor
namespace Go.Proofs.YtamcloifhjafcaaDoor
open Pw Go
set_option maxRecDepth 100000
set_option linter.unusedSimpArgs false
section
variable {x : NodeG} (w : Int) {hs : List HaveG} {es : List AggG} (hq : LtW x hs es)
include hq in
theorem rd_pure (c : Int) : PureC Tryd.prog gN 58 [qA x w hs es, .int .u64 c] (.rptr (.agg [.int .u64 (rdL (atomsL 8 x) c (atomsL 8 x).length), .bool (rdO (atomsL 8 x) (atomsL 8 x).length)]) 0) := by
 have hA : (atomsL 8 x).length ≤ 1000 := Nat.le_trans (AN_leW x) hq.lv
 refine pure_vcG (d := 4) mix (tblG_cons (cAt_ok (at16W (atomsI_pure x hq.lit hq.few))) (tblG_nil _ _)) ((rd_vc x w hs es (atomsL 8 x) (sndE x) c _ _).mpr ?_)
 generalize atomsL 8 x = A at hA ⊢
 simp only [atsWR, EqI, true_and, and_true, imp_self, implies_true, Int.toNat_natCast, NB_t]
 refine NB_intro (atB_self _) ⟨⟨0, Nat.zero_le _, rfl, ⟨rfl, rfl⟩, rfl⟩, fun i hi => VB_intro (fun h => ?_) (fun h => ?_)⟩
 ·have hlt : i < A.length := by have := of_decide_eq_true h; omega
  have hw : IntKind.i64.wrap ((i : Int) + 1) = ((i + 1 : Nat) : Int) := by rw [wrap_i64_id (by omega) (by omega)]; rfl
  refine NB_intro (decide_eq_true (by omega)) (VB_intro (fun h2 => ?_) (fun h2 => ?_))
  ·exact ⟨i + 1, hlt, by show A.length - (i + 1) < A.length - i; omega, hw, ⟨by simp only [rdL, jn, atR, if_pos h2], rfl⟩, rfl⟩
  ·exact ⟨i + 1, hlt, by show A.length - (i + 1) < A.length - i; omega, hw, ⟨by simp only [rdL, jn, atR, h2, Bool.false_eq_true, if_false], rfl⟩, rfl⟩
 ·have hi : i ≤ A.length := hi
  obtain rfl : i = A.length := by have := of_decide_eq_false h; omega
  exact ⟨⟨rfl, rfl⟩, rfl⟩
def rdV (x : NodeG) (c : Int) : Int := rdL (atomsL 8 x) c (atomsL 8 x).length
def opV (x : NodeG) : Bool := rdO (atomsL 8 x) (atomsL 8 x).length
def RdV (x : NodeG) (w : Int) (hs : List HaveG) (es : List AggG) (c : Int) : Int := if wfE x w hs es = 0 then rdV x c else 0
def OpV (x : NodeG) (w : Int) (hs : List HaveG) (es : List AggG) : Bool := if wfE x w hs es = 0 then opV x else false
include hq in
theorem tblRd_ok (c : Int) : TblOK Tryd.prog gN (tblOf (tblRd x w hs es (wfE x w hs es) c (rdV x c) (opV x))) := tblG_cons (cAt_ok (wf_pure w hq)) (tblG_cons (cAt_ok (rd_pure w hq c)) (tblG_nil _ _))
include hq in
theorem read_pure (c : Int) : PureC Tryd.prog gN 25 [qA x w hs es, .int .u64 c] (.tup [.int .u64 (RdV x w hs es c), .int .i64 (wfE x w hs es)]) := by
 refine pure_vcG (d := 4) mix (tblRd_ok w hq c) ((read_vc x w hs es _ c _ _ _ _).mpr (NB_intro (atB_self _) (VB_intro (fun h => ?_) (fun h => NB_intro (atB_self _) ?_))))
 ·have h : wfE x w hs es ≠ 0 := bne_iff_ne.1 h
  rw [RdV, if_neg h]
  exact ⟨rfl, rfl, trivial⟩
 ·have h : wfE x w hs es = 0 := bne_eq_false_iff_eq.1 h
  rw [RdV, if_pos h, h]
  exact ⟨rfl, rfl, trivial⟩
include hq in
theorem open_pure : PureC Tryd.prog gN 23 [qA x w hs es] (.tup [.bool (OpV x w hs es), .int .i64 (wfE x w hs es)]) := by
 refine pure_vcG (d := 4) mix (tblRd_ok w hq 0) ((open_vc x w hs es _ _ _ _ _).mpr (NB_intro (atB_self _) (VB_intro (fun h => ?_) (fun h => NB_intro (atB_self _) ?_))))
 ·have h : wfE x w hs es ≠ 0 := bne_iff_ne.1 h
  rw [OpV, if_neg h]
  exact ⟨rfl, rfl, trivial⟩
 ·have h : wfE x w hs es = 0 := bne_eq_false_iff_eq.1 h
  rw [OpV, if_pos h, h]
  exact ⟨rfl, rfl, trivial⟩
end
def fwNode (k m a : Int) (b : Bool) (x : Int) : AV := .agg [.int .i64 k, .int .i64 m, .int .i64 m, .int .i64 a, .bool b, .int .u64 x, .nils, .str [], .nils]
def fwQry (l : List AV) (w : Int) : AV := .agg [.int .i64 3, .int .i64 0, .int .i64 0, .int .i64 0, .bool false, .int .u64 0, .nils, .str [], .rol l true, .int .u64 w, .nils, .nils]
def fwQ1 : AV := fwQry [fwNode 1 1 0 true 1, fwNode 2 0 1 true 2, fwNode 1 1 2 false 0] 5
def fwQ2 : AV := fwQry [fwNode 1 1 0 true 1, fwNode 1 1 1 true 2] 5
theorem fwf1 : PureC Tryd.prog gN 57 [fwQ1] (.int .i64 0) := pure_runT (t := tblOf []) (k := 60) (d := 9) mix (tblG_nil _ _) (by kernel_rfl)
theorem fwf2 : PureC Tryd.prog gN 57 [fwQ2] (.int .i64 0) := pure_runT (t := tblOf []) (k := 60) (d := 9) mix (tblG_nil _ _) (by kernel_rfl)
def tblFW : List (Nat × List AV × AV) := [(57, [fwQ1], .int .i64 0), (57, [fwQ2], .int .i64 0)]
theorem tblFW_ok : TblOK Tryd.prog gN (tblL tblFW) := tblL_cons fwf1 (tblL_cons fwf2 (tblL_nil _ _))
theorem awake11_runs : PureC Tryd.prog gN 26 [] (.bool true) := pure_runT (t := tblL tblFW) (k := 60) (d := 9) mix tblFW_ok (by kernel_rfl)
theorem awake11_ok : PureG Tryd.prog gN 26 (litCtr [([], .bool true)]) := litCtr_cons awake11_runs (litCtr_nil _ _ _)
end Go.Proofs.YtamcloifhjafcaaDoor
namespace Go.Proofs.YtamcloifhjafcaaDoor
open Pw Go
set_option maxRecDepth 100000
set_option linter.unusedSimpArgs false
section
variable {x : NodeG} (w : Int) {hs : List HaveG} {es : List AggG} (hq : LtW x hs es) (h0 : wfE x w hs es = 0)
include hq h0
end
theorem LtW_kq (l : List Int) : LtW (kqX l) (kqHs l) (kqEs l) := LtW.of (light_kq l)
def ok64 (l : List Int) : Prop := ∀ i, -9223372036854775808 ≤ l.getD i 0 ∧ l.getD i 0 ≤ 9223372036854775807
theorem ok64_of {l : List Int} (h : ∀ k, k < l.length → -9223372036854775808 ≤ l.getD k 0 ∧ l.getD k 0 ≤ 9223372036854775807) : ok64 l := fun i => by
 rcases Nat.lt_or_ge i l.length with hi | hi
 ·exact h i hi
 ·rw [List.getD_eq_getElem?_getD, List.getElem?_eq_none hi]
  decide
end Go.Proofs.YtamcloifhjafcaaDoor
