/- QUERIES E3: restricted queries, own queries: conditions. -/
import Derived.Test.YtamcloifhjafcaaGreatDoorQE1
namespace Go.Proofs.YtamcloifhjafcaaGreatDoor
open Pw Go
set_option maxRecDepth 100000
set_option linter.unusedSimpArgs false
theorem rstK_eq (c : Int) : ∀ (g d : Nat) (x : NodeG), soundB d x = true → litB g x = true → rstK c g x = rst c x
 | 0, _, _, _, h => by cases h
 | g + 1, 0, _, h, _ => by cases h
 | g + 1, d + 1, x, h, hl => by
  have e1 : (nk x == 1 || nk x == 2) = decide (x.kids.length = 0) := by
   cases hf : isLeaf x with
   | true =>
    rw [← leaf_b, hf, sound_leaf h hf]
    rfl
   | false =>
    rw [← leaf_b, hf]
    refine (decide_eq_false fun h0 => ?_).symm
    simp only [soundB] at h
    simp only [isLeaf, Bool.or_eq_false_iff, decide_eq_false_iff_not] at hf
    rw [if_neg hf.1, if_neg hf.2] at h
    split at h
    ·simp only [Bool.and_eq_true, decide_eq_true_eq] at h
     omega
    ·cases h
  cases x with
  | mk v l =>
   have hk : l.map (rstK c g) = l.map (rst c) := List.map_congr_left fun y hy => by
    obtain ⟨i, hi, rfl⟩ := List.mem_iff_getElem.1 hy
    have e2 : l[i] = (TreeG.mk v l).kids.getD i treeD := by
     show l[i] = l.getD i treeD
     rw [List.getD_eq_getElem?_getD, List.getElem?_eq_getElem hi]; rfl
    rw [e2]
    exact rstK_eq c g d _ (sound_kid h hi) (litB_kid hl hi)
   have e3 : rst c (.mk v l) = .mk (v.1, v.2.1, v.2.2.1, rsA c (decide (l.length = 0)) v.2.2.2.1, ()) (rstL c l) := by simp only [rst]
   rw [e3, rstL_map, ← hk]
   have e4 : rstK c (g + 1) (.mk v l) = .mk (v.1, v.2.1, v.2.2.1, rsA c (nk (.mk v l) == 1 || nk (.mk v l) == 2) v.2.2.2.1, ()) (l.map (rstK c g)) := rfl
   rw [e4, e1]
   rfl
def q0E : AV := .agg [.int .i64 0, .int .i64 0, .int .i64 0, .int .i64 0, .bool false, .int .u64 0, .nils, .str [], .nils, .int .u64 0, .nils, .nils]
noncomputable def EOw (x : NodeG) : Env := { mkG Tryz.prog gN (tblOf [(23, cAt [nodeA 16 x] (nodeA 16 x))]) (fun _ _ => none) 0 with po := true, nq := true }
noncomputable def ER11 (x : NodeG) (w : Int) (hs : List HaveG) (es : List AggG) (c e : Int) (y : NodeG) (ok : Bool) : Env := { mkG Tryz.prog gN (tblOf [(37, cAt [qA x w hs es] (.int .i64 e)), (38, cWhQ ok [nodeA 16 x, .int .u64 c] (nodeA 16 y))])
 (fun _ _ => none) 0 with po := true, nq := true, fzs := fun f => if f = 18 then [21, 24] else [] }
theorem rs11_vc (x : NodeG) (w : Int) (hs : List HaveG) (es : List AggG) (c e : Int) (y : NodeG) (ok : Bool) (r : Int) : (vcFun (ER11 x w hs es c e y ok) 20 18 [qA x w hs es, .int .u64 c] .nil 0 (retP 4 (.tup [qA y w hs es, .int .i64 r]))).sat = ( NB (atB [qA x w hs es] [qA x w hs es]) (VB (e != (0 : Int)) ((AV.agg [AV.int IntKind.i64 (0 : Int), AV.int IntKind.i64 (0 : Int), AV.int IntKind.i64 (0 : Int), AV.int IntKind.i64 (0 : Int), AV.bool false, AV.int IntKind.u64 (0 : Int), AV.nils, AV.str [], AV.nils, AV.int IntKind.u64 (0 : Int), AV.nils, AV.nils]).sub (qA y w hs es) ∧ e = r ∧ True) (NB (ok && atB ([] ++ [nodeA (16 : Nat) x, AV.int IntKind.u64 c] ++ []) [nodeA (16 : Nat) x, AV.int IntKind.u64 c]) (NB (true && room ((0 : Nat) + hs.length) (40 : Nat)) (NB (true && room ((0 : Nat) + es.length) (24 : Nat)) ((AV.agg [AV.int IntKind.i64 (TreeG.val y).fst, AV.int IntKind.i64 (TreeG.val y).snd.fst, AV.int IntKind.i64 (TreeG.val y).snd.snd.fst, AV.int IntKind.i64 (TreeG.val y).snd.snd.snd.fst.fst, AV.bool (TreeG.val y).snd.snd.snd.fst.snd.fst, AV.int IntKind.u64 (TreeG.val y).snd.snd.snd.fst.snd.snd.fst, AV.rof (TreeG.val y).snd.snd.snd.fst.snd.snd.snd.fst.length (fun (i : Nat) => condA ((TreeG.val y).snd.snd.snd.fst.snd.snd.snd.fst.getD i condD)) false, AV.str (TreeG.val y).snd.snd.snd.fst.snd.snd.snd.snd.fst, AV.rof (TreeG.kids y).length (fun (i : Nat) => treeA._f nodeCells (8 : Nat) nodeD (Nat.succ (nat_lit 14)) (Nat.rec ⟨treeA._f nodeCells (8 : Nat) nodeD Nat.zero PUnit.unit, PUnit.unit⟩ (fun (n : Nat) (n_ih : (TreeG NodeV → AV) ×' Nat.below (motive := fun (x : Nat) => TreeG NodeV → AV) n) => ⟨treeA._f nodeCells (8 : Nat) nodeD n.succ n_ih, n_ih⟩) (nat_lit 14)) ((TreeG.kids y).getD i (TreeG.mk nodeD []))) false, AV.int IntKind.u64 w, AV.rof hs.length (fun (k : Nat) => haveA (hs.getD ((0 : Nat) + k) haveD)) (fzEx none hs.length), AV.rof es.length (fun (k : Nat) => aggA (es.getD ((0 : Nat) + k) aggD)) (fzEx none es.length)]).sub (qA y w hs es) ∧ (0 : Int) = r ∧ True)))))) := by
 kernel_rfl
theorem rs11e_vc (x : NodeG) (w : Int) (hs : List HaveG) (es : List AggG) (c e : Int) (y : NodeG) (ok : Bool) : (vcFun (ER11 x w hs es c e y ok) 20 18 [qA x w hs es, .int .u64 c] .nil 0 (retP 4 (.tup [q0E, .int .i64 e]))).sat = ( NB (atB [qA x w hs es] [qA x w hs es]) (VB (e != (0 : Int)) ((EqI (0 : Int) (0 : Int) ∧ EqI (0 : Int) (0 : Int) ∧ EqI (0 : Int) (0 : Int) ∧ EqI (0 : Int) (0 : Int) ∧ false = false ∧ EqI (0 : Int) (0 : Int) ∧ True ∧ @Eq (List UInt8) [] [] ∧ True ∧ EqI (0 : Int) (0 : Int) ∧ True ∧ True ∧ True) ∧ e = e ∧ True) (NB (ok && atB ([] ++ [nodeA (16 : Nat) x, AV.int IntKind.u64 c] ++ []) [nodeA (16 : Nat) x, AV.int IntKind.u64 c]) (NB (true && room ((0 : Nat) + hs.length) (40 : Nat)) (NB (true && room ((0 : Nat) + es.length) (24 : Nat)) (((TreeG.val y).fst = (0 : Int) ∧ (TreeG.val y).snd.fst = (0 : Int) ∧ (TreeG.val y).snd.snd.fst = (0 : Int) ∧ (TreeG.val y).snd.snd.snd.fst.fst = (0 : Int) ∧ (TreeG.val y).snd.snd.snd.fst.snd.fst = false ∧ (TreeG.val y).snd.snd.snd.fst.snd.snd.fst = (0 : Int) ∧ False ∧ (TreeG.val y).snd.snd.snd.fst.snd.snd.snd.snd.fst = [] ∧ False ∧ w = (0 : Int) ∧ False ∧ False ∧ True) ∧ (0 : Int) = e ∧ True)))))) := by
 kernel_rfl
theorem ownQ_vc (x : NodeG) (w : Int) (hs : List HaveG) (es : List AggG) : (vcFun (EOw x) 20 6 [qA x w hs es] .nil 0 (retP 4 (qA x w hs es))).sat = ( NB (atB [nodeA (16 : Nat) x] [nodeA (16 : Nat) x]) (NB (true && room ((0 : Nat) + hs.length) (40 : Nat) && true && (hs.length != (0 : Nat) || true)) (NB (true && room ((0 : Nat) + es.length) (24 : Nat) && true && (es.length != (0 : Nat) || true)) ((TreeG.val x).fst = (TreeG.val x).fst ∧ (TreeG.val x).snd.fst = (TreeG.val x).snd.fst ∧ (TreeG.val x).snd.snd.fst = (TreeG.val x).snd.snd.fst ∧ (TreeG.val x).snd.snd.snd.fst.fst = (nat x).fst ∧ (TreeG.val x).snd.snd.snd.fst.snd.fst = (nat x).snd.fst ∧ (TreeG.val x).snd.snd.snd.fst.snd.snd.fst = (nat x).snd.snd.fst ∧ ((TreeG.val x).snd.snd.snd.fst.snd.snd.snd.fst.length = (ac (nat x)).length ∧ (∀ (i : Nat), i < (TreeG.val x).snd.snd.snd.fst.snd.snd.snd.fst.length → (((TreeG.val x).snd.snd.snd.fst.snd.snd.snd.fst.getD i condD).fst = ((ac (nat x)).getD i condD).fst ∧ ((TreeG.val x).snd.snd.snd.fst.snd.snd.snd.fst.getD i condD).snd.fst = ((ac (nat x)).getD i condD).snd.fst ∧ True) ∧ [AV.int IntKind.i64 ((TreeG.val x).snd.snd.snd.fst.snd.snd.snd.fst.getD i condD).fst, AV.int IntKind.i64 ((TreeG.val x).snd.snd.snd.fst.snd.snd.snd.fst.getD i condD).snd.fst].length = [AV.int IntKind.i64 ((ac (nat x)).getD i condD).fst, AV.int IntKind.i64 ((ac (nat x)).getD i condD).snd.fst].length) ∧ (false = true → false = true)) ∧ (TreeG.val x).snd.snd.snd.fst.snd.snd.snd.snd.fst = an (nat x) ∧ ((TreeG.kids x).length = (TreeG.kids x).length ∧ (∀ (i : Nat), i < (TreeG.kids x).length → (nodeA (15 : Nat) ((TreeG.kids x).getD i treeD)).sub (nodeA (15 : Nat) ((TreeG.kids x).getD i treeD)) ∧ (nodeA (15 : Nat) ((TreeG.kids x).getD i treeD)).cells.length = (nodeA (15 : Nat) ((TreeG.kids x).getD i treeD)).cells.length) ∧ (false = true → false = true)) ∧ w = w ∧ ((0 : Nat) + hs.length = hs.length ∧ (∀ (i : Nat), i < (0 : Nat) + hs.length → ((hs.getD ((0 : Nat) + i) haveD).fst.fst = (hs.getD i haveD).fst.fst ∧ (hs.getD ((0 : Nat) + i) haveD).fst.snd.fst = (hs.getD i haveD).fst.snd.fst ∧ (hs.getD ((0 : Nat) + i) haveD).snd.fst.fst = (hs.getD i haveD).snd.fst.fst ∧ (hs.getD ((0 : Nat) + i) haveD).snd.fst.snd.fst = (hs.getD i haveD).snd.fst.snd.fst ∧ True) ∧ [AV.int IntKind.i64 (hs.getD ((0 : Nat) + i) haveD).fst.fst, AV.str (hs.getD ((0 : Nat) + i) haveD).fst.snd.fst, AV.int IntKind.i64 (hs.getD ((0 : Nat) + i) haveD).snd.fst.fst, AV.int IntKind.i64 (hs.getD ((0 : Nat) + i) haveD).snd.fst.snd.fst].length = [AV.int IntKind.i64 (hs.getD i haveD).fst.fst, AV.str (hs.getD i haveD).fst.snd.fst, AV.int IntKind.i64 (hs.getD i haveD).snd.fst.fst, AV.int IntKind.i64 (hs.getD i haveD).snd.fst.snd.fst].length) ∧ (false = true → decide (none = some ((0 : Nat) + hs.length)) = true)) ∧ ((0 : Nat) + es.length = es.length ∧ (∀ (i : Nat), i < (0 : Nat) + es.length → ((es.getD ((0 : Nat) + i) aggD).fst = (es.getD i aggD).fst ∧ (es.getD ((0 : Nat) + i) aggD).snd.fst = (es.getD i aggD).snd.fst ∧ True) ∧ [AV.int IntKind.i64 (es.getD ((0 : Nat) + i) aggD).fst, AV.str (es.getD ((0 : Nat) + i) aggD).snd.fst].length = [AV.int IntKind.i64 (es.getD i aggD).fst, AV.str (es.getD i aggD).snd.fst].length) ∧ (false = true → decide (none = some ((0 : Nat) + es.length)) = true)) ∧ True)))) := by
 kernel_rfl
end Go.Proofs.YtamcloifhjafcaaGreatDoor
namespace Go.Proofs.YtamcloifhjafcaaGreatDoor
open Pw Go
set_option maxRecDepth 100000
set_option linter.unusedSimpArgs false
section
variable {x : NodeG} (w : Int) {hs : List HaveG} {es : List AggG} (hq : LtW x hs es)
include hq
theorem nd16_pure (hs' : sndB x = true) (c : Int) : PureC Tryz.prog gN 38 [nodeA 16 x, .int .u64 c] (nodeA 16 (rst c x)) := by
 have h := nd_pure 8 c x hq.lit
 rw [rstK_eq c 8 200 x hs' hq.lit] at h
 have h2 : PureC Tryz.prog gN 38 [nodeA 16 x, .int .u64 c] (nodeA 9 (rst c x)) := PureC.args (args' := [nodeA 9 x, .int .u64 c]) rfl (fun i hi => by
  match i, hi with
  | 0, _ => exact nodeA_sub' (by decide) x
  | 1, _ => exact int_sub _ _
  | i + 2, hi => exact absurd hi (by simp)) h
 exact pureRes h2 (nodeA_up 8 9 16 _ (rst_dep 8 c x (litB_dep 8 x hq.lit)) (by decide) (by decide))
theorem ER11_ok (c : Int) (y : NodeG) (ok : Bool) (h : ok = true → PureC Tryz.prog gN 38 [nodeA 16 x, .int .u64 c] (nodeA 16 y)) : CtrOK (ER11 x w hs es c (wfE x w hs es) y ok) :=
 ⟨(mkG_ctr (P := Tryz.prog) (gl := gN) (inv := fun _ _ => none) (n := 0) (tblG_cons (cAt_ok (ref10_wf w hq)) (tblG_cons (cWhQ_ok h) (tblG_nil _ _)))).1, itr_none rfl⟩
theorem rs11e_pure (h : wfE x w hs es ≠ 0) (c : Int) : PureC Tryz.prog gN 18 [qA x w hs es, .int .u64 c] (.tup [q0E, .int .i64 (wfE x w hs es)]) := by
 refine pure_vcE (d := 4) mix (ER11_ok w hq c x false (fun h => by cases h)) ((rs11e_vc x w hs es c _ x false).mpr (NB_intro (atB_self _) (VB_intro (fun _ => ?_) (fun h2 => absurd (bne_eq_false_iff_eq.1 h2) h))))
 simp [EqI]
end
def rawQ (y : NodeG) (w : Int) (hs : List HaveG) (es : List AggG) (b1 b2 : Bool) : AV := .agg [.int .i64 (nk y), .int .i64 (nmn y), .int .i64 (nmx y), .int .i64 (nat y).1, .bool (nat y).2.1, .int .u64 (nat y).2.2.1, condsA (ac (nat y)), .str (an (nat y)), .rof y.kids.length (fun i => nodeA 15 (y.kids.getD i treeD)) false,
 .int .u64 w, .rof hs.length (fun k => haveA (hs.getD (0 + k) haveD)) b1, .rof es.length (fun k => aggA (es.getD (0 + k) aggD)) b2]
theorem rawQ_sub (y : NodeG) (w : Int) (hs : List HaveG) (es : List AggG) (b1 b2 : Bool) : (rawQ y w hs es b1 b2).sub (qA y w hs es) :=
 ⟨int_sub _ _, int_sub _ _, int_sub _ _, int_sub _ _, bool_sub _, int_sub _ _, ⟨rfl, fun i _ => ⟨⟨rfl, rfl, trivial⟩, rfl⟩, fun h => h⟩, AV.str_sub _, ⟨rfl, fun i hi => ⟨nodeA_sub 15 0 _, rfl⟩, fun h => h⟩, int_sub _ _,
  ⟨rfl, fun i _ => ⟨by simp only [Nat.zero_add]; exact ⟨int_sub _ _, AV.str_sub _, int_sub _ _, int_sub _ _, trivial⟩, rfl⟩, fun h => by cases h⟩, ⟨rfl, fun i _ => ⟨by simp only [Nat.zero_add]; exact ⟨int_sub _ _, AV.str_sub _, trivial⟩, rfl⟩, fun h => by cases h⟩, trivial⟩
theorem rs11_pure {x : NodeG} (w : Int) {hs : List HaveG} {es : List AggG} (hq : LtW x hs es) (h : wfE x w hs es = 0) (c : Int) : PureC Tryz.prog gN 18 [qA x w hs es, .int .u64 c] (.tup [qA (rst c x) w hs es, .int .i64 0]) := by
 have hk := ER11_ok w hq c (rst c x) true (fun _ => nd16_pure hq (chk_snd h) c)
 rw [h] at hk
 have h1 := hq.nms.1
 have h2 := hq.nms.2.1
 refine pure_vcE (d := 4) mix hk ((rs11_vc x w hs es c 0 (rst c x) true 0).mpr (NB_intro (atB_self _) (VB_intro (fun h => by simp at h) (fun _ => NB_intro (by simp [atB]) (NB_intro (by simp [room]; omega) (NB_intro (by simp [room]; omega) ?_))))))
 refine Eq.mp (α := (rawQ (rst c x) w hs es (fzEx none hs.length) (fzEx none es.length)).sub (qA (rst c x) w hs es) ∧ (0 : Int) = 0 ∧ True) ?_ ⟨rawQ_sub _ _ _ _ _ _, rfl, trivial⟩
 kernel_rfl
end Go.Proofs.YtamcloifhjafcaaGreatDoor
