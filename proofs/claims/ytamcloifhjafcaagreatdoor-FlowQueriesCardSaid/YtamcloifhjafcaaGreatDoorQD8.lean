/- FLOW 9: restricted nodes, in Lean. -/
import Derived.Test.YtamcloifhjafcaaGreatDoorQD7
namespace Go.Proofs.YtamcloifhjafcaaGreatDoor
open Pw Go
set_option maxRecDepth 100000
set_option linter.unusedSimpArgs false
section
variable (c : Int)
theorem rstL_map : ∀ l, rstL c l = l.map (rst c)
 | [] => rfl
 | x :: l => by rw [rstL, rstL_map l]; rfl
theorem rst_kids (x : NodeG) : (rst c x).kids = x.kids.map (rst c) := by
 cases x
 simp only [rst, TreeG.kids, rstL_map]
theorem rst_nk (x : NodeG) : nk (rst c x) = nk x := by cases x; simp only [rst]; rfl
theorem rst_nmn (x : NodeG) : nmn (rst c x) = nmn x := by cases x; simp only [rst]; rfl
theorem rst_nmx (x : NodeG) : nmx (rst c x) = nmx x := by cases x; simp only [rst]; rfl
theorem rst_nat (x : NodeG) : nat (rst c x) = rsA c (decide (x.kids.length = 0)) (nat x) := by cases x; simp only [rst]; rfl
theorem rsA_ac (lf : Bool) (a : AtomG) : ac (rsA c lf a) = ac a := by unfold rsA; split <;> rfl
theorem rsA_an (lf : Bool) (a : AtomG) : an (rsA c lf a) = an a := by unfold rsA; split <;> rfl
theorem rsA_k (lf : Bool) (a : AtomG) : (rsA c lf a).1 = a.1 := by unfold rsA; split <;> rfl
theorem rst_lit : ∀ (g : Nat) (x : NodeG), litB g (rst c x) = litB g x
 | 0, _ => rfl
 | g + 1, x => by
  have e : (fun k => litB g (rst c k)) = litB g := funext fun k => rst_lit g k
  simp only [litB]
  show (decide ((ac (nat (rst c x))).length ≤ 10) && decide ((an (nat (rst c x))).length ≤ 20) && decide ((rst c x).kids.length ≤ 40) && (rst c x).kids.all (litB g)) = _
  rw [rst_kids, rst_nat, rsA_ac, rsA_an, List.length_map, List.all_map]
  show (_ && _ && _ && x.kids.all (fun k => litB g (rst c k))) = _
  rw [e]
theorem rst_elems : ∀ (g : Nat) (d : Int) (x : NodeG), elems g d (rst c x) = (elems g d x).map fun p => (p.1, rst c p.2)
 | 0, _, _ => rfl
 | g + 1, d, x => by
  simp only [elems]
  rw [rst_kids, List.map_cons, List.map_map, List.map_flatten, List.map_map]
  congr 2
  exact List.map_congr_left fun y _ => rst_elems g (d + 1) y
end
theorem chk_snd {x : NodeG} {w : Int} {hs : List HaveG} {es : List AggG} (h : wfE x w hs es = 0) : sndB x = true := by
 unfold wfE at h
 split at h
 ·omega
 ·rename_i h1
  have h1 : chkE x w hs es = 0 := by simpa using h1
  unfold chkE at h1
  split at h1
  ·rename_i h2
   exact h2.1
  ·omega
theorem rst_LtW (c : Int) {x : NodeG} {hs : List HaveG} {es : List AggG} (h : LtW x hs es) : LtW (rst c x) hs es :=
 ⟨by rw [rst_lit]; exact h.lit, h.nms, by rw [rst_elems, List.length_map]; exact h.few⟩
end Go.Proofs.YtamcloifhjafcaaGreatDoor
namespace Go.Proofs.YtamcloifhjafcaaGreatDoor
open Pw Go
set_option maxRecDepth 100000
set_option linter.unusedSimpArgs false
theorem condsA_refl (l : List CondG) : (condsA l).sub (condsA l) := ⟨rfl, fun _ _ => ⟨⟨rfl, rfl, trivial⟩, rfl⟩, fun h => h⟩
theorem pureRes {P : Program} {gl : Nat → AV} {f : FuncId} {args : List AV} {v v' : AV} (h : PureC P gl f args v) (hs : v.sub v') : PureC P gl f args v' := fun M W vals hG hM hA => by
 obtain ⟨hf, hc⟩ := h M W vals hG hM hA
 exact ⟨hf, hc.mono fun e W' ⟨u, M', k1, k2, k3⟩ => ⟨u, M', k1, k2.sub _ hs, k3⟩⟩
theorem rst_dep : ∀ (g : Nat) (c : Int) (x : NodeG), depN g x → depN g (rst c x)
 | 0, _, _, h => h.elim
 | g + 1, c, x, h => fun i hi => by
  rw [rst_kids] at hi ⊢
  have hi' : i < x.kids.length := by simpa using hi
  have := rst_dep g c _ (h i hi')
  simpa [List.getD, hi'] using this
theorem rst_ok {g : Nat} {c : Int} {T : AV} (h : ∀ x, litB g x = true → PureC Tryz.prog gN 33 [nodeA (g + 1) x, .rptr (.int .u64 c) 0, .rptr T 0] (nodeA (g + 1) (rst c x))) (hT : T.sub T) :
  PureG Tryz.prog gN 33 (cRst g c T) := by
 intro args nd v he hnd
 unfold cRst at he
 split at he <;> cases he
 rename_i n a b
 simp only [Bool.and_eq_true] at hnd
 obtain ⟨h1, h2⟩ := hnd
 have h2 : [a, b] = [.rptr (.int .u64 c) 0, .rptr T 0] := by simpa [atB] using h2
 simp only [List.cons.injEq, and_true] at h2
 obtain ⟨rfl, rfl⟩ := h2
 exact pureN_node h1 (fun x hx e => by rw [e]; exact h x hx) ⟨⟨⟨int_sub _ _, rfl⟩, rfl⟩, ⟨⟨hT, rfl⟩, rfl⟩, trivial⟩
theorem clo_sub (c : Int) : ∀ n, (clo c n).sub (clo c n)
 | 0 => by simp [clo, AV.sub]
 | n + 1 => ⟨rfl, trivial, ⟨⟨int_sub _ _, rfl⟩, rfl⟩, ⟨⟨clo_sub c n, rfl⟩, rfl⟩, trivial⟩
theorem ratL_f (c : Int) {x : NodeG} (h : ((x.kids.length : Int) == 0 && !(nat x).2.1) = false) : ratL c x = nat x := by
 unfold ratL rsA
 rw [if_neg]
 intro h2
 simp only [Bool.and_eq_true, decide_eq_true_eq, Bool.not_eq_true'] at h2
 rw [h2.1, h2.2] at h
 cases h
theorem ratL_t (c : Int) {x : NodeG} (h : ((x.kids.length : Int) == 0 && !(nat x).2.1) = true) : (ratL c x).2.1 = true ∧ (ratL c x).2.2.1 = c := by
 simp only [Bool.and_eq_true, beq_iff_eq, Bool.not_eq_true'] at h
 unfold ratL rsA
 rw [if_pos (by rw [decide_eq_true (by omega), h.2]; rfl)]
 exact ⟨rfl, rfl⟩
theorem rst_loop {g : Nat} {x : NodeG} {c : Int} {T : AV} (hl : litB (g + 1) x = true) (i : Nat × Nat) (hi : i.1 ≤ x.kids.length) :
  VB (decide ((i.1 : Int) < (x.kids.length : Int))) (NB (decide ((0 : Int) ≤ (i.1 : Int) ∧ (i.1 : Int) < (x.kids.length : Int))) (NB (isNode g (nodeA (g + 1) (x.kids.getD i.1 treeD)) && atB [(AV.int IntKind.u64 c).rptr 0, T.rptr 0] [(AV.int IntKind.u64 c).rptr 0, T.rptr 0])
   (NB (room (i.1 + 1) 112) (∃ i' : Nat × Nat, i'.1 ≤ x.kids.length ∧ (invRst g x c T).μ i' < (invRst g x c T).μ i ∧ IntKind.i64.wrap ((i.1 : Int) + 1) = (i'.1 : Int) ∧ ((i.2 + 1 = i'.2 ∧ i.1 + 1 = i'.1) ∧ (9 : Nat) = 9) ∧ i.2 + 1 = i'.2 ∧ i.1 + 1 = i'.1 ∧
    ∀ j : Nat, j < i.1 + 1 → (if j < i.1 then nodeA (g + 1) (rst c (x.kids.getD j treeD)) else ((Sq.lst [nodeA (g + 1) (rst c (nodeOf g (nodeA (g + 1) (x.kids.getD i.1 treeD))))]).sub 0 1).get (j - i.1)).sub (nodeA (g + 1) (rst c (x.kids.getD j treeD))) ∧
     (if j < i.1 then nodeA (g + 1) (rst c (x.kids.getD j treeD)) else ((Sq.lst [nodeA (g + 1) (rst c (nodeOf g (nodeA (g + 1) (x.kids.getD i.1 treeD))))]).sub 0 1).get (j - i.1)).cells.length = (nodeA (g + 1) (rst c (x.kids.getD j treeD))).cells.length))))
   (NB true (i.1 = x.kids.length ∧ (false = true → decide ((none : Option Nat) = some i.1) = true))) := by
 have hk40 := litB_kids hl
 obtain ⟨i, q⟩ := i
 simp only at hi ⊢
 refine VB_intro (fun h => ?_) (fun h => ?_)
 ·have hlt : i < x.kids.length := by have := of_decide_eq_true h; omega
  have hkl := litB_kid hl hlt
  refine NB_intro (decide_eq_true (by omega)) (NB_intro (by rw [isNode_of hkl (by omega), atB_self]; rfl) (NB_intro (by simp [room]; omega) ⟨(i + 1, q + 1), hlt, ?_, ?_, ⟨⟨rfl, rfl⟩, by trivial⟩, rfl, rfl, fun j hj => ?_⟩))
  ·show x.kids.length - (i + 1) < x.kids.length - i
   omega
  ·rw [wrap_i64_id (by omega) (by omega)]; rfl
  ·rw [nodeOf_of hkl (by omega)]
   split
   ·exact ⟨nodeA_sub _ 0 _, rfl⟩
   ·obtain rfl : j = i := by omega
    rw [Nat.sub_self]
    exact ⟨nodeA_sub _ 0 _, rfl⟩
 ·have := of_decide_eq_false h
  exact NB_intro rfl ⟨by omega, fun h => by cases h⟩
theorem rst_pure : ∀ (g n : Nat) (c : Int) (x : NodeG), litB g x = true → g ≤ n → PureC Tryz.prog gN 33 [nodeA (g + 1) x, .rptr (.int .u64 c) 0, .rptr (clo c n) 0] (nodeA (g + 1) (rst c x))
 | 0, _, _, _, h, _ => by cases h
 | g + 1, 0, _, _, _, h => by omega
 | g + 1, n + 1, c, x, hl, hn => by
  have hk40 := litB_kids hl
  have hc10 := litB_conds hl
  have key : PureC Tryz.prog gN 33 [nodeA (g + 2) x, .rptr (.int .u64 c) 0, .rptr (cloN c (clo c n)) 0] (rstA g c x) := by
   refine pure_vcE (E := ERst g x c (clo c n)) (k := 20) (d := 4) mix ?_ ((rst_vc g x c (clo c n)).mpr ?_)
   ·exact ⟨(mkG_ctr (P := Tryz.prog) (gl := gN) (inv := fun _ _ => none) (n := 0) (tblG_cons clone_ok (tblG_cons (rst_ok (fun y hy => rst_pure g n c y hy (by omega)) (clo_sub c n)) (tblG_nil _ _)))).1, itr_none rfl⟩
   have hT := clo_sub c n
   generalize clo c n = T at hT ⊢
   have hclone : (decide ((nat x).2.2.2.1.length ≤ 1000) && (List.range (nat x).2.2.2.1.length).all fun i => isCond (condA ((nat x).2.2.2.1.getD i condD))) = true := by
    rw [decide_eq_true (show (nat x).2.2.2.1.length ≤ 1000 from Nat.le_trans hc10 (by decide)), Bool.true_and]
    exact List.all_eq_true.2 fun i _ => rfl
   have hT' : T.sub T = True := eq_true hT
   refine NB_intro hclone (VB_intro (fun hb => ?_) (fun hb => ?_))
   ·obtain ⟨e1, e2⟩ := ratL_t c hb
    simp only [hT', nodeA_refl, EqI, true_and, and_true, and_self, imp_self, implies_true, Int.toNat_natCast, Nat.zero_add, or_self, Bool.true_and, decide_true]
    exact ⟨⟨(0, 0), Nat.zero_le _, rfl, ⟨e1.symm, e2.symm, rfl⟩, rfl, rfl⟩, fun i hi => rst_loop hl i hi⟩
   ·have e := ratL_f c hb
    simp only [hT', nodeA_refl, EqI, true_and, and_true, and_self, imp_self, implies_true, Int.toNat_natCast, Nat.zero_add, or_self, Bool.true_and, decide_true]
    exact ⟨⟨(0, 0), Nat.zero_le _, rfl, ⟨by rw [e], by rw [e], rfl⟩, rfl, rfl⟩, fun i hi => rst_loop hl i hi⟩
  refine pureRes key ?_
  have e1 := rst_nk c x
  have e2 := rst_nmn c x
  have e3 := rst_nmx c x
  have e4 := rst_nat c x
  have e5 := rst_kids c x
  show (rstA g c x).sub (nodeA (g + 2) (rst c x))
  have hA : nodeA (g + 2) (rst c x) = .agg [.int .i64 (nk (rst c x)), .int .i64 (nmn (rst c x)), .int .i64 (nmx (rst c x)), .int .i64 (nat (rst c x)).1, .bool (nat (rst c x)).2.1, .int .u64 (nat (rst c x)).2.2.1, condsA (ac (nat (rst c x))), .str (an (nat (rst c x))), .rof (rst c x).kids.length (fun i => nodeA (g + 1) ((rst c x).kids.getD i treeD)) false] := rfl
  rw [hA, e1, e2, e3, e4, e5, rsA_k, rsA_ac, rsA_an, List.length_map]
  refine subL9 (int_sub _ _) (int_sub _ _) (int_sub _ _) (int_sub _ _) (bool_sub _) (int_sub _ _) (condsA_refl _) (AV.str_sub _) ⟨rfl, fun i hi => ?_, fun h => h⟩
  have hg : (x.kids.map (rst c)).getD i treeD = rst c (x.kids.getD i treeD) := by simp [List.getD, hi]
  simp only [hg]
  exact ⟨nodeA_sub _ 0 _, trivial⟩
theorem cloneH_pure {l : List HaveG} (h : l.length ≤ 10) : PureC Tryz.prog gN 35 [havesA l] (havesA l) := by
 refine pure_vcE (E := EQ) (k := 20) (d := 3) mix EQ_ok ((cloneH_vc _).mpr ?_)
 intro b hb
 cases b with
 | true => exact VB_intro (fun _ => hb rfl) (fun h => by cases h)
 | false => exact VB_intro (fun h => by cases h) (fun _ => NB_intro (by simp [room]; omega) ⟨by omega, fun i hi => ⟨⟨by rw [Nat.zero_add], by rw [Nat.zero_add], by rw [Nat.zero_add], by rw [Nat.zero_add], trivial⟩, rfl⟩, fun h => by cases h⟩)
theorem cloneG_pure {l : List AggG} (h : l.length ≤ 10) : PureC Tryz.prog gN 36 [aggsA l] (aggsA l) := by
 refine pure_vcE (E := EQ) (k := 20) (d := 3) mix EQ_ok ((cloneG_vc _).mpr ?_)
 intro b hb
 cases b with
 | true => exact VB_intro (fun _ => hb rfl) (fun h => by cases h)
 | false => exact VB_intro (fun h => by cases h) (fun _ => NB_intro (by simp [room]; omega) ⟨by omega, fun i hi => ⟨⟨by rw [Nat.zero_add], by rw [Nat.zero_add], trivial⟩, rfl⟩, fun h => by cases h⟩)
section
variable {x : NodeG} (w : Int) {hs : List HaveG} {es : List AggG} (hq : LtW x hs es) (h0 : wfE x w hs es = 0)
include hq h0
theorem restrict_pure (c : Int) : PureC Tryz.prog gN 17 [qA x w hs es, .int .u64 c] (.tup [qA (rst c x) w hs es, .int .i64 0]) := by
 have hlit : litB 8 (rst c x) = true := by rw [rst_lit]; exact hq.lit
 have hn : PureC Tryz.prog gN 33 [nodeA 16 x, .rptr (.int .u64 c) 0, .rptr (clo c 11) 0] (nodeA 16 (rst c x)) := by
  refine pureRes (PureC.args (args' := [nodeA 9 x, .rptr (.int .u64 c) 0, .rptr (clo c 11) 0]) rfl (fun i hi => ?_) (rst_pure 8 11 c x hq.lit (by decide))) (nodeA_up 8 9 16 _ (litB_dep _ _ hlit) (by decide) (by decide))
  match i, hi with
  | 0, _ => exact nodeA_sub' (by decide) x
  | 1, _ => exact ⟨⟨int_sub _ _, rfl⟩, rfl⟩
  | 2, _ => exact ⟨⟨clo_sub c 11, rfl⟩, rfl⟩
 refine pure_vcE (E := ERes x w hs es c (clo c 11) 0 (rst c x)) (k := 20) (d := 4) mix ?_ ((restrict_vc x w hs es c 0 (rst c x) 0).mpr ?_)
 ·exact ⟨(mkG_ctr (P := Tryz.prog) (gl := gN) (inv := fun _ _ => none) (n := 0) (tblG_cons (cAt_ok (by have := wf_pure w hq; rwa [h0] at this)) (tblG_cons (cAt_ok hn) (tblG_cons (cAt_ok (cloneH_pure hq.nms.1)) (tblG_cons (cAt_ok (cloneG_pure hq.nms.2.1)) (tblG_nil _ _)))))).1, itr_none rfl⟩
 refine NB_intro (atB_self _) (VB_intro (fun h => by cases h) (fun _ => NB_intro (Eq.trans (b := atB [nodeA 16 x, .rptr (.int .u64 c) 0, .rptr (clo c 11) 0] [nodeA 16 x, .rptr (.int .u64 c) 0, .rptr (clo c 11) 0]) (by kernel_rfl) (atB_self _)) (NB_intro (atB_self _) (NB_intro (atB_self _) ⟨?_, rfl, trivial⟩))))
 exact (qA_refl _ _ _ _) ▸ trivial
end
theorem eqAB_self (a : AtomG) : eqAB a a = true := by simp [eqAB]
theorem eqNB_self (a : NodeG) : eqNB a a = true := by simp [eqNB]
theorem sameA_pure (a : AtomG) (h : (ac a).length ≤ 10) : PureC Tryz.prog gN 57 [atomA a, atomA a] (.bool true) := by
 refine pure_vcG (d := 3) mix (tblG_nil _ _) ((sameA_vc a).mpr ?_)
 simp only [bne_self_eq_false, beq_self_eq_true, Bool.not_true, Bool.or_self, Bool.and_self, VB_f, true_and, and_true, imp_self, implies_true, and_self, Int.toNat_natCast]
 refine ⟨⟨0, Nat.zero_le _, rfl⟩, fun i hi => VB_intro (fun h1 => ?_) (fun _ => trivial)⟩
 have h1 := of_decide_eq_true h1
 have hi : i ≤ (ac a).length := hi
 exact NB_intro (decide_eq_true (by omega)) (NB_intro (decide_eq_true (by omega)) ⟨i + 1, (by omega : i + 1 ≤ (ac a).length), by simp only [invSmA]; omega, by rw [wrap_i64_id (by omega) (by omega)]; rfl⟩)
theorem sameA_ok : PureG Tryz.prog gN 57 cSmA := by
 intro args nd v he hnd
 unfold cSmA at he
 split at he <;> cases he
 rename_i k bd bo cs nm k' bd' bo' cs' nm'
 simp only [Bool.and_eq_true, decide_eq_true_eq] at hnd
 obtain ⟨⟨⟨h1, h2⟩, h3⟩, h4⟩ := hnd
 have h4 : ((k, bd, bo, elsOf condOf cs, nm, ()) : AtomG) = (k', bd', bo', elsOf condOf cs', nm', ()) := by simpa [eqAB] using h4
 have h5 := sameA_pure (k, bd, bo, elsOf condOf cs, nm, ()) h3
 refine PureC.args (args' := [atomA (k, bd, bo, elsOf condOf cs, nm, ()), atomA (k, bd, bo, elsOf condOf cs, nm, ())]) rfl (fun i hi => ?_) h5
 match i, hi with
 | 0, _ => exact ⟨rfl, rfl, rfl, els_sub cond_sub h1, rfl, trivial⟩
 | 1, _ =>
  rw [h4]
  exact ⟨rfl, rfl, rfl, els_sub cond_sub h2, rfl, trivial⟩
theorem sameN_of {g : Nat} (h : ∀ x, litB g x = true → PureC Tryz.prog gN 39 [nodeA (g + 1) x, nodeA (g + 1) x] (.bool true)) : PureG Tryz.prog gN 39 (cSmN g) := by
 intro args nd v he hnd
 unfold cSmN at he
 split at he <;> cases he
 rename_i a b
 simp only [Bool.and_eq_true] at hnd
 obtain ⟨⟨h1, h2⟩, h3⟩ := hnd
 have h3 : nodeOf g a = nodeOf g b := by simpa [eqNB] using h3
 rw [isNode, Bool.and_eq_true] at h1 h2
 refine PureC.args (args' := [nodeA (g + 1) (nodeOf g a), nodeA (g + 1) (nodeOf g a)]) rfl (fun i hi => ?_) (h _ h1.2)
 match i, hi with
 | 0, _ => exact (node_sub g a h1.1).1
 | 1, _ => rw [h3]; exact (node_sub g b h2.1).1
theorem sameN_pure : ∀ (g : Nat) (x : NodeG), litB g x = true → PureC Tryz.prog gN 39 [nodeA (g + 1) x, nodeA (g + 1) x] (.bool true)
 | 0, _, h => by cases h
 | g + 1, x, hl => by
  refine pure_vcG (d := 3) mix (tblG_cons sameA_ok (tblG_cons (sameN_of (sameN_pure g)) (tblG_nil _ _))) ((sameN_vc g x).mpr ?_)
  have hk40 := litB_kids hl
  have hc : (elsOf condOf (condsA (ac (nat x)))).length ≤ 10 := by rw [conds_of]; exact litB_conds hl
  refine NB_intro (impB_t.2 fun _ => ?_) ?_
  ·show (isEls isCond (condsA (ac (nat x))) && isEls isCond (condsA (ac (nat x))) && decide ((elsOf condOf (condsA (ac (nat x)))).length ≤ 10) && eqAB _ _) = true
   rw [conds_is, decide_eq_true hc, eqAB_self]
   rfl
  simp only [bne_self_eq_false, Bool.or_self, VB_f, nodeA_refl, true_and, and_true, imp_self, implies_true, and_self, Int.toNat_natCast]
  refine ⟨⟨0, Nat.zero_le _, rfl⟩, fun i hi => VB_intro (fun h1 => ?_) (fun _ => trivial)⟩
  have h1 := of_decide_eq_true h1
  have hlt : i < x.kids.length := by omega
  have hkl := litB_kid hl hlt
  refine NB_intro (decide_eq_true (by omega)) (NB_intro (decide_eq_true (by omega)) (NB_intro ?_ ⟨i + 1, hlt, by simp only [invSmN]; omega, by rw [wrap_i64_id (by omega) (by omega)]; rfl⟩))
  rw [isNode_of hkl (by omega), eqNB_self]
  rfl
theorem sameQ_pure {x : NodeG} (w : Int) {hs : List HaveG} {es : List AggG} (hq : LtW x hs es) : PureC Tryz.prog gN 19 [qA x w hs es, qA x w hs es] (.bool true) := by
 refine pure_vcG (d := 3) mix (tblG_cons (sameN_of (sameN_pure 8)) (tblG_nil _ _)) ((sameQ_vc x w hs es 8).mpr ?_)
 have h1 := hq.nms.1
 have h2 := hq.nms.2.1
 refine NB_intro (by rw [isNode_of hq.lit (by decide), eqNB_self]; rfl) ?_
 simp only [bne_self_eq_false, beq_self_eq_true, Bool.not_true, Bool.or_self, Bool.and_self, VB_f, qA_refl, true_and, and_true, imp_self, implies_true, and_self, Int.toNat_natCast]
 refine ⟨⟨0, Nat.zero_le _, rfl⟩, fun i hi => VB_intro (fun h3 => ?_) (fun _ => ⟨⟨0, Nat.zero_le _, rfl⟩, fun i hi => VB_intro (fun h3 => ?_) (fun _ => trivial)⟩)⟩
 ·have h3 := of_decide_eq_true h3
  exact NB_intro (decide_eq_true (by omega)) (NB_intro (decide_eq_true (by omega)) ⟨i + 1, (by omega : i + 1 ≤ hs.length), by simp only [invSmQ1]; omega, by rw [wrap_i64_id (by omega) (by omega)]; rfl⟩)
 ·have h3 := of_decide_eq_true h3
  exact NB_intro (decide_eq_true (by omega)) (NB_intro (decide_eq_true (by omega)) ⟨i + 1, (by omega : i + 1 ≤ es.length), by simp only [invSmQ2]; omega, by rw [wrap_i64_id (by omega) (by omega)]; rfl⟩)
end Go.Proofs.YtamcloifhjafcaaGreatDoor
