/- QUERIES 6: depths, ref10's Check: conditions. -/
import Derived.Test.YtamcloifhjafcaaGreatDoorQF4
namespace Go.Proofs.YtamcloifhjafcaaGreatDoor
open Pw Go
set_option maxRecDepth 100000
set_option linter.unusedSimpArgs false
def mxD (a : Nat → Int) : Nat → Int
 | 0 => 0
 | n + 1 => maxI (mxD a n) (a n)
def dS : Nat → NodeG → Int
 | 0, _ => 0
 | g + 1, x => mxD (fun i => dS g (x.kids.getD i treeD)) x.kids.length + 1
def cDep (g : Nat) : Ctr
 | [n] => some (isNode g n, .int .i64 (dS g (nodeOf g n)))
 | _ => none
def invDep (g : Nat) (x : NodeG) : Inv := ⟨Nat, 50, fun i => ⟨[(1, .ptr 0 0 0 0), (3, .int .i64 (mxD (fun i => dS g (x.kids.getD i treeD)) i)), (4, .int .i64 i)], [(0, .row 0 9 true (.lst [nodeA (g + 2) x]))]⟩, fun i => i ≤ x.kids.length, fun i => x.kids.length - i⟩
section
variable (x : NodeG) (w : Int) (hs : List HaveG) (es : List AggG) (c d e : Int) (fl rg st nd b : Bool) (H : List (List UInt8))
noncomputable def tblC10 : List (Nat × Ctr) := [(50, cAt [qA x w hs es] (.int .i64 c)), (51, cAt [qA x w hs es] (.bool fl)), (52, cAt [nodeA 16 x] (.tup [.int .i64 d, .int .i64 e])),
 (53, cAt [qA x w hs es] (.tup [ssA H, .bool b])), (54, cAt [qA x w hs es] (.bool rg)), (55, cAt [nodeA 16 x, .bool true] (.bool st)), (56, cAt [qA x w hs es] (.bool nd))]
end
theorem dep08_vc (g : Nat) (x : NodeG) (r : Int) : (vcFun (mkG Tryz.prog gN (tblOf [(73, cDep g)]) (fun f b => if f = 73 ∧ b = 0 then some (invDep g x) else none) 0) 20 73 [nodeA (g + 2) x] .nil 0 (retP 3 (.int .i64 r))).sat = ( (∃ (i : Nat), i.le (TreeG.kids x).length ∧ (((0 : Nat) = (0 : Nat) ∧ (0 : Nat) = (0 : Nat) ∧ (0 : Nat) = (0 : Nat)) ∧ (0 : Int) = mxD (fun (i : Nat) => dS g ((TreeG.kids x).getD i treeD)) i ∧ (0 : Int) = (↑i : Int) ∧ True) ∧ ((0 : Nat) = (0 : Nat) ∧ (true = true → true = true) ∧ ((nodeA (g + (2 : Nat)) x).sub (nodeA (g + (2 : Nat)) x) ∧ (nodeA (g + (2 : Nat)) x).cells.length = (nodeA (g + (2 : Nat)) x).cells.length) ∧ True) ∧ True) ∧ ∀ (i : Nat), i.le (TreeG.kids x).length → VB (decide ((↑i : Int) < (↑(TreeG.kids x).length : Int))) (NB (decide ((0 : Int) ≤ (↑i : Int) ∧ (↑i : Int) < (↑(TreeG.kids x).length : Int))) (NB (isNode g (nodeA (g + (1 : Nat)) ((TreeG.kids x).getD (↑i : Int).toNat (TreeG.mk nodeD [])))) (∃ (i' : Nat), i'.le (TreeG.kids x).length ∧ (invDep g x).μ i' < (invDep g x).μ i ∧ (((0 : Nat) = (0 : Nat) ∧ (0 : Nat) = (0 : Nat) ∧ (0 : Nat) = (0 : Nat)) ∧ maxI (mxD (fun (i : Nat) => dS g ((TreeG.kids x).getD i treeD)) i) (dS g (nodeOf g (nodeA (g + (1 : Nat)) ((TreeG.kids x).getD (↑i : Int).toNat (TreeG.mk nodeD []))))) = mxD (fun (i : Nat) => dS g ((TreeG.kids x).getD i treeD)) i' ∧ IntKind.i64.wrap ((↑i : Int) + (1 : Int)) = (↑i' : Int) ∧ True) ∧ ((0 : Nat) = (0 : Nat) ∧ (true = true → true = true) ∧ ((nodeA (g + (2 : Nat)) x).sub (nodeA (g + (2 : Nat)) x) ∧ (nodeA (g + (2 : Nat)) x).cells.length = (nodeA (g + (2 : Nat)) x).cells.length) ∧ True) ∧ True))) (IntKind.i64.wrap (mxD (fun (i : Nat) => dS g ((TreeG.kids x).getD i treeD)) i + (1 : Int)) = r)) := by
 kernel_rfl
theorem Dep08_vc (x : NodeG) (s d : Int) (r f : Int) : (vcFun (mkG Tryz.prog gN (tblOf [(65, cAt [nodeA 16 x] (.int .i64 s)), (73, cAt [nodeA 16 x] (.int .i64 d))]) (fun _ _ => none) 0) 20 52 [nodeA 16 x] .nil 0 (retP 3 (.tup [.int .i64 r, .int .i64 f]))).sat = ( NB (atB [nodeA (16 : Nat) x] [nodeA (16 : Nat) x]) (VB (s != (0 : Int)) ((0 : Int) = r ∧ s = f ∧ True) (NB (atB [nodeA (16 : Nat) x] [nodeA (16 : Nat) x]) (d = r ∧ (0 : Int) = f ∧ True)))) := by
 kernel_rfl
theorem check10_vc (x : NodeG) (w : Int) (hs : List HaveG) (es : List AggG) (c d e : Int) (fl rg st nd b : Bool) (H : List (List UInt8)) (r : Int) : (vcFun (mkG Tryz.prog gN (tblOf (tblC10 x w hs es c d e fl rg st nd b H)) (fun _ _ => none) 0) 20 37 [qA x w hs es] .nil 0 (retP 3 (.int .i64 r))).sat = ( NB (atB [qA x w hs es] [qA x w hs es]) (VB (c != (0 : Int)) (c = r) (NB (atB [qA x w hs es] [qA x w hs es]) (VB fl ((6 : Int) = r) (NB (atB [nodeA (16 : Nat) x] [nodeA (16 : Nat) x]) (NB (atB [qA x w hs es] [qA x w hs es]) (VB (decide (d > (6 : Int))) ((22 : Int) = r) (NB (atB [qA x w hs es] [qA x w hs es]) (VB (!rg) ((2 : Int) = r) (NB (atB [nodeA (16 : Nat) x, AV.bool true] [nodeA (16 : Nat) x, AV.bool true]) (VB (!st) ((9 : Int) = r) (VB (!b) ((8 : Int) = r) (NB (atB [qA x w hs es] [qA x w hs es]) (VB (!nd) ((12 : Int) = r) ((0 : Int) = r))))))))))))))) := by
 kernel_rfl
end Go.Proofs.YtamcloifhjafcaaGreatDoor
namespace Go.Proofs.YtamcloifhjafcaaGreatDoor
open Pw Go
set_option maxRecDepth 100000
set_option linter.unusedSimpArgs false
theorem maxI_le {a b B : Int} (h1 : a ≤ B) (h2 : b ≤ B) : maxI a b ≤ B := by unfold maxI; split <;> assumption
theorem maxI_l (a b : Int) : a ≤ maxI a b := by unfold maxI; split <;> omega
theorem maxI_r (a b : Int) : b ≤ maxI a b := by unfold maxI; split <;> omega
theorem mxD_bd {a : Nat → Int} {B : Int} (hB : 0 ≤ B) (n : Nat) (h : ∀ i, i < n → 0 ≤ a i ∧ a i ≤ B) : 0 ≤ mxD a n ∧ mxD a n ≤ B := by
 induction n with
 | zero => exact ⟨Int.le_refl _, hB⟩
 | succ n ih =>
  have h1 := ih fun i hi => h i (by omega)
  have h2 := h n (by omega)
  exact ⟨Int.le_trans h1.1 (maxI_l _ _), maxI_le h1.2 h2.2⟩
theorem dS_bd : ∀ (g : Nat) (x : NodeG), 0 ≤ dS g x ∧ dS g x ≤ g
 | 0, _ => ⟨Int.le_refl _, Int.le_refl _⟩
 | g + 1, x => by
  have := mxD_bd (a := fun i => dS g (x.kids.getD i treeD)) (B := g) (by omega) x.kids.length fun i _ => dS_bd g _
  show 0 ≤ mxD _ _ + 1 ∧ mxD _ _ + 1 ≤ ((g + 1 : Nat) : Int)
  omega
theorem dep_of {g : Nat} (h : ∀ x, litB g x = true → PureC Tryz.prog gN 73 [nodeA (g + 1) x] (.int .i64 (dS g x))) : PureG Tryz.prog gN 73 (cDep g) := by
 intro args nd v he hnd
 unfold cDep at he
 split at he <;> cases he
 refine pureN_node hnd fun x hx e => ?_
 rw [e]
 exact h x hx
theorem dep_pure : ∀ (g : Nat) (x : NodeG), g ≤ 1000 → litB g x = true → PureC Tryz.prog gN 73 [nodeA (g + 1) x] (.int .i64 (dS g x))
 | 0, _, _, h => by cases h
 | g + 1, x, hg, hl => by
  refine pure_vcG (d := 3) mix (tblG_cons (dep_of fun x hx => dep_pure g x (by omega) hx) (tblG_nil _ _)) ((dep08_vc g x _).mpr ?_)
  have hk40 := litB_kids hl
  simp only [nodeA_refl, EqI, true_and, and_true, imp_self, implies_true, Int.toNat_natCast, Nat.zero_add, or_self]
  refine ⟨⟨0, Nat.zero_le _, rfl, rfl⟩, fun i hi => VB_intro (fun h1 => ?_) (fun h1 => ?_)⟩
  ·have hlt : i < x.kids.length := by have := of_decide_eq_true h1; omega
   have hkl := litB_kid hl hlt
   have e1 : isNode g (nodeA (g + 1) (x.kids.getD i (TreeG.mk nodeD []))) = true := isNode_of hkl (by omega)
   have e2 : nodeOf g (nodeA (g + 1) (x.kids.getD i (TreeG.mk nodeD []))) = x.kids.getD i treeD := nodeOf_of hkl (by omega)
   rw [e1, e2]
   exact NB_intro (decide_eq_true (by omega)) ⟨i + 1, hlt, by show x.kids.length - (i + 1) < x.kids.length - i; omega, rfl, by rw [wrap_i64_id (by omega) (by omega)]; rfl⟩
  ·have hi : i ≤ x.kids.length := hi
   obtain rfl : i = x.kids.length := by have := of_decide_eq_false h1; omega
   have := dS_bd (g + 1) x
   exact wrap_i64_id (by show -9223372036854775808 ≤ dS (g + 1) x; omega) (by show dS (g + 1) x ≤ 9223372036854775807; omega)
def DpV (x : NodeG) : Int := if sndE x ≠ 0 then 0 else dS 8 x
def ref10E (x : NodeG) (w : Int) (hs : List HaveG) (es : List AggG) : Int :=
 if chkE x w hs es ≠ 0 then chkE x w hs es else if ful10 (nds 8 x) hs es = true then 6 else if decide (DpV x > 6) = true then 22 else if (!(nds 8 x).any rngP && decide (w ≤ 10000)) = false then 2 else if stdB 8 true x = false then 9
 else if anyDup (atomsL 8 x) = true then 8 else if nam10 (atomsL 8 x) (negL 8 x) (nm10 (atomsL 8 x) (negL 8 x)) (usQ hs es) = false then 12 else 0
theorem cWhQ_ok {ok : Bool} {g : Nat} {canon : List AV} {v : AV} (h : ok = true → PureC Tryz.prog gN g canon v) : PureG Tryz.prog gN g (cWhQ ok canon v) := by
 intro args nd u he hnd
 cases he
 rw [Bool.and_eq_true] at hnd
 have : args = canon := by simpa [atB] using hnd.2
 rw [this]
 exact h hnd.1
section
variable {x : NodeG} (w : Int) {hs : List HaveG} {es : List AggG} (hq : LtW x hs es)
include hq
theorem nm10_le : (nm10 (atomsL 8 x) (negL 8 x)).length ≤ 1000 := by
 have h1 := Nat.le_trans (AN_leW x) hq.lv
 have h2 := nmL_le (atomsL 8 x) (negL 8 x) (atomsL 8 x).length
 unfold nm10
 split
 ·exact Nat.zero_le _
 ·omega
theorem usQ_le : (usQ hs es).length ≤ 1000 := by
 have := usE_len (hs := hs) (es := es) es.length
 have h1 := hq.nms.1
 have h2 := hq.nms.2.1
 show (usE hs es es.length).length ≤ 1000
 omega
theorem EQ3_ok (H U : List (List UInt8)) (b ok : Bool) (h1 : ok = true → PureC Tryz.prog gN 53 [qA x w hs es] (.tup [ssA H, .bool b])) (h2 : ok = true → PureC Tryz.prog gN 75 [qA x w hs es] (ssA U)) :
  CtrOK (EQ3 x w hs es (atomsL 8 x) (negL 8 x) H U (sndE x) b ok) :=
 ⟨(mkG_ctr (P := Tryz.prog) (gl := gN) (inv := fun _ _ => none) (n := 0) (tblG_cons (cAt_ok (at16W (atomsR_pure x hq.lit hq.lv))) (tblG_cons (cAt_ok (at16W (negR_pure x hq.lit hq.lv))) (tblG_cons at_ok10 (tblG_cons (cWhQ_ok h1) (tblG_cons (cWhQ_ok h2) (tblG_nil _ _))))))).1, (mkG_ctr (P := Tryz.prog) (gl := gN) (inv := fun _ _ => none) (n := 0) (tblG_nil Tryz.prog gN)).2⟩
theorem uses10_pure : PureC Tryz.prog gN 75 [qA x w hs es] (ssA (usQ hs es)) :=
 pure_vcE (d := 4) mix (EQ3_ok w hq [] [] false false (fun h => by cases h) (fun h => by cases h)) (uses10_sat x w hs es _ _ _ _ _ _ _ hq.nms.1 hq.nms.2.1)
theorem names10_pure : PureC Tryz.prog gN 53 [qA x w hs es] (.tup [ssA (nm10 (atomsL 8 x) (negL 8 x)), .bool (!anyDup (atomsL 8 x))]) :=
 pure_vcE (d := 4) mix (EQ3_ok w hq [] [] false false (fun h => by cases h) (fun h => by cases h)) (names10_sat x w hs es _ _ _ _ _ _ _ (AN_lenW x) (Nat.le_trans (AN_leW x) hq.lv))
theorem named10_pure : PureC Tryz.prog gN 56 [qA x w hs es] (.bool (nam10 (atomsL 8 x) (negL 8 x) (nm10 (atomsL 8 x) (negL 8 x)) (usQ hs es))) :=
 pure_vcE (d := 4) mix (EQ3_ok w hq _ _ _ true (fun _ => names10_pure w hq) (fun _ => uses10_pure w hq)) (named10_sat x w hs es _ _ _ _ _ _ _ rfl (AN_lenW x) (Nat.le_trans (AN_leW x) hq.lv) (nm10_le hq) (usQ_le hq))
theorem dep16_pure : PureC Tryz.prog gN 73 [nodeA 16 x] (.int .i64 (dS 8 x)) := at16W (dep_pure 8 x (by decide) hq.lit)
theorem std16_pure (t : Bool) : PureC Tryz.prog gN 55 [nodeA 16 x, .bool t] (.bool (stdB 8 t x)) :=
 PureC.args (args' := [nodeA 9 x, .bool t]) rfl (fun i hi => by
  match i, hi with
  | 0, _ => exact nodeA_sub' (by decide) x
  | 1, _ => exact bool_sub t
  | i + 2, hi => exact absurd hi (by simp)) (std_pure 8 x t hq.lit)
theorem snd16_pure : PureC Tryz.prog gN 65 [nodeA 16 x] (.int .i64 (sndE x)) := by
 have e1 : isNode 8 (nodeA 16 x) = true := isNode_of hq.lit (by decide)
 have e2 : nodeOf 8 (nodeA 16 x) = x := nodeOf_of hq.lit (by decide)
 have := sndR_ok [nodeA 16 x] (isNode 8 (nodeA 16 x)) (.int .i64 (sndE (nodeOf 8 (nodeA 16 x)))) rfl e1
 rwa [e2] at this
theorem Dep_pure : PureC Tryz.prog gN 52 [nodeA 16 x] (.tup [.int .i64 (DpV x), .int .i64 (sndE x)]) := by
 refine pure_vcG (t := tblOf [(65, cAt [nodeA 16 x] (.int .i64 (sndE x))), (73, cAt [nodeA 16 x] (.int .i64 (dS 8 x)))]) (inv := fun _ _ => none) (n := 0) (k := 20) (d := 3) mix (tblG_cons (cAt_ok (snd16_pure hq)) (tblG_cons (cAt_ok (dep16_pure hq)) (tblG_nil _ _))) ((Dep08_vc x (sndE x) (dS 8 x) _ _).mpr (NB_intro (atB_self _) (VB_intro (fun h => ?_) (fun h => NB_intro (atB_self _) ?_))))
 ·have h : sndE x ≠ 0 := bne_iff_ne.1 h
  rw [DpV, if_pos h]
  exact ⟨rfl, rfl, trivial⟩
 ·have h : sndE x = 0 := bne_eq_false_iff_eq.1 h
  rw [DpV, if_neg (by simp [h]), h]
  exact ⟨rfl, rfl, trivial⟩
theorem ref10_pure : PureC Tryz.prog gN 37 [qA x w hs es] (.int .i64 (ref10E x w hs es)) := by
 refine pure_vcG (d := 3) mix (tblG_cons (cAt_ok (chkR_pure x w hs es hq.lit hq.nms)) (tblG_cons (cAt_ok (full10_pure hq.lit hq.few)) (tblG_cons (cAt_ok (Dep_pure hq)) (tblG_cons (cAt_ok (names10_pure w hq)) (tblG_cons (cAt_ok (rng10_pure hq.lit hq.few)) (tblG_cons (cAt_ok (std16_pure hq true)) (tblG_cons (cAt_ok (named10_pure w hq)) (tblG_nil _ _)))))))) ((check10_vc x w hs es _ _ _ _ _ _ _ _ _ _).mpr ?_)
 unfold ref10E
 simp only [atB_self, NB_t]
 generalize chkE x w hs es = c
 generalize ful10 (nds 8 x) hs es = fl
 generalize decide (DpV x > 6) = dd
 generalize (!(nds 8 x).any rngP && decide (w ≤ 10000)) = rg
 generalize stdB 8 true x = st
 generalize anyDup (atomsL 8 x) = a
 generalize nam10 (atomsL 8 x) (negL 8 x) (nm10 (atomsL 8 x) (negL 8 x)) (usQ hs es) = nd
 refine VB_intro (fun h => ?_) (fun h => ?_)
 ·rw [if_pos (bne_iff_ne.1 h)]
 ·rw [if_neg (by simpa using h)]
  cases fl <;> cases dd <;> cases rg <;> cases st <;> cases a <;> cases nd <;> simp [VB, VB_t, VB_f]
end
end Go.Proofs.YtamcloifhjafcaaGreatDoor
namespace Go.Proofs.YtamcloifhjafcaaGreatDoor
open Pw Go
set_option maxRecDepth 100000
set_option linter.unusedSimpArgs false
theorem leaf_b (y : NodeG) : isLeaf y = (nk y == 1 || nk y == 2) := by
 simp [isLeaf, Bool.beq_eq_decide_eq]
theorem atm_len {x : NodeG} (hs : sndB x = true) (hl : litB 8 x = true) : atmC (nds 8 x) (nds 8 x).length = (atomsL 8 x).length := by
 have h := leaves_elems 8 200 1 x hs hl
 rw [atomsL, if_pos hs, List.length_map, ← h, List.length_map, atmC, List.take_length, nds_elems 8 1 x, List.countP_map, List.countP_eq_length_filter]
 simp [Function.comp_def, leaf_b]
theorem kidsAll {g : Nat} {x : NodeG} (p : NodeG → Bool) : (nds (g + 1) x).any p = (p x || (List.range x.kids.length).any fun i => (nds g (x.kids.getD i treeD)).any p) := by
 simp only [nds, List.any_cons]
 congr 1
 rw [Bool.eq_iff_iff]
 simp only [List.any_eq_true, List.mem_flatten, List.mem_map, List.mem_range]
 constructor
 ·rintro ⟨y, ⟨L, ⟨k, hk, rfl⟩, hy⟩, hp⟩
  obtain ⟨i, hi, rfl⟩ := List.mem_iff_getElem.1 hk
  exact ⟨i, hi, y, by rw [List.getD_eq_getElem?_getD, List.getElem?_eq_getElem hi]; exact hy, hp⟩
 ·rintro ⟨i, hi, y, hy, hp⟩
  rw [List.getD_eq_getElem?_getD, List.getElem?_eq_getElem hi] at hy
  exact ⟨y, ⟨_, ⟨_, List.getElem_mem hi, rfl⟩, hy⟩, hp⟩
theorem sound_kid {d : Nat} {x : NodeG} (h : soundB (d + 1) x = true) {i : Nat} (hi : i < x.kids.length) : soundB d (x.kids.getD i treeD) = true := by
 cases hl : isLeaf x with
 | true =>
  rw [sound_leaf h hl] at hi
  cases hi
 | false =>
  refine sound_kids h hl _ ?_
  rw [List.getD_eq_getElem?_getD, List.getElem?_eq_getElem hi]
  exact List.getElem_mem hi
theorem std_eq : ∀ (g d : Nat) (t : Bool) (x : NodeG), soundB d x = true → litB g x = true → stdB g t x = if nk x = 2 then !t else !(nds g x).any stdP
 | 0, _, _, _, _, h => by cases h
 | g + 1, 0, _, _, h, _ => by cases h
 | g + 1, d + 1, t, x, h, hl => by
  have hS : stdB (g + 1) t x = if nk x = 2 then !t else (List.range x.kids.length).all fun i => !badN x i && stdB g (nk x != 3) (x.kids.getD i treeD) := rfl
  rw [hS]
  by_cases h2 : nk x = 2
  ·rw [if_pos h2, if_pos h2]
  ·rw [if_neg h2, if_neg h2, kidsAll, stdP]
   have key : ∀ i, i < x.kids.length → (!badN x i && stdB g (nk x != 3) (x.kids.getD i treeD)) = (!badN x i && !(nds g (x.kids.getD i treeD)).any stdP) := by
    intro i hi
    cases hb : badN x i with
    | true => rfl
    | false =>
     simp only [Bool.not_false, Bool.true_and]
     rw [std_eq g d _ _ (sound_kid h hi) (litB_kid hl hi)]
     by_cases hk : nk (x.kids.getD i treeD) = 2
     ·rw [if_pos hk]
      have h3 : nk x = 3 := by
       unfold badN at hb
       rw [hk] at hb
       simp at hb
       exact hb.1.1
      have h4 : (x.kids.getD i treeD).kids = [] := by
       cases d with
       | zero => have := sound_kid h hi; cases this
       | succ d => exact sound_leaf (sound_kid h hi) (by rw [leaf_b, hk]; rfl)
      have h5 : (nds g (x.kids.getD i treeD)).any stdP = false := by
       cases g with
       | zero => have := litB_kid hl hi; cases this
       | succ g =>
        rw [kidsAll, stdP, h4]
        rfl
      rw [h3, h5]
      rfl
     ·rw [if_neg hk]
   rw [Bool.eq_iff_iff]
   simp only [List.all_eq_true, List.mem_range, Bool.not_eq_true', Bool.or_eq_false_iff, List.any_eq_false]
   constructor
   ·intro hh
    refine ⟨fun i hi => ?_, fun i hi => ?_⟩
    ·have := hh i hi
     rw [key i hi, Bool.and_eq_true] at this
     simpa using this.1
    ·have := hh i hi
     rw [key i hi, Bool.and_eq_true] at this
     simpa using this.2
   ·rintro ⟨h3, h4⟩ i hi
    rw [key i hi]
    have a1 := h3 i hi
    have a2 := h4 i hi
    simp only [Bool.not_eq_true] at a1 a2
    rw [a1]
    simpa using a2
end Go.Proofs.YtamcloifhjafcaaGreatDoor
namespace Go.Proofs.YtamcloifhjafcaaGreatDoor
open Pw Go
set_option maxRecDepth 100000
set_option linter.unusedSimpArgs false
theorem mxD_ge {a : Nat → Int} {n i : Nat} (hi : i < n) : a i ≤ mxD a n := by
 induction n with
 | zero => omega
 | succ n ih =>
  rcases Nat.lt_or_ge i n with h | h
  ·exact Int.le_trans (ih h) (maxI_l _ _)
  ·obtain rfl : i = n := by omega
   exact maxI_r _ _
theorem mxD_at {a : Nat → Int} : ∀ n, mxD a n = 0 ∨ ∃ i, i < n ∧ mxD a n = a i
 | 0 => .inl rfl
 | n + 1 => by
  have h : mxD a (n + 1) = maxI (mxD a n) (a n) := rfl
  rw [h]
  unfold maxI
  split
  ·exact .inr ⟨n, by omega, rfl⟩
  ·rcases mxD_at n with h1 | ⟨i, hi, h1⟩
   ·exact .inl h1
   ·exact .inr ⟨i, by omega, h1⟩
theorem mxS_le' {a : Nat → Int} {B : Int} : ∀ k, (∀ j, j ≤ k → a j ≤ B) → mxS a k ≤ B
 | 0, h => h 0 (Nat.le_refl _)
 | k + 1, h => maxI_le (mxS_le' k fun j hj => h j (by omega)) (h (k + 1) (Nat.le_refl _))
theorem mxS_ge {a : Nat → Int} : ∀ (k j : Nat), j ≤ k → a j ≤ mxS a k
  | 0, j, h => by obtain rfl : j = 0 := by omega
                  exact Int.le_refl _
  | k + 1, j, h => by
    rcases Nat.lt_or_ge j (k + 1) with h1 | h1
    · exact Int.le_trans (mxS_ge k j (by omega)) (maxI_l _ _)
    · obtain rfl : j = k + 1 := by omega
      exact maxI_r _ _
theorem el_le : ∀ (g : Nat) (d : Int) (x : NodeG), ∀ p ∈ elems g d x, p.1 ≤ d - 1 + dS g x
 | 0, _, _, _, h => by cases h
 | g + 1, d, x, p, h => by
  have hS : dS (g + 1) x = mxD (fun i => dS g (x.kids.getD i treeD)) x.kids.length + 1 := rfl
  have h0 := (mxD_bd (a := fun i => dS g (x.kids.getD i treeD)) (B := g) (by omega) x.kids.length fun i _ => dS_bd g _).1
  simp only [elems, List.mem_cons, List.mem_flatten, List.mem_map] at h
  rcases h with rfl | ⟨L, ⟨k, hk, rfl⟩, hp⟩
  ·simp only; omega
  ·obtain ⟨i, hi, rfl⟩ := List.mem_iff_getElem.1 hk
   have h1 := el_le g (d + 1) _ p hp
   have h2 := mxD_ge (a := fun i => dS g (x.kids.getD i treeD)) hi
   have e3 : x.kids[i] = x.kids.getD i treeD := by rw [List.getD_eq_getElem?_getD, List.getElem?_eq_getElem hi]; rfl
   rw [e3] at h1
   omega
theorem el_at : ∀ (g : Nat) (d : Int) (x : NodeG), litB g x = true → ∃ p ∈ elems g d x, p.1 = d - 1 + dS g x
 | 0, _, _, h => by cases h
 | g + 1, d, x, hl => by
  have hS : dS (g + 1) x = mxD (fun i => dS g (x.kids.getD i treeD)) x.kids.length + 1 := rfl
  rcases mxD_at (a := fun i => dS g (x.kids.getD i treeD)) x.kids.length with h | ⟨i, hi, h⟩
  ·exact ⟨(d, x), by simp [elems], by show d = _; rw [hS, h]; omega⟩
  ·obtain ⟨p, hp, e⟩ := el_at g (d + 1) (x.kids.getD i treeD) (litB_kid hl hi)
   have h' : mxD (fun i => dS g (x.kids.getD i treeD)) x.kids.length = dS g (x.kids.getD i treeD) := h
   refine ⟨p, ?_, by rw [e, hS, h']; omega⟩
   simp only [elems, List.mem_cons, List.mem_flatten, List.mem_map]
   refine .inr ⟨_, ⟨_, ?_, rfl⟩, hp⟩
   rw [List.getD_eq_getElem?_getD, List.getElem?_eq_getElem hi]
   exact List.getElem_mem hi
theorem dpth_eq {x : NodeG} (hs : sndB x = true) (hl : litB 8 x = true) : dpth x = dS 8 x := by
 rw [dpth, if_pos hs]
 obtain ⟨p, hp, e⟩ := el_at 8 1 x hl
 obtain ⟨i, hi, rfl⟩ := List.mem_iff_getElem.1 hp
 have h1 : mxS (dpi x) ((elems 8 1 x).length - 1) ≤ dS 8 x := by
  refine mxS_le' _ fun j hj => ?_
  have hj' : j < (elems 8 1 x).length := by omega
  have := el_le 8 1 x _ (List.getElem_mem hj')
  simp only [dpi, List.getD_eq_getElem?_getD, List.getElem?_eq_getElem hj', Option.getD_some]
  omega
 have h2 := mxS_ge (a := dpi x) ((elems 8 1 x).length - 1) i (by omega)
 simp only [dpi, List.getD_eq_getElem?_getD, List.getElem?_eq_getElem hi, Option.getD_some] at h2
 have h3 : mxS (dpi x) ((elems 8 1 x).length - 1) = mxS (fun i => ((elems 8 1 x)[i]?.getD (0, treeD)).1) ((elems 8 1 x).length - 1) := by
  congr 1
 omega
theorem seS_iff {A : List AtomG} {s : List UInt8} : ∀ i, seS A i s = true ↔ ∃ j, j < i ∧ nmOf A j = s ∧ nmOf A j ≠ []
 | 0 => ⟨fun h => absurd h (by simp [seS]), fun ⟨j, h, _⟩ => absurd h (Nat.not_lt_zero j)⟩
 | i + 1 => by
  by_cases h1 : nmOf A i = []
  ·have e : seS A (i + 1) = seS A i := if_pos h1
   rw [e, seS_iff i]
   constructor
   ·rintro ⟨j, h2, h3⟩
    exact ⟨j, by omega, h3⟩
   ·rintro ⟨j, h2, h3⟩
    refine ⟨j, ?_, h3⟩
    rcases Nat.lt_or_ge j i with h4 | h4
    ·exact h4
    ·obtain rfl : j = i := by omega
     exact absurd h1 h3.2
  ·have e : seS A (i + 1) = fun s => if nmOf A i = s then true else seS A i s := if_neg h1
   rw [e]
   by_cases h2 : nmOf A i = s
   ·simp only [if_pos h2, true_iff]
    exact ⟨i, by omega, h2, h1⟩
   ·simp only [if_neg h2]
    rw [seS_iff i]
    constructor
    ·rintro ⟨j, h3, h4⟩
     exact ⟨j, by omega, h4⟩
    ·rintro ⟨j, h3, h4⟩
     refine ⟨j, ?_, h4⟩
     rcases Nat.lt_or_ge j i with h5 | h5
     ·exact h5
     ·obtain rfl : j = i := by omega
      exact absurd h4.1 h2
theorem dup_eq (A : List AtomG) (i : Nat) : dup10 A i = duP A i := by
 rw [Bool.eq_iff_iff]
 simp only [dup10, duP, sam10, List.any_eq_true, List.mem_range, Bool.and_eq_true, decide_eq_true_eq, seS_iff, Bool.not_eq_true', beq_eq_false_iff_ne, beq_iff_eq]
 constructor
 ·rintro ⟨k, h1, h2, h3⟩
  exact ⟨h2, k, h1, h3, by rw [h3]; exact h2⟩
 ·rintro ⟨h2, k, h1, h3, _⟩
  exact ⟨k, h1, h2, h3⟩
theorem anyDup_eq (A : List AtomG) : anyDup A = dupB A := by
 show (List.range A.length).any (dup10 A) = (List.range A.length).any (duP A)
 congr 1
 funext i
 exact dup_eq A i
theorem nmL_mem {A : List AtomG} {N : List Bool} {s : List UInt8} : ∀ i, s ∈ nmL A N i → ∃ j, j < i ∧ nmOf A j = s
 | 0, h => by cases h
 | i + 1, h => by
  rw [nmL] at h
  split at h
  ·rcases List.mem_append.1 h with h | h
   ·obtain ⟨j, h1, h2⟩ := nmL_mem i h
    exact ⟨j, by omega, h2⟩
   ·simp only [List.mem_singleton] at h
    exact ⟨i, by omega, h.symm⟩
  ·obtain ⟨j, h1, h2⟩ := nmL_mem i h
   exact ⟨j, by omega, h2⟩
theorem kn_eq {A : List AtomG} {N : List Bool} : ∀ i, (∀ j, j < i → dup10 A j = false) → ∀ s, knS A N i s = decide (s ∈ nmL A N i)
 | 0, _, s => by simp [knS, nmL]
 | i + 1, hd, s => by
  have ih := kn_eq (A := A) (N := N) i (fun j hj => hd j (by omega)) s
  have hL : nmL A N (i + 1) = if (!(nmOf A i == []) && !N.getD i false) = true then nmL A N i ++ [nmOf A i] else nmL A N i := rfl
  by_cases h1 : nmOf A i = []
  ·have e : knS A N (i + 1) = knS A N i := if_pos h1
   rw [e, hL, if_neg (by rw [h1]; simp)]
   exact ih
  ·have e : knS A N (i + 1) = fun s => if nmOf A i = s then !N.getD i false else knS A N i s := if_neg h1
   have hb : (nmOf A i == []) = false := by simpa using h1
   rw [e, hL, hb]
   by_cases h2 : nmOf A i = s
   ·simp only [if_pos h2, Bool.not_false, Bool.true_and]
    cases hN : N.getD i false with
    | true =>
     simp only [Bool.not_true, Bool.false_eq_true, if_false]
     refine (decide_eq_false fun hm => ?_).symm
     obtain ⟨j, hj, e2⟩ := nmL_mem i hm
     have h3 := hd i (by omega)
     rw [dup10, List.any_eq_false] at h3
     refine h3 j (by simpa using hj) ?_
     rw [sam10, hb, e2, h2]
     simp
    | false =>
     simp only [Bool.not_false, if_true]
     exact (decide_eq_true (List.mem_append_right _ (by rw [h2]; simp))).symm
   ·simp only [if_neg h2, Bool.not_false, Bool.true_and]
    rw [ih]
    split
    ·have h3 : s ≠ nmOf A i := fun e => h2 e.symm
     simp [h3]
    ·rfl
theorem wr_iff {A : List AtomG} {N : List Bool} : ∀ i, wrS A N i = !(List.range i).all fun j => !(N.getD j false && !(nmOf A j == []))
 | 0 => rfl
 | i + 1 => by
  have ih := wr_iff (A := A) (N := N) i
  rw [List.range_succ, List.all_append]
  by_cases h1 : nmOf A i = []
  ·have e : wrS A N (i + 1) = wrS A N i := if_pos h1
   rw [e, ih]
   simp [h1]
  ·have e : wrS A N (i + 1) = (wrS A N i || N.getD i false) := if_neg h1
   rw [e, ih]
   have hb : (nmOf A i == []) = false := by simpa using h1
   simp only [List.all_cons, List.all_nil, Bool.and_true, hb, Bool.not_false, Bool.not_and, Bool.not_not, Bool.or_false]
theorem wrU_eq {k : List UInt8 → Bool} {w0 : Bool} {U : List (List UInt8)} : ∀ i, i ≤ U.length → wrU k w0 U i = (w0 || !(U.take i).all k)
 | 0, _ => by simp [wrU]
 | i + 1, h => by
  have ih := wrU_eq (k := k) (w0 := w0) (U := U) i (by omega)
  have e : wrU k w0 U (i + 1) = (wrU k w0 U i || !k (U.getD i [])) := rfl
  rw [e, ih, take_getD U [] (by omega), List.all_append]
  cases w0 <;> simp [Bool.not_and]
theorem nm_eq {A : List AtomG} {N : List Bool} {U : List (List UInt8)} (hd : dupB A = false) : nam10 A N (nm10 A N) U = !wrU (knS A N A.length) (wrS A N A.length) U U.length := by
 have hd' : anyDup A = false := by rw [anyDup_eq]; exact hd
 have hk := kn_eq (A := A) (N := N) A.length (fun j hj => by
  have := List.any_eq_false.1 hd' j (by simpa using hj)
  simpa using this)
 have hkf : knS A N A.length = fun s => decide (s ∈ nmL A N A.length) := funext hk
 rw [wrU_eq _ (Nat.le_refl _), List.take_length, wr_iff, hkf, nam10, nm10, hd']
 simp [Bool.not_or]
theorem ref10_eq {x : NodeG} {w : Int} {hs : List HaveG} {es : List AggG} (hl : litB 8 x = true) : ref10E x w hs es = wfE x w hs es := by
 by_cases hc : chkE x w hs es = 0
 ·have hsn : sndB x = true := by
   unfold chkE at hc
   split at hc
   ·rename_i h; exact h.1
   ·cases hc
  have a1 := atm_len hsn hl
  have a2 := dpth_eq hsn hl
  have a3 := std_eq 8 200 true x hsn hl
  have a4 := anyDup_eq (atomsL 8 x)
  have a5 : DpV x = dS 8 x := by rw [DpV, sndE, if_pos hsn]; rfl
  have e1 : ref10E x w hs es = if ful10 (nds 8 x) hs es = true then 6 else if decide (DpV x > 6) = true then 22 else if (!(nds 8 x).any rngP && decide (w ≤ 10000)) = false then 2 else if stdB 8 true x = false then 9
   else if anyDup (atomsL 8 x) = true then 8 else if nam10 (atomsL 8 x) (negL 8 x) (nm10 (atomsL 8 x) (negL 8 x)) (usQ hs es) = false then 12 else 0 := if_neg (by simp [hc])
  have e2 : wfE x w hs es = if fullE x hs es ≠ 0 then fullE x hs es else if depE x ≠ 0 then depE x else if rngE x w ≠ 0 then rngE x w else if ordE x ≠ 0 then ordE x else nmE x hs es := if_neg (by simp [hc])
  rw [e1, e2]
  have b1 : (fullE x hs es ≠ 0) = (ful10 (nds 8 x) hs es = true) := by
   rw [fullE, ful10, a1]
   cases (nds 8 x).any fulP <;> cases decide (((atomsL 8 x).length : Int) > 12) <;> cases decide ((hs.length : Int) > 4) <;> cases decide ((es.length : Int) > 4) <;> simp
  have b1' : ful10 (nds 8 x) hs es = true → fullE x hs es = 6 := fun h => by
   have h := b1 ▸ h
   unfold fullE at h ⊢
   split at h
   ·rename_i hh; rw [if_pos hh]
   ·exact absurd rfl h
  by_cases h1 : ful10 (nds 8 x) hs es = true
  ·have f0 : fullE x hs es ≠ 0 := by rw [b1]; exact h1
   rw [if_pos h1, if_pos f0, b1' h1]
  ·have f0 : ¬(fullE x hs es ≠ 0) := by rw [b1]; exact h1
   rw [if_neg h1, if_neg f0, a5, depE, a2]
   by_cases h2 : decide (dS 8 x > 6) = true
   ·rw [if_pos h2, if_pos h2, if_pos (show (22 : Int) ≠ 0 by decide)]
   ·rw [if_neg h2, if_neg h2, if_neg (show ¬((0 : Int) ≠ 0) by decide), rngE]
    have e3 : (!(nds 8 x).any rngP && decide (w ≤ 10000)) = !(decide (w > 10000) || (nds 8 x).any rngP) := by
     rw [Bool.not_or, Bool.and_comm]
     congr 1
     by_cases h : w ≤ 10000
     ·rw [decide_eq_true h, decide_eq_false (by omega)]; rfl
     ·rw [decide_eq_false h, decide_eq_true (by omega)]; rfl
    rw [e3]
    cases (decide (w > 10000) || (nds 8 x).any rngP) with
    | true => rfl
    | false =>
     simp only [Bool.not_false, Bool.false_eq_true, if_false, Bool.true_eq_false, ne_eq, not_true, ordE]
     rw [a3]
     have e4 : (if nk x = 2 then !true else !(nds 8 x).any stdP) = !(nk x == 2 || (nds 8 x).any stdP) := by
      by_cases h : nk x = 2
      ·rw [if_pos h, h]; rfl
      ·have : (nk x == 2) = false := by simpa using h
       rw [if_neg h, this]; rfl
     rw [e4]
     rcases Bool.eq_false_or_eq_true (nk x == 2 || (nds 8 x).any stdP) with hB | hB
     ·simp only [hB, Bool.not_true, if_true, ne_eq, show ¬((9 : Int) = 0) by decide, not_false_iff]
     ·simp only [hB, Bool.not_false, Bool.false_eq_true, if_false, Bool.true_eq_false, not_true, ne_eq]
      rw [nmE, nmdE, a4]
      cases hd : dupB (atomsL 8 x) with
      | true => rfl
      | false =>
       rw [nm_eq hd]
       simp only [Bool.false_eq_true, if_false]
       cases wrU (knS (atomsL 8 x) (negL 8 x) (atomsL 8 x).length) (wrS (atomsL 8 x) (negL 8 x) (atomsL 8 x).length) (usQ hs es) (usQ hs es).length <;> rfl
 ·have e1 : ref10E x w hs es = chkE x w hs es := if_pos hc
  have e2 : wfE x w hs es = chkE x w hs es := if_pos hc
  rw [e1, e2]
end Go.Proofs.YtamcloifhjafcaaGreatDoor
