/- ORDER 3: comparisons: contracts; the law's condition holds. -/
import Derived.Test.YtagfaaomgaoedaaGreatDoorRO1
import Derived.Test.YtagfaaomgaoedaaGreatDoorRK4
namespace Go.Proofs.YtagfaaomgaoedaaGreatDoor
open Pw Go
set_option maxRecDepth 100000
set_option linter.unusedSimpArgs false
theorem pure_vcE {E : Env} {f : FuncId} {k d : Nat} {args : List AV} {v : AV} (hm : E.P.follows .mixedOrders = true) (hctr : CtrOK E) (hs : (vcFun E k f args .nil 0 (retP d v)).sat) : PureC E.P E.gl f args v := PureC.of_vc hm hctr hs
theorem isInt_sub (a : AV) (h : isInt a = true) : a.sub (.int .i64 (intOf a)) ∧ a.cells.length = (AV.int .i64 (intOf a)).cells.length := by
 unfold isInt at h
 split at h
 ·exact ⟨by simp [AV.sub, intOf], rfl⟩
 ·cases h
theorem range_getD' {α : Type} (l : List α) (d : α) : (List.range l.length).map (fun i => l.getD i d) = l := by
 apply List.ext_getElem
 ·simp
 ·intro i h1 h2
  simp at h1
  simp [List.getD, h1]
theorem lsOf_isA (L : List Int) : lsOf (isA L) = L := range_getD' L 0
theorem partOf_A (p : PartG) : partOf (partA p) = p := by
 show (lsOf (isA p.1), lsOf (isA p.2)) = p
 rw [lsOf_isA, lsOf_isA]
theorem isL_A {L : List Int} (h : L.length ≤ 10) : isL (isA L) = true := by
 simp only [isL, Bool.and_eq_true, decide_eq_true_eq]
 exact ⟨h, List.all_eq_true.2 fun _ _ => rfl⟩
theorem isPart_A {p : PartG} (h1 : p.1.length ≤ 10) (h2 : p.2.length ≤ 10) : isPart (partA p) = true := by
 show (isL (isA p.1) && isL (isA p.2)) = true
 rw [isL_A h1, isL_A h2]
 rfl
theorem isL_sub {x : AV} (h : isL x = true) : x.sub (isA (lsOf x)) ∧ (lsOf x).length ≤ 10 := by
 unfold isL at h
 split at h
 ·rename_i n f ex
  simp only [Bool.and_eq_true, decide_eq_true_eq, List.all_eq_true, List.mem_range] at h
  have hlen : (lsOf (.rof n f ex)).length = n := by simp [lsOf]
  refine ⟨⟨hlen.symm, fun i hi => ?_, fun h => by cases h⟩, by rw [hlen]; exact h.1⟩
  have hg : (lsOf (.rof n f ex)).getD i 0 = intOf (f i) := by simp [lsOf, List.getD, hi]
  show (f i).sub (.int .i64 ((lsOf (.rof n f ex)).getD i 0)) ∧ (f i).cells.length = (AV.int .i64 ((lsOf (.rof n f ex)).getD i 0)).cells.length
  rw [hg]
  exact isInt_sub (f i) (h.2 i hi)
 ·cases h
theorem isPart_sub {p : AV} (h : isPart p = true) : p.sub (partA (partOf p)) ∧ (partOf p).1.length ≤ 10 ∧ (partOf p).2.length ≤ 10 := by
 unfold isPart at h
 split at h
 ·rename_i x y
  rw [Bool.and_eq_true] at h
  have h1 := isL_sub h.1
  have h2 := isL_sub h.2
  exact ⟨⟨h1.1, h2.1, trivial⟩, h1.2, h2.2⟩
 ·cases h
theorem pure2 {g : Nat} {x y x' y' v : AV} (hx : x.sub x') (hy : y.sub y') (h : PureC Tryz.prog gN g [x', y'] v) : PureC Tryz.prog gN g [x, y] v :=
 PureC.args (args' := [x', y']) rfl (fun i hi => by
  match i, hi with
  | 0, _ => exact hx
  | 1, _ => exact hy
  | i + 2, hi => exact absurd hi (by simp)) h
theorem drop_get {L : List Int} {i : Nat} (hi : i < L.length) : L.drop i = L.getD i 0 :: L.drop (i + 1) := by
 rw [List.drop_eq_getElem_cons hi, List.getD_eq_getElem?_getD, List.getElem?_eq_getElem hi]
 rfl
theorem cmpL_step {l m : List Int} {i : Nat} (hi : i < l.length) (hj : i < m.length) : cmpL (l.drop i) (m.drop i) = if cmpI (l.getD i 0) (m.getD i 0) ≠ 0 then cmpI (l.getD i 0) (m.getD i 0) else cmpL (l.drop (i + 1)) (m.drop (i + 1)) := by
 rw [drop_get hi, drop_get hj]
 rfl
theorem cmpL_end {l m : List Int} {i : Nat} (hi : l.length ≤ i) : cmpL (l.drop i) (m.drop i) = if i < m.length then -1 else 0 := by
 rw [List.drop_eq_nil_of_le hi]
 split
 ·rename_i h
  rw [drop_get h]
  rfl
 ·rw [List.drop_eq_nil_of_le (by omega)]
  rfl
theorem cmpL_gt {l m : List Int} {i : Nat} (hi : i < l.length) (hj : m.length ≤ i) : cmpL (l.drop i) (m.drop i) = 1 := by
 rw [List.drop_eq_nil_of_le hj, drop_get hi]
 rfl
theorem nan_pure (a : Int) : PureC Tryz.prog gN 24 [.int .i64 a] (.bool false) :=
 pure_vcG (d := 3) mix (tblG_nil _ _) ((nan_vc a).mpr (by simp))
theorem cmp_ok : PureG Tryz.prog gN 12 cCmp := by
 intro args nd v he hnd
 unfold cCmp at he
 split at he <;> cases he
 rename_i a b
 refine pure_vcG (d := 3) mix (tblG_cons ?_ (tblG_nil _ _)) ((cmp_vc a b _).mpr ?_)
 ·intro args nd v he hnd
  dsimp only at he
  split at he <;> cases he
  exact nan_pure _
 ·refine VB_intro (fun h => ?_) (fun h => VB_intro (fun h2 => ?_) (fun h2 => ?_))
  ·have h := of_decide_eq_true h
   rw [cmpI, if_pos h]
  ·have h := of_decide_eq_false h
   have h2 := of_decide_eq_true h2
   rw [cmpI, if_neg h, if_pos h2]
  ·have h := of_decide_eq_false h
   have h2 := of_decide_eq_false h2
   rw [cmpI, if_neg h, if_neg h2]
theorem cmpL_ok : PureG Tryz.prog gN 14 cCmpL := by
 intro args nd v he hnd
 unfold cCmpL at he
 split at he <;> cases he
 rename_i x y
 rw [Bool.and_eq_true] at hnd
 have h1 := isL_sub hnd.1
 have h2 := isL_sub hnd.2
 refine pure2 h1.1 h2.1 ?_
 obtain ⟨-, h1⟩ := h1
 obtain ⟨-, h2⟩ := h2
 generalize lsOf x = l at h1 ⊢
 generalize lsOf y = m at h2 ⊢
 refine pure_vcG (d := 3) mix (tblG_cons cmp_ok (tblG_nil _ _)) ((cmpL_vc l m _).mpr ?_)
 simp only [EqI, true_and, and_true, imp_self, implies_true, Int.toNat_natCast, Nat.zero_add, or_self]
 refine ⟨⟨0, ⟨Nat.zero_le _, Nat.zero_le _, rfl⟩, rfl⟩, fun i ⟨hi1, hi2, hi3⟩ => VB_intro (fun h => NB_intro (decide_eq_true ?_) (VB_intro (fun h3 => ?_) (fun h3 => NB_intro (decide_eq_true ?_) (VB_intro (fun h4 => ?_) (fun h4 => ?_))))) (fun h => ?_)⟩
 ·have := of_decide_eq_true h; omega
 ·have := of_decide_eq_true h
  have := of_decide_eq_true h3
  rw [← hi3, cmpL_gt (by omega) (by omega)]
 ·have := of_decide_eq_false h3; omega
 ·have := of_decide_eq_true h
  have := of_decide_eq_false h3
  have h4 : cmpI (l.getD i 0) (m.getD i 0) ≠ 0 := bne_iff_ne.1 h4
  rw [← hi3, cmpL_step (by omega) (by omega), if_pos h4]
 ·have := of_decide_eq_true h
  have := of_decide_eq_false h3
  have h4 : cmpI (l.getD i 0) (m.getD i 0) = 0 := bne_eq_false_iff_eq.1 h4
  refine ⟨i + 1, ⟨by omega, by omega, ?_⟩, by show l.length - (i + 1) < l.length - i; omega, by rw [wrap_i64_id (by omega) (by omega)]; rfl⟩
  rw [← hi3, cmpL_step (l := l) (m := m) (i := i) (by omega) (by omega), if_neg (by simp only [h4, ne_eq, not_true, not_false_iff])]
 ·have := of_decide_eq_false h
  have hie : i = l.length := by omega
  rw [← hi3, cmpL_end (by omega)]
  refine VB_intro (fun h5 => ?_) (fun h5 => ?_)
  ·have := of_decide_eq_true h5
   rw [if_pos (by omega)]
  ·have := of_decide_eq_false h5
   rw [if_neg (by omega)]
theorem same_ok : PureG Tryz.prog gN 6 cSameI := by
 intro args nd v he hnd
 unfold cSameI at he
 split at he <;> cases he
 rename_i x y
 rw [Bool.and_eq_true] at hnd
 have h1 := isL_sub hnd.1
 have h2 := isL_sub hnd.2
 refine pure2 h1.1 h2.1 ?_
 obtain ⟨-, h1⟩ := h1
 obtain ⟨-, h2⟩ := h2
 generalize lsOf x = l at h1 ⊢
 generalize lsOf y = m at h2 ⊢
 refine pure_vcE (E := ESI l m) (d := 3) mix ⟨(mkG_ctr (P := Tryz.prog) (gl := gN) (inv := fun _ _ => none) (n := 0) (tblG_nil Tryz.prog gN)).1, (mkG_ctr (P := Tryz.prog) (gl := gN) (inv := fun _ _ => none) (n := 0) (tblG_nil Tryz.prog gN)).2⟩ ((same_vc l m _).mpr ?_)
 simp only [EqI, true_and, and_true, imp_self, implies_true, Int.toNat_natCast, Nat.zero_add, or_self]
 refine VB_intro (fun h => ?_) (fun h => ?_)
 ·have h : (l.length : Int) ≠ m.length := bne_iff_ne.1 h
  exact (decide_eq_false fun e => h (by rw [e])).symm
 ·have h : (l.length : Int) = m.length := bne_eq_false_iff_eq.1 h
  have hl : l.length = m.length := by omega
  refine ⟨⟨0, ⟨Nat.zero_le _, hl, fun j hj => by omega⟩, rfl⟩, fun i ⟨hi1, _, hi2⟩ => VB_intro (fun h1 => NB_intro (decide_eq_true ?_) (NB_intro (decide_eq_true ?_) (VB_intro (fun h2 => ?_) (fun h2 => ?_)))) (fun h1 => ?_)⟩
  ·have := of_decide_eq_true h1; omega
  ·have := of_decide_eq_true h1; omega
  ·have h2 : l.getD i 0 ≠ m.getD i 0 := bne_iff_ne.1 h2
   exact (decide_eq_false fun e => h2 (by rw [e])).symm
  ·have h2 : l.getD i 0 = m.getD i 0 := bne_eq_false_iff_eq.1 h2
   have hlt : i < l.length := by have := of_decide_eq_true h1; omega
   refine ⟨i + 1, ⟨hlt, hl, fun j hj => ?_⟩, by show l.length - (i + 1) < l.length - i; omega, by rw [wrap_i64_id (by omega) (by omega)]; rfl⟩
   rcases Nat.lt_or_ge j i with h3 | h3
   ·exact hi2 j h3
   ·obtain rfl : j = i := by omega
    exact h2
  ·obtain rfl : i = l.length := by have := of_decide_eq_false h1; omega
   refine (decide_eq_true ?_).symm
   apply List.ext_getElem hl
   intro j h3 h4
   have := hi2 j h3
   rwa [List.getD_eq_getElem?_getD, List.getElem?_eq_getElem h3, List.getD_eq_getElem?_getD, List.getElem?_eq_getElem h4] at this
theorem or_ok : PureG Tryz.prog gN 13 cOr := by
 intro args nd v he hnd
 unfold cOr at he
 split at he <;> cases he
 rename_i a b ex
 refine PureC.args (args' := [.rol [.int .i64 a, .int .i64 b] false]) rfl (fun i hi => by
  match i, hi with
  | 0, _ => exact ⟨⟨⟨by simp [AV.sub], rfl⟩, ⟨by simp [AV.sub], rfl⟩, trivial⟩, fun h => by cases h⟩
  | i + 1, hi => exact absurd hi (by simp)) ?_
 refine pure_vcG (d := 3) mix (tblG_nil _ _) ((or_vc a b _).mpr ?_)
 refine VB_intro (fun h => ?_) (fun h => VB_intro (fun h2 => ?_) (fun h2 => ?_))
 ·have h : a ≠ 0 := bne_iff_ne.1 h
  rw [if_pos h]
 ·have h : a = 0 := bne_eq_false_iff_eq.1 h
  rw [if_neg (by simp [h])]
 ·have h : a = 0 := bne_eq_false_iff_eq.1 h
  have h2 : b = 0 := bne_eq_false_iff_eq.1 h2
  rw [if_neg (by simp [h]), h2]
theorem cmpP_pure (p q : PartG) (h1 : p.1.length ≤ 10) (h2 : p.2.length ≤ 10) (h3 : q.1.length ≤ 10) (h4 : q.2.length ≤ 10) : PureC Tryz.prog gN 5 [partA p, partA q] (.int .i64 (cmpP p q)) := by
 refine pure_vcE (E := ERC) (d := 3) mix ⟨(mkG_ctr (P := Tryz.prog) (gl := gN) (inv := fun _ _ => none) (n := 0) (tblG_cons cmp_ok (tblG_cons cmpL_ok (tblG_cons or_ok (tblG_nil _ _))))).1, (mkG_ctr (P := Tryz.prog) (gl := gN) (inv := fun _ _ => none) (n := 0) (tblG_nil Tryz.prog gN)).2⟩ ((cmpP_vc p q _).mpr ?_)
 have tl : fstP p.2 q.2 = 0 → (if cmpL (lsOf (isA p.2)) (lsOf (isA q.2)) ≠ 0 then cmpL (lsOf (isA p.2)) (lsOf (isA q.2)) else cmpL (lsOf (isA p.1)) (lsOf (isA q.1))) = cmpP p q := fun h => by
  have e : cmpP p q = if cmpL p.2 q.2 ≠ 0 then cmpL p.2 q.2 else cmpL p.1 q.1 := if_neg (by simp [h])
  rw [lsOf_isA, lsOf_isA, lsOf_isA, lsOf_isA, e]
 have nb : (isL (isA p.2) && isL (isA q.2)) = true := by rw [isL_A h2, isL_A h4]; rfl
 have nb' : (isL (isA p.1) && isL (isA q.1)) = true := by rw [isL_A h1, isL_A h3]; rfl
 refine VB_intro (fun h => ?_) (fun h => ?_)
 ·simp only [Bool.or_eq_true, beq_iff_eq] at h
  have hf : fstP p.2 q.2 = cmpI (minI p.2.length 1) (minI q.2.length 1) := by
   unfold fstP fstI
   rw [if_pos (by omega)]
  refine VB_intro (fun h5 => ?_) (fun h5 => NB_intro nb (NB_intro nb' (tl (by rw [hf]; exact bne_eq_false_iff_eq.1 h5))))
  have h5 := bne_iff_ne.1 h5
  rw [cmpP, hf, if_pos h5]
 ·simp only [Bool.or_eq_false_iff, beq_eq_false_iff_ne] at h
  have w1 : IntKind.i64.wrap ((p.2.length : Int) - 1) = ((p.2.length - 1 : Nat) : Int) := by rw [wrap_i64_id (by omega) (by omega)]; omega
  have w2 : IntKind.i64.wrap ((q.2.length : Int) - 1) = ((q.2.length - 1 : Nat) : Int) := by rw [wrap_i64_id (by omega) (by omega)]; omega
  have hf : fstP p.2 q.2 = cmpI (p.2.getD (p.2.length - 1) 0) (q.2.getD (q.2.length - 1) 0) := by
   unfold fstP fstI lastI
   rw [if_neg (by omega), if_neg (by omega), if_neg (by omega)]
  rw [w1, w2]
  simp only [Int.toNat_natCast]
  refine NB_intro (decide_eq_true (by omega)) (NB_intro (decide_eq_true (by omega)) (VB_intro (fun h5 => ?_) (fun h5 => NB_intro nb (NB_intro nb' (tl (by rw [hf]; exact bne_eq_false_iff_eq.1 h5))))))
  have h5 := bne_iff_ne.1 h5
  rw [cmpP, hf, if_pos h5]
theorem cmpP_ok : PureG Tryz.prog gN 5 cCmpP := by
 intro args nd v he hnd
 unfold cCmpP at he
 split at he <;> cases he
 rw [Bool.and_eq_true] at hnd
 have h1 := isPart_sub hnd.1
 have h2 := isPart_sub hnd.2
 exact pure2 h1.1 h2.1 (cmpP_pure _ _ h1.2.1 h1.2.2 h2.2.1 h2.2.2)
theorem awake_ok : PureG Tryz.prog gN 4 cAwake := by
 intro args nd v he hnd
 unfold cAwake at he
 split at he <;> cases he
 exact p24
theorem ERO_ok : CtrOK ERO :=
 ⟨(mkG_ctr (P := Tryz.prog) (gl := gN) (inv := fun _ _ => none) (n := 0) (tblG_cons cmpP_ok (tblG_cons same_ok (tblG_cons awake_ok (tblG_nil _ _))))).1, (mkG_ctr (P := Tryz.prog) (gl := gN) (inv := fun _ _ => none) (n := 0) (tblG_nil Tryz.prog gN)).2⟩
theorem order_sat (a b c : PartG) : (vcFun ERO 20 3 [partA a, partA b, partA c] .nil 0 (isBool true)).sat := by
 refine (order_vc a b c).mpr (VB_intro (fun _ => rfl) (fun h => ?_))
 simp only [Bool.or_eq_false_iff, decide_eq_false_iff_not] at h
 have nA : isPart (partA a) = true := isPart_A (by omega) (by omega)
 have nB : isPart (partA b) = true := isPart_A (by omega) (by omega)
 have nC : isPart (partA c) = true := isPart_A (by omega) (by omega)
 have lA : isL (isA a.1) = true := isL_A (by omega)
 have lB : isL (isA b.1) = true := isL_A (by omega)
 have lA2 : isL (isA a.2) = true := isL_A (by omega)
 have lB2 : isL (isA b.2) = true := isL_A (by omega)
 refine NB_intro (by rw [nA, nB]; rfl) (NB_intro (by rw [nB, nC]; rfl) (NB_intro (by rw [nA, nC]; rfl) (NB_intro (by rw [lA, lB]; rfl) (NB_intro (impB_t.2 fun _ => by rw [lA2, lB2]; rfl) (NB_intro (impB_t.2 fun _ => by rw [nB, nA]; rfl) ?_)))))
 have hv := cmpP_cm.val a b
 have ha := cmpP_cm.anti a b
 have ht := cmpP_cm.tr a b c
 have hz := @cmpP_zero a b
 have hw : IntKind.i64.wrap (0 - cmpP a b) = -cmpP a b := by rw [wrap_i64_id (by omega) (by omega)]; omega
 have e1 : (decide (lsOf (isA a.1) = lsOf (isA b.1)) && decide (lsOf (isA a.2) = lsOf (isA b.2))) = (cmpP a b == 0) := by
  rw [lsOf_isA, lsOf_isA, lsOf_isA, lsOf_isA, Bool.eq_iff_iff, Bool.and_eq_true, decide_eq_true_eq, decide_eq_true_eq, beq_iff_eq, hz]
  exact ⟨fun h => Prod.ext h.1 h.2, fun h => by rw [h]; exact ⟨rfl, rfl⟩⟩
 show ((((cmpP (partOf (partA a)) (partOf (partA b)) == 0) == (decide (lsOf (isA a.1) = lsOf (isA b.1)) && decide (lsOf (isA a.2) = lsOf (isA b.2)))) && cmpP (partOf (partA b)) (partOf (partA a)) == IntKind.i64.wrap (0 - cmpP (partOf (partA a)) (partOf (partA b))) &&
  (decide (cmpP (partOf (partA a)) (partOf (partA b)) > 0) || decide (cmpP (partOf (partA b)) (partOf (partA c)) > 0) || decide (cmpP (partOf (partA a)) (partOf (partA c)) ≤ 0)) &&
  (decide (cmpP (partOf (partA a)) (partOf (partA b)) ≥ 0) || decide (cmpP (partOf (partA b)) (partOf (partA c)) > 0) || decide (cmpP (partOf (partA a)) (partOf (partA c)) < 0)) && true) == true) = true
 rw [e1]
 simp only [partOf_A]
 rw [hw, ha]
 simp only [beq_self_eq_true, Bool.true_and, Bool.and_true, Bool.and_eq_true, Bool.or_eq_true, decide_eq_true_eq, beq_iff_eq]
 constructor <;> omega
end Go.Proofs.YtagfaaomgaoedaaGreatDoor
