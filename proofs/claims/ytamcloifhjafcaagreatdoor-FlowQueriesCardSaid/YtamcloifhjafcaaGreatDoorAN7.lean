/- NODES 7: soundness of nodes, contracts. -/
import Derived.Test.YtamcloifhjafcaaGreatDoorAN6
namespace Go.Proofs.YtamcloifhjafcaaGreatDoor
open Pw Go
set_option maxRecDepth 100000
set_option linter.unusedSimpArgs false
theorem nodeA_refl (f : Nat) (x : NodeG) : (nodeA f x).sub (nodeA f x) = True := eq_true (nodeA_sub f 0 x)
theorem atom_need {g : Nat} {x : NodeG} (h : litB g x = true) : ((decide ((ac (nat x)).length ≤ 1000000) && condsB (ac (nat x)).length fun i => condA ((ac (nat x)).getD i condD)) && decide ((an (nat x)).length ≤ 9223372036854775807)) = true := by
 have h1 := litB_conds h
 have h2 := litB_name h
 simp only [Bool.and_eq_true, decide_eq_true_eq]
 exact ⟨⟨Nat.le_trans h1 (by decide), List.all_eq_true.2 fun _ _ => rfl⟩, Nat.le_trans h2 (by decide)⟩
theorem kids_all {l : List NodeG} {d : Nat} : l.all (soundB d) = true ↔ ∀ i, i < l.length → soundB d (l.getD i treeD) = true := by
 rw [List.all_eq_true]
 constructor
 ·intro h i hi
  exact h _ (by simp [List.getD, hi])
 ·intro h y hy
  obtain ⟨i, hi, rfl⟩ := List.mem_iff_getElem.1 hy
  have := h i hi
  simpa [List.getD, hi] using this
theorem kids_not {l : List NodeG} {d i : Nat} (hi : i < l.length) (h : soundB d (l.getD i treeD) = false) : l.all (soundB d) = false := by
 rw [Bool.eq_false_iff]
 intro hc
 rw [kids_all.1 hc i hi] at h
 cases h
theorem soundI_ok_of {g : Nat} (h : ∀ (x : NodeG) (d : Int), litB g x = true → 0 ≤ d → d ≤ 1000 → PureC Tryz.prog gN 86 [nodeA (g + 1) x, .int .i64 d] (.bool (soundB d.toNat x))) : PureG Tryz.prog gN 86 (cSoundI g) := by
 intro args nd v he hnd
 unfold cSoundI at he
 split at he <;> cases he
 simp only [Bool.and_eq_true, decide_eq_true_eq] at hnd
 refine pureN_node hnd.1.1 fun x hx e => ?_
 rw [e]
 exact h x _ hx hnd.1.2 hnd.2
theorem soundR_ok_of {g : Nat} (h : ∀ (x : NodeG) (d : Int), litB g x = true → 1 ≤ d → d ≤ 201 → PureC Tryz.prog gN 69 [nodeA (g + 1) x, .int .i64 d] (.bool (soundB (201 - d).toNat x))) : PureG Tryz.prog gN 69 (cSoundR g) := by
 intro args nd v he hnd
 unfold cSoundR at he
 split at he <;> cases he
 simp only [Bool.and_eq_true, decide_eq_true_eq] at hnd
 refine pureN_node hnd.1.1 fun x hx e => ?_
 rw [e]
 exact h x _ hx hnd.1.2 hnd.2
theorem soundB_at {n : Nat} {x : NodeG} : soundB (n + 1) x =
  if nk x = 1 then atomB (nat x) && decide (0 ≤ nmn x) && decide (nmn x ≤ 99) && decide (0 ≤ nmx x) && decide (nmx x ≤ 99) && decide (x.kids.length = 0)
  else if nk x = 2 then atomB (nat x) && decide (nmn x = 0) && decide (nmx x = 0) && decide (x.kids.length = 0)
  else if nk x = 3 ∨ nk x = 4 then decide (2 ≤ x.kids.length) && decide (nmn x = 0) && decide (nmx x = 0) && zeroB (nat x) && x.kids.all (soundB n)
  else false := rfl
theorem partI {Q1 Z R A : Bool} {L : Prop} (hL : Q1 = true → Z = true → L) (hR : R = (Q1 && Z && A)) : VB Q1 (VB (Q1 && Z) L ((Q1 && Z) = R)) (false = R) := by
 cases Q1 <;> cases Z <;> simp_all [VB]
theorem loopI {g n : Nat} {x : NodeG} {d : Int} {R Q : Bool} (hl : litB (g + 1) x = true) (hd : 1 ≤ d) (hd2 : d ≤ 1000) (hq : Q = true) (hR : R = x.kids.all (soundB n)) :
  (∃ i : Nat, (i ≤ x.kids.length ∧ ∀ j, j < i → soundB n (x.kids.getD j treeD) = true) ∧ (0 : Int) = i) ∧ ∀ i : Nat, (i ≤ x.kids.length ∧ ∀ j, j < i → soundB n (x.kids.getD j treeD) = true) →
   VB (decide ((i : Int) < x.kids.length)) (NB (decide (0 ≤ (i : Int) ∧ (i : Int) < x.kids.length)) (NB (isNode g (nodeA (g + 1) (x.kids.getD i treeD)) && decide (0 ≤ d - 1) && decide (d - 1 ≤ 1000))
    (VB (!soundB n (nodeOf g (nodeA (g + 1) (x.kids.getD i treeD)))) ((Q && !decide ((i : Int) ≥ 0)) = R)
     (∃ i' : Nat, (i' ≤ x.kids.length ∧ ∀ j, j < i' → soundB n (x.kids.getD j treeD) = true) ∧ (invSI (g + 1) x d).μ i' < (invSI (g + 1) x d).μ i ∧ IntKind.i64.wrap ((i : Int) + 1) = i')))) (Q = R) := by
 have hk40 := litB_kids hl
 refine ⟨⟨0, ⟨by omega, fun j hj => by omega⟩, rfl⟩, fun i ⟨hi1, hi2⟩ => VB_intro (fun h => ?_) (fun h => ?_)⟩
 ·have hlt : i < x.kids.length := by have := of_decide_eq_true h; omega
  rw [isNode_of (litB_kid hl hlt) (by omega), nodeOf_of (litB_kid hl hlt) (by omega)]
  refine NB_intro (decide_eq_true (by omega)) (NB_intro (by simp; omega) (VB_intro (fun h => ?_) (fun h => ?_)))
  ·have h : soundB n (x.kids.getD i treeD) = false := (Bool.not_eq_true' _).mp h
   rw [hR, kids_not hlt h, decide_eq_true (show (i : Int) ≥ 0 by omega), Bool.not_true, Bool.and_false]
  ·have h : soundB n (x.kids.getD i treeD) = true := (Bool.not_eq_false' _).mp h
   refine ⟨i + 1, ⟨by omega, fun j hj => ?_⟩, by simp only [invSI]; omega, by rw [wrap_i64_id (by omega) (by omega)]; omega⟩
   rcases Nat.lt_or_ge j i with h' | h'
   ·exact hi2 j h'
   ·obtain rfl : j = i := by omega
    exact h
 ·have hie : i = x.kids.length := by have := of_decide_eq_false h; omega
  subst hie
  rw [hq, hR, kids_all.2 hi2]
theorem tblN1_ok : PureG Tryz.prog gN 103 cAtom := atom_of atomI_pure
theorem soundI_pure : ∀ (g : Nat) (x : NodeG) (d : Int), litB g x = true → 0 ≤ d → d ≤ 1000 → PureC Tryz.prog gN 86 [nodeA (g + 1) x, .int .i64 d] (.bool (soundB d.toNat x))
 | 0, _, _, h, _, _ => by cases h
 | g + 1, x, d, hl, h0, h1 => by
  refine pure_vcG mix (tblG_cons tblN1_ok (tblG_cons (soundI_ok_of (soundI_pure g)) (tblG_nil _ _))) ((soundI_vc g x d _).mpr ?_)
  refine VB_intro (fun h => ?_) (fun h => ?_)
  ·have : d = 0 := beq_iff_eq.1 h
   subst this
   rfl
  have hd : d ≠ 0 := beq_eq_false_iff_ne.1 h
  obtain ⟨n, hn⟩ : ∃ n : Nat, d = (n : Int) + 1 := ⟨(d - 1).toNat, by omega⟩
  have e1 : d.toNat = n + 1 := by omega
  have e2 : (d - 1).toNat = n := by omega
  have e3 : IntKind.i64.wrap (d - 1) = d - 1 := wrap_i64_id (by omega) (by omega)
  rw [e1, soundB_at]
  have hneed := atom_need hl
  have hk40 := litB_kids hl
  have kid : ∀ i, i < x.kids.length → isNode g (nodeA (g + 1) (x.kids.getD i treeD)) = true ∧ nodeOf g (nodeA (g + 1) (x.kids.getD i treeD)) = x.kids.getD i treeD := fun i hi =>
   ⟨isNode_of (litB_kid hl hi) (by omega), nodeOf_of (litB_kid hl hi) (by omega)⟩
  refine VB_intro (fun h => ?_) (fun h => ?_)
  ·have hk : nk x = 1 := beq_iff_eq.1 h
   rw [if_pos hk]
   refine NB_intro hneed ?_
   show (atomB (nat x) && _ && _ && _ && _ && _) = (atomB (nat x) && _ && _ && _ && _ && _)
   simp only [ge_iff_le, Bool.beq_eq_decide_eq]
   rw [Bool.eq_iff_iff]
   simp
  have hk1 : nk x ≠ 1 := beq_eq_false_iff_ne.1 h
  rw [if_neg hk1]
  refine VB_intro (fun h => ?_) (fun h => ?_)
  ·have hk : nk x = 2 := beq_iff_eq.1 h
   rw [if_pos hk]
   refine NB_intro hneed ?_
   show (atomB (nat x) && _ && _ && _) = (atomB (nat x) && _ && _ && _)
   simp only [ge_iff_le, Bool.beq_eq_decide_eq]
   rw [Bool.eq_iff_iff]
   simp
  have hk2 : nk x ≠ 2 := beq_eq_false_iff_ne.1 h
  rw [if_neg hk2]
  simp only [nodeA_refl, EqI, true_and, and_true, imp_self, implies_true, Int.toNat_natCast, e2, e3, isW_t, VB_t, VB_f, Bool.and_true, Bool.true_and, Bool.and_false, Bool.false_and]
  have hR : ∀ R : Bool, (R = if nk x = 3 ∨ nk x = 4 then decide (2 ≤ x.kids.length) && decide (nmn x = 0) && decide (nmx x = 0) && zeroB (nat x) && x.kids.all (soundB n) else false) → nk x = 3 ∨ nk x = 4 →
    R = ((decide ((x.kids.length : Int) ≥ 2) && nmn x == 0 && nmx x == 0) && ((nat x).1 == 0 && !(nat x).2.1 && (nat x).2.2.1 == 0 && (((nat x).2.2.2.1.length : Nat) : Int) == 0 && (nat x).2.2.2.2.1 == []) && x.kids.all (soundB n)) := by
   intro R e hk
   rw [e, if_pos hk]
   simp only [zeroB, Bool.beq_eq_decide_eq]
   rw [Bool.eq_iff_iff]
   simp
   intros
   omega
  have hh := fun hk => hR _ rfl hk
  have hno : nk x ≠ 3 → nk x ≠ 4 → (if nk x = 3 ∨ nk x = 4 then decide (2 ≤ x.kids.length) && decide (nmn x = 0) && decide (nmx x = 0) && zeroB (nat x) && x.kids.all (soundB n) else false) = false := fun h3 h4 => if_neg (by omega)
  generalize (if nk x = 3 ∨ nk x = 4 then decide (2 ≤ x.kids.length) && decide (nmn x = 0) && decide (nmx x = 0) && zeroB (nat x) && x.kids.all (soundB n) else false) = R at hh hno ⊢
  refine VB_intro (fun h => ?_) (fun h => ?_)
  ·have hk : nk x = 3 := beq_iff_eq.1 h
   refine VB_intro (fun _ => ?_) (fun h' => by rw [h] at h'; cases h')
   exact partI (fun h1' h2' => loopI hl (by omega) (by omega) (by rw [h1', h2']; rfl) (by rw [hh (.inl hk), h1', h2']; rfl)) (hh (.inl hk))
  have hk3 : nk x ≠ 3 := beq_eq_false_iff_ne.1 h
  refine VB_intro (fun h => ?_) (fun h => ?_)
  ·have hk : nk x = 4 := beq_iff_eq.1 h
   exact partI (fun h1' h2' => loopI hl (by omega) (by omega) (by rw [h1', h2']; rfl) (by rw [hh (.inr hk), h1', h2']; rfl)) (hh (.inr hk))
  ·exact (hno hk3 (beq_eq_false_iff_ne.1 h)).symm
theorem cSoundI_ok (g : Nat) : PureG Tryz.prog gN 86 (cSoundI g) := soundI_ok_of (soundI_pure g)
end Go.Proofs.YtamcloifhjafcaaGreatDoor
namespace Go.Proofs.YtamcloifhjafcaaGreatDoor
open Pw Go
set_option maxRecDepth 100000
set_option linter.unusedSimpArgs false
theorem tblN2_ok : PureG Tryz.prog gN 88 cAtom := atom_of atomR_pure
theorem partR {NQ Z R A : Bool} {L : Prop} (hL : NQ = false → Z = true → L) (hR : R = (!NQ && Z && A)) : VB (!NQ) (VB (NQ || !Z) (false = R) L) (VB (NQ || true) (false = R) L) := by
 cases NQ <;> cases Z <;> simp_all [VB]
theorem loopR {g n : Nat} {x : NodeG} {d : Int} {R : Bool} (hl : litB (g + 1) x = true) (hd : 1 ≤ d) (hd2 : d ≤ 200) (hR : R = x.kids.all (soundB n)) :
  (∃ i : Nat, (i ≤ x.kids.length ∧ ∀ j, j < i → soundB n (x.kids.getD j treeD) = true) ∧ (0 : Int) = i) ∧ ∀ i : Nat, (i ≤ x.kids.length ∧ ∀ j, j < i → soundB n (x.kids.getD j treeD) = true) →
   VB (decide ((i : Int) < x.kids.length)) (NB (decide (0 ≤ (i : Int) ∧ (i : Int) < x.kids.length)) (NB (isNode g (nodeA (g + 1) (x.kids.getD i treeD)) && decide (1 ≤ d + 1) && decide (d + 1 ≤ 201))
    (VB (!soundB n (nodeOf g (nodeA (g + 1) (x.kids.getD i treeD)))) (false = R)
     (∃ i' : Nat, (i' ≤ x.kids.length ∧ ∀ j, j < i' → soundB n (x.kids.getD j treeD) = true) ∧ (invSR (g + 2) x d).μ i' < (invSR (g + 2) x d).μ i ∧ IntKind.i64.wrap ((i : Int) + 1) = i')))) (true = R) := by
 have hk40 := litB_kids hl
 refine ⟨⟨0, ⟨by omega, fun j hj => by omega⟩, rfl⟩, fun i ⟨hi1, hi2⟩ => VB_intro (fun h => ?_) (fun h => ?_)⟩
 ·have hlt : i < x.kids.length := by have := of_decide_eq_true h; omega
  rw [isNode_of (litB_kid hl hlt) (by omega), nodeOf_of (litB_kid hl hlt) (by omega)]
  refine NB_intro (decide_eq_true (by omega)) (NB_intro (by simp; omega) (VB_intro (fun h => ?_) (fun h => ?_)))
  ·have h : soundB n (x.kids.getD i treeD) = false := (Bool.not_eq_true' _).mp h
   rw [hR, kids_not hlt h]
  ·have h : soundB n (x.kids.getD i treeD) = true := (Bool.not_eq_false' _).mp h
   refine ⟨i + 1, ⟨by omega, fun j hj => ?_⟩, by simp only [invSR]; omega, by rw [wrap_i64_id (by omega) (by omega)]; omega⟩
   rcases Nat.lt_or_ge j i with h' | h'
   ·exact hi2 j h'
   ·obtain rfl : j = i := by omega
    exact h
 ·have hie : i = x.kids.length := by have := of_decide_eq_false h; omega
  subst hie
  rw [hR, kids_all.2 hi2]
theorem soundR_pure : ∀ (g : Nat) (x : NodeG) (d : Int), litB g x = true → 1 ≤ d → d ≤ 201 → PureC Tryz.prog gN 69 [nodeA (g + 1) x, .int .i64 d] (.bool (soundB (201 - d).toNat x))
  | 0, _, _, h, _, _ => by cases h
  | g + 1, x, d, hl, h0, h1 => by
    refine pure_vcG mix (tblG_cons tblN2_ok (tblG_cons (soundR_ok_of (soundR_pure g)) (tblG_nil _ _))) ((soundR_vc g x d _).mpr ?_)
    refine VB_intro (fun h => ?_) (fun h => ?_)
    · have : d = 201 := by have : d > 200 := of_decide_eq_true h
                           omega
      subst this
      rfl
    have hd : ¬ d > 200 := of_decide_eq_false h
    obtain ⟨n, hn⟩ : ∃ n : Nat, 201 - d = (n : Int) + 1 := ⟨(200 - d).toNat, by omega⟩
    have e1 : (201 - d).toNat = n + 1 := by omega
    have e2 : (201 - (d + 1)).toNat = n := by omega
    have e3 : IntKind.i64.wrap (d + 1) = d + 1 := wrap_i64_id (by omega) (by omega)
    rw [e1, soundB_at]
    have hneed := atom_need hl
    refine VB_intro (fun h => ?_) (fun h => ?_)
    · have hk : nk x = 1 := beq_iff_eq.1 h
      rw [if_pos hk]
      refine NB_intro hneed ?_
      show (atomB (nat x) && _ && _ && _ && _ && _) = (atomB (nat x) && _ && _ && _ && _ && _)
      simp only [ge_iff_le, Bool.beq_eq_decide_eq]
      rw [Bool.eq_iff_iff]
      simp
    have hk1 : nk x ≠ 1 := beq_eq_false_iff_ne.1 h
    rw [if_neg hk1]
    refine VB_intro (fun h => ?_) (fun h => ?_)
    · have hk : nk x = 2 := beq_iff_eq.1 h
      rw [if_pos hk]
      refine NB_intro hneed ?_
      show (atomB (nat x) && _ && _ && _) = (atomB (nat x) && _ && _ && _)
      simp only [ge_iff_le, Bool.beq_eq_decide_eq]
      rw [Bool.eq_iff_iff]
      simp
    have hk2 : nk x ≠ 2 := beq_eq_false_iff_ne.1 h
    rw [if_neg hk2]
    simp only [nodeA_refl, EqI, true_and, and_true, imp_self, implies_true, Int.toNat_natCast, e2, e3, isW_t, isW_f, VB_t, VB_f, Bool.and_true, Bool.true_and, Bool.and_false, Bool.false_and]
    have hR : ∀ R : Bool, (R = if nk x = 3 ∨ nk x = 4 then decide (2 ≤ x.kids.length) && decide (nmn x = 0) && decide (nmx x = 0) && zeroB (nat x) && x.kids.all (soundB n) else false) → nk x = 3 ∨ nk x = 4 →
        R = (!(decide ((x.kids.length : Int) < 2) || nmn x != 0 || nmx x != 0) && ((nat x).1 == 0 && !(nat x).2.1 && (nat x).2.2.1 == 0 && (((nat x).2.2.2.1.length : Nat) : Int) == 0 && (nat x).2.2.2.2.1 == []) && x.kids.all (soundB n)) := by
      intro R e hk
      rw [e, if_pos hk]
      simp only [zeroB, Bool.beq_eq_decide_eq]
      rw [Bool.eq_iff_iff]
      simp
      intros
      omega
    have hh := fun hk => hR _ rfl hk
    have hno : nk x ≠ 3 → nk x ≠ 4 → (if nk x = 3 ∨ nk x = 4 then decide (2 ≤ x.kids.length) && decide (nmn x = 0) && decide (nmx x = 0) && zeroB (nat x) && x.kids.all (soundB n) else false) = false := fun h3 h4 => if_neg (by omega)
    generalize (if nk x = 3 ∨ nk x = 4 then decide (2 ≤ x.kids.length) && decide (nmn x = 0) && decide (nmx x = 0) && zeroB (nat x) && x.kids.all (soundB n) else false) = R at hh hno ⊢
    refine VB_intro (fun h => ?_) (fun h => ?_)
    · have hk : nk x = 3 := beq_iff_eq.1 h
      refine VB_intro (fun _ => ?_) (fun h' => by rw [h] at h'; cases h')
      exact partR (fun h1' h2' => loopR hl (by omega) (by omega) (by rw [hh (.inl hk), h1', h2']; rfl)) (hh (.inl hk))
    have hk3 : nk x ≠ 3 := beq_eq_false_iff_ne.1 h
    refine VB_intro (fun h => ?_) (fun h => ?_)
    · have hk : nk x = 4 := beq_iff_eq.1 h
      exact partR (fun h1' h2' => loopR hl (by omega) (by omega) (by rw [hh (.inr hk), h1', h2']; rfl)) (hh (.inr hk))
    · exact (hno hk3 (beq_eq_false_iff_ne.1 h)).symm
theorem cSoundR_ok (g : Nat) : PureG Tryz.prog gN 69 (cSoundR g) := soundR_ok_of (soundR_pure g)
end Go.Proofs.YtamcloifhjafcaaGreatDoor
