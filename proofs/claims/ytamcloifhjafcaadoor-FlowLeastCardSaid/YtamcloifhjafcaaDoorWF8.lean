/- WELL-FORMED 8: the checks' contracts. -/
import Derived.Test.YtamcloifhjafcaaDoorWF7
namespace Go.Proofs.YtamcloifhjafcaaDoor
open Pw Go
set_option maxRecDepth 100000
set_option linter.unusedSimpArgs false
def dupB (A : List AtomG) : Bool := (List.range A.length).any (duP A)
def nmdE (A : List AtomG) (N : List Bool) (U : List (List UInt8)) : Int := if dupB A = true then 8 else if wrU (knS A N A.length) (wrS A N A.length) U U.length = true then 12 else 0
theorem named_sat (x : NodeG) (w : Int) (hs : List HaveG) (es : List AggG) (A : List AtomG) (N : List Bool) (e1 e2 : Int) (U : List (List UInt8)) (hAN : A.length = N.length) (hA : A.length ≤ 1000) (hU : U.length ≤ 1000) :
    (vcFun (ENm x w hs es A N e1 e2 U) 20 124 [qA x w hs es] .nil 0 (retP 3 (.int .i64 (nmdE A N U)))).sat := by
  refine (namedW_vc x w hs es A N e1 e2 U _).mpr (NB_intro (atB_self _) (NB_intro (atB_self _) ?_))
  simp only [qA_refl, atsWR, bosWR, ssR, EqI, true_and, and_true, imp_self, implies_true, Int.toNat_natCast, Nat.zero_add, or_self, decide_true, NB_t, Bool.true_and, Bool.and_true]
  refine ⟨⟨0, ⟨Nat.zero_le _, fun j hj => by omega⟩, ⟨rfl, rfl⟩, fun _ => rfl, fun _ => rfl⟩, fun i ⟨hi1, hi2⟩ => VB_intro (fun h1 => ?_) (fun h1 => ?_)⟩
  · have hlt : i < A.length := by have := of_decide_eq_true h1; omega
    have hw : IntKind.i64.wrap ((i : Int) + 1) = ((i + 1 : Nat) : Int) := by rw [wrap_i64_id (by omega) (by omega)]; rfl
    have hd : decide ((0 : Int) ≤ (i : Int) ∧ (i : Int) < N.length) = true := decide_eq_true (by omega)
    have next : duP A i = false → ∀ j, j < i + 1 → duP A j = false := fun h j hj => by
      rcases Nat.lt_or_ge j i with h' | h'
      · exact hi2 j h'
      · obtain rfl : j = i := by omega
        exact h
    refine NB_intro (decide_eq_true (by omega)) (VB_intro (fun h2 => ?_) (fun h2 => VB_intro (fun h3 => ?_) (fun h3 => ?_)))
    · have h2 : nmOf A i = [] := beq_iff_eq.1 h2
      have hs1 : seS A (i + 1) = seS A i := if_pos h2
      have hk1 : knS A N (i + 1) = knS A N i := if_pos h2
      have hw1 : wrS A N (i + 1) = wrS A N i := if_pos h2
      refine ⟨i + 1, ⟨hlt, next (by simp [duP, h2])⟩, by show A.length - (i + 1) < A.length - i; omega, ⟨hw1.symm, hw⟩, fun s => by rw [hs1], fun s => by rw [hk1]⟩
    · have h2 : nmOf A i ≠ [] := fun e => by
        have : (nmOf A i == []) = false := h2
        rw [e] at this
        cases this
      have hdup : dupB A = true := List.any_eq_true.2 ⟨i, by simpa using hlt, by simp only [duP, Bool.and_eq_true, decide_eq_true_eq]; exact ⟨h2, h3⟩⟩
      show 8 = nmdE A N U
      rw [nmdE, if_pos hdup]
    · have h2 : nmOf A i ≠ [] := fun e => by
        have : (nmOf A i == []) = false := h2
        rw [e] at this
        cases this
      have hs1 : seS A (i + 1) = fun s => if nmOf A i = s then true else seS A i s := if_neg h2
      have hk1 : knS A N (i + 1) = fun s => if nmOf A i = s then !N.getD i false else knS A N i s := if_neg h2
      have hw1 : wrS A N (i + 1) = (wrS A N i || N.getD i false) := if_neg h2
      have h3 : seS A i (nmOf A i) = false := h3
      rw [hd]
      refine NB_intro rfl (NB_intro (impB_t.2 fun _ => rfl) ⟨i + 1, ⟨hlt, next (by simp [duP, h3])⟩, by show A.length - (i + 1) < A.length - i; omega, ⟨hw1.symm, hw⟩, fun s => by rw [hs1]; rfl, fun s => by rw [hk1]; rfl⟩)
  · obtain rfl : i = A.length := by have := of_decide_eq_false h1; omega
    have hnd : dupB A ≠ true := by
      intro h
      obtain ⟨j, hj, h⟩ := List.any_eq_true.1 h
      rw [hi2 j (by simpa using hj)] at h
      cases h
    refine NB_intro (atB_self _) ⟨⟨0, Nat.zero_le _, ⟨rfl, rfl⟩, fun _ => rfl⟩, fun i hi => VB_intro (fun h5 => ?_) (fun h5 => ?_)⟩
    · have hlt : i < U.length := by have := of_decide_eq_true h5; omega
      exact NB_intro (decide_eq_true (by omega)) ⟨i + 1, hlt, by show U.length - (i + 1) < U.length - i; omega, rfl, by rw [wrap_i64_id (by omega) (by omega)]; rfl⟩
    · obtain rfl : i = U.length := by have := of_decide_eq_false h5; have hi : i ≤ U.length := hi; omega
      refine VB_intro (fun h6 => ?_) (fun h6 => ?_)
      · rw [nmdE, if_neg hnd, if_pos h6]
      · rw [nmdE, if_neg hnd, if_neg (by rw [h6]; decide)]
theorem app_fnW {F : Nat → AV} {a : AV} {j q : Nat} (hq : q < j + 1) (ha : a = F j) (hF : ∀ k, (F k).sub (F k)) :
    (if q < j then F q else ((Sq.lst [a]).sub 0 1).get (q - j)).sub (F q) ∧ (if q < j then F q else ((Sq.lst [a]).sub 0 1).get (q - j)).cells.length = (F q).cells.length := by
  by_cases h : q < j
  · rw [if_pos h]
    exact ⟨hF _, rfl⟩
  · obtain rfl : q = j := by omega
    rw [if_neg h, Nat.sub_self]
    show a.sub (F q) ∧ _ = _
    subst ha
    exact ⟨hF _, rfl⟩
theorem depth_pure (x : NodeG) (hx : litB 8 x = true) (hm : (elems 8 1 x).length ≤ 1000) : PureC Tryd.prog gN 135 [nodeA 9 x] (.tup [.int .i64 (dpth x), .int .i64 (sndE x)]) := by
  have hctr : CtrOK (ECD x) := ⟨(mkG_ctr (P := Tryd.prog) (gl := gN) (inv := fun _ _ => none) (n := 0) (tblG_cons sndI_ok (tblG_nil _ _))).1, itV_ok (visit_iter 8)⟩
  refine pure_vcE (E := ECD x) (k := 20) (d := 4) mix hctr ((depth_vc x _ _).mpr ?_)
  have hpos : 1 ≤ (elems 8 1 x).length := by rw [elems_len]; omega
  simp only [isNode_of hx (show 8 < 9 by decide), nodeOf_of hx (show 8 < 9 by decide)]
  simp only [EqI, true_and, and_true, imp_self, implies_true, Int.toNat_natCast, Nat.zero_add, or_self, NB_t, Bool.and_self, decide_true, Bool.true_and, Bool.and_true]
  refine VB_intro (fun h => VB_intro (fun h2 => ?_) (fun h2 => by rw [h] at h2; cases h2)) (fun h => ⟨⟨(0, 0), Nat.zero_le _, rfl, ⟨rfl, rfl⟩, rfl⟩, fun p ⟨hp1, hp2⟩ => ?_, fun p ⟨hp1, hp2⟩ => ?_⟩)
  · have h : sndE x ≠ 0 := bne_iff_ne.1 h
    have : dpth x = 0 := by rw [dpth, if_neg (by rw [sndE_n h]; decide)]
    exact this.symm
  · obtain ⟨j, g⟩ := p
    have hp2 : j < (elems 8 1 x).length := hp2
    exact NB_intro (by simp [room]; omega) ⟨(j + 1, g + 1), hp2, rfl, ⟨⟨rfl, rfl⟩, rfl⟩, rfl, rfl, fun q hq => app_fnW (F := fun k => AV.int .i64 (dpi x k)) hq rfl (fun _ => by simp [AV.sub])⟩
  · obtain ⟨j, g⟩ := p
    obtain rfl : j = (elems 8 1 x).length := hp2
    have h : sndE x = 0 := bne_eq_false_iff_eq.1 h
    refine VB_intro (fun h2 => by have := of_decide_eq_true h2; simp only at this; omega) (fun _ => NB_intro (decide_eq_true (by simp only; omega)) ⟨⟨(1, g), ⟨Nat.le_refl _, hpos⟩, ⟨⟨rfl, rfl⟩, rfl, rfl⟩, rfl, rfl⟩, fun p ⟨hq1, hq2⟩ => VB_intro (fun h3 => ?_) (fun h3 => ?_)⟩)
    · obtain ⟨i, g⟩ := p
      have hlt : i < (elems 8 1 x).length := by have := of_decide_eq_true h3; simp only at this; omega
      have hq1 : 1 ≤ i := hq1
      have hmx : mxS (dpi x) (i + 1 - 1) = maxI (mxS (dpi x) (i - 1)) (dpi x i) := by
        obtain ⟨k, rfl⟩ : ∃ k, i = k + 1 := ⟨i - 1, by omega⟩
        rfl
      exact NB_intro (decide_eq_true (by simp only; omega)) ⟨(i + 1, g), ⟨by show 1 ≤ i + 1; omega, hlt⟩, by show (elems 8 1 x).length - (i + 1) < (elems 8 1 x).length - i; omega, ⟨rfl, hmx.symm, by rw [wrap_i64_id (by simp only; omega) (by simp only; omega)]; rfl⟩, rfl⟩
    · obtain ⟨i, g⟩ := p
      obtain rfl : i = (elems 8 1 x).length := by have := of_decide_eq_false h3; simp only at this hq2; omega
      refine ⟨?_, h.symm⟩
      show mxS (dpi x) ((elems 8 1 x).length - 1) = dpth x
      rw [dpth, if_pos (sndE_0 h)]
end Go.Proofs.YtamcloifhjafcaaDoor
