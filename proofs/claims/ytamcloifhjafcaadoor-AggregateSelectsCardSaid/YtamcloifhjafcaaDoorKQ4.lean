/- QUERIES OF NUMBERS 4: queries, contract. -/
import Derived.Test.YtamcloifhjafcaaDoorKQ3
namespace Go.Proofs.YtamcloifhjafcaaDoor
open Pw Go
set_option maxRecDepth 100000
set_option linter.unusedSimpArgs false
def Sb (x y : AV) : Prop := x.sub y ∧ x.cells.length = y.cells.length
theorem sb_app {f G : Nat → AV} {n : Nat} {v : AV} (hf : ∀ q, q < n → Sb (f q) (G q)) (hv : Sb v (G n)) : ∀ q, q < n + 1 → Sb (if q < n then f q else ((Sq.lst [v]).sub 0 1).get (q - n)) (G q) := by
 intro q hq
 by_cases h : q < n
 ·rw [if_pos h]; exact hf q h
 ·obtain rfl : q = n := by omega
  rw [if_neg h, Nat.sub_self]
  exact hv
theorem getD_app1 {α : Type} {L : List α} {R : List α} {d : α} {q : Nat} (h : q < L.length) : (L ++ R).getD q d = L.getD q d := by
 simp [List.getD, List.getElem?_append_left h]
theorem getD_appn {α : Type} {L : List α} {R : List α} {d : α} {q : Nat} : (L ++ R).getD (L.length + q) d = R.getD q d := by
 simp [List.getD, List.getElem?_append_right]
theorem sb_one {α : Type} {F : α → AV} {L : List α} {a d : α} {v : AV} (hF : ∀ x, (F x).sub (F x)) (hv : Sb v (F a)) : ∀ q, q < L.length + 1 →
  Sb (if q < L.length then F (L.getD q d) else ((Sq.lst [v]).sub 0 1).get (q - L.length)) (F ((L ++ [a]).getD q d)) :=
 sb_app (G := fun q => F ((L ++ [a]).getD q d)) (fun q h => by simp only [getD_app1 h]; exact ⟨hF _, rfl⟩) (by have := getD_appn (L := L) (R := [a]) (d := d) (q := 0); rw [Nat.add_zero] at this; simp only [this]; exact hv)
theorem sb_two {α : Type} {F : α → AV} {L : List α} {a b d : α} {v w : AV} (hF : ∀ x, (F x).sub (F x)) (hv : Sb v (F a)) (hw : Sb w (F b)) : ∀ q, q < L.length + 1 + 1 →
  Sb (if q < L.length + 1 then if q < L.length then F (L.getD q d) else ((Sq.lst [v]).sub 0 1).get (q - L.length) else ((Sq.lst [w]).sub 0 1).get (q - (L.length + 1))) (F ((L ++ [a, b]).getD q d)) :=
 sb_app (G := fun q => F ((L ++ [a, b]).getD q d)) (sb_app (G := fun q => F ((L ++ [a, b]).getD q d)) (fun q h => by simp only [getD_app1 h]; exact ⟨hF _, rfl⟩)
  (by have := getD_appn (L := L) (R := [a, b]) (d := d) (q := 0); rw [Nat.add_zero] at this; simp only [this]; exact hv))
  (by have := getD_appn (L := L) (R := [a, b]) (d := d) (q := 1); simp only [this]; exact hw)
theorem qP_bd (l : List Int) : ∀ i, 0 ≤ qP l i ∧ qP l i ≤ 2 * i
 | 0 => ⟨Int.le_refl _, Int.le_refl _⟩
 | i + 1 => by
  have := qP_bd l i
  simp only [qP]
  split <;> omega
theorem qRd_len (k p : Int) (i : Nat) : 1 ≤ (qRd k p i).length ∧ (qRd k p i).length ≤ 2 := by
 simp only [qRd, List.length_append]
 split <;> simp
theorem qK_len (l : List Int) : ∀ i, i ≤ (qK l i).length ∧ (qK l i).length ≤ 2 * i
 | 0 => ⟨Nat.le_refl _, Nat.le_refl _⟩
 | i + 1 => by
  have := qK_len l i
  have := qRd_len (kq l i) (qP l i) i
  simp only [qK, List.length_append]
  omega
theorem nRd_len (k p : Int) : (nRd k p).length ≤ 2 := by
 simp only [nRd, List.length_append]
 split <;> split <;> (try split) <;> simp
theorem qN_len (l : List Int) : ∀ i, (qN l i).length ≤ 2 * i
 | 0 => Nat.le_refl _
 | i + 1 => by
  have := qN_len l i
  have := nRd_len (kq l i) (qP l i)
  simp only [qN, List.length_append]
  omega
theorem guard_sb (k : Int) : Sb (.agg [.int .i64 2, .int .i64 0, .int .i64 0, .int .i64 (leafA k 0).1, .bool (leafA k 0).2.1, .int .u64 (leafA k 0).2.2.1, condsA (ac (leafA k 0)), .str [], .nils]) (nodeA 3 (guardA (leafA k 0))) :=
 ⟨subL9 (int_sub _ _) (int_sub _ _) (int_sub _ _) (int_sub _ _) (bool_sub _) (int_sub _ _) ⟨rfl, fun i _ => ⟨⟨rfl, rfl, trivial⟩, rfl⟩, fun h => h⟩ (AV.str_sub _) rfl, rfl⟩
theorem alt_sb (a b : NodeG) (ex : Bool) : Sb (.agg [.int .i64 4, .int .i64 0, .int .i64 0, .int .i64 0, .bool false, .int .u64 0, .nils, .str [], .rol [nodeA 3 a, nodeA 3 b] ex]) (nodeA 3 (altG a b)) :=
 ⟨subL9 (int_sub _ _) (int_sub _ _) (int_sub _ _) (int_sub _ _) (bool_sub _) (int_sub _ _) rfl (AV.str_sub _) ⟨rfl, ⟨⟨nodeA_sub 2 1 a, by rw [nodeA_cells, nodeA_cells]⟩, ⟨nodeA_sub 2 1 b, by rw [nodeA_cells, nodeA_cells]⟩, trivial⟩, fun h => by cases h⟩, rfl⟩
theorem node_sb (f : Nat) (x : NodeG) : Sb (nodeA f x) (nodeA f x) := ⟨nodeA_sub f 0 x, rfl⟩
theorem str_sb (s : List UInt8) : Sb (.str s) (.str s) := ⟨AV.str_sub s, rfl⟩
theorem bk {l : List Int} {i gk gn : Nat} {K1 : List NodeG} {N1 : List (List UInt8)} {P' : Int} {fK fN : Nat → AV} (hi : i < l.length) (h4 : i < 4) (hK : qRd (kq l i) (qP l i) i = K1) (hN : nRd (kq l i) (qP l i) = N1) (hP : qP l (i + 1) = P')
  (rK : ∀ q, q < (qK l i).length + K1.length → Sb (fK q) (nodeA 3 ((qK l i ++ K1).getD q treeD))) (rN : ∀ q, q < (qN l i).length + N1.length → Sb (fN q) (.str ((qN l i ++ N1).getD q []))) :
  ∃ i' : Nat × Nat × Nat, (i'.fst ≤ l.length ∧ i'.fst ≤ 4) ∧ (invKQ l).μ i' < (invKQ l).μ (i, gk, gn) ∧
   ((gk + K1.length = i'.snd.fst ∧ (qK l i).length + K1.length = (qK l i'.fst).length) ∧ (gn + N1.length = i'.snd.snd ∧ (qN l i).length + N1.length = (qN l i'.fst).length) ∧ P' = qP l i'.fst ∧ (i : Int) + 1 = (i'.fst : Int)) ∧
   (gk + K1.length = i'.snd.fst ∧ (qK l i).length + K1.length = (qK l i'.fst).length ∧ ∀ q, q < (qK l i).length + K1.length → (fK q).sub (nodeA 3 ((qK l i'.fst).getD q treeD)) ∧ (fK q).cells.length = (nodeA 3 ((qK l i'.fst).getD q treeD)).cells.length) ∧
   gn + N1.length = i'.snd.snd ∧ (qN l i).length + N1.length = (qN l i'.fst).length ∧ ∀ q, q < (qN l i).length + N1.length → (fN q).sub (.str ((qN l i'.fst).getD q [])) ∧ (fN q).cells.length = [AV.str ((qN l i'.fst).getD q [])].length := by
 have e1 : qK l (i + 1) = qK l i ++ K1 := by rw [← hK]; rfl
 have e2 : qN l (i + 1) = qN l i ++ N1 := by rw [← hN]; rfl
 refine ⟨(i + 1, gk + K1.length, gn + N1.length), ⟨hi, h4⟩, by show 4 - (i + 1) < 4 - i; omega, ?_⟩
 simp only [e1, e2, hP, List.length_append]
 exact ⟨⟨⟨trivial, trivial⟩, ⟨trivial, trivial⟩, trivial, rfl⟩, ⟨trivial, trivial, rK⟩, trivial, trivial, rN⟩
theorem bk0 {l : List Int} {i gk gn : Nat} {K1 : List NodeG} {P' : Int} {fK : Nat → AV} (hi : i < l.length) (h4 : i < 4) (hK : qRd (kq l i) (qP l i) i = K1) (hN : nRd (kq l i) (qP l i) = []) (hP : qP l (i + 1) = P')
  (rK : ∀ q, q < (qK l i).length + K1.length → Sb (fK q) (nodeA 3 ((qK l i ++ K1).getD q treeD))) :
  ∃ i' : Nat × Nat × Nat, (i'.fst ≤ l.length ∧ i'.fst ≤ 4) ∧ (invKQ l).μ i' < (invKQ l).μ (i, gk, gn) ∧
   ((gk + K1.length = i'.snd.fst ∧ (qK l i).length + K1.length = (qK l i'.fst).length) ∧ (gn = i'.snd.snd ∧ (qN l i).length = (qN l i'.fst).length) ∧ P' = qP l i'.fst ∧ (i : Int) + 1 = (i'.fst : Int)) ∧
   (gk + K1.length = i'.snd.fst ∧ (qK l i).length + K1.length = (qK l i'.fst).length ∧ ∀ q, q < (qK l i).length + K1.length → (fK q).sub (nodeA 3 ((qK l i'.fst).getD q treeD)) ∧ (fK q).cells.length = (nodeA 3 ((qK l i'.fst).getD q treeD)).cells.length) ∧
   gn = i'.snd.snd ∧ (qN l i).length = (qN l i'.fst).length ∧ ∀ q, q < (qN l i).length → (qN l i).getD q [] = (qN l i'.fst).getD q [] ∧ [AV.str ((qN l i).getD q [])].length = [AV.str ((qN l i'.fst).getD q [])].length := by
 have e1 : qK l (i + 1) = qK l i ++ K1 := by rw [← hK]; rfl
 have e2 : qN l (i + 1) = qN l i := by show qN l i ++ nRd _ _ = _; rw [hN, List.append_nil]
 refine ⟨(i + 1, gk + K1.length, gn), ⟨hi, h4⟩, by show 4 - (i + 1) < 4 - i; omega, ?_⟩
 simp only [e1, e2, hP, List.length_append]
 exact ⟨⟨⟨trivial, trivial⟩, ⟨trivial, trivial⟩, trivial, rfl⟩, ⟨trivial, trivial, rK⟩, trivial, trivial, fun _ _ => ⟨trivial, trivial⟩⟩
theorem nm_ne {k p : Int} (h : (!(TreeG.val (leafG k p)).snd.snd.snd.fst.snd.snd.snd.snd.fst == []) = true) : leafN k p ≠ [] := by
 intro e
 have h : (!(leafN k p == [])) = true := h
 rw [e] at h
 cases h
theorem nm_eq {k p : Int} (h : (!(TreeG.val (leafG k p)).snd.snd.snd.fst.snd.snd.snd.snd.fst == []) = false) : leafN k p = [] := by
 have h : (!(leafN k p == [])) = false := h
 simpa using h
theorem hv_sub (h : HaveG) : (hvA h).sub (hvA h) := ⟨int_sub _ _, AV.str_sub _, int_sub _ _, int_sub _ _, trivial⟩
theorem ag_sub (a : AggG) : (aggA a).sub (aggA a) := ⟨int_sub _ _, AV.str_sub _, trivial⟩
theorem qH_len (N : List (List UInt8)) (l : List Int) : ∀ j, (qH N l j).length ≤ j
 | 0 => Nat.le_refl _
 | j + 1 => by
  have := qH_len N l j
  simp only [qH, List.length_append]
  split <;> simp <;> omega
theorem qE_len (N : List (List UInt8)) (l : List Int) : ∀ j, (qE N l j).length ≤ j
 | 0 => Nat.le_refl _
 | j + 1 => by
  have := qE_len N l j
  simp only [qE, List.length_append]
  split <;> simp <;> omega
theorem query_sat (l : List Int) (hl : ∀ i, -9223372036854775808 ≤ l.getD i 0 ∧ l.getD i 0 ≤ 9223372036854775807)   :
  (vcFun (EKQ l (kqX l) (qNn l)) 20 21 [iqA l] .nil 0 (retP 4 (qA3 (kqX l) (kqW l) (kqHs l) (kqEs l)))).sat := by
 refine (query_vc l _ _ _ _ _).mpr ?_
 simp only [hide_eq, Nat.zero_add, EqI, true_and, and_true, imp_self, implies_true, Int.toNat_natCast, or_self, NB_t, Bool.true_and, Bool.and_true, decide_true]
 refine ⟨⟨(0, 0, 0), by simp [qK, qN, qP]⟩, fun p ⟨hp1, hp2⟩ => ?_⟩
 obtain ⟨i, gk, gn⟩ := p
 refine VB_intro (fun h0 => ?_) (fun h0 => ?_)
 ·simp only at h0 hp1 hp2 ⊢
  simp only [Bool.and_eq_true, decide_eq_true_eq] at h0
  have hp := qP_bd l i
  have hkl := qK_len l i
  have hnl := qN_len l i
  obtain ⟨k, hk⟩ : ∃ k, k = l.getD i 0 % 1073741824 := ⟨_, rfl⟩
  have hk0 : 0 ≤ k ∧ k ≤ 1073741823 := by omega
  have hkq : kq l i = k := hk.symm
  have hli := hl i
  simp only [← hk]
  simp (disch := omega) only [tdivW, tmodE, wrap_i64_id]
  have hi4 : i < l.length ∧ i < 4 := by omega
  refine NB_intro (decide_eq_true (by omega)) (NB_intro (decide_eq_true (by omega)) (VB_intro (fun h1 => NB_intro (decide_eq_true (by omega)) (NB_intro (by simp [room]; omega) ?_)) (fun h1 => ?_)))
  ·replace h1 : 0 < i ∧ k / 7 % 4 = 1 := by simpa using h1
   refine NB_intro (decide_eq_true (by omega)) (VB_intro (fun h2 => NB_intro (by simp [room]; omega) ?_) (fun h2 => ?_))
   ·replace h2 := nm_ne h2
    refine VB_intro (fun h3 => NB_intro (decide_eq_true (by omega)) ?_) (fun h3 => NB_intro (by simp [room]; omega) ?_)
    ·replace h3 : k % 7 = 1 := by simpa using h3
     refine VB_intro (fun h4 => NB_intro (by simp [room]; omega) (NB_intro (by simp [room]; omega) ?_)) (fun h4 => NB_intro (by simp [room]; omega) ?_)
     ·replace h4 := nm_ne h4
      exact bk (K1 := [guardA (leafA (k / 28) 0), altG (leafG k (qP l i)) (leafG (k / 5) (qP l i + 1))]) (N1 := [leafN k (qP l i), leafN (k / 5) (qP l i + 1)]) hi4.1 hi4.2 (by rw [hkq]; simp only [qRd, if_pos h1, if_pos h3]; rfl) (by rw [hkq]; simp only [nRd, if_neg h2, if_pos h3, if_neg h4]; rfl) (by simp only [qP, hkq, if_pos h3]; omega) (sb_two (F := nodeA 3) (fun x => nodeA_sub 3 0 x) (guard_sb (k / 28)) (alt_sb _ _ _)) (sb_two (F := AV.str) AV.str_sub (str_sb _) (str_sb _))
     ·replace h4 := nm_eq h4
      exact bk (K1 := [guardA (leafA (k / 28) 0), altG (leafG k (qP l i)) (leafG (k / 5) (qP l i + 1))]) (N1 := [leafN k (qP l i)]) hi4.1 hi4.2 (by rw [hkq]; simp only [qRd, if_pos h1, if_pos h3]; rfl) (by rw [hkq]; simp only [nRd, if_neg h2, if_pos h3, if_pos h4]; rfl) (by simp only [qP, hkq, if_pos h3]; omega) (sb_two (F := nodeA 3) (fun x => nodeA_sub 3 0 x) (guard_sb (k / 28)) (alt_sb _ _ _)) (sb_one (F := AV.str) AV.str_sub (str_sb _))
    ·replace h3 : ¬(k % 7 = 1) := by simpa using h3
     exact bk (K1 := [guardA (leafA (k / 28) 0), leafG k (qP l i)]) (N1 := [leafN k (qP l i)]) hi4.1 hi4.2 (by rw [hkq]; simp only [qRd, if_pos h1, if_neg h3]; rfl) (by rw [hkq]; simp only [nRd, if_neg h2, if_neg h3]; rfl) (by simp only [qP, hkq, if_neg h3]) (sb_two (F := nodeA 3) (fun x => nodeA_sub 3 0 x) (guard_sb (k / 28)) (node_sb 3 _)) (sb_one (F := AV.str) AV.str_sub (str_sb _))
   ·replace h2 := nm_eq h2
    refine VB_intro (fun h3 => NB_intro (decide_eq_true (by omega)) ?_) (fun h3 => NB_intro (by simp [room]; omega) ?_)
    ·replace h3 : k % 7 = 1 := by simpa using h3
     refine VB_intro (fun h4 => NB_intro (by simp [room]; omega) (NB_intro (by simp [room]; omega) ?_)) (fun h4 => NB_intro (by simp [room]; omega) ?_)
     ·replace h4 := nm_ne h4
      exact bk (K1 := [guardA (leafA (k / 28) 0), altG (leafG k (qP l i)) (leafG (k / 5) (qP l i + 1))]) (N1 := [leafN (k / 5) (qP l i + 1)]) hi4.1 hi4.2 (by rw [hkq]; simp only [qRd, if_pos h1, if_pos h3]; rfl) (by rw [hkq]; simp only [nRd, if_pos h2, if_pos h3, if_neg h4]; rfl) (by simp only [qP, hkq, if_pos h3]; omega) (sb_two (F := nodeA 3) (fun x => nodeA_sub 3 0 x) (guard_sb (k / 28)) (alt_sb _ _ _)) (sb_one (F := AV.str) AV.str_sub (str_sb _))
     ·replace h4 := nm_eq h4
      exact bk0 (P' := qP l i + 1 + 1) (K1 := [guardA (leafA (k / 28) 0), altG (leafG k (qP l i)) (leafG (k / 5) (qP l i + 1))]) hi4.1 hi4.2 (by rw [hkq]; simp only [qRd, if_pos h1, if_pos h3]; rfl) (by rw [hkq]; simp only [nRd, if_pos h2, if_pos h3, if_pos h4]; rfl) (by simp only [qP, hkq, if_pos h3]; omega) (sb_two (F := nodeA 3) (fun x => nodeA_sub 3 0 x) (guard_sb (k / 28)) (alt_sb _ _ _))
    ·replace h3 : ¬(k % 7 = 1) := by simpa using h3
     exact bk0 (P' := qP l i + 1) (K1 := [guardA (leafA (k / 28) 0), leafG k (qP l i)]) hi4.1 hi4.2 (by rw [hkq]; simp only [qRd, if_pos h1, if_neg h3]; rfl) (by rw [hkq]; simp only [nRd, if_pos h2, if_neg h3]; rfl) (by simp only [qP, hkq, if_neg h3]) (sb_two (F := nodeA 3) (fun x => nodeA_sub 3 0 x) (guard_sb (k / 28)) (node_sb 3 _))
  ·replace h1 : ¬(0 < i ∧ k / 7 % 4 = 1) := by intro h; simp at h1; exact h1 h.1 h.2
   refine NB_intro (decide_eq_true (by omega)) (VB_intro (fun h2 => NB_intro (by simp [room]; omega) ?_) (fun h2 => ?_))
   ·replace h2 := nm_ne h2
    refine VB_intro (fun h3 => NB_intro (decide_eq_true (by omega)) ?_) (fun h3 => NB_intro (by simp [room]; omega) ?_)
    ·replace h3 : k % 7 = 1 := by simpa using h3
     refine VB_intro (fun h4 => NB_intro (by simp [room]; omega) (NB_intro (by simp [room]; omega) ?_)) (fun h4 => NB_intro (by simp [room]; omega) ?_)
     ·replace h4 := nm_ne h4
      exact bk (K1 := [altG (leafG k (qP l i)) (leafG (k / 5) (qP l i + 1))]) (N1 := [leafN k (qP l i), leafN (k / 5) (qP l i + 1)]) hi4.1 hi4.2 (by rw [hkq]; simp only [qRd, if_neg h1, if_pos h3]; rfl) (by rw [hkq]; simp only [nRd, if_neg h2, if_pos h3, if_neg h4]; rfl) (by simp only [qP, hkq, if_pos h3]; omega) (sb_one (F := nodeA 3) (fun x => nodeA_sub 3 0 x) (alt_sb _ _ _)) (sb_two (F := AV.str) AV.str_sub (str_sb _) (str_sb _))
     ·replace h4 := nm_eq h4
      exact bk (K1 := [altG (leafG k (qP l i)) (leafG (k / 5) (qP l i + 1))]) (N1 := [leafN k (qP l i)]) hi4.1 hi4.2 (by rw [hkq]; simp only [qRd, if_neg h1, if_pos h3]; rfl) (by rw [hkq]; simp only [nRd, if_neg h2, if_pos h3, if_pos h4]; rfl) (by simp only [qP, hkq, if_pos h3]; omega) (sb_one (F := nodeA 3) (fun x => nodeA_sub 3 0 x) (alt_sb _ _ _)) (sb_one (F := AV.str) AV.str_sub (str_sb _))
    ·replace h3 : ¬(k % 7 = 1) := by simpa using h3
     exact bk (K1 := [leafG k (qP l i)]) (N1 := [leafN k (qP l i)]) hi4.1 hi4.2 (by rw [hkq]; simp only [qRd, if_neg h1, if_neg h3]; rfl) (by rw [hkq]; simp only [nRd, if_neg h2, if_neg h3]; rfl) (by simp only [qP, hkq, if_neg h3]) (sb_one (F := nodeA 3) (fun x => nodeA_sub 3 0 x) (node_sb 3 _)) (sb_one (F := AV.str) AV.str_sub (str_sb _))
   ·replace h2 := nm_eq h2
    refine VB_intro (fun h3 => NB_intro (decide_eq_true (by omega)) ?_) (fun h3 => NB_intro (by simp [room]; omega) ?_)
    ·replace h3 : k % 7 = 1 := by simpa using h3
     refine VB_intro (fun h4 => NB_intro (by simp [room]; omega) (NB_intro (by simp [room]; omega) ?_)) (fun h4 => NB_intro (by simp [room]; omega) ?_)
     ·replace h4 := nm_ne h4
      exact bk (K1 := [altG (leafG k (qP l i)) (leafG (k / 5) (qP l i + 1))]) (N1 := [leafN (k / 5) (qP l i + 1)]) hi4.1 hi4.2 (by rw [hkq]; simp only [qRd, if_neg h1, if_pos h3]; rfl) (by rw [hkq]; simp only [nRd, if_pos h2, if_pos h3, if_neg h4]; rfl) (by simp only [qP, hkq, if_pos h3]; omega) (sb_one (F := nodeA 3) (fun x => nodeA_sub 3 0 x) (alt_sb _ _ _)) (sb_one (F := AV.str) AV.str_sub (str_sb _))
     ·replace h4 := nm_eq h4
      exact bk0 (P' := qP l i + 1 + 1) (K1 := [altG (leafG k (qP l i)) (leafG (k / 5) (qP l i + 1))]) hi4.1 hi4.2 (by rw [hkq]; simp only [qRd, if_neg h1, if_pos h3]; rfl) (by rw [hkq]; simp only [nRd, if_pos h2, if_pos h3, if_pos h4]; rfl) (by simp only [qP, hkq, if_pos h3]; omega) (sb_one (F := nodeA 3) (fun x => nodeA_sub 3 0 x) (alt_sb _ _ _))
    ·replace h3 : ¬(k % 7 = 1) := by simpa using h3
     exact bk0 (P' := qP l i + 1) (K1 := [leafG k (qP l i)]) hi4.1 hi4.2 (by rw [hkq]; simp only [qRd, if_neg h1, if_neg h3]; rfl) (by rw [hkq]; simp only [nRd, if_pos h2, if_neg h3]; rfl) (by simp only [qP, hkq, if_neg h3]) (sb_one (F := nodeA 3) (fun x => nodeA_sub 3 0 x) (node_sb 3 _))
 ·simp only at h0 hp1 hp2 ⊢
  have hi : i = min l.length 4 := by simp only [Bool.and_eq_false_iff, decide_eq_false_iff_not] at h0; omega
  have hN : qN l i = qNn l := by rw [hi]; rfl
  have hkl := qK_len l i
  have hN4 : (qNn l).length ≤ 8 := by have := qN_len l i; rw [hN] at this; omega
  have hl4 := hl 4
  have hw : IntKind.u64.wrap (l.getD 4 0 % 8) = kqW l := wrap_u64_id (by omega) (by omega)
  simp only [hN, hw]
  have fin : ∀ j : Nat, j ≤ 3 → (j = 0 ∨ 5 + j ≤ l.length ∧ qNn l ≠ []) → (decide (5 + (j : Int) < l.length) && decide (5 + (j : Int) < 8) && decide (((qNn l).length : Int) > 0)) = false → kqJ l = j := by
   intro j h1 h2 h3
   simp only [Bool.and_eq_false_iff, decide_eq_false_iff_not] at h3
   unfold kqJ
   split
   ·rename_i hn
    rcases h2 with h2 | h2
    ·exact h2.symm
    ·exact absurd hn h2.2
   ·rename_i hn
    have : 0 < (qNn l).length := List.length_pos_iff.2 hn
    omega
  have n32 : ∀ y : NodeG, (nodeA 3 y).sub (nodeA 2 y) = True := fun y => eq_true (nodeA_sub 2 1 y)
  refine NB_intro (atB_self _) (NB_intro (decide_eq_true (by omega)) ⟨VB_intro (fun h1 => ?_) (fun h1 => VB_intro (fun h2 => ?_) (fun h2 => ?_)), fun gn2 _ => ?_⟩)
  ·have e0 : qK l i = [] := List.eq_nil_of_length_eq_zero (by simpa using h1)
   have e : kqX l = leafG 0 0 := by rw [kqX, ← hi, e0]
   refine ⟨gn, ?_⟩
   rw [e]
   simp
  ·have h2 : ((qK l i).length : Int) = 1 := by simpa using h2
   obtain ⟨a, e0⟩ : ∃ a, qK l i = [a] := List.length_eq_one_iff.1 (by omega)
   have e : kqX l = a := by rw [kqX, ← hi, e0]
   refine NB_intro (decide_eq_true ⟨Int.le_refl _, by rw [e0]; exact Int.zero_lt_one⟩) ⟨gn, ?_⟩
   rw [e, e0]
   simp
  ·have h1 : ((qK l i).length : Int) ≠ 0 := by simpa using h1
   have h2 : ((qK l i).length : Int) ≠ 1 := by simpa using h2
   have e : kqX l = .mk (3, 0, 0, atomD, ()) (qK l i) := by
    rw [kqX, ← hi]
    generalize qK l i = K at h1 h2 ⊢
    match K, h1, h2 with
    | [], h1, _ => exact absurd rfl h1
    | [a], _, h2 => exact absurd rfl h2
    | a :: b :: r, _, _ => rfl
   refine ⟨gn, ?_⟩
   rw [e]
   simp [TreeG.val, TreeG.kids]
   exact ⟨rfl, rfl, rfl, rfl, rfl⟩
  ·refine ⟨⟨(0, 0, 0, gn2), by simp [qH, qE, nodeA_refl]⟩, fun p ⟨hp1, hp2⟩ => ?_⟩
   obtain ⟨j, gh, ge, gm⟩ := p
   simp only at hp1 hp2 ⊢
   have hH := qH_len (qNn l) l j
   have hE := qE_len (qNn l) l j
   have h5 : ((5 : Int) + (j : Int)).toNat = 5 + j := by omega
   simp only [h5]
   have hlj := hl (5 + j)
   obtain ⟨k, hk⟩ : ∃ k, k = l.getD (5 + j) 0 % 1073741824 := ⟨_, rfl⟩
   have hk0 : 0 ≤ k ∧ k ≤ 1073741823 := by omega
   have hkq : kq l (5 + j) = k := hk.symm
   simp only [← hk]
   simp (disch := omega) only [tdivW, tmodE, wrap_i64_id]
   refine VB_intro (fun h6 => ?_) (fun h6 => ?_)
   ·simp only [Bool.and_eq_true, decide_eq_true_eq] at h6
    have hn0 : qNn l ≠ [] := List.ne_nil_of_length_pos (by omega)
    have hi6 := Int.emod_nonneg (k / 6) (show ((qNn l).length : Int) ≠ 0 by omega)
    have hi7 := Int.emod_lt_of_pos (k / 6) (show (0 : Int) < (qNn l).length by omega)
    refine NB_intro (decide_eq_true (by omega)) (NB_intro (decide_eq_true (by omega)) (NB_intro (by simp; omega) (NB_intro (decide_eq_true ⟨hi6, hi7⟩) (VB_intro (fun h7 => NB_intro (by simp [room]; omega) ?_) (fun h7 => NB_intro (by simp [room]; omega) ?_)))))
    ·have h7 : k / 60 % 3 = 0 := by simpa using h7
     have eH : qH (qNn l) l (j + 1) = qH (qNn l) l j ++ [kqH (qNn l) k] := by simp only [qH, hkq, if_pos h7]
     have eE : qE (qNn l) l (j + 1) = qE (qNn l) l j := by simp only [qE, hkq, if_pos h7, List.append_nil]
     refine ⟨(j + 1, gh + 1, ge, gm), ⟨by omega, .inr ⟨by omega, hn0⟩⟩, by show 3 - (j + 1) < 3 - j; omega, ?_⟩
     simp only [eH, eE, List.length_append, nodeA_refl, true_and, and_true, implies_true]
     exact ⟨by omega, ⟨rfl, rfl⟩, rfl, fun q hq => sb_one (F := hvA) hv_sub (a := kqH (qNn l) k) ⟨hv_sub _, rfl⟩ q hq⟩
    ·have h7 : ¬(k / 60 % 3 = 0) := by simpa using h7
     have eH : qH (qNn l) l (j + 1) = qH (qNn l) l j := by simp only [qH, hkq, if_neg h7, List.append_nil]
     have eE : qE (qNn l) l (j + 1) = qE (qNn l) l j ++ [kqA (qNn l) k] := by simp only [qE, hkq, if_neg h7]
     refine ⟨(j + 1, gh, ge + 1, gm), ⟨by omega, .inr ⟨by omega, hn0⟩⟩, by show 3 - (j + 1) < 3 - j; omega, ?_⟩
     simp only [eH, eE, List.length_append, nodeA_refl, true_and, and_true, implies_true]
     exact ⟨by omega, ⟨rfl, rfl⟩, rfl, fun q hq => sb_one (F := aggA) ag_sub (a := kqA (qNn l) k) ⟨ag_sub _, rfl⟩ q hq⟩
   ·have hj : kqJ l = j := fin j hp1 hp2 h6
    rw [kqHs, kqEs, hj]
    simp [nodeA_refl]
end Go.Proofs.YtamcloifhjafcaaDoor
