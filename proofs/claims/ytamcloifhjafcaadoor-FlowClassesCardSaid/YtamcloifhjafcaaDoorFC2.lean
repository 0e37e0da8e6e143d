/- FLOW CLASSES 2: which classes an atom sees: proofs. -/
import Derived.Test.YtamcloifhjafcaaDoorFC1
namespace Go.Proofs.YtamcloifhjafcaaDoor
open Pw Go
set_option maxRecDepth 100000
set_option linter.unusedSimpArgs false

theorem one_get (x : AV) : ((Sq.lst [x]).sub 0 1).get 0 = x := rfl
theorem sub_int (a b : Int) : (AV.int .i64 a).sub (.int .i64 b) ↔ a = b := by show (if _ then _ else _) ↔ _; rw [if_pos rfl]
theorem seN_succ (C : Cls) (x : Int) (i : Nat) : seN C x (i + 1) = if inB C x i = true then seN C x i + 1 else seN C x i := by
  simp only [seN, seS]
  split <;> simp
theorem seV_succ {C : Cls} {x : Int} {i k : Nat} (h : inB C x i = true) : seV C x (i + 1) k = if k < seN C x i then seV C x i k else if k = seN C x i then (i : Int) else 0 := by
  have hl : (seS C x i).length = seN C x i := rfl
  have e : seV C x (i + 1) k = (seS C x i ++ [(i : Int)]).getD k 0 := by simp only [seV, seS, if_pos h]
  rw [e, List.getD_eq_getElem?_getD]
  by_cases h1 : k < seN C x i
  · rw [if_pos h1, List.getElem?_append_left (by omega)]
    simp only [seV, List.getD_eq_getElem?_getD]
  · rw [if_neg h1, List.getElem?_append_right (by omega)]
    by_cases h2 : k = seN C x i
    · rw [if_pos h2, show k - (seS C x i).length = 0 by omega]
      rfl
    · rw [if_neg h2]
      simp [show k - (seS C x i).length ≠ 0 by omega]
theorem seV_skip {C : Cls} {x : Int} {i : Nat} (h : inB C x i = false) : seN C x (i + 1) = seN C x i ∧ ∀ k, seV C x (i + 1) k = seV C x i k := by
  simp [seN, seV, seS, h]
theorem seN_le (C : Cls) (x : Int) : ∀ i, seN C x i ≤ i
  | 0 => Nat.le_refl _
  | i + 1 => by
    have := seN_le C x i
    rw [seN_succ]
    split <;> omega
def SeAV (n : Nat) (C : Cls) (x : Int) : AV := .tup [.rof (if 8 < n then 0 else seN C x n) (fun k => .int .i64 (seV C x n k)) false, .int .i64 (if 8 < n then 6 else 0)]

theorem seesI_pure (n : Nat) (C : Cls) (x : Int) (hn : n ≤ 1000000) : PureC Tryd.prog gN 27 [clsAV n C, .int .u64 x] (SeAV n C x) := by
  refine pure_vcG mix (tblG_nil _ _) ((seesI_vc n C x).mpr ?_)
  have hin : ∀ i, (andNotI IntKind.u64 (C.L i) x == 0) = inB C x i := fun i => rfl
  simp only [EqI, imp_self, true_and, and_true, implies_true, Int.toNat_natCast, List.length_cons, List.length_nil, hin, decide_true, Bool.and_self, NB_t, or_self, or_true, true_or, Nat.zero_add, Bool.true_and, Bool.and_true]
  refine VB_intro (fun hb => ?_) (fun hb => ?_)
  · have hb' : 8 < n := by have := of_decide_eq_true hb; omega
    simp [hb']
  · have hb' : ¬ 8 < n := by have := of_decide_eq_false hb; omega
    rw [if_neg hb', if_neg hb']
    refine ⟨⟨(0, 0), Nat.zero_le _, by simp [seN, seS]⟩, fun p hp => ?_⟩
    obtain ⟨q, g⟩ := p
    simp only at hp ⊢
    replace hp : q ≤ n := hp
    have hle := seN_le C x q
    refine VB_intro (fun hq => ?_) (fun hq => ?_)
    · have hq' : q < n := by have := of_decide_eq_true hq; omega
      refine NB_intro (decide_eq_true (by omega)) (VB_intro (fun hmt => ?_) (fun hmt => ?_))
      · refine NB_intro (by simp only [room]; exact decide_eq_true (by omega)) ?_
        have hN : seN C x (q + 1) = seN C x q + 1 := by rw [seN_succ, if_pos hmt]
        refine ⟨(q + 1, g + 1), by show q + 1 ≤ n; omega, by simp only [invCI]; omega, ⟨⟨rfl, hN.symm⟩, by rw [wrap_i64_id (by omega) (by omega)]; simp⟩, rfl, hN.symm, fun k hk => ?_⟩
        have hV := seV_succ (k := k) hmt
        by_cases hk1 : k < seN C x q
        · simp only [if_pos hk1]
          rw [hV, if_pos hk1]
          exact ⟨(sub_int _ _).2 rfl, rfl⟩
        · simp only [if_neg hk1]
          rw [show k - seN C x q = 0 by omega, one_get, hV, if_neg hk1, if_pos (by omega)]
          exact ⟨(sub_int _ _).2 rfl, rfl⟩
      · obtain ⟨s1, s2⟩ := seV_skip hmt
        refine ⟨(q + 1, g), by show q + 1 ≤ n; omega, by simp only [invCI]; omega, ⟨⟨rfl, s1.symm⟩, by rw [wrap_i64_id (by omega) (by omega)]; simp⟩, rfl, s1.symm, fun k hk => (s2 k).symm⟩
    · have hqe : q = n := by have := of_decide_eq_false hq; omega
      subst hqe
      simp
theorem seesR_pure (n : Nat) (C : Cls) (x : Int) (hn : n ≤ 1000000) : PureC Tryd.prog gN 28 [clsAV n C, .int .u64 x] (SeAV n C x) := by
  refine pure_vcG mix (tblG_nil _ _) ((seesR_vc n C x).mpr ?_)
  have hin : ∀ i, (andNotI IntKind.u64 (C.L i) x == 0) = inB C x i := fun i => rfl
  simp only [EqI, imp_self, true_and, and_true, implies_true, Int.toNat_natCast, List.length_cons, List.length_nil, hin, decide_true, Bool.and_self, NB_t, or_self, or_true, true_or, Nat.zero_add, Bool.true_and, Bool.and_true]
  refine VB_intro (fun hb => ?_) (fun hb => ?_)
  · have hb' : 8 < n := by have := of_decide_eq_true hb; omega
    simp [hb']
  · have hb' : ¬ 8 < n := by have := of_decide_eq_false hb; omega
    rw [if_neg hb', if_neg hb']
    refine ⟨⟨(0, 0), Nat.zero_le _, by simp [seN, seS]⟩, fun p hp => ?_⟩
    obtain ⟨q, g⟩ := p
    simp only at hp ⊢
    replace hp : q ≤ n := hp
    have hle := seN_le C x q
    refine VB_intro (fun hq => ?_) (fun hq => ?_)
    · have hq' : q < n := by have := of_decide_eq_true hq; omega
      refine NB_intro (decide_eq_true (by omega)) (VB_intro (fun hmt => ?_) (fun hmt => ?_))
      · refine NB_intro (by simp only [room]; exact decide_eq_true (by omega)) ?_
        have hN : seN C x (q + 1) = seN C x q + 1 := by rw [seN_succ, if_pos hmt]
        refine ⟨(q + 1, g + 1), by show q + 1 ≤ n; omega, by simp only [invCR]; omega, ⟨⟨rfl, hN.symm⟩, by rw [wrap_i64_id (by omega) (by omega)]; simp⟩, rfl, hN.symm, fun k hk => ?_⟩
        have hV := seV_succ (k := k) hmt
        by_cases hk1 : k < seN C x q
        · simp only [if_pos hk1]
          rw [hV, if_pos hk1]
          exact ⟨(sub_int _ _).2 rfl, rfl⟩
        · simp only [if_neg hk1]
          rw [show k - seN C x q = 0 by omega, one_get, hV, if_neg hk1, if_pos (by omega)]
          exact ⟨(sub_int _ _).2 rfl, rfl⟩
      · obtain ⟨s1, s2⟩ := seV_skip hmt
        refine ⟨(q + 1, g), by show q + 1 ≤ n; omega, by simp only [invCR]; omega, ⟨⟨rfl, s1.symm⟩, by rw [wrap_i64_id (by omega) (by omega)]; simp⟩, rfl, s1.symm, fun k hk => (s2 k).symm⟩
    · have hqe : q = n := by have := of_decide_eq_false hq; omega
      subst hqe
      simp
theorem sameInts_pure (m : Nat) (f : Nat → Int) (hm : m ≤ 1000000) : PureC Tryd.prog gN 31 [.rof m (fun k => .int .i64 (f k)) false, .rof m (fun k => .int .i64 (f k)) false] (.bool true) := by
  refine pure_vcG mix (tblG_nil _ _) ((sameInts_vc m f).mpr ?_)
  simp only [EqI, imp_self, true_and, and_true, implies_true, Int.toNat_natCast, List.length_cons, List.length_nil, bne_self_eq_false, beq_self_eq_true, Bool.not_true, Bool.or_self, VB_t, VB_f, Bool.and_self]
  refine ⟨⟨0, by simp⟩, fun i hi => ?_⟩
  replace hi : i ≤ m := hi
  refine VB_intro (fun h => ?_) (fun _ => trivial)
  have hlt : i < m := by have := of_decide_eq_true h; omega
  refine NB_intro (decide_eq_true (by omega)) (NB_intro (decide_eq_true (by omega)) ?_)
  exact ⟨i + 1, by show i + 1 ≤ m; omega, by simp only [invSI]; omega, by rw [wrap_i64_id (by omega) (by omega)]; omega⟩
end Go.Proofs.YtamcloifhjafcaaDoor
