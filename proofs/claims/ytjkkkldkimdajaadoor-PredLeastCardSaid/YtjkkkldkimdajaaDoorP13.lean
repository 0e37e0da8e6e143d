/- PRED 13: the reference's code gives least solutions. -/
import Derived.Test.YtjkkkldkimdajaaDoorP12
namespace Go.Proofs.YtjkkkldkimdajaaDoor
open Pw Go
set_option maxRecDepth 100000
set_option linter.unusedSimpArgs false

theorem one_get (x : AV) : ((Sq.lst [x]).sub 0 1).get 0 = x := rfl
theorem sub_int (a b : Int) : (AV.int .i64 a).sub (.int .i64 b) ↔ a = b := by show (if _ then _ else _) ↔ _; rw [if_pos rfl]
theorem cells_int (a b : Int) : (AV.int .i64 a).cells.length = [AV.int .i64 b].length := rfl
theorem bst_t {n : Nat} {o v : Nat → Int} {i : Nat} (h : (allS n o v (trV v n i) && (!bstF n o v i || decide (trV v n i < bstV n o v i))) = true) : trV v n i = bstV n o v (i + 1) ∧ true = bstF n o v (i + 1) := by
  simp only [Bool.and_eq_true, Bool.or_eq_true, Bool.not_eq_true', decide_eq_true_eq] at h
  simp only [bstV, bstF, h.1, Bool.or_true]
  rw [if_pos ⟨trivial, h.2⟩]
  exact ⟨rfl, trivial⟩
theorem bst_f {n : Nat} {o v : Nat → Int} {i : Nat} (h : (allS n o v (trV v n i) && (!bstF n o v i || decide (trV v n i < bstV n o v i))) = false) : bstV n o v i = bstV n o v (i + 1) ∧ bstF n o v i = bstF n o v (i + 1) := by
  simp only [Bool.and_eq_false_iff, Bool.or_eq_false_iff, Bool.not_eq_false', decide_eq_false_iff_not] at h
  simp only [bstV, bstF]
  rcases h with h | ⟨h1, h2⟩
  · rw [if_neg (fun hh => by rw [h] at hh; cases hh.1), h]
    simp
  · rw [if_neg (fun hh => by rcases hh.2 with h | h; · rw [h1] at h; cases h
                             · exact h2 h), h1]
    simp

theorem leastR_pure (n : Nat) (o v : Nat → Int) (hn : n ≤ 1000000) (hok : okAll n o = true) (hv : ∀ i, i < n → lowI ≤ v i ∧ v i ≤ highI) :
    PureC Tryd.prog (fun _ => .undef) 49 [condsAV n o v] (.tup [.int .i64 (lstV n o v), .bool (lstB n o v)]) := by
  refine pure_vc mix tbl3_ok ((leastR_vc n o v _ _).mpr ?_)
  have ho := ok_op hok
  simp only [EqI, imp_self, true_and, and_true, implies_true, Int.toNat_natCast, List.length_cons, List.length_nil, opOf_agg, valOf_agg, condsB_agg, hok, hn, decide_true, Bool.and_self, NB_t, or_self, or_true, true_or, Nat.zero_add, Bool.true_and]
  refine ⟨⟨(0, 0), by simp, by simp [trN_zero, trV_zero, lowI]⟩, fun p hp => ?_⟩
  obtain ⟨i, g⟩ := p
  simp only at hp ⊢
  replace hp : i ≤ n := hp
  have hmi := trN_le v i
  refine VB_intro (fun h => ?_) (fun h => ?_)
  · have hin : i < n := by have := of_decide_eq_true h; omega
    have hvi := hv i hin
    simp only [lowI, highI] at hvi
    have hd : decide ((0 : Int) ≤ (i : Int) ∧ (i : Int) < (n : Int)) = true := decide_eq_true (by omega)
    have hroom : ∀ k, k ≤ trN v i + 2 → room k 8 = true := fun k hk => by
      simp only [room]
      exact decide_eq_true (by omega)
    rw [hd]
    simp only [hroom _ (show trN v i + 1 ≤ trN v i + 2 by omega), hroom _ (show trN v i + 1 + 1 ≤ trN v i + 2 by omega), NB_t]
    have hw : IntKind.i64.wrap ((i : Int) + 1) = ((i + 1 : Nat) : Int) := by rw [wrap_i64_id (by omega) (by omega)]; omega
    refine VB_intro (fun hlt => ?_) (fun hlt => ?_)
    · have hlt' : v i < highI := by simpa [highI] using hlt
      have hwv : IntKind.i64.wrap (v i + 1) = v i + 1 := by simp only [highI] at hlt'; rw [wrap_i64_id (by omega) (by omega)]
      have hN : trN v (i + 1) = trN v i + 1 + 1 := by rw [trN_succ, if_pos hlt']
      refine ⟨(i + 1, g + 1 + 1), by show i + 1 ≤ n; omega, by simp only [invR1]; omega, ⟨⟨rfl, hN.symm⟩, hw⟩, rfl, hN.symm, fun k hk => ?_⟩
      have hT := trV_succ v i k (by omega)
      simp only
      by_cases h1 : k < trN v i
      · rw [if_pos (show k < trN v i + 1 by omega), if_pos h1, hT, if_pos h1]
        exact ⟨(sub_int _ _).2 rfl, rfl⟩
      · by_cases h2 : k < trN v i + 1
        · rw [if_pos h2, if_neg h1, show k - trN v i = 0 by omega, one_get, hT, if_neg h1, if_pos h2]
          exact ⟨(sub_int _ _).2 rfl, rfl⟩
        · rw [if_neg h2, show k - (trN v i + 1) = 0 by omega, one_get, hT, if_neg h1, if_neg h2, hwv]
          exact ⟨(sub_int _ _).2 rfl, rfl⟩
    · have hlt' : ¬ v i < highI := by simpa [highI] using hlt
      have hN : trN v (i + 1) = trN v i + 1 := by rw [trN_succ, if_neg hlt']
      refine ⟨(i + 1, g + 1), by show i + 1 ≤ n; omega, by simp only [invR1]; omega, ⟨⟨rfl, hN.symm⟩, hw⟩, rfl, hN.symm, fun k hk => ?_⟩
      have hT := trV_succ v i k (by omega)
      simp only
      by_cases h1 : k < trN v i
      · rw [if_pos h1, hT, if_pos h1]
        exact ⟨(sub_int _ _).2 rfl, rfl⟩
      · rw [if_neg h1, show k - trN v i = 0 by omega, one_get, hT, if_neg h1, if_pos (by omega)]
        exact ⟨(sub_int _ _).2 rfl, rfl⟩
  · have hin : i = n := by have := of_decide_eq_false h; omega
    subst hin
    refine ⟨⟨(0, g), by simp, by simp [bstV, bstF]⟩, fun p hp => ?_⟩
    obtain ⟨k, g⟩ := p
    simp only at hp ⊢
    replace hp : k ≤ trN v i := hp
    refine VB_intro (fun hk => ?_) (fun hk => ?_)
    · have hk' : k < trN v i := by have := of_decide_eq_true hk; omega
      have hd : decide ((0 : Int) ≤ (k : Int) ∧ (k : Int) < (trN v i : Int)) = true := decide_eq_true (by omega)
      have hw : IntKind.i64.wrap ((k : Int) + 1) = ((k + 1 : Nat) : Int) := by rw [wrap_i64_id (by omega) (by omega)]; omega
      simp only [hd, NB_t, impB_t, implies_true]
      refine NB_intro (by simp [impB_t]) (NB_intro (by simp [impB_t]) (VB_intro (fun hb => ?_) (fun hb => ?_)))
      · obtain ⟨b1, b2⟩ := bst_t hb
        exact ⟨(k + 1, g), by show k + 1 ≤ _; omega, by simp only [invR2]; omega, ⟨rfl, b1, b2, hw⟩, rfl⟩
      · obtain ⟨b1, b2⟩ := bst_f hb
        exact ⟨(k + 1, g), by show k + 1 ≤ _; omega, by simp only [invR2]; omega, ⟨rfl, b1, b2, hw⟩, rfl⟩
    · have hk' : k = trN v i := by have := of_decide_eq_false hk; omega
      subst hk'
      exact bst_lst ho hv
end Go.Proofs.YtjkkkldkimdajaaDoor
