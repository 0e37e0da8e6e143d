/- AGGREGATES 8: the conditions of AggregateSums. -/
import Derived.Test.YtahgdngngpkeiaaDoorA5
import Derived.Test.YtahgdngngpkeiaaDoorW1
namespace Go.Proofs.YtahgdngngpkeiaaDoor
open Pw Go
set_option maxRecDepth 100000
set_option linter.unusedSimpArgs false

def invS (n : Nat) (a : Nat → Int) (s0 e0 s1 e1 s2 e2 : Int) : Inv := ⟨Nat, 0, fun i => ⟨[(0, intsAV n a), (6, .int .i64 s0), (7, .int .i64 e0), (8, .int .i64 s1), (9, .int .i64 e1), (10, .int .i64 s2), (11, .int .i64 e2), (12, .int .i64 (pSum a i / 4294967296)), (13, .int .i64 (pSum a i % 4294967296)), (14, .bool (!okTo a i)), (15, .int .i64 i)], []⟩, fun i => i ≤ n, fun i => n - i⟩
noncomputable def ES (n : Nat) (a : Nat → Int) (s0 e0 s1 e1 s2 e2 : Int) : Env := mkG Tryd.prog gN (tblOf tblB) (fun f b => if f = 4 ∧ b = 0 then some (invS n a s0 e0 s1 e1 s2 e2) else none) 8
theorem sums_vc (n : Nat) (a : Nat → Int) (x s0 e0 s1 e1 s2 e2 : Int) : (vcFun (ES n a s0 e0 s1 e1 s2 e2) 40 4 [intsAV n a, .int .i64 x] .nil 0 (isBool true)).sat = (
  VB (decide ((↑n : Int) > (40 : Int))) (true = true)
    (NB (decide ((-9223372036854775808 : Int) ≤ x ∧ x ≤ (9223372036854775807 : Int) ∧ IntKind.i64.wrap ((↑n : Int) + (1 : Int)) ≤ (9223372036854775807 : Int)))
      (NB (inR (2 : Int) && decide (n ≤ (1000000 : Nat)) && intsB n fun (i : Nat) => AV.int IntKind.i64 (a i))
        (NB (decide ((0 : Int) ≤ (0 : Int) ∧ (0 : Int) ≤ modI x (IntKind.i64.wrap ((↑n : Int) + (1 : Int))) ∧ modI x (IntKind.i64.wrap ((↑n : Int) + (1 : Int))) ≤ (↑n : Int)))
          (NB
            (inR (2 : Int) && decide ((modI x (IntKind.i64.wrap ((↑n : Int) + (1 : Int)))).toNat - Int.toNat (0 : Int) ≤ (1000000 : Nat)) &&
              intsB ((modI x (IntKind.i64.wrap ((↑n : Int) + (1 : Int)))).toNat - Int.toNat (0 : Int)) fun (k : Nat) => AV.int IntKind.i64 (a (Int.toNat (0 : Int) + k)))
            (NB (decide ((0 : Int) ≤ modI x (IntKind.i64.wrap ((↑n : Int) + (1 : Int))) ∧ modI x (IntKind.i64.wrap ((↑n : Int) + (1 : Int))) ≤ (↑n : Int) ∧ (↑n : Int) ≤ (↑n : Int)))
              (NB
                (inR (2 : Int) && decide ((↑n : Int).toNat - (modI x (IntKind.i64.wrap ((↑n : Int) + (1 : Int)))).toNat ≤ (1000000 : Nat)) &&
                  intsB ((↑n : Int).toNat - (modI x (IntKind.i64.wrap ((↑n : Int) + (1 : Int)))).toNat) fun (k : Nat) => AV.int IntKind.i64 (a ((modI x (IntKind.i64.wrap ((↑n : Int) + (1 : Int)))).toNat + k)))
                ((∃ (i : Nat),
                    i.le n ∧
                      ((n = n ∧ (∀ (i : Nat), i < n → a i = a i ∧ [AV.int IntKind.i64 (a i)].length = [AV.int IntKind.i64 (a i)].length) ∧ (false = true → false = true)) ∧
                          (ofV (2 : Int) n fun (i : Nat) => a i) = s0 ∧
                            (ofE (2 : Int) n fun (i : Nat) => a i) = e0 ∧
                              (ofV (2 : Int) ((modI x (IntKind.i64.wrap ((↑n : Int) + (1 : Int)))).toNat - Int.toNat (0 : Int)) fun (i : Nat) => a (Int.toNat (0 : Int) + i)) = s1 ∧
                                (ofE (2 : Int) ((modI x (IntKind.i64.wrap ((↑n : Int) + (1 : Int)))).toNat - Int.toNat (0 : Int)) fun (i : Nat) => a (Int.toNat (0 : Int) + i)) = e1 ∧
                                  (ofV (2 : Int) ((↑n : Int).toNat - (modI x (IntKind.i64.wrap ((↑n : Int) + (1 : Int)))).toNat) fun (i : Nat) => a ((modI x (IntKind.i64.wrap ((↑n : Int) + (1 : Int)))).toNat + i)) = s2 ∧
                                    (ofE (2 : Int) ((↑n : Int).toNat - (modI x (IntKind.i64.wrap ((↑n : Int) + (1 : Int)))).toNat) fun (i : Nat) => a ((modI x (IntKind.i64.wrap ((↑n : Int) + (1 : Int)))).toNat + i)) = e2 ∧
                                      (0 : Int) = pSum a i / (4294967296 : Int) ∧ (0 : Int) = pSum a i % (4294967296 : Int) ∧ false = !okTo a i ∧ (0 : Int) = (↑i : Int) ∧ True) ∧
                        True) ∧
                  ∀ (i : Nat),
                    i.le n →
                      VB (decide ((↑i : Int) < (↑n : Int)))
                        (NB (decide ((0 : Int) ≤ (↑i : Int) ∧ (↑i : Int) < (↑n : Int)))
                          (NB (decide ((0 : Int) ≤ (↑i : Int) ∧ (↑i : Int) < (↑n : Int)))
                            (∃ (i' : Nat),
                              i'.le n ∧
                                (invS n a s0 e0 s1 e1 s2 e2).μ i' < (invS n a s0 e0 s1 e1 s2 e2).μ i ∧
                                  ((n = n ∧ (∀ (i : Nat), i < n → a i = a i ∧ [AV.int IntKind.i64 (a i)].length = [AV.int IntKind.i64 (a i)].length) ∧ (false = true → false = true)) ∧
                                      s0 = s0 ∧
                                        e0 = e0 ∧
                                          s1 = s1 ∧
                                            e1 = e1 ∧
                                              s2 = s2 ∧
                                                e2 = e2 ∧
                                                  IntKind.i64.wrap
                                                        (IntKind.i64.wrap (pSum a i / (4294967296 : Int) + shrI IntKind.i64 (a (↑i : Int).toNat) (32 : Int)) +
                                                          shrI IntKind.i64 (IntKind.i64.wrap (pSum a i % (4294967296 : Int) + andI IntKind.i64 (a (↑i : Int).toNat) (4294967295 : Int))) (32 : Int)) =
                                                      pSum a i' / (4294967296 : Int) ∧
                                                    andI IntKind.i64 (IntKind.i64.wrap (pSum a i % (4294967296 : Int) + andI IntKind.i64 (a (↑i : Int).toNat) (4294967295 : Int))) (4294967295 : Int) =
                                                        pSum a i' % (4294967296 : Int) ∧
                                                      (!okTo a i ||
                                                              decide
                                                                (IntKind.i64.wrap
                                                                    (IntKind.i64.wrap (pSum a i / (4294967296 : Int) + shrI IntKind.i64 (a (↑i : Int).toNat) (32 : Int)) +
                                                                      shrI IntKind.i64 (IntKind.i64.wrap (pSum a i % (4294967296 : Int) + andI IntKind.i64 (a (↑i : Int).toNat) (4294967295 : Int))) (32 : Int)) >
                                                                  (2147483647 : Int)) ||
                                                            decide
                                                              (IntKind.i64.wrap
                                                                  (IntKind.i64.wrap (pSum a i / (4294967296 : Int) + shrI IntKind.i64 (a (↑i : Int).toNat) (32 : Int)) +
                                                                    shrI IntKind.i64 (IntKind.i64.wrap (pSum a i % (4294967296 : Int) + andI IntKind.i64 (a (↑i : Int).toNat) (4294967295 : Int))) (32 : Int)) <
                                                                (-2147483648 : Int))) =
                                                          !okTo a i' ∧
                                                        IntKind.i64.wrap ((↑i : Int) + (1 : Int)) = (↑i' : Int) ∧ True) ∧
                                    True)))
                        (VB (!(e0 == (16 : Int)) == !okTo a i || e0 != (0 : Int) && e0 != (16 : Int) || e1 != (0 : Int) && e0 == (0 : Int)) (false = true)
                          ((((e0 != (0 : Int) || e2 != (0 : Int) || s0 == IntKind.i64.wrap (s1 + s2)) &&
                                  (e0 != (0 : Int) || s0 == orI IntKind.i64 (shlI IntKind.i64 (pSum a i / (4294967296 : Int)) (32 : Int)) (pSum a i % (4294967296 : Int))) &&
                                true) ==
                              true) =
                            true)))))))))) := by
  kernel_rfl

end Go.Proofs.YtahgdngngpkeiaaDoor
namespace Go.Proofs.YtahgdngngpkeiaaDoor
open Pw Go
set_option maxRecDepth 100000
set_option linter.unusedSimpArgs false

theorem and_low (x : Int) : andI .i64 x 4294967295 = x % 4294967296 := by
  unfold andI
  have e1 : (BitVec.ofInt IntKind.i64.bits x &&& BitVec.ofInt IntKind.i64.bits 4294967295).toNat = (x % 18446744073709551616).toNat % 4294967296 := by
    have h1 : (BitVec.ofInt IntKind.i64.bits x).toNat = (x % 18446744073709551616).toNat := by
      rw [BitVec.toNat_ofInt]; rfl
    have h2 : (BitVec.ofInt IntKind.i64.bits 4294967295).toNat = 2 ^ 32 - 1 := by decide
    rw [BitVec.toNat_and, h1, h2, Nat.and_two_pow_sub_one_eq_mod]
  rw [e1, wrap_i64]
  omega
theorem shr_32 (x : Int) : shrI .i64 x 32 = x / 4294967296 := by
  unfold shrI
  have e : (2 ^ (min (Int.toNat 32) IntKind.i64.bits) : Int) = 4294967296 := by decide
  rw [e, Int.fdiv_eq_ediv_of_nonneg _ (by omega)]
theorem pSum_bound {a : Nat → Int} {n : Nat} (ha : ∀ i, i < n → rng64 (a i)) : ∀ i, i ≤ n → -(9223372036854775808 * (i : Int)) ≤ pSum a i ∧ pSum a i ≤ 9223372036854775808 * (i : Int)
  | 0, _ => by simp [pSum]
  | k + 1, h => by
    have h1 := pSum_bound ha k (by omega)
    have h2 := ha k (by omega)
    simp only [pSum]
    obtain ⟨h3, h4⟩ := h2
    constructor <;> omega
theorem pSum_add (a : Nat → Int) (k : Nat) : ∀ m, pSum a (k + m) = pSum a k + pSum (fun i => a (k + i)) m
  | 0 => by simp [pSum]
  | m + 1 => by
    have := pSum_add a k m
    show pSum a (k + m) + a (k + m) = pSum a k + (pSum (fun i => a (k + i)) m + a (k + m))
    omega
theorem ofE2 (n : Nat) (a : Nat → Int) : ofE 2 n a = if okTo a n = true then 0 else 16 := by simp [ofE, sumE]
theorem ofV2 (n : Nat) (a : Nat → Int) : ofV 2 n a = if okTo a n = true then pSum a n else 0 := by simp [ofV, sumV]

theorem sums_sat (n : Nat) (a : Nat → Int) (x : Int) (hx : rng64 x) (ha : ∀ i, i < n → rng64 (a i)) : ∃ s0 e0 s1 e1 s2 e2, (vcFun (ES n a s0 e0 s1 e1 s2 e2) 40 4 [intsAV n a, .int .i64 x] .nil 0 (isBool true)).sat := by
  by_cases hn : n ≤ 40
  case neg =>
    refine ⟨0, 0, 0, 0, 0, 0, ?_⟩
    rw [sums_vc]
    exact VB_intro (fun h => rfl) (fun h => by have : ¬ (n : Int) > 40 := of_decide_eq_false h
                                               omega)
  have hw : IntKind.i64.wrap ((n : Int) + 1) = (n : Int) + 1 := wrap_i64_id (by omega) (by omega)
  obtain ⟨k, hk, hkn⟩ : ∃ k : Nat, modI x ((n : Int) + 1) = (k : Int) ∧ k ≤ n := by
    have h1 := Int.emod_nonneg x (by omega : (n : Int) + 1 ≠ 0)
    have h2 := Int.emod_lt_of_pos x (by omega : (0 : Int) < (n : Int) + 1)
    refine ⟨(x % ((n : Int) + 1)).toNat, ?_, by omega⟩
    unfold modI
    rw [if_neg (by omega)]
    omega
  refine ⟨ofV 2 n a, ofE 2 n a, ofV 2 k a, ofE 2 k a, ofV 2 (n - k) (fun i => a (k + i)), ofE 2 (n - k) (fun i => a (k + i)), ?_⟩
  rw [sums_vc]
  have e0 : Int.toNat 0 = 0 := rfl
  have eta : (fun i => a i) = a := rfl
  have eta0 : (fun i => a (0 + i)) = a := by funext i; rw [Nat.zero_add]
  have eta1 : (fun i => AV.int .i64 (a (0 + i))) = fun i => AV.int .i64 (a i) := by funext i; rw [Nat.zero_add]
  have hB0 := intsB_av ha
  have hB1 := intsB_av (n := k) (a := a) (fun i hi => ha i (by omega))
  have hB2 := intsB_av (n := n - k) (a := fun i => a (k + i)) (fun i hi => ha (k + i) (by omega))
  have hR2 : inR 2 = true := rfl
  simp only [hw, hk, Int.toNat_natCast, e0, eta, eta0, eta1, Nat.sub_zero, hB0, hB1, hB2, hR2, Bool.true_and, Bool.and_true]
  refine VB_intro (fun h => trivial) (fun _ => ?_)
  refine NB_intro (by simp only [decide_eq_true_eq]; exact ⟨hx.1, hx.2, by omega⟩) (NB_intro (by simp only [decide_eq_true_eq]; omega) (NB_intro (by simp only [decide_eq_true_eq]; omega) (NB_intro (by simp only [decide_eq_true_eq]; omega) (NB_intro (by simp only [decide_eq_true_eq]; omega) (NB_intro (by simp only [decide_eq_true_eq]; omega) ⟨⟨0, Nat.zero_le _, by simp [pSum, okTo]⟩, fun i hi => VB_intro (fun h => ?_) (fun h => ?_)⟩)))))
  · have hlt : i < n := by simpa using h
    have hb := pSum_bound ha i (by omega)
    have hv := ha i hlt
    have hi40 : (i : Int) ≤ 40 := by omega
    have hlo : (9223372036854775808 : Int) * i ≤ 368934881474191032320 := by omega
    have ei : (↑i : Int).toNat = i := by simp
    have hs : pSum a (i + 1) = pSum a i + a i := rfl
    obtain ⟨hv1, hv2⟩ := hv
    have q1 : IntKind.i64.wrap (pSum a i / 4294967296 + a i / 4294967296) = pSum a i / 4294967296 + a i / 4294967296 := wrap_i64_id (by omega) (by omega)
    have q2 : IntKind.i64.wrap (pSum a i % 4294967296 + a i % 4294967296) = pSum a i % 4294967296 + a i % 4294967296 := wrap_i64_id (by omega) (by omega)
    have q3 : IntKind.i64.wrap (pSum a i / 4294967296 + a i / 4294967296 + (pSum a i % 4294967296 + a i % 4294967296) / 4294967296) = (pSum a i + a i) / 4294967296 := by
      rw [wrap_i64_id (by omega) (by omega)]; omega
    have hw2 : IntKind.i64.wrap ((i : Int) + 1) = ((i + 1 : Nat) : Int) := by rw [wrap_i64_id (by omega) (by omega)]; simp
    refine NB_intro (by simp; omega) (NB_intro (by simp; omega) ⟨i + 1, by show i + 1 ≤ n; omega, by show n - (i + 1) < n - i; omega, ?_⟩)
    simp only [ei, and_low, shr_32, q1, q2, q3, hw2, hs]
    have hok : (!okTo a i || decide ((pSum a i + a i) / 4294967296 > 2147483647) || decide ((pSum a i + a i) / 4294967296 < -2147483648)) = !okTo a (i + 1) := by
      have hin : inR (pSum a i + a i) = !(decide ((pSum a i + a i) / 4294967296 > 2147483647) || decide ((pSum a i + a i) / 4294967296 < -2147483648)) := by
        rw [Bool.eq_iff_iff]
        simp only [inR, Bool.and_eq_true, decide_eq_true_eq, Bool.not_eq_true', Bool.or_eq_false_iff, decide_eq_false_iff_not]
        omega
      simp only [okTo, hs, hin]
      cases okTo a i <;> simp
    have hmod : (pSum a i % 4294967296 + a i % 4294967296) % 4294967296 = (pSum a i + a i) % 4294967296 := by omega
    simp only [hok, hmod]
    simp
  · have hi : i ≤ n := hi
    have e : i = n := by have : ¬ (i : Int) < n := by simpa using h
                         omega
    subst e
    rw [ofE2, ofE2, ofE2, ofV2, ofV2, ofV2]
    by_cases hok : okTo a i = true
    · have hokk := okTo_le hkn hok
      have hsum := okTo_sum hok
      have hsk := okTo_sum hokk
      have hsplit := pSum_add a k (i - k)
      have hki : k + (i - k) = i := by omega
      rw [hki] at hsplit
      simp only [hok, hokk, if_true]
      refine VB_intro (fun h => by simp at h) (fun _ => ?_)
      have hor : orI .i64 (shlI .i64 (pSum a i / 4294967296) 32) (pSum a i % 4294967296) = pSum a i := by
        obtain ⟨h1, h2⟩ := hsum
        have e2 : (2 ^ (min (Int.toNat 32) IntKind.i64.bits) : Int) = 4294967296 := by decide
        have e3 : shlI .i64 (pSum a i / 4294967296) 32 = pSum a i / 4294967296 * 4294967296 := by
          unfold shlI
          rw [e2, wrap_i64_id (by omega) (by omega)]
        rw [e3, orI_join (k := .i64) rfl 32 (by decide) _ _ (by omega) (by omega) (by omega), wrap_i64_id (by omega) (by omega)]
        omega
      rw [hor]
      by_cases hok2 : okTo (fun j => a (k + j)) (i - k) = true
      · simp only [hok2, if_true]
        have : IntKind.i64.wrap (pSum a k + pSum (fun j => a (k + j)) (i - k)) = pSum a i := by
          rw [← hsplit]; exact wrap_i64_id hsum.1 hsum.2
        rw [this]
        simp
      · simp [hok2]
    · have hok : okTo a i = false := by simpa using hok
      simp only [hok, Bool.false_eq_true, if_false]
      refine VB_intro (fun h => by simp at h) (fun _ => by simp)
end Go.Proofs.YtahgdngngpkeiaaDoor
