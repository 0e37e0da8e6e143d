/- WIRE 22: the law of numbers answers true. -/
import Derived.Test.YtfgedkmopgkonaaW21
namespace Go.Proofs.Ytfgedkmopgkonaa
open Pw Go
set_option maxRecDepth 100000
set_option linter.unusedSimpArgs false

theorem emod_mul_left' (a b n : Int) : (a % n * b) % n = (a * b) % n := by rw [Int.mul_emod, Int.emod_emod, ← Int.mul_emod]
theorem sumI_succ (S : List UInt8) (i : Nat) (hi : i < S.length) (hl : S.length ≤ 8) :
    IntKind.u64.wrap (sumI S i + shlI .u64 ((S.getD i 0).toNat : Int) (8 * ((S.length : Int) - 1 - i))) = sumI S (i + 1) := by
  have hm : (min (8 * ((S.length : Int) - 1 - i)).toNat IntKind.u64.bits) = 8 * (S.length - 1 - i) := by
    show min _ 64 = _
    omega
  have hp : (2 : Int) ^ (8 * (S.length - 1 - i)) = 256 ^ (S.length - 1 - i) := by rw [Int.pow_mul]; rfl
  have hq : S.length - i = (S.length - 1 - i) + 1 := by omega
  have hq' : S.length - (i + 1) = S.length - 1 - i := by omega
  unfold sumI shlI
  rw [hm, hp, numS_take S i hi, hq, hq', Int.pow_succ]
  generalize (256 : Int) ^ (S.length - 1 - i) = M
  generalize numS (S.take i) = X
  generalize ((S.getD i 0).toNat : Int) = c
  simp only [wrap_u64]
  rw [emod_mul_left', ← Int.add_emod, Int.add_mul]
  congr 2
  rw [Int.mul_comm M 256, ← Int.mul_assoc, Int.mul_comm X 256]
theorem sumI_all (S : List UInt8) : sumI S S.length = numS S := by
  have := numS_range S
  unfold sumI
  rw [List.take_length, Nat.sub_self, Int.pow_zero, Int.mul_one]
  exact wrap_u64_id this.1 this.2
theorem sumI_zero (S : List UInt8) : sumI S 0 = 0 := by simp [sumI, numS, wrap_u64]

theorem emod_split (x M : Int) (hM : 0 < M) : x % (M * 256) = M * (x / M % 256) + x % M := by
  have e1 := Int.emod_add_mul_ediv x M
  have e2 := Int.emod_add_mul_ediv (x / M) 256
  have e3 : x = (M * (x / M % 256) + x % M) + M * 256 * (x / M / 256) := by
    have : M * 256 * (x / M / 256) = M * (256 * (x / M / 256)) := Int.mul_assoc ..
    rw [this]
    have h2 : M * (x / M % 256) + M * (256 * (x / M / 256)) = M * (x / M) := by rw [← Int.mul_add, e2]
    omega
  have l1 : x % M < M := Int.emod_lt_of_pos _ hM
  have l0 : 0 ≤ x % M := Int.emod_nonneg _ (by omega)
  have m0 : 0 ≤ x / M % 256 ∧ x / M % 256 ≤ 255 := by omega
  have m1 : M * (x / M % 256) ≤ M * 255 := Int.mul_le_mul_of_nonneg_left m0.2 (Int.le_of_lt hM)
  have m2 : 0 ≤ M * (x / M % 256) := Int.mul_nonneg (Int.le_of_lt hM) m0.1
  conv => lhs; rw [e3]
  rw [Int.add_mul_emod_self_left, Int.emod_eq_of_lt]
  · omega
  · omega
theorem lex_lt {M P Q r s : Int} (hM : 0 < M) (hr : 0 ≤ r ∧ r < M) (hs : 0 ≤ s ∧ s < M) : (M * P + r < M * Q + s) ↔ (P < Q ∨ (P = Q ∧ r < s)) := by
  rcases Int.lt_trichotomy P Q with h | h | h
  · have := Int.mul_le_mul_of_nonneg_left (show P + 1 ≤ Q by omega) (Int.le_of_lt hM)
    rw [Int.mul_add] at this
    constructor
    · exact fun _ => .inl h
    · intro _; omega
  · subst h
    constructor
    · intro h; exact .inr ⟨rfl, by omega⟩
    · rintro (h | ⟨_, h⟩) <;> omega
  · have := Int.mul_le_mul_of_nonneg_left (show Q + 1 ≤ P by omega) (Int.le_of_lt hM)
    rw [Int.mul_add] at this
    constructor
    · intro h'; omega
    · rintro (h' | ⟨h', _⟩) <;> omega
theorem less_dig : ∀ (k : Nat) (x y : Int), Op.bytesLess (digS x k) (digS y k) = decide (x % 256 ^ k < y % 256 ^ k)
  | 0, x, y => by simp [digS, Op.bytesLess, Int.emod_one]
  | k + 1, x, y => by
    have hM : (0 : Int) < 256 ^ k := Int.pow_pos (by decide)
    rw [digS_cons, digS_cons, Op.bytesLess, less_dig k x y, Int.pow_succ, emod_split x _ hM, emod_split y _ hM]
    have lx := lex_lt (P := x / 256 ^ k % 256) (Q := y / 256 ^ k % 256) hM ⟨Int.emod_nonneg x (by omega), Int.emod_lt_of_pos x hM⟩ ⟨Int.emod_nonneg y (by omega), Int.emod_lt_of_pos y hM⟩
    have p1 : 0 ≤ x / 256 ^ k % 256 ∧ x / 256 ^ k % 256 < 256 := by omega
    have p2 : 0 ≤ y / 256 ^ k % 256 ∧ y / 256 ^ k % 256 < 256 := by omega
    generalize x / 256 ^ k % 256 = P at lx p1 ⊢
    generalize y / 256 ^ k % 256 = Q at lx p2 ⊢
    rw [Bool.eq_iff_iff]
    simp only [Bool.or_eq_true, Bool.and_eq_true, decide_eq_true_eq, beq_iff_eq, lx, UInt8.lt_iff_toNat_lt, ← UInt8.toNat_inj, UInt8.toNat_ofNat']
    have q1 : P.toNat % 256 = P.toNat := by omega
    have q2 : Q.toNat % 256 = Q.toNat := by omega
    rw [show 2 ^ 8 = 256 from rfl, q1, q2]
    constructor
    · rintro (h | ⟨h, h'⟩)
      · exact .inl (by omega)
      · exact .inr ⟨by omega, h'⟩
    · rintro (h | ⟨h, h'⟩)
      · exact .inl (by omega)
      · exact .inr ⟨by omega, h'⟩

theorem encW_s (k : Int) {n : Int} (h0 : 0 ≤ n) (h1 : n ≤ 18446744073709551615) : (encW k n).s.length ≤ 8 := by
  obtain ⟨a1, a2, a3⟩ := sizeOf_ok k
  obtain ⟨b1, b2, b3⟩ := size_fits k h0 h1
  have u : wrUse ⟨[], 8, 0⟩ = ⟨[], 8, 0⟩ := by simp [wrUse, wrOK]
  have hl : (digS (sizeN k n) (sizeOf' k).toNat).length = (sizeOf' k).toNat := digS_length _ _
  unfold encW wrPut
  rw [u, u, a1, b1]
  simp only [Bool.true_eq_false, ne_eq, not_true_eq_false, or_self, if_false]
  unfold wrAdd
  rw [if_neg (by simp), if_neg (by simp only [List.length_nil]; omega)]
  simp only [List.nil_append]
  omega

theorem sizeN_lt (k : Int) {n : Int} (h0 : 0 ≤ n) (h1 : n ≤ 18446744073709551615) : sizeN k n % 256 ^ (sizeOf' k).toNat = sizeN k n := by
  have b := size_fits k h0 h1
  have a := sizeOf_ok k
  rw [numS_digS _ _ b.2.1 (by omega)] at b
  exact b.1

theorem numbers_sat (a b k : Int) (ha : 0 ≤ a ∧ a ≤ 18446744073709551615) (hb : 0 ≤ b ∧ b ≤ 18446744073709551615) :
    (vcFun (mkE Try.prog (tblOf tbl6) (fun f bl => if f = 6 ∧ bl = 0 then some (invN (sizeOf' k) (sizeN k a) (sizeN k b) (wrDone (encW k a)).1 (wrDone (encW k b)).1) else none)) 20 6 [.int .u64 a, .int .u64 b, .int .i64 k] .nil 0 (isBool true)).sat := by
  refine (numbers_vc a b k).mpr ?_
  have e1 : wrPut (wrUse ⟨[], 8, 0⟩) (sizeOf' k) (sizeN k a) = encW k a := rfl
  have e2 : wrPut (wrUse ⟨[], 8, 0⟩) (sizeOf' k) (sizeN k b) = encW k b := rfl
  obtain ⟨a1, a2, a3⟩ := sizeOf_ok k
  obtain ⟨b1, b2, b3⟩ := size_fits k ha.1 ha.2
  obtain ⟨c1, c2, c3⟩ := size_fits k hb.1 hb.2
  have la := encW_s k ha.1 ha.2
  have lb := encW_s k hb.1 hb.2
  have ma := sizeN_lt k ha.1 ha.2
  have mb := sizeN_lt k hb.1 hb.2
  have hLs : (digS (sizeN k a) (sizeOf' k).toNat).length = (sizeOf' k).toNat := digS_length _ _
  have hLt : (digS (sizeN k b) (sizeOf' k).toNat).length = (sizeOf' k).toNat := digS_length _ _
  have hlt := less_dig (sizeOf' k).toNat (sizeN k a) (sizeN k b)
  rw [ma, mb] at hlt
  have heq : (digS (sizeN k a) (sizeOf' k).toNat == digS (sizeN k b) (sizeOf' k).toNat) = (sizeN k a == sizeN k b) := by
    rw [Bool.eq_iff_iff]
    simp only [beq_iff_eq]
    constructor
    · intro h; rw [← b1, ← c1, h]
    · intro h; rw [h]
  have tl : (sizeOf' k).toNat = sizeOf' k := by omega
  have hSe : (wrDone (encW k a)).1.length = (sizeOf' k).toNat := by rw [encW_eq k ha.1 ha.2]; exact hLs
  simp only [e1, e2, encW_eq k ha.1 ha.2, encW_eq k hb.1 hb.2]
  generalize digS (sizeN k a) (sizeOf' k).toNat = S at *
  generalize digS (sizeN k b) (sizeOf' k).toNat = T at *
  have hS : (S.length : Int) = sizeOf' k := by omega
  have hT : (T.length : Int) = sizeOf' k := by omega
  simp only [hlt, heq, hS, hT, EqI, bne_self_eq_false, Bool.or_self, VB_f, true_and, and_true]
  refine NB_intro (by simpa using ha) (NB_intro (by simpa using hb) (NB_intro ?_ (NB_intro ?_ (NB_intro ?_ (NB_intro ?_ ⟨⟨0, by simp [sumI_zero]⟩, fun i hi => VB_intro (fun h => ?_) (fun h => ?_)⟩)))))
  · simp only [decide_eq_true_eq]; omega
  · simp only [decide_eq_true_eq]; omega
  · simp only [decide_eq_true_eq]; omega
  · simp only [decide_eq_true_eq]; omega
  · have hi2 : i < S.length := by have := of_decide_eq_true h; omega
    have w1 : IntKind.i64.wrap (8 * IntKind.i64.wrap (IntKind.i64.wrap (sizeOf' k - 1) - (i : Int))) = 8 * ((S.length : Int) - 1 - i) := by simp only [wrap_i64]; omega
    have w2 : IntKind.u64.wrap (8 * ((S.length : Int) - 1 - i)) = 8 * ((S.length : Int) - 1 - i) := by rw [wrap_u64]; omega
    have w3 : IntKind.i64.wrap ((i : Int) + 1) = ((i + 1 : Nat) : Int) := by rw [wrap_i64]; omega
    rw [w1, w2, w3, (u8_wrap _).1, Int.toNat_natCast, sumI_succ S i hi2 (by omega)]
    refine NB_intro (by simp; omega) (NB_intro (by simp; omega) ⟨i + 1, by omega, ?_, rfl, rfl⟩)
    show (wrDone (encW k a)).1.length - (i + 1) < (wrDone (encW k a)).1.length - i
    omega
  · have : i = S.length := by have := of_decide_eq_false h; omega
    rw [this, sumI_all, b1]
    simp
end Go.Proofs.Ytfgedkmopgkonaa
