/- WIRE 1: numbers and digits, as functions of Lean; lemmas of bits. -/
import Derived.Test.YtahgdngngpkeiaaDoorPwG5
namespace Pw
set_option linter.unusedSimpArgs false
open Go

/-! ### Bits -/
theorem orI_join {k : IntKind} (hk : k.bits = 64) (i : Nat) (hi : i ≤ 64) (x y : Int) (hx : x % 2 ^ i = 0) (h0 : 0 ≤ y) (h1 : y < 2 ^ i) : orI k x y = k.wrap (x + y) := by
  obtain ⟨b, rfl⟩ := Int.eq_ofNat_of_zero_le h0
  have hb : b < 2 ^ i := by exact_mod_cast h1
  have hp : 2 ^ i ≤ 2 ^ 64 := Nat.pow_le_pow_right (by decide) hi
  unfold orI
  have key : ((BitVec.ofInt k.bits x ||| BitVec.ofInt k.bits (b : Int)).toNat : Int) = x % 2 ^ 64 + b := by
    rw [hk]
    simp only [BitVec.toNat_or, BitVec.ofInt_natCast, BitVec.toNat_ofNat, BitVec.toNat_ofInt]
    rw [Nat.mod_eq_of_lt (Nat.lt_of_lt_of_le hb hp)]
    have hm : ∃ a : Nat, x % 2 ^ 64 = (2 ^ i * a : Nat) := by
      have h2 : 0 ≤ x % 2 ^ 64 := Int.emod_nonneg _ (by decide)
      obtain ⟨m, hm⟩ := Int.eq_ofNat_of_zero_le h2
      have h3 : (m : Int) % 2 ^ i = 0 := by
        rw [← hm, Int.emod_emod_of_dvd]
        · exact hx
        · exact ⟨2 ^ (64 - i), by rw [← Int.pow_add]; congr 1; omega⟩
      have h4 : m % 2 ^ i = 0 := by exact_mod_cast h3
      refine ⟨m / 2 ^ i, ?_⟩
      rw [hm]
      have := Nat.div_add_mod m (2 ^ i)
      rw [h4] at this
      exact congrArg Nat.cast (by omega)
    obtain ⟨a, ha⟩ := hm
    have e : ((2 ^ 64 : Nat) : Int) = 2 ^ 64 := by norm_cast
    rw [e, ha]
    simp only [Int.toNat_natCast]
    rw [← Nat.two_pow_add_eq_or_of_lt hb a]
    push_cast
    rfl
  rw [key]
  simp only [IntKind.wrap, hk]
  have : ((x % 2 ^ 64 + (b : Int)) % 2 ^ 64) = (x + b) % 2 ^ 64 := by omega
  rw [this]

/-! ### Numbers of bytes, big-endian -/
def numS (s : List UInt8) : Int := s.foldl (fun n c => IntKind.u64.wrap (256 * n + c.toNat)) 0
def digS (n : Int) : Nat → List UInt8
  | 0 => []
  | k + 1 => digS (n / 256) k ++ [UInt8.ofNat (n % 256).toNat]

theorem numS_snoc (s : List UInt8) (c : UInt8) : numS (s ++ [c]) = IntKind.u64.wrap (256 * numS s + c.toNat) := by simp [numS]
theorem numS_take (s : List UInt8) (i : Nat) (h : i < s.length) : numS (s.take (i + 1)) = IntKind.u64.wrap (256 * numS (s.take i) + (s.getD i 0).toNat) := by
  rw [List.take_add_one, List.getElem?_eq_getElem h, List.getD_eq_getElem?_getD, List.getElem?_eq_getElem h]
  exact numS_snoc _ _
theorem numS_range (s : List UInt8) : 0 ≤ numS s ∧ numS s ≤ 18446744073709551615 := by
  have step : ∀ (l : List UInt8) (n : Int), 0 ≤ n ∧ n ≤ 18446744073709551615 → 0 ≤ l.foldl (fun n c => IntKind.u64.wrap (256 * n + c.toNat)) n ∧ l.foldl (fun n c => IntKind.u64.wrap (256 * n + c.toNat)) n ≤ 18446744073709551615 := by
    intro l
    induction l with
    | nil => exact fun n h => h
    | cons c l ih =>
      intro n _
      refine ih _ ?_
      simp only [wrap_u64]
      omega
  exact step s 0 (by omega)
theorem digS_length : ∀ (k : Nat) (n : Int), (digS n k).length = k
  | 0, _ => rfl
  | k + 1, n => by simp [digS, digS_length k]

theorem digS_get : ∀ (k : Nat) (n : Int) (i : Nat), i < k → (digS n k).getD (k - 1 - i) 0 = UInt8.ofNat ((n / 256 ^ i) % 256).toNat
  | 0, _, _, h => by omega
  | k + 1, n, 0, _ => by
    simp only [digS, List.getD_eq_getElem?_getD]
    rw [List.getElem?_append_right (by rw [digS_length]; omega)]
    simp [digS_length]
  | k + 1, n, i + 1, h => by
    have ih := digS_get k (n / 256) i (by omega)
    simp only [digS, List.getD_eq_getElem?_getD] at ih ⊢
    rw [List.getElem?_append_left (by rw [digS_length]; omega), show k + 1 - 1 - (i + 1) = k - 1 - i by omega, ih]
    rw [Int.ediv_ediv_of_nonneg (by decide), Int.pow_succ, Int.mul_comm]
theorem digS_cons : ∀ (k : Nat) (n : Int), digS n (k + 1) = UInt8.ofNat ((n / 256 ^ k) % 256).toNat :: digS n k
  | 0, n => by simp [digS]
  | k + 1, n => by
    have ih := digS_cons k (n / 256)
    rw [digS, ih, List.cons_append, Int.ediv_ediv_of_nonneg (by decide), show (256 : Int) * 256 ^ k = 256 ^ (k + 1) by rw [Int.pow_succ, Int.mul_comm]]
    rfl
theorem shr_dig {kd : IntKind} (hk : kd.bits = 64) (n : Int) (i : Nat) (hi : i < 8) : shrI kd n (8 * i) = n / 256 ^ i := by
  unfold shrI
  have h1 : min (8 * (i : Int)).toNat kd.bits = 8 * i := by rw [hk]; omega
  rw [h1, Int.fdiv_eq_ediv_of_nonneg _ (Int.le_of_lt (Int.pow_pos (by decide))), Int.pow_mul]
  rfl
theorem shl8_u64 (n : Int) : shlI .u64 n 8 = IntKind.u64.wrap (n * 256) := by simp [shlI, IntKind.bits]
theorem shl8_i64 (n : Int) : shlI .i64 n 8 = IntKind.i64.wrap (n * 256) := by simp [shlI, IntKind.bits]
theorem num_step_u64 (n : Int) (c : UInt8) : orI .u64 (shlI .u64 n 8) (IntKind.u64.wrap c.toNat) = IntKind.u64.wrap (256 * n + c.toNat) := by
  have hc := c.toNat_lt
  rw [shl8_u64, orI_join rfl 8 (by decide)]
  · simp only [wrap_u64]; omega
  · simp only [wrap_u64]; omega
  · simp only [wrap_u64]; omega
  · simp only [wrap_u64]; omega
theorem num_step_i64 (n : Int) (c : UInt8) : orI .i64 (shlI .i64 n 8) (IntKind.i64.wrap c.toNat) = IntKind.i64.wrap (256 * n + c.toNat) := by
  have hc := c.toNat_lt
  rw [shl8_i64, orI_join rfl 8 (by decide)]
  · simp only [wrap_i64]; omega
  · simp only [wrap_i64]; omega
  · simp only [wrap_i64]; omega
  · simp only [wrap_i64]; omega
theorem u8_wrap (c : UInt8) : IntKind.u64.wrap c.toNat = c.toNat ∧ IntKind.i64.wrap c.toNat = c.toNat := by
  have hc := c.toNat_lt
  constructor
  · rw [wrap_u64]; omega
  · rw [wrap_i64]; omega
end Pw
