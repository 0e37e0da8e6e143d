/- WIRE 11: writers, as functions of Lean. -/
import Derived.Test.YtfgedkmopgkonaaW6
namespace Pw
open Go

structure Wr where
  s : List UInt8
  most : Int
  err : Int
def Wr.av (w : Wr) : AV := .agg [.str w.s, .int .i64 w.most, .int .i64 w.err]
def wrOK (w : Wr) : Bool := decide (0 ≤ w.most) && decide (w.most ≤ 20000) && decide (w.s.length ≤ w.most) && decide (0 ≤ w.err) && decide (w.err ≤ 23)
def wrUse (w : Wr) : Wr := if wrOK w = true then w else ⟨[], 0, 10⟩
def wrStop (w : Wr) (e : Int) : Wr := if w.err = 0 then ⟨w.s, w.most, e⟩ else w
def wrAdd (w : Wr) (t : List UInt8) : Wr := if w.err ≠ 0 then w else if w.most - w.s.length < t.length then ⟨w.s, w.most, 4⟩ else ⟨w.s ++ t, w.most, w.err⟩
def wrPut (w : Wr) (size n : Int) : Wr := if okSize size = false ∨ numS (digS n size.toNat) ≠ n then wrStop (wrUse w) 2 else wrAdd (wrUse w) (digS n size.toNat)
def wrPutX (w : Wr) (t : List UInt8) (x : Int) : Wr := if x ≠ 0 then wrStop w x else wrAdd w t
def wrPutI (w : Wr) (n : Int) : Wr := wrAdd (wrUse w) (digS n 8)
def wrPutSized (w : Wr) (t : List UInt8) : Wr := if 65535 < t.length then wrStop (wrUse w) 2 else wrAdd (wrUse w) (digS t.length 2 ++ t)
def wrDone (w : Wr) : List UInt8 × Int := if (wrUse w).err ≠ 0 then ([], (wrUse w).err) else ((wrUse w).s, 0)
end Pw
namespace Pw
theorem wrUse_bounds (w : Wr) : 0 ≤ (wrUse w).most ∧ (wrUse w).most ≤ 20000 ∧ (wrUse w).s.length ≤ (wrUse w).most ∧ 0 ≤ (wrUse w).err ∧ (wrUse w).err ≤ 23 := by
  unfold wrUse
  split
  · rename_i h
    simp only [wrOK, Bool.and_eq_true, decide_eq_true_eq] at h
    omega
  · simp
theorem numS_digS : ∀ (k : Nat) (n : Int), 0 ≤ n → k ≤ 8 → numS (digS n k) = n % 256 ^ k
  | 0, n, _, _ => by simp [digS, numS, Int.emod_one]
  | k + 1, n, hn, hk => by
    have ih := numS_digS k (n / 256) (Int.ediv_nonneg hn (by decide)) (by omega)
    rw [digS, numS_snoc, ih]
    have hb : (UInt8.ofNat (n % 256).toNat).toNat = (n % 256).toNat := by
      rw [UInt8.toNat_ofNat']
      omega
    rw [hb, wrap_u64]
    have h1 : n % 256 ^ (k + 1) = 256 * (n / 256 % 256 ^ k) + n % 256 := by
      have e1 := Int.emod_add_mul_ediv n 256
      have e2 := Int.emod_add_mul_ediv (n / 256) (256 ^ k)
      have e3 : n = (256 * (n / 256 % 256 ^ k) + n % 256) + 256 ^ (k + 1) * (n / 256 / 256 ^ k) := by
        rw [Int.pow_succ]
        have : (256 : Int) ^ k * 256 * (n / 256 / 256 ^ k) = 256 * (256 ^ k * (n / 256 / 256 ^ k)) := by
          rw [Int.mul_comm (256 ^ k) 256, Int.mul_assoc]
        rw [this]
        omega
      have p0 : (0 : Int) < 256 ^ k := Int.pow_pos (by decide)
      have l1 : n / 256 % 256 ^ k < 256 ^ k := Int.emod_lt_of_pos _ p0
      have l0 : 0 ≤ n / 256 % 256 ^ k := Int.emod_nonneg _ (by omega)
      conv => lhs; rw [e3]
      rw [Int.add_mul_emod_self_left, Int.emod_eq_of_lt]
      · omega
      · rw [Int.pow_succ]
        omega
    have p0 : (0 : Int) < 256 ^ k := Int.pow_pos (by decide)
    have p1 : (256 : Int) ^ k ≤ 256 ^ 7 := by
      have h := Int.ofNat_le.2 (Nat.pow_le_pow_right (n := 256) (by decide) (show k ≤ 7 by omega))
      rw [Int.natCast_pow, Int.natCast_pow] at h
      exact h
    have l1 : n / 256 % 256 ^ k < 256 ^ k := Int.emod_lt_of_pos _ p0
    have l0 : 0 ≤ n / 256 % 256 ^ k := Int.emod_nonneg _ (by omega)
    rw [h1]
    have p7 : (256 : Int) ^ 7 = 72057594037927936 := by decide
    rw [p7] at p1
    omega
theorem digS_wrap8 (n : Int) : digS (Go.IntKind.u64.wrap n) 8 = digS n 8 := by
  rw [wrap_u64]
  simp only [digS, List.nil_append, List.cons_append]
  congr 1
  · congr 1; congr 1; omega
  · congr 1
    · congr 1; congr 1; omega
    · congr 1
      · congr 1; congr 1; omega
      · congr 1
        · congr 1; congr 1; omega
        · congr 1
          · congr 1; congr 1; omega
          · congr 1
            · congr 1; congr 1; omega
            · congr 1
              · congr 1; congr 1; omega
              · congr 1
                · congr 1; congr 1; omega
/-- A number is too great for its size. -/
theorem too_great {n : Int} (hn : 0 ≤ n) (h2 : n ≤ 18446744073709551615) {k : Int} (hk : okSize k = true) : (numS (digS n k.toNat) ≠ n ↔ (k < 8 ∧ shrI .u64 n (8 * k) ≠ 0)) := by
  simp only [okSize, Bool.or_eq_true, beq_iff_eq] at hk
  rcases hk with ((rfl | rfl) | rfl) | rfl
  · have := numS_digS 1 n hn (by decide)
    have h3 := shr_dig (kd := .u64) rfl n 1 (by decide)
    have e : ((8 : Int) * 1) = 8 * (1 : Nat) := by decide
    rw [show Int.toNat 1 = 1 from rfl, this, e, h3]
    omega
  · have := numS_digS 2 n hn (by decide)
    have h3 := shr_dig (kd := .u64) rfl n 2 (by decide)
    have e : ((8 : Int) * 2) = 8 * (2 : Nat) := by decide
    rw [show Int.toNat 2 = 2 from rfl, this, e, h3]
    omega
  · have := numS_digS 4 n hn (by decide)
    have h3 := shr_dig (kd := .u64) rfl n 4 (by decide)
    have e : ((8 : Int) * 4) = 8 * (4 : Nat) := by decide
    rw [show Int.toNat 4 = 4 from rfl, this, e, h3]
    omega
  · have := numS_digS 8 n hn (by decide)
    rw [show Int.toNat 8 = 8 from rfl, this]
    omega
end Pw
