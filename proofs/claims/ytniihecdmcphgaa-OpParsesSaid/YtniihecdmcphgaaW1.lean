/- WIRE 1: numbers and digits, as functions of Lean; lemmas of bits. -/
import Derived.Test.YtniihecdmcphgaaPwG5
namespace Pw
set_option linter.unusedSimpArgs false
open Go
theorem orI_join {k : IntKind} (hk : k.bits = 64) (i : Nat) (hi : i ≤ 64) (x y : Int) (hx : x % 2 ^ i = 0) (h0 : 0 ≤ y) (h1 : y < 2 ^ i) : orI k x y = k.wrap (x + y) := by
 obtain ⟨b, rfl⟩ := Int.eq_ofNat_of_zero_le h0
 have hb : b < 2 ^ i := by exact_mod_cast h1
 have hp : 2 ^ i ≤ 2 ^ 64 := Nat.pow_le_pow_right (by decide) hi
 unfold orI
 have key : ((BitVec.ofInt k.bits x ||| BitVec.ofInt k.bits (b : Int)).toNat : Int) = x % 2 ^ 64 + b := by
  rw [hk]
  simp only [BitVec.toNat_or, BitVec.ofInt_natCast, BitVec.toNat_ofNat, BitVec.toNat_ofInt]
  rw [Nat.mod_eq_of_lt (Nat.lt_of_lt_of_le hb hp)]
  have hm : ∃ a : Nat, x % 2 ^ 64 = (2 ^ i * a : Nat) := by
   have h2 : 0 ≤ x % 2 ^ 64 := Int.emod_nonneg _ (by decide)
   obtain ⟨m, hm⟩ := Int.eq_ofNat_of_zero_le h2
   have h3 : (m : Int) % 2 ^ i = 0 := by
    rw [← hm, Int.emod_emod_of_dvd]
    ·exact hx
    ·exact ⟨2 ^ (64 - i), by rw [← Int.pow_add]; congr 1; omega⟩
   have h4 : m % 2 ^ i = 0 := by exact_mod_cast h3
   refine ⟨m / 2 ^ i, ?_⟩
   rw [hm]
   have := Nat.div_add_mod m (2 ^ i)
   rw [h4] at this
   exact congrArg Nat.cast (by omega)
  obtain ⟨a, ha⟩ := hm
  have e : ((2 ^ 64 : Nat) : Int) = 2 ^ 64 := by norm_cast
  rw [e, ha]
  simp only [Int.toNat_natCast]
  rw [← Nat.two_pow_add_eq_or_of_lt hb a]
  push_cast
  rfl
 rw [key]
 simp only [IntKind.wrap, hk]
 have : ((x % 2 ^ 64 + (b : Int)) % 2 ^ 64) = (x + b) % 2 ^ 64 := by omega
 rw [this]
def numS (s : List UInt8) : Int := s.foldl (fun n c => IntKind.u64.wrap (256 * n + c.toNat)) 0
def digS (n : Int) : Nat → List UInt8
 | 0 => []
 | k + 1 => digS (n / 256) k ++ [UInt8.ofNat (n % 256).toNat]
theorem numS_snoc (s : List UInt8) (c : UInt8) : numS (s ++ [c]) = IntKind.u64.wrap (256 * numS s + c.toNat) := by simp [numS]
theorem numS_take (s : List UInt8) (i : Nat) (h : i < s.length) : numS (s.take (i + 1)) = IntKind.u64.wrap (256 * numS (s.take i) + (s.getD i 0).toNat) := by
 rw [List.take_add_one, List.getElem?_eq_getElem h, List.getD_eq_getElem?_getD, List.getElem?_eq_getElem h]
 exact numS_snoc _ _
theorem numS_range (s : List UInt8) : 0 ≤ numS s ∧ numS s ≤ 18446744073709551615 := by
 have step : ∀ (l : List UInt8) (n : Int), 0 ≤ n ∧ n ≤ 18446744073709551615 → 0 ≤ l.foldl (fun n c => IntKind.u64.wrap (256 * n + c.toNat)) n ∧ l.foldl (fun n c => IntKind.u64.wrap (256 * n + c.toNat)) n ≤ 18446744073709551615 := by
  intro l
  induction l with
  | nil => exact fun n h => h
  | cons c l ih =>
   intro n _
   refine ih _ ?_
   simp only [wrap_u64]
   omega
 exact step s 0 (by omega)
theorem digS_length : ∀ (k : Nat) (n : Int), (digS n k).length = k
 | 0, _ => rfl
 | k + 1, n => by simp [digS, digS_length k]
theorem digS_get : ∀ (k : Nat) (n : Int) (i : Nat), i < k → (digS n k).getD (k - 1 - i) 0 = UInt8.ofNat ((n / 256 ^ i) % 256).toNat
 | 0, _, _, h => by omega
 | k + 1, n, 0, _ => by
  simp only [digS, List.getD_eq_getElem?_getD]
  rw [List.getElem?_append_right (by rw [digS_length]; omega)]
  simp [digS_length]
 | k + 1, n, i + 1, h => by
  have ih := digS_get k (n / 256) i (by omega)
  simp only [digS, List.getD_eq_getElem?_getD] at ih ⊢
  rw [List.getElem?_append_left (by rw [digS_length]; omega), show k + 1 - 1 - (i + 1) = k - 1 - i by omega, ih]
  rw [Int.ediv_ediv_of_nonneg (by decide), Int.pow_succ, Int.mul_comm]
theorem shr_dig {kd : IntKind} (hk : kd.bits = 64) (n : Int) (i : Nat) (hi : i < 8) : shrI kd n (8 * i) = n / 256 ^ i := by
 unfold shrI
 have h1 : min (8 * (i : Int)).toNat kd.bits = 8 * i := by rw [hk]; omega
 rw [h1, Int.fdiv_eq_ediv_of_nonneg _ (Int.le_of_lt (Int.pow_pos (by decide))), Int.pow_mul]
 rfl
theorem shl8_u64 (n : Int) : shlI .u64 n 8 = IntKind.u64.wrap (n * 256) := by simp [shlI, IntKind.bits]
theorem num_step_u64 (n : Int) (c : UInt8) : orI .u64 (shlI .u64 n 8) (IntKind.u64.wrap c.toNat) = IntKind.u64.wrap (256 * n + c.toNat) := by
 have hc := c.toNat_lt
 rw [shl8_u64, orI_join rfl 8 (by decide)]
 ·simp only [wrap_u64]; omega
 ·simp only [wrap_u64]; omega
 ·simp only [wrap_u64]; omega
 ·simp only [wrap_u64]; omega
end Pw
namespace Pw
open Go
structure Rd where
 s : List UInt8
 at_ : Int
 err : Int
 fat : Int
def Rd.av (r : Rd) : AV := .agg [.str r.s, .int .i64 r.at_, .int .i64 r.err, .int .i64 r.fat]
def rdOK (r : Rd) : Bool := decide (0 ≤ r.at_) && decide (r.at_ ≤ r.s.length) && (if r.err = 0 then decide (r.fat = 0) else decide (1 ≤ r.err) && decide (r.err ≤ 23) && decide (0 ≤ r.fat) && decide (r.fat ≤ r.s.length))
def rdUse (r : Rd) : Rd := if rdOK r = true then r else ⟨[], 0, 10, 0⟩
def rdFail (r : Rd) (e a : Int) : Rd := if r.err = 0 then ⟨r.s, r.at_, e, a⟩ else r
def rdTake (r : Rd) (n : Int) : Rd × List UInt8 :=
 if r.err ≠ 0 then (r, []) else if r.s.length - r.at_ < n then (rdFail r 5 r.at_, []) else (⟨r.s, r.at_ + n, r.err, r.fat⟩, (r.s.drop r.at_.toNat).take n.toNat)
def okSize (n : Int) : Bool := n == 1 || n == 2 || n == 4 || n == 8
def rdUint (r : Rd) (n : Int) : Rd × Int :=
 if okSize n = true then ((rdTake (rdUse r) n).1, numS (rdTake (rdUse r) n).2) else (rdFail (rdUse r) 2 (rdUse r).at_, 0)
def rdInt (r : Rd) : Rd × Int := ((rdTake (rdUse r) 8).1, IntKind.i64.wrap (numS (rdTake (rdUse r) 8).2))
def rdBytes (r : Rd) (n : Int) : Rd × List UInt8 := if n < 0 then (rdFail (rdUse r) 2 (rdUse r).at_, []) else rdTake (rdUse r) n
def rdSized (r : Rd) (top : Int) : Rd × List UInt8 :=
 if top < 0 ∨ 65535 < top then (rdFail (rdUse r) 2 (rdUse r).at_, [])
 else if (rdTake (rdUse r) 2).1.err ≠ 0 then ((rdTake (rdUse r) 2).1, [])
 else if top < numS (rdTake (rdUse r) 2).2 then (rdFail (rdUse r) 4 (rdUse r).at_, [])
 else rdTake (rdTake (rdUse r) 2).1 (numS (rdTake (rdUse r) 2).2)
def rdWant (r : Rd) (s : List UInt8) : Rd := if (rdTake (rdUse r) s.length).1.err = 0 ∧ (rdTake (rdUse r) s.length).2 ≠ s then rdFail (rdUse r) 3 (rdUse r).at_ else (rdTake (rdUse r) s.length).1
def rdFailX (r : Rd) (e a : Int) : Rd := rdFail (rdUse r) (if e < 1 ∨ 23 < e then 3 else e) (minI (maxI a 0) (rdUse r).s.length)
def rdEnd (r : Rd) : Rd := if (rdUse r).at_ < (rdUse r).s.length then rdFail (rdUse r) 4 (rdUse r).at_ else rdUse r
theorem numS_two (l : List UInt8) (h : l.length ≤ 2) : 0 ≤ numS l ∧ numS l ≤ 65535 := by
 match l, h with
 | [], _ => simp [numS]
 | [a], _ =>
  have := a.toNat_lt
  simp only [numS, List.foldl, wrap_u64]
  omega
 | [a, b], _ =>
  have := a.toNat_lt
  have := b.toNat_lt
  simp only [numS, List.foldl, wrap_u64]
  omega
 | _ :: _ :: _ :: _, h => simp at h
theorem numS_two' (s : List UInt8) (p q : Nat) (h : q ≤ p + 2) : 0 ≤ numS (List.take (q - p) (List.drop p s)) ∧ numS (List.take (q - p) (List.drop p s)) ≤ 65535 :=
 numS_two _ (by simp only [List.length_take]; omega)
end Pw
namespace Pw
open Go
structure Wr where
 s : List UInt8
 most : Int
 err : Int
def Wr.av (w : Wr) : AV := .agg [.str w.s, .int .i64 w.most, .int .i64 w.err]
def wrOK (w : Wr) : Bool := decide (0 ≤ w.most) && decide (w.most ≤ 20000) && decide (w.s.length ≤ w.most) && decide (0 ≤ w.err) && decide (w.err ≤ 23)
def wrUse (w : Wr) : Wr := if wrOK w = true then w else ⟨[], 0, 10⟩
def wrStop (w : Wr) (e : Int) : Wr := if w.err = 0 then ⟨w.s, w.most, e⟩ else w
def wrAdd (w : Wr) (t : List UInt8) : Wr := if w.err ≠ 0 then w else if w.most - w.s.length < t.length then ⟨w.s, w.most, 4⟩ else ⟨w.s ++ t, w.most, w.err⟩
def wrPut (w : Wr) (size n : Int) : Wr := if okSize size = false ∨ numS (digS n size.toNat) ≠ n then wrStop (wrUse w) 2 else wrAdd (wrUse w) (digS n size.toNat)
def wrPutX (w : Wr) (t : List UInt8) (x : Int) : Wr := if x ≠ 0 then wrStop w x else wrAdd w t
def wrPutI (w : Wr) (n : Int) : Wr := wrAdd (wrUse w) (digS n 8)
def wrPutSized (w : Wr) (t : List UInt8) : Wr := if 65535 < t.length then wrStop (wrUse w) 2 else wrAdd (wrUse w) (digS t.length 2 ++ t)
def wrDone (w : Wr) : List UInt8 × Int := if (wrUse w).err ≠ 0 then ([], (wrUse w).err) else ((wrUse w).s, 0)
end Pw
namespace Pw
theorem wrUse_bounds (w : Wr) : 0 ≤ (wrUse w).most ∧ (wrUse w).most ≤ 20000 ∧ (wrUse w).s.length ≤ (wrUse w).most ∧ 0 ≤ (wrUse w).err ∧ (wrUse w).err ≤ 23 := by
 unfold wrUse
 split
 ·rename_i h
  simp only [wrOK, Bool.and_eq_true, decide_eq_true_eq] at h
  omega
 ·simp
theorem numS_digS : ∀ (k : Nat) (n : Int), 0 ≤ n → k ≤ 8 → numS (digS n k) = n % 256 ^ k
 | 0, n, _, _ => by simp [digS, numS, Int.emod_one]
 | k + 1, n, hn, hk => by
  have ih := numS_digS k (n / 256) (Int.ediv_nonneg hn (by decide)) (by omega)
  rw [digS, numS_snoc, ih]
  have hb : (UInt8.ofNat (n % 256).toNat).toNat = (n % 256).toNat := by
   rw [UInt8.toNat_ofNat']
   omega
  rw [hb, wrap_u64]
  have h1 : n % 256 ^ (k + 1) = 256 * (n / 256 % 256 ^ k) + n % 256 := by
   have e1 := Int.emod_add_mul_ediv n 256
   have e2 := Int.emod_add_mul_ediv (n / 256) (256 ^ k)
   have e3 : n = (256 * (n / 256 % 256 ^ k) + n % 256) + 256 ^ (k + 1) * (n / 256 / 256 ^ k) := by
    rw [Int.pow_succ]
    have : (256 : Int) ^ k * 256 * (n / 256 / 256 ^ k) = 256 * (256 ^ k * (n / 256 / 256 ^ k)) := by
     rw [Int.mul_comm (256 ^ k) 256, Int.mul_assoc]
    rw [this]
    omega
   have p0 : (0 : Int) < 256 ^ k := Int.pow_pos (by decide)
   have l1 : n / 256 % 256 ^ k < 256 ^ k := Int.emod_lt_of_pos _ p0
   have l0 : 0 ≤ n / 256 % 256 ^ k := Int.emod_nonneg _ (by omega)
   conv => lhs; rw [e3]
   rw [Int.add_mul_emod_self_left, Int.emod_eq_of_lt]
   ·omega
   ·rw [Int.pow_succ]
    omega
  have p0 : (0 : Int) < 256 ^ k := Int.pow_pos (by decide)
  have p1 : (256 : Int) ^ k ≤ 256 ^ 7 := by
   have h := Int.ofNat_le.2 (Nat.pow_le_pow_right (n := 256) (by decide) (show k ≤ 7 by omega))
   rw [Int.natCast_pow, Int.natCast_pow] at h
   exact h
  have l1 : n / 256 % 256 ^ k < 256 ^ k := Int.emod_lt_of_pos _ p0
  have l0 : 0 ≤ n / 256 % 256 ^ k := Int.emod_nonneg _ (by omega)
  rw [h1]
  have p7 : (256 : Int) ^ 7 = 72057594037927936 := by decide
  rw [p7] at p1
  omega
theorem too_great {n : Int} (hn : 0 ≤ n) (h2 : n ≤ 18446744073709551615) {k : Int} (hk : okSize k = true) : (numS (digS n k.toNat) ≠ n ↔ (k < 8 ∧ shrI .u64 n (8 * k) ≠ 0)) := by
 simp only [okSize, Bool.or_eq_true, beq_iff_eq] at hk
 rcases hk with ((rfl | rfl) | rfl) | rfl
 ·have := numS_digS 1 n hn (by decide)
  have h3 := shr_dig (kd := .u64) rfl n 1 (by decide)
  have e : ((8 : Int) * 1) = 8 * (1 : Nat) := by decide
  rw [show Int.toNat 1 = 1 from rfl, this, e, h3]
  omega
 ·have := numS_digS 2 n hn (by decide)
  have h3 := shr_dig (kd := .u64) rfl n 2 (by decide)
  have e : ((8 : Int) * 2) = 8 * (2 : Nat) := by decide
  rw [show Int.toNat 2 = 2 from rfl, this, e, h3]
  omega
 ·have := numS_digS 4 n hn (by decide)
  have h3 := shr_dig (kd := .u64) rfl n 4 (by decide)
  have e : ((8 : Int) * 4) = 8 * (4 : Nat) := by decide
  rw [show Int.toNat 4 = 4 from rfl, this, e, h3]
  omega
 ·have := numS_digS 8 n hn (by decide)
  rw [show Int.toNat 8 = 8 from rfl, this]
  omega
end Pw
