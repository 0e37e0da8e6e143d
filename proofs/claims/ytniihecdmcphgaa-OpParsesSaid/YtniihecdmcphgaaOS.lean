/- OP S: operations, as functions of Lean. -/
import Derived.Test.YtniihecdmcphgaaW1
namespace Pw
open Go
set_option linter.unusedSimpArgs false
inductive Fld
 | ten | lab | num | mx | ids | txt
structure Opr where
 k : Int
 t : Int
 l : Int
 x : List UInt8
 n : Int
 m : Int
 il : Int
 id : Int
def Opr.av (o : Opr) : AV := .agg [.int .i64 o.k, .int .i64 o.t, .int .u64 o.l, .str o.x, .int .i64 o.n, .int .i64 o.m, .int .u64 o.il, .int .u64 o.id]
def Opr.zero : Opr := ⟨0, 0, 0, [], 0, 0, 0, 0⟩
def fieldsOf (k : Int) : List Fld :=
 if k = 1 then [.ten, .lab] else if k = 2 then [.ten, .txt] else if k = 3 then [.ten, .num] else if k = 4 then [.txt] else if k = 5 then []
 else if k = 6 then [.ten, .mx] else if k = 7 then [.ten, .num, .ids] else [.ten, .num, .mx]
def opChk (o : Opr) : Int := if ¬ (1 ≤ o.k ∧ o.k ≤ 8) then 11 else if (o.k = 2 ∨ o.k = 4) ∧ 1000 < (o.x.length : Int) then 4 else 0
def wFld (o : Opr) (w : Wr) : Fld → Wr
 | .ten => wrPut w 8 (IntKind.u64.wrap o.t)
 | .lab => wrPut w 8 o.l
 | .num => wrPut w 8 (IntKind.u64.wrap o.n)
 | .mx => wrPut w 8 (IntKind.u64.wrap o.m)
 | .ids => wrPut (wrPut w 8 o.il) 8 o.id
 | .txt => wrPutSized w o.x
def opW (o : Opr) : Wr := (fieldsOf o.k).foldl (wFld o) (wrPut (wrUse ⟨[], 20000, 0⟩) 1 o.k)
def opBytes (o : Opr) : List UInt8 × Int := if opChk o ≠ 0 then ([], opChk o) else wrDone (opW o)
def cFld (o c : Opr) : Fld → Opr
 | .ten => ⟨c.k, o.t, c.l, c.x, c.n, c.m, c.il, c.id⟩
 | .lab => ⟨c.k, c.t, o.l, c.x, c.n, c.m, c.il, c.id⟩
 | .num => ⟨c.k, c.t, c.l, c.x, o.n, c.m, c.il, c.id⟩
 | .mx => ⟨c.k, c.t, c.l, c.x, c.n, o.m, c.il, c.id⟩
 | .ids => ⟨c.k, c.t, c.l, c.x, c.n, c.m, o.il, o.id⟩
 | .txt => ⟨c.k, c.t, c.l, o.x, c.n, c.m, c.il, c.id⟩
def opCl (o : Opr) : Opr := (fieldsOf o.k).foldl (cFld o) ⟨o.k, 0, 0, [], 0, 0, 0, 0⟩
def opClean (o : Opr) : Opr × Int := if opChk o ≠ 0 then (Opr.zero, opChk o) else (opCl o, 0)
def opTo (o : Opr) : Int := if ¬ (1 ≤ o.k ∧ o.k ≤ 8) ∨ o.k = 4 ∨ o.k = 5 ∨ o.t < 1 ∨ 6 < o.t then 0 else o.t
def rFld (p : Opr × Rd) : Fld → Opr × Rd
 | .ten => (⟨p.1.k, IntKind.i64.wrap (rdUint p.2 8).2, p.1.l, p.1.x, p.1.n, p.1.m, p.1.il, p.1.id⟩, (rdUint p.2 8).1)
 | .lab => (⟨p.1.k, p.1.t, (rdUint p.2 8).2, p.1.x, p.1.n, p.1.m, p.1.il, p.1.id⟩, (rdUint p.2 8).1)
 | .num => (⟨p.1.k, p.1.t, p.1.l, p.1.x, IntKind.i64.wrap (rdUint p.2 8).2, p.1.m, p.1.il, p.1.id⟩, (rdUint p.2 8).1)
 | .mx => (⟨p.1.k, p.1.t, p.1.l, p.1.x, p.1.n, IntKind.i64.wrap (rdUint p.2 8).2, p.1.il, p.1.id⟩, (rdUint p.2 8).1)
 | .ids => (⟨p.1.k, p.1.t, p.1.l, p.1.x, p.1.n, p.1.m, (rdUint p.2 8).2, (rdUint (rdUint p.2 8).1 8).2⟩, (rdUint (rdUint p.2 8).1 8).1)
 | .txt => (⟨p.1.k, p.1.t, p.1.l, (rdSized p.2 1000).2, p.1.n, p.1.m, p.1.il, p.1.id⟩, (rdSized p.2 1000).1)
def opNext (s : List UInt8) (a : Int) : Opr × Rd :=
 if (rdUint ⟨s, a, 0, 0⟩ 1).1.err ≠ 0 then (Opr.zero, (rdUint ⟨s, a, 0, 0⟩ 1).1)
 else if ¬ (1 ≤ (rdUint ⟨s, a, 0, 0⟩ 1).2 ∧ (rdUint ⟨s, a, 0, 0⟩ 1).2 ≤ 8) then (⟨(rdUint ⟨s, a, 0, 0⟩ 1).2, 0, 0, [], 0, 0, 0, 0⟩, rdFailX (rdUint ⟨s, a, 0, 0⟩ 1).1 11 a)
 else (fieldsOf (rdUint ⟨s, a, 0, 0⟩ 1).2).foldl rFld (⟨(rdUint ⟨s, a, 0, 0⟩ 1).2, 0, 0, [], 0, 0, 0, 0⟩, (rdUint ⟨s, a, 0, 0⟩ 1).1)
def opParse (s : List UInt8) : Opr × Int × Int :=
 if (rdEnd (opNext s 0).2).err ≠ 0 then (Opr.zero, (rdEnd (opNext s 0).2).err, (rdEnd (opNext s 0).2).fat) else ((opNext s 0).1, 0, 0)
theorem wrAdd_len {w : Wr} {t : List UInt8} (h : w.s.length ≤ w.most) : ((wrAdd w t).s.length : Int) ≤ w.most := by
 unfold wrAdd
 split
 ·exact h
 ·split
  ·exact h
  ·simp only [List.length_append]
   omega
theorem wrStop_len {w : Wr} {e : Int} (h : w.s.length ≤ w.most) : ((wrStop w e).s.length : Int) ≤ w.most := by
 unfold wrStop
 split <;> exact h
theorem wrPut_len (w : Wr) (k n : Int) : (wrPut w k n).s.length ≤ 9223372036854775807 := by
 have hb := wrUse_bounds w
 have h1 := wrStop_len (w := wrUse w) (e := 2) hb.2.2.1
 have h2 := wrAdd_len (w := wrUse w) (t := digS n k.toNat) hb.2.2.1
 unfold wrPut
 split <;> omega
theorem wrPutSized_len (w : Wr) (t : List UInt8) : (wrPutSized w t).s.length ≤ 9223372036854775807 := by
 have hb := wrUse_bounds w
 have h1 := wrStop_len (w := wrUse w) (e := 2) hb.2.2.1
 have h2 := wrAdd_len (w := wrUse w) (t := digS t.length 2 ++ t) hb.2.2.1
 unfold wrPutSized
 split <;> omega
theorem rdTake_sl (r : Rd) (n : Int) : (rdTake r n).1.s = r.s := by
 unfold rdTake rdFail
 split
 ·rfl
 ·split
  ·split <;> rfl
  ·rfl
theorem rdUse_sl (r : Rd) : (rdUse r).s.length ≤ r.s.length := by
 unfold rdUse
 split <;> simp
theorem tk_len {r : Rd} {n : Int} (h : r.s.length ≤ 9223372036854775807) : (rdTake (rdUse r) n).1.s.length ≤ 9223372036854775807 := by
 rw [rdTake_sl]
 exact Nat.le_trans (rdUse_sl r) h
theorem rdFail_sl (r : Rd) (e a : Int) : (rdFail r e a).s = r.s := by
 unfold rdFail
 split <;> rfl
theorem sz_len {r : Rd} {n : Int} (h : r.s.length ≤ 9223372036854775807) : (rdSized r n).1.s.length ≤ 9223372036854775807 := by
 have h2 := Nat.le_trans (rdUse_sl r) h
 unfold rdSized
 split
 ·rw [rdFail_sl]; exact h2
 ·split
  ·rw [rdTake_sl]; exact h2
  ·split
   ·rw [rdFail_sl]; exact h2
   ·rw [rdTake_sl, rdTake_sl]; exact h2
theorem rdUint_8 (r : Rd) : rdUint r 8 = ((rdTake (rdUse r) 8).1, numS (rdTake (rdUse r) 8).2) := rfl
theorem numS_one (b : UInt8) : numS [b] = b.toNat := by
 have := b.toNat_lt
 simp only [numS, List.foldl, wrap_u64]
 omega
theorem rd_one (b : UInt8) (s : List UInt8) : rdTake (rdUse ⟨b :: s, 0, 0, 0⟩) 1 = (⟨b :: s, 1, 0, 0⟩, [b]) := by
 have h : rdUse ⟨b :: s, 0, 0, 0⟩ = ⟨b :: s, 0, 0, 0⟩ := by simp [rdUse, rdOK]; try omega
 rw [h]
 unfold rdTake
 rw [if_neg (by simp), if_neg (by simp only [List.length_cons]; omega)]
 rfl
theorem rdU_one (b : UInt8) (s : List UInt8) : rdUint ⟨b :: s, 0, 0, 0⟩ 1 = (⟨b :: s, 1, 0, 0⟩, (b.toNat : Int)) := by
 unfold rdUint
 rw [rd_one, numS_one]
 rfl
theorem rdF_one (b : UInt8) (s : List UInt8) : rdFailX ⟨b :: s, 1, 0, 0⟩ 11 0 = ⟨b :: s, 1, 11, 0⟩ := by
 have h : rdUse ⟨b :: s, 1, 0, 0⟩ = ⟨b :: s, 1, 0, 0⟩ := by simp [rdUse, rdOK]; omega
 unfold rdFailX
 rw [h]
 have hm : minI (maxI 0 0) ((b :: s).length : Int) = 0 := by
  have h0 : maxI 0 0 = 0 := rfl
  rw [h0]
  unfold minI
  exact if_neg (by omega)
 show rdFail ⟨b :: s, 1, 0, 0⟩ 11 (minI (maxI 0 0) ((b :: s).length : Int)) = _
 rw [hm]
 rfl
theorem rdE_one (b : UInt8) (s : List UInt8) : rdEnd ⟨b :: s, 1, 11, 0⟩ = ⟨b :: s, 1, 11, 0⟩ := by
 have h : rdUse ⟨b :: s, 1, 11, 0⟩ = ⟨b :: s, 1, 11, 0⟩ := by simp [rdUse, rdOK]; omega
 unfold rdEnd
 rw [h]
 simp [rdFail]
theorem wrap_u64_lo (t : Int) : 0 ≤ IntKind.u64.wrap t := by rw [wrap_u64]; omega
theorem wrap_u64_hi (t : Int) : IntKind.u64.wrap t ≤ 18446744073709551615 := by rw [wrap_u64]; omega
end Pw
namespace Pw
open Go
set_option linter.unusedSimpArgs false
set_option maxRecDepth 100000
theorem numS_lt : ∀ (k : Nat) (s : List UInt8), s.length = k → k ≤ 8 → numS s < 256 ^ k ∧ digS (numS s) k = s
 | 0, s, h, _ => by
  obtain rfl := List.length_eq_zero_iff.1 h
  simp [numS, digS]
 | k + 1, s, h, hk => by
  have hs : s ≠ [] := by intro h0; subst h0; simp at h
  obtain ⟨t, c, rfl⟩ : ∃ t c, s = t ++ [c] := ⟨s.dropLast, s.getLast hs, (List.dropLast_concat_getLast hs).symm⟩
  have ht : t.length = k := by simpa using h
  obtain ⟨h1, h2⟩ := numS_lt k t ht (by omega)
  have h3 := (numS_range t).1
  have hc := c.toNat_lt
  have hp : (256 : Int) ^ k ≤ 256 ^ 7 := by
   have h := Int.ofNat_le.2 (Nat.pow_le_pow_right (n := 256) (by decide) (show k ≤ 7 by omega))
   rw [Int.natCast_pow, Int.natCast_pow] at h
   exact h
  have p7 : (256 : Int) ^ 7 = 72057594037927936 := by decide
  rw [p7] at hp
  have hw : numS (t ++ [c]) = 256 * numS t + c.toNat := by
   rw [numS_snoc, wrap_u64]
   omega
  refine ⟨?_, ?_⟩
  ·rw [hw, Int.pow_succ]
   omega
  ·rw [hw, digS]
   have e1 : (256 * numS t + (c.toNat : Int)) / 256 = numS t := by omega
   have e2 : (256 * numS t + (c.toNat : Int)) % 256 = c.toNat := by omega
   rw [e1, e2, h2]
   congr 2
   simp
theorem digS_numS {s : List UInt8} {k : Nat} (h : s.length = k) (hk : k ≤ 8) : digS (numS s) k = s := (numS_lt k s h hk).2
theorem num8 {n : Int} (h0 : 0 ≤ n) (h1 : n ≤ 18446744073709551615) : numS (digS n (Int.toNat 8)) = n := by
 show numS (digS n 8) = n
 rw [numS_digS 8 n h0 (by decide)]
 omega
theorem wrUse_big {s : List UInt8} (h : s.length ≤ 20000) : wrUse ⟨s, 20000, 0⟩ = ⟨s, 20000, 0⟩ := by
 have : wrOK ⟨s, 20000, 0⟩ = true := by simp [wrOK]; omega
 simp [wrUse, this]
theorem wrAdd_big {s t : List UInt8} (h : s.length + t.length ≤ 20000) : wrAdd ⟨s, 20000, 0⟩ t = ⟨s ++ t, 20000, 0⟩ := by
 unfold wrAdd
 rw [if_neg (by simp), if_neg (by simp only; omega)]
theorem wrPut_big {s : List UInt8} {k n : Int} (hk : okSize k = true) (hn : numS (digS n k.toNat) = n) (h : s.length + k.toNat ≤ 20000) : wrPut ⟨s, 20000, 0⟩ k n = ⟨s ++ digS n k.toNat, 20000, 0⟩ := by
 unfold wrPut
 rw [hk, hn, wrUse_big (by omega), wrAdd_big (by rw [digS_length]; omega)]
 simp
theorem wrPutSized_big {s t : List UInt8} (ht : t.length ≤ 1000) (h : s.length + 1002 ≤ 20000) : wrPutSized ⟨s, 20000, 0⟩ t = ⟨s ++ (digS t.length 2 ++ t), 20000, 0⟩ := by
 unfold wrPutSized
 rw [if_neg (by omega), wrUse_big (by omega), wrAdd_big (by rw [List.length_append, digS_length]; omega)]
structure OkN (o : Opr) : Prop where
 t0 : -9223372036854775808 ≤ o.t
 t1 : o.t ≤ 9223372036854775807
 n0 : -9223372036854775808 ≤ o.n
 n1 : o.n ≤ 9223372036854775807
 m0 : -9223372036854775808 ≤ o.m
 m1 : o.m ≤ 9223372036854775807
 l0 : 0 ≤ o.l
 l1 : o.l ≤ 18446744073709551615
 a0 : 0 ≤ o.il
 a1 : o.il ≤ 18446744073709551615
 b0 : 0 ≤ o.id
 b1 : o.id ≤ 18446744073709551615
 x1 : o.x.length ≤ 1000
def encF (o : Opr) : Fld → List UInt8
 | .ten => digS (IntKind.u64.wrap o.t) 8
 | .lab => digS o.l 8
 | .num => digS (IntKind.u64.wrap o.n) 8
 | .mx => digS (IntKind.u64.wrap o.m) 8
 | .ids => digS o.il 8 ++ digS o.id 8
 | .txt => digS o.x.length 2 ++ o.x
def enc (o : Opr) : List UInt8 := digS o.k 1 ++ (fieldsOf o.k).flatMap (encF o)
theorem encF_len {o : Opr} (h : OkN o) (f : Fld) : (encF o f).length ≤ 1002 := by
 have := h.x1
 cases f <;> simp only [encF, List.length_append, digS_length] <;> omega
theorem wFld_ok {o : Opr} (h : OkN o) {a : List UInt8} (ha : a.length + 1002 ≤ 20000) (f : Fld) : wFld o ⟨a, 20000, 0⟩ f = ⟨a ++ encF o f, 20000, 0⟩ := by
 have h8 : Int.toNat 8 = 8 := rfl
 cases f
 ·exact wrPut_big rfl (num8 (wrap_u64_lo _) (wrap_u64_hi _)) (by omega)
 ·exact wrPut_big rfl (num8 h.l0 h.l1) (by omega)
 ·exact wrPut_big rfl (num8 (wrap_u64_lo _) (wrap_u64_hi _)) (by omega)
 ·exact wrPut_big rfl (num8 (wrap_u64_lo _) (wrap_u64_hi _)) (by omega)
 ·show wrPut (wrPut ⟨a, 20000, 0⟩ 8 o.il) 8 o.id = _
  rw [wrPut_big rfl (num8 h.a0 h.a1) (by omega), wrPut_big rfl (num8 h.b0 h.b1) (by rw [List.length_append, digS_length]; omega), List.append_assoc]
  rfl
 ·exact wrPutSized_big h.x1 (by omega)
theorem foldW {o : Opr} (h : OkN o) : ∀ (fs : List Fld) (a : List UInt8), a.length + 1002 * fs.length ≤ 20000 → fs.foldl (wFld o) ⟨a, 20000, 0⟩ = ⟨a ++ fs.flatMap (encF o), 20000, 0⟩
 | [], a, _ => by simp
 | f :: fs, a, ha => by
  simp only [List.length_cons] at ha
  have hl := encF_len h f
  rw [List.foldl_cons, wFld_ok h (by omega), foldW h fs _ (by rw [List.length_append]; omega), List.flatMap_cons, List.append_assoc]
theorem fields_len (k : Int) : (fieldsOf k).length ≤ 3 := by
 unfold fieldsOf
 repeat' split
 all_goals simp
theorem flat_len {o : Opr} (h : OkN o) : ∀ fs : List Fld, (fs.flatMap (encF o)).length ≤ 1002 * fs.length
 | [] => by simp
 | f :: fs => by
  have h1 := encF_len h f
  have h2 := flat_len h fs
  rw [List.flatMap_cons, List.length_append, List.length_cons]
  omega
theorem opBytes_ok {o : Opr} (h : OkN o) (hc : opChk o = 0) : opBytes o = (enc o, 0) := by
 have hk : 1 ≤ o.k ∧ o.k ≤ 8 := by
  unfold opChk at hc
  split at hc
  ·cases hc
  ·rename_i hh; exact Decidable.not_not.1 hh
 have h1 : wrPut (wrUse ⟨[], 20000, 0⟩) 1 o.k = ⟨digS o.k 1, 20000, 0⟩ := by
  rw [wrUse_big (by simp), wrPut_big rfl (by show numS (digS o.k 1) = o.k; rw [numS_digS 1 _ (by omega) (by decide)]; omega) (by simp)]
  rfl
 have hl := fields_len o.k
 have h3 := flat_len h (fieldsOf o.k)
 unfold opBytes opW
 rw [if_neg (by simp [hc]), h1, foldW h _ _ (by rw [digS_length]; omega)]
 unfold wrDone
 rw [wrUse_big (by rw [List.length_append, digS_length]; omega)]
 rfl
theorem kinds8 {k : Int} (h : 1 ≤ k ∧ k ≤ 8) : k = 1 ∨ k = 2 ∨ k = 3 ∨ k = 4 ∨ k = 5 ∨ k = 6 ∨ k = 7 ∨ k = 8 := by omega
theorem opChk_k {o : Opr} (hc : opChk o = 0) : 1 ≤ o.k ∧ o.k ≤ 8 := by
 unfold opChk at hc
 split at hc
 ·cases hc
 ·rename_i hh; exact Decidable.not_not.1 hh
theorem enc_cl {o : Opr} (hc : opChk o = 0) : enc (opCl o) = enc o ∧ opCl (opCl o) = opCl o ∧ opTo (opCl o) = opTo o ∧ (OkN o → OkN (opCl o) ∧ opChk (opCl o) = 0) := by
 obtain ⟨k, t, l, x, n, m, il, id⟩ := o
 have hk := kinds8 (opChk_k hc)
 dsimp only at hk
 rcases hk with rfl | rfl | rfl | rfl | rfl | rfl | rfl | rfl <;>
 ·refine ⟨rfl, rfl, by simp [opTo, opCl, fieldsOf, cFld], fun h => ⟨?_, ?_⟩⟩
  ·have := h.t0; have := h.t1; have := h.n0; have := h.n1; have := h.m0; have := h.m1; have := h.l0; have := h.l1; have := h.a0; have := h.a1; have := h.b0; have := h.b1; have := h.x1
   constructor <;> simp_all [opCl, fieldsOf, cFld]
  ·have := h.x1
   dsimp only at this
   simp [opChk, opCl, fieldsOf, cFld] <;> omega
end Pw
namespace Pw
open Go
set_option linter.unusedSimpArgs false
set_option maxRecDepth 100000
theorem rdUse_ok {s : List UInt8} {a : Int} (h0 : 0 ≤ a) (h1 : a ≤ s.length) : rdUse ⟨s, a, 0, 0⟩ = ⟨s, a, 0, 0⟩ := by
 have : rdOK ⟨s, a, 0, 0⟩ = true := by simp [rdOK, h0, h1]
 simp [rdUse, this]
end Pw
namespace Pw
open Go
set_option linter.unusedSimpArgs false
set_option maxRecDepth 100000
structure RdAt (s : List UInt8) (r : Rd) : Prop where
 s_eq : r.s = s
 ok : rdOK r = true
theorem RdAt.use {s : List UInt8} {r : Rd} (h : RdAt s r) : rdUse r = r := by simp [rdUse, h.ok]
theorem RdAt.bounds {s : List UInt8} {r : Rd} (h : RdAt s r) : 0 ≤ r.at_ ∧ r.at_ ≤ s.length := by
 have := h.ok
 simp only [rdOK, Bool.and_eq_true, decide_eq_true_eq] at this
 rw [← h.s_eq]
 exact ⟨this.1.1, this.1.2⟩
theorem RdAt.fat {s : List UInt8} {r : Rd} (h : RdAt s r) (he : r.err = 0) : r.fat = 0 := by
 have := h.ok
 simp only [rdOK, Bool.and_eq_true, decide_eq_true_eq, he, if_true] at this
 exact this.2
theorem RdAt.fail {s : List UInt8} {r : Rd} (h : RdAt s r) {e : Int} (h0 : 1 ≤ e) (h1 : e ≤ 23) : RdAt s (rdFail r e r.at_) := by
 have hb := h.bounds
 unfold rdFail
 split
 ·refine ⟨h.s_eq, ?_⟩
  rw [← h.s_eq] at hb
  simp only [rdOK, Bool.and_eq_true, decide_eq_true_eq]
  rw [if_neg (by omega)]
  simp only [Bool.and_eq_true, decide_eq_true_eq]
  omega
 ·exact h
theorem rdTake_at {s : List UInt8} {r : Rd} (h : RdAt s r) {n : Int} (hn : 0 ≤ n) : RdAt s (rdTake r n).1 ∧
  ((rdTake r n).1.err = 0 → r.err = 0 ∧ (rdTake r n).1.at_ = r.at_ + n ∧ ((rdTake r n).2.length : Int) = n ∧ s.drop r.at_.toNat = (rdTake r n).2 ++ s.drop (r.at_ + n).toNat) := by
 have hb := h.bounds
 unfold rdTake
 by_cases he : r.err = 0
 ·rw [if_neg (by simp [he])]
  by_cases hs : (r.s.length : Int) - r.at_ < n
  ·rw [if_pos hs]
   refine ⟨h.fail (by decide) (by decide), fun h2 => ?_⟩
   simp only [rdFail, he, if_true] at h2
   cases h2
  ·rw [if_neg hs]
   have hs' := hs
   rw [h.s_eq] at hs'
   refine ⟨⟨h.s_eq, ?_⟩, fun _ => ⟨he, rfl, ?_, ?_⟩⟩
   ·have hf := h.fat he
    simp [rdOK, he, hf]
    omega
   ·rw [h.s_eq]
    simp only [List.length_take, List.length_drop]
    omega
   ·rw [h.s_eq]
    have e1 : (r.at_ + n).toNat = r.at_.toNat + n.toNat := by omega
    show s.drop r.at_.toNat = (s.drop r.at_.toNat).take n.toNat ++ _
    rw [e1, ← List.drop_drop, List.take_append_drop]
 ·rw [if_pos he]
  exact ⟨h, fun h2 => absurd h2 he⟩
theorem rdTake_le (r : Rd) (n : Int) : (rdTake r n).2.length ≤ n.toNat := by
 unfold rdTake
 split
 ·simp
 ·split
  ·simp
  ·simp only [List.length_take, List.length_drop]
   omega
theorem rdUint_at {s : List UInt8} {r : Rd} (h : RdAt s r) : RdAt s (rdUint r 8).1 ∧ 0 ≤ (rdUint r 8).2 ∧ (rdUint r 8).2 ≤ 18446744073709551615 ∧
  ((rdUint r 8).1.err = 0 → r.err = 0 ∧ (rdUint r 8).1.at_ = r.at_ + 8 ∧ s.drop r.at_.toNat = digS (rdUint r 8).2 8 ++ s.drop (r.at_ + 8).toNat) := by
 rw [rdUint_8, h.use]
 obtain ⟨h1, h2⟩ := rdTake_at h (n := 8) (by decide)
 have h3 := numS_range (rdTake r 8).2
 refine ⟨h1, h3.1, h3.2, fun he => ?_⟩
 obtain ⟨a, b, c, d⟩ := h2 he
 refine ⟨a, b, ?_⟩
 show _ = digS (numS (rdTake r 8).2) 8 ++ _
 rw [digS_numS (by omega) (by decide)]
 exact d
theorem rdSized_at {s : List UInt8} {r : Rd} (h : RdAt s r) : RdAt s (rdSized r 1000).1 ∧ (rdSized r 1000).2.length ≤ 1000 ∧
  ((rdSized r 1000).1.err = 0 → r.err = 0 ∧ r.at_ ≤ (rdSized r 1000).1.at_ ∧ s.drop r.at_.toNat = (digS (rdSized r 1000).2.length 2 ++ (rdSized r 1000).2) ++ s.drop (rdSized r 1000).1.at_.toNat) := by
 unfold rdSized
 rw [if_neg (by decide), h.use]
 obtain ⟨h1, h2⟩ := rdTake_at h (n := 2) (by decide)
 have hr := numS_range (rdTake r 2).2
 by_cases he : (rdTake r 2).1.err = 0
 ·obtain ⟨a, b, c, d⟩ := h2 he
  rw [if_neg (by simp [he])]
  by_cases hn : 1000 < numS (rdTake r 2).2
  ·rw [if_pos hn]
   refine ⟨h.fail (by decide) (by decide), by simp, fun h3 => ?_⟩
   simp only [rdFail, a, if_true] at h3
   cases h3
  ·rw [if_neg hn]
   obtain ⟨i1, i2⟩ := rdTake_at h1 hr.1
   refine ⟨i1, ?_, fun h3 => ?_⟩
   ·have := rdTake_le (rdTake r 2).1 (numS (rdTake r 2).2)
    omega
   ·obtain ⟨a', b', c', d'⟩ := i2 h3
    refine ⟨a, by omega, ?_⟩
    have e1 : (digS ((rdTake (rdTake r 2).1 (numS (rdTake r 2).2)).2.length : Int) 2) = (rdTake r 2).2 := by
     rw [c', digS_numS (by omega) (by decide)]
    rw [e1, b', List.append_assoc, ← d', d, b]
 ·rw [if_pos he]
  exact ⟨h1, by simp, fun h3 => absurd h3 he⟩
theorem OkN.zero (k : Int) : OkN ⟨k, 0, 0, [], 0, 0, 0, 0⟩ := by constructor <;> simp
theorem wrap_i64_lo (t : Int) : -9223372036854775808 ≤ IntKind.i64.wrap t := by rw [wrap_i64]; omega
theorem wrap_i64_hi (t : Int) : IntKind.i64.wrap t ≤ 9223372036854775807 := by rw [wrap_i64]; omega
theorem u64_of_i64 {t : Int} (h0 : 0 ≤ t) (h1 : t ≤ 18446744073709551615) : IntKind.u64.wrap (IntKind.i64.wrap t) = t := by
 rw [wrap_i64, wrap_u64]
 omega
theorem rFld_at {s : List UInt8} {c : Opr} {r : Rd} (h : RdAt s r) (hc : OkN c) (f : Fld) : RdAt s (rFld (c, r) f).2 ∧ OkN (rFld (c, r) f).1 ∧
  ((rFld (c, r) f).2.err = 0 → r.err = 0 ∧ r.at_ ≤ (rFld (c, r) f).2.at_ ∧ s.drop r.at_.toNat = encF (rFld (c, r) f).1 f ++ s.drop (rFld (c, r) f).2.at_.toNat) := by
 obtain ⟨t0, t1, n0, n1, m0, m1, l0, l1, a0, a1, b0, b1, x1⟩ := hc
 have h8 := rdUint_at h
 have hw := wrap_i64_lo (rdUint r 8).2
 have hw' := wrap_i64_hi (rdUint r 8).2
 cases f
 ·refine ⟨h8.1, ⟨hw, hw', n0, n1, m0, m1, l0, l1, a0, a1, b0, b1, x1⟩, fun he => ?_⟩
  obtain ⟨a, b, d⟩ := h8.2.2.2 he
  refine ⟨a, ?_, ?_⟩
  ·show r.at_ ≤ (rdUint r 8).1.at_; omega
  ·show _ = digS (IntKind.u64.wrap (IntKind.i64.wrap (rdUint r 8).2)) 8 ++ s.drop (rdUint r 8).1.at_.toNat
   rw [u64_of_i64 h8.2.1 h8.2.2.1, b]; exact d
 ·refine ⟨h8.1, ⟨t0, t1, n0, n1, m0, m1, h8.2.1, h8.2.2.1, a0, a1, b0, b1, x1⟩, fun he => ?_⟩
  obtain ⟨a, b, d⟩ := h8.2.2.2 he
  refine ⟨a, ?_, ?_⟩
  ·show r.at_ ≤ (rdUint r 8).1.at_; omega
  ·show _ = digS (rdUint r 8).2 8 ++ s.drop (rdUint r 8).1.at_.toNat
   rw [b]; exact d
 ·refine ⟨h8.1, ⟨t0, t1, hw, hw', m0, m1, l0, l1, a0, a1, b0, b1, x1⟩, fun he => ?_⟩
  obtain ⟨a, b, d⟩ := h8.2.2.2 he
  refine ⟨a, ?_, ?_⟩
  ·show r.at_ ≤ (rdUint r 8).1.at_; omega
  ·show _ = digS (IntKind.u64.wrap (IntKind.i64.wrap (rdUint r 8).2)) 8 ++ s.drop (rdUint r 8).1.at_.toNat
   rw [u64_of_i64 h8.2.1 h8.2.2.1, b]; exact d
 ·refine ⟨h8.1, ⟨t0, t1, n0, n1, hw, hw', l0, l1, a0, a1, b0, b1, x1⟩, fun he => ?_⟩
  obtain ⟨a, b, d⟩ := h8.2.2.2 he
  refine ⟨a, ?_, ?_⟩
  ·show r.at_ ≤ (rdUint r 8).1.at_; omega
  ·show _ = digS (IntKind.u64.wrap (IntKind.i64.wrap (rdUint r 8).2)) 8 ++ s.drop (rdUint r 8).1.at_.toNat
   rw [u64_of_i64 h8.2.1 h8.2.2.1, b]; exact d
 ·have h9 := rdUint_at h8.1
  refine ⟨h9.1, ⟨t0, t1, n0, n1, m0, m1, l0, l1, h8.2.1, h8.2.2.1, h9.2.1, h9.2.2.1, x1⟩, fun he => ?_⟩
  obtain ⟨a, b, d⟩ := h9.2.2.2 he
  obtain ⟨a', b', d'⟩ := h8.2.2.2 a
  refine ⟨a', ?_, ?_⟩
  ·show r.at_ ≤ (rdUint (rdUint r 8).1 8).1.at_; omega
  ·show _ = (digS (rdUint r 8).2 8 ++ digS (rdUint (rdUint r 8).1 8).2 8) ++ s.drop (rdUint (rdUint r 8).1 8).1.at_.toNat
   rw [List.append_assoc, b, ← d, b']; exact d'
 ·have h9 := rdSized_at h
  refine ⟨h9.1, ⟨t0, t1, n0, n1, m0, m1, l0, l1, a0, a1, b0, b1, h9.2.1⟩, fun he => h9.2.2 he⟩
theorem Fld.ne_enc (c : Opr) (r : Rd) {f g : Fld} (h : f ≠ g) : encF (rFld (c, r) g).1 f = encF c f := by
 cases f <;> cases g <;> first | exact absurd rfl h | rfl
theorem keep_enc {f : Fld} : ∀ (fs : List Fld) (p : Opr × Rd), f ∉ fs → encF (fs.foldl rFld p).1 f = encF p.1 f
 | [], _, _ => rfl
 | g :: fs, p, h => by
  rw [List.foldl_cons, keep_enc fs _ (fun hf => h (List.mem_cons_of_mem _ hf))]
  exact Fld.ne_enc p.1 p.2 (fun hf => h (hf ▸ List.mem_cons_self))
theorem fold_at {s : List UInt8} : ∀ (fs : List Fld) (c : Opr) (r : Rd), RdAt s r → OkN c → fs.Nodup → RdAt s (fs.foldl rFld (c, r)).2 ∧ OkN (fs.foldl rFld (c, r)).1 ∧
  ((fs.foldl rFld (c, r)).2.err = 0 → r.err = 0 ∧ r.at_ ≤ (fs.foldl rFld (c, r)).2.at_ ∧ s.drop r.at_.toNat = fs.flatMap (encF (fs.foldl rFld (c, r)).1) ++ s.drop (fs.foldl rFld (c, r)).2.at_.toNat)
 | [], c, r, h, hc, _ => ⟨h, hc, fun he => ⟨he, Int.le_refl _, by simp⟩⟩
 | f :: fs, c, r, h, hc, hn => by
  obtain ⟨h1, h2, h3⟩ := rFld_at h hc f
  obtain ⟨hf, hn'⟩ := List.nodup_cons.1 hn
  obtain ⟨i1, i2, i3⟩ := fold_at fs (rFld (c, r) f).1 (rFld (c, r) f).2 h1 h2 hn'
  refine ⟨i1, i2, fun he => ?_⟩
  obtain ⟨a, b, d⟩ := i3 he
  obtain ⟨a', b', d'⟩ := h3 a
  refine ⟨a', Int.le_trans b' b, ?_⟩
  rw [d', d, List.flatMap_cons, List.append_assoc]
  congr 1
  exact (keep_enc fs (rFld (c, r) f) hf).symm
theorem fields_nodup (k : Int) : (fieldsOf k).Nodup := by
 unfold fieldsOf
 repeat' split
 all_goals simp
end Pw
namespace Pw
open Go
set_option linter.unusedSimpArgs false
set_option maxRecDepth 100000
theorem rdUint1_at {s : List UInt8} {r : Rd} (h : RdAt s r) : RdAt s (rdUint r 1).1 ∧ 0 ≤ (rdUint r 1).2 ∧
  ((rdUint r 1).1.err = 0 → r.err = 0 ∧ (rdUint r 1).1.at_ = r.at_ + 1 ∧ (rdUint r 1).2 ≤ 255 ∧ s.drop r.at_.toNat = digS (rdUint r 1).2 1 ++ s.drop (r.at_ + 1).toNat) := by
 have e : rdUint r 1 = ((rdTake (rdUse r) 1).1, numS (rdTake (rdUse r) 1).2) := rfl
 rw [e, h.use]
 obtain ⟨h1, h2⟩ := rdTake_at h (n := 1) (by decide)
 have h3 := numS_range (rdTake r 1).2
 refine ⟨h1, h3.1, fun he => ?_⟩
 obtain ⟨a, b, c, d⟩ := h2 he
 have h4 := numS_lt 1 (rdTake r 1).2 (by omega) (by decide)
 refine ⟨a, b, by have := h4.1; simp only; omega, ?_⟩
 show _ = digS (numS (rdTake r 1).2) 1 ++ _
 rw [h4.2]
 exact d
theorem rdFailX_at {s : List UInt8} {r : Rd} (h : RdAt s r) {e a : Int} (h0 : 1 ≤ e) (h1 : e ≤ 23) : RdAt s (rdFailX r e a) ∧ (rdFailX r e a).err ≠ 0 := by
 unfold rdFailX
 rw [h.use, if_neg (by omega)]
 have hm : 0 ≤ minI (maxI a 0) r.s.length ∧ minI (maxI a 0) r.s.length ≤ r.s.length := by
  unfold minI maxI
  split <;> split <;> omega
 have hb := h.bounds
 unfold rdFail
 by_cases he : r.err = 0
 ·rw [if_pos he]
  refine ⟨⟨h.s_eq, ?_⟩, by simp only; omega⟩
  rw [← h.s_eq] at hb
  simp only [rdOK, Bool.and_eq_true, decide_eq_true_eq]
  rw [if_neg (by omega)]
  simp only [Bool.and_eq_true, decide_eq_true_eq]
  omega
 ·rw [if_neg he]
  exact ⟨h, he⟩
theorem rdAt_0 {s : List UInt8} {a : Int} (h0 : 0 ≤ a) (h1 : a ≤ s.length) : RdAt s ⟨s, a, 0, 0⟩ := ⟨rfl, by simp [rdOK, h0, h1]⟩
theorem opNext_rd {s : List UInt8} {a : Int} (h0 : 0 ≤ a) (h1 : a ≤ s.length) : RdAt s (opNext s a).2 ∧ OkN (opNext s a).1 := by
 have h := rdUint1_at (rdAt_0 h0 h1)
 unfold opNext
 split
 ·exact ⟨h.1, OkN.zero 0⟩
 ·split
  ·exact ⟨(rdFailX_at h.1 (by decide) (by decide)).1, OkN.zero _⟩
  ·have h2 := fold_at (fieldsOf (rdUint ⟨s, a, 0, 0⟩ 1).2) ⟨(rdUint ⟨s, a, 0, 0⟩ 1).2, 0, 0, [], 0, 0, 0, 0⟩ (rdUint ⟨s, a, 0, 0⟩ 1).1 h.1 (OkN.zero _) (fields_nodup _)
   exact ⟨h2.1, h2.2.1⟩
end Pw
namespace Pw
open Go
set_option linter.unusedSimpArgs false
set_option maxRecDepth 100000
def CutR (s t : List UInt8) (r' r : Rd) : Prop := RdAt s r' ∧ (r'.err = 5 ∨ (r'.err = r.err ∧ r'.at_ = r.at_ ∧ r'.fat = r.fat ∧ RdAt (s ++ t) r))
theorem rdTake_err {r : Rd} {n : Int} (h : r.err ≠ 0) : rdTake r n = (r, []) := by unfold rdTake; rw [if_pos h]
theorem CutR.use {s t : List UInt8} {r' r : Rd} (h : CutR s t r' r) : CutR s t (rdUse r') (rdUse r) := by
 obtain ⟨h1, h2⟩ := h
 rw [h1.use]
 refine ⟨h1, h2.imp id fun ⟨a, b, c, d⟩ => ?_⟩
 rw [d.use]
 exact ⟨a, b, c, d⟩
end Pw
namespace Pw
open Go
set_option linter.unusedSimpArgs false
set_option maxRecDepth 100000
structure RgN (o : Opr) : Prop where
 t : -9223372036854775808 ≤ o.t ∧ o.t ≤ 9223372036854775807
 n : -9223372036854775808 ≤ o.n ∧ o.n ≤ 9223372036854775807
 m : -9223372036854775808 ≤ o.m ∧ o.m ≤ 9223372036854775807
 l : 0 ≤ o.l ∧ o.l ≤ 18446744073709551615
 il : 0 ≤ o.il ∧ o.il ≤ 18446744073709551615
 id : 0 ≤ o.id ∧ o.id ≤ 18446744073709551615
def rgB (o : Opr) : Bool := decide ((-9223372036854775808 ≤ o.t ∧ o.t ≤ 9223372036854775807) ∧ (-9223372036854775808 ≤ o.n ∧ o.n ≤ 9223372036854775807) ∧ (-9223372036854775808 ≤ o.m ∧ o.m ≤ 9223372036854775807) ∧
 (0 ≤ o.l ∧ o.l ≤ 18446744073709551615) ∧ (0 ≤ o.il ∧ o.il ≤ 18446744073709551615) ∧ (0 ≤ o.id ∧ o.id ≤ 18446744073709551615))
theorem RgN.of {o : Opr} (h : rgB o = true) : RgN o := by
 obtain ⟨a, b, c, d, e, f⟩ := of_decide_eq_true h
 exact ⟨a, b, c, d, e, f⟩
theorem RgN.b {o : Opr} (h : RgN o) : rgB o = true := decide_eq_true ⟨h.t, h.n, h.m, h.l, h.il, h.id⟩
theorem RgN.cl {o : Opr} (h : RgN o) (hc : opChk o = 0) : OkN (opCl o) ∧ opChk (opCl o) = 0 ∧ opBytes o = opBytes (opCl o) := by
 obtain ⟨k, t, l, x, n, m, il, id⟩ := o
 obtain ⟨⟨t0, t1⟩, ⟨n0, n1⟩, ⟨m0, m1⟩, ⟨l0, l1⟩, ⟨a0, a1⟩, ⟨b0, b1⟩⟩ := h
 have hk := kinds8 (opChk_k hc)
 dsimp only at hk t0 t1 n0 n1 m0 m1 l0 l1 a0 a1 b0 b1
 have hc' := hc
 unfold opChk at hc'
 dsimp only at hc'
 have hx : (k = 2 ∨ k = 4) → x.length ≤ 1000 := fun h2 => by
  rw [if_neg (by omega)] at hc'
  split at hc'
  ·cases hc'
  ·rename_i h3
   have : ¬ 1000 < (x.length : Int) := fun h4 => h3 ⟨h2, h4⟩
   omega
 clear hc'
 rcases hk with rfl | rfl | rfl | rfl | rfl | rfl | rfl | rfl <;>
 ·have hx' := hx
  simp at hx'
  refine ⟨?_, ?_, ?_⟩
  ·constructor <;> simp_all [opCl, fieldsOf, cFld]
  ·simp [opChk, opCl, fieldsOf, cFld] <;> omega
  ·unfold opBytes
   rw [if_neg (by simp [hc]), if_neg]
   ·exact congrArg wrDone (by simp [opW, opCl, fieldsOf, cFld, wFld])
   ·simp [opChk, opCl, fieldsOf, cFld] <;> omega
theorem opBytes_all {o : Opr} (h : RgN o) : opBytes o = if opChk o ≠ 0 then ([], opChk o) else (enc o, 0) := by
 split
 ·rename_i hc
  unfold opBytes
  rw [if_pos hc]
 ·rename_i hc
  have hc := Decidable.not_not.1 hc
  obtain ⟨a, b, c⟩ := h.cl hc
  rw [c, opBytes_ok a b, (enc_cl hc).1]
end Pw
