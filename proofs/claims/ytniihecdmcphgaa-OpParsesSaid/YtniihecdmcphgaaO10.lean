/- OP 10: operations written and read, contracts. -/
import Derived.Test.YtniihecdmcphgaaO9
import Derived.Test.YtniihecdmcphgaaO11
import Derived.Test.YtniihecdmcphgaaOS
namespace Go.Proofs.Ytniihecdmcphgaa
open Pw Go
set_option maxRecDepth 100000
set_option linter.unusedSimpArgs false
def cCheck : Ctr
 | [.agg [.int .i64 k, .int .i64 t, .int .u64 l, .str x, .int .i64 n, .int .i64 m, .int .u64 il, .int .u64 id]] => some (true, .int .i64 (opChk ⟨k, t, l, x, n, m, il, id⟩))
 | _ => none
def needOp (o : Opr) : Bool := decide (o.x.length ≤ 9223372036854775807 ∧ 0 ≤ o.l ∧ o.l ≤ 18446744073709551615 ∧ 0 ≤ o.il ∧ o.il ≤ 18446744073709551615 ∧ 0 ≤ o.id ∧ o.id ≤ 18446744073709551615)
def cBytes : Ctr
 | [.agg [.int .i64 k, .int .i64 t, .int .u64 l, .str x, .int .i64 n, .int .i64 m, .int .u64 il, .int .u64 id]] =>
  some (needOp ⟨k, t, l, x, n, m, il, id⟩, .tup [.str (opBytes ⟨k, t, l, x, n, m, il, id⟩).1, .int .i64 (opBytes ⟨k, t, l, x, n, m, il, id⟩).2])
 | _ => none
def cClean : Ctr
 | [.agg [.int .i64 k, .int .i64 t, .int .u64 l, .str x, .int .i64 n, .int .i64 m, .int .u64 il, .int .u64 id]] =>
  some (needOp ⟨k, t, l, x, n, m, il, id⟩, .tup [(opClean ⟨k, t, l, x, n, m, il, id⟩).1.av, .int .i64 (opClean ⟨k, t, l, x, n, m, il, id⟩).2])
 | _ => none
theorem checkU_ok : PureF Try.prog 15 cCheckU := by
 intro args nd v h hnd
 unfold cCheckU at h
 split at h <;> cases h
 ·rename_i k t l x n m il id
  refine pure_vcF mix tblW_ok ((check_vc _ t l n m il id x _).mpr ?_)
  simp only [VB_iff]
  refine ⟨fun _ => by simp, fun hf => ?_⟩
  simp only [Bool.not_eq_false', Bool.and_eq_true, decide_eq_true_eq, Int.ofNat_eq_natCast] at hf
  omega
 ·rename_i k t l x n m il id
  refine pure_vcF mix tblW_ok ((check_vc _ t l n m il id x _).mpr ?_)
  simp only [VB_iff]
  refine ⟨fun _ => by simp, fun hf => ?_⟩
  simp only [Bool.not_eq_false', Bool.and_eq_true, decide_eq_true_eq, Int.ofNat_eq_natCast] at hf
  omega
theorem check_ok : PureF Try.prog 15 cCheck := by
 intro args nd v h hnd
 unfold cCheck at h
 split at h <;> cases h
 rename_i k t l x n m il id
 refine pure_vcF mix tblW_ok ((check_vc k t l n m il id x _).mpr ?_)
 repeat' (first
  | (with_reducible refine VB_intro (fun h => ?_) (fun h => ?_) <;> try simp only [h, VB_t, VB_f, NB_t, Bool.not_true, Bool.not_false, Bool.true_and, Bool.false_and, Bool.and_true, Bool.and_false])
  | (with_reducible refine NB_intro' ?_ (fun h => ?_)))
 all_goals try simp only [isW_t, isW_f, impB_t, impB_f, beq_iff_eq, bne_iff_ne, Bool.not_eq_eq_eq_not, Bool.not_true, Bool.not_false, Bool.and_eq_true, Bool.and_eq_false_iff, Bool.or_eq_true, Bool.or_eq_false_iff, beq_eq_false_iff_ne, decide_eq_true_eq, decide_eq_false_iff_not, EqI] at *
 all_goals try simp (disch := omega) only [wrap_i64_id, wrap_u64_id, Int.add_sub_cancel] at *
 all_goals try simp (disch := omega) only [wrap_i64_id, wrap_u64_id, Int.add_sub_cancel] at *
 all_goals try simp (disch := omega) only [wrap_i64_id, wrap_u64_id, Int.add_sub_cancel] at *
 all_goals try simp (disch := omega) only [wrap_i64_id, wrap_u64_id, Int.add_sub_cancel] at *
 all_goals try grind (splits := 20) [opChk]
theorem tblU_ok : TblOK Try.prog (fun _ => .undef) (tblOf tblU) := tbl_cons checkU_ok (tbl_nil _)
theorem kinds (k : Int) : (∃ j : Nat, k = Int.negSucc j) ∨ (∃ j : Nat, k = Int.ofNat (j + 9)) ∨ k = 0 ∨ k = 1 ∨ k = 2 ∨ k = 3 ∨ k = 4 ∨ k = 5 ∨ k = 6 ∨ k = 7 ∨ k = 8 := by
 rcases k with k | k
 ·by_cases h : 9 ≤ k
  ·exact Or.inr (Or.inl ⟨k - 9, by congr 1; omega⟩)
  ·simp only [Int.ofNat_eq_natCast]
   omega
 ·exact Or.inl ⟨k, rfl⟩
theorem opChk_neg (j : Nat) (t l n m il id : Int) (x : List UInt8) : opChk ⟨Int.negSucc j, t, l, x, n, m, il, id⟩ = 11 := by
 unfold opChk
 exact if_pos (by show ¬ (1 ≤ Int.negSucc j ∧ Int.negSucc j ≤ 8); omega)
theorem opChk_big (j : Nat) (t l n m il id : Int) (x : List UInt8) : opChk ⟨Int.ofNat (j + 9), t, l, x, n, m, il, id⟩ = 11 := by
 unfold opChk
 exact if_pos (by show ¬ (1 ≤ Int.ofNat (j + 9) ∧ Int.ofNat (j + 9) ≤ 8); simp only [Int.ofNat_eq_natCast]; omega)
theorem bytes_ok : PureF Try.prog 12 cBytes := by
 intro args nd v h hnd
 unfold cBytes at h
 split at h <;> cases h
 rename_i k t l x n m il id
 obtain ⟨hx, h0, h1, h2, h3, h4, h5⟩ := of_decide_eq_true hnd
 dsimp only at hx h0 h1 h2 h3 h4 h5
 rcases kinds k with ⟨j, rfl⟩ | ⟨j, rfl⟩ | rfl | rfl | rfl | rfl | rfl | rfl | rfl | rfl | rfl
 ·refine pure_vcF mix tblU_ok ((bytesN_vc j t l n m il id x _ _).mpr ?_)
  simp only [opBytes, opClean, opChk_neg, opChk_big, Opr.zero]
  simp
 ·refine pure_vcF mix tblU_ok ((bytesP_vc j t l n m il id x _ _).mpr ?_)
  simp only [opBytes, opClean, opChk_neg, opChk_big, Opr.zero]
  simp
 ·refine pure_vcF mix tblW_ok ((bytes0_vc t l n m il id x _ _).mpr ?_)
  simp [opBytes, opClean, opChk, opW, opCl, fieldsOf, wFld, cFld, Opr.zero, NB_iff, VB_iff, wrPut_len, wrPutSized_len, wrap_u64_lo, wrap_u64_hi, digS_length, hx, h0, h1, h2, h3, h4, h5]
 ·refine pure_vcF mix tblW_ok ((bytes1_vc t l n m il id x _ _).mpr ?_)
  simp [opBytes, opClean, opChk, opW, opCl, fieldsOf, wFld, cFld, Opr.zero, NB_iff, VB_iff, wrPut_len, wrPutSized_len, wrap_u64_lo, wrap_u64_hi, digS_length, hx, h0, h1, h2, h3, h4, h5]
 ·refine pure_vcF mix tblW_ok ((bytes2_vc t l n m il id x _ _).mpr ?_)
  by_cases hl : 1000 < (x.length : Int) <;> simp [opBytes, opClean, opChk, opW, opCl, fieldsOf, wFld, cFld, Opr.zero, NB_iff, VB_iff, wrPut_len, wrPutSized_len, wrap_u64_lo, wrap_u64_hi, digS_length, hx, h0, h1, h2, h3, h4, h5, hl]
 ·refine pure_vcF mix tblW_ok ((bytes3_vc t l n m il id x _ _).mpr ?_)
  simp [opBytes, opClean, opChk, opW, opCl, fieldsOf, wFld, cFld, Opr.zero, NB_iff, VB_iff, wrPut_len, wrPutSized_len, wrap_u64_lo, wrap_u64_hi, digS_length, hx, h0, h1, h2, h3, h4, h5]
 ·refine pure_vcF mix tblW_ok ((bytes4_vc t l n m il id x _ _).mpr ?_)
  by_cases hl : 1000 < (x.length : Int) <;> simp [opBytes, opClean, opChk, opW, opCl, fieldsOf, wFld, cFld, Opr.zero, NB_iff, VB_iff, wrPut_len, wrPutSized_len, wrap_u64_lo, wrap_u64_hi, digS_length, hx, h0, h1, h2, h3, h4, h5, hl]
 ·refine pure_vcF mix tblW_ok ((bytes5_vc t l n m il id x _ _).mpr ?_)
  simp [opBytes, opClean, opChk, opW, opCl, fieldsOf, wFld, cFld, Opr.zero, NB_iff, VB_iff, wrPut_len, wrPutSized_len, wrap_u64_lo, wrap_u64_hi, digS_length, hx, h0, h1, h2, h3, h4, h5]
  exact ⟨rfl, rfl⟩
 ·refine pure_vcF mix tblW_ok ((bytes6_vc t l n m il id x _ _).mpr ?_)
  simp [opBytes, opClean, opChk, opW, opCl, fieldsOf, wFld, cFld, Opr.zero, NB_iff, VB_iff, wrPut_len, wrPutSized_len, wrap_u64_lo, wrap_u64_hi, digS_length, hx, h0, h1, h2, h3, h4, h5]
 ·refine pure_vcF mix tblW_ok ((bytes7_vc t l n m il id x _ _).mpr ?_)
  simp [opBytes, opClean, opChk, opW, opCl, fieldsOf, wFld, cFld, Opr.zero, NB_iff, VB_iff, wrPut_len, wrPutSized_len, wrap_u64_lo, wrap_u64_hi, digS_length, hx, h0, h1, h2, h3, h4, h5]
 ·refine pure_vcF mix tblW_ok ((bytes8_vc t l n m il id x _ _).mpr ?_)
  simp [opBytes, opClean, opChk, opW, opCl, fieldsOf, wFld, cFld, Opr.zero, NB_iff, VB_iff, wrPut_len, wrPutSized_len, wrap_u64_lo, wrap_u64_hi, digS_length, hx, h0, h1, h2, h3, h4, h5]
theorem clean_ok : PureF Try.prog 11 cClean := by
 intro args nd v h hnd
 unfold cClean at h
 split at h <;> cases h
 rename_i k t l x n m il id
 obtain ⟨hx, h0, h1, h2, h3, h4, h5⟩ := of_decide_eq_true hnd
 dsimp only at hx h0 h1 h2 h3 h4 h5
 rcases kinds k with ⟨j, rfl⟩ | ⟨j, rfl⟩ | rfl | rfl | rfl | rfl | rfl | rfl | rfl | rfl | rfl
 ·refine pure_vcF mix tblU_ok ((cleanN_vc j t l n m il id x _ _ _ _ _ _ _ _ _).mpr ?_)
  simp only [opBytes, opClean, opChk_neg, opChk_big, Opr.zero]
  simp
 ·refine pure_vcF mix tblU_ok ((cleanP_vc j t l n m il id x _ _ _ _ _ _ _ _ _).mpr ?_)
  simp only [opBytes, opClean, opChk_neg, opChk_big, Opr.zero]
  simp
 ·refine pure_vcF mix tblW_ok ((clean0_vc t l n m il id x _ _ _ _ _ _ _ _ _).mpr ?_)
  simp [opBytes, opClean, opChk, opW, opCl, fieldsOf, wFld, cFld, Opr.zero, NB_iff, VB_iff, wrPut_len, wrPutSized_len, wrap_u64_lo, wrap_u64_hi, digS_length, hx, h0, h1, h2, h3, h4, h5]
 ·refine pure_vcF mix tblW_ok ((clean1_vc t l n m il id x _ _ _ _ _ _ _ _ _).mpr ?_)
  simp [opBytes, opClean, opChk, opW, opCl, fieldsOf, wFld, cFld, Opr.zero, NB_iff, VB_iff, wrPut_len, wrPutSized_len, wrap_u64_lo, wrap_u64_hi, digS_length, hx, h0, h1, h2, h3, h4, h5]
 ·refine pure_vcF mix tblW_ok ((clean2_vc t l n m il id x _ _ _ _ _ _ _ _ _).mpr ?_)
  by_cases hl : 1000 < (x.length : Int) <;> simp [opBytes, opClean, opChk, opW, opCl, fieldsOf, wFld, cFld, Opr.zero, NB_iff, VB_iff, wrPut_len, wrPutSized_len, wrap_u64_lo, wrap_u64_hi, digS_length, hx, h0, h1, h2, h3, h4, h5, hl]
 ·refine pure_vcF mix tblW_ok ((clean3_vc t l n m il id x _ _ _ _ _ _ _ _ _).mpr ?_)
  simp [opBytes, opClean, opChk, opW, opCl, fieldsOf, wFld, cFld, Opr.zero, NB_iff, VB_iff, wrPut_len, wrPutSized_len, wrap_u64_lo, wrap_u64_hi, digS_length, hx, h0, h1, h2, h3, h4, h5]
 ·refine pure_vcF mix tblW_ok ((clean4_vc t l n m il id x _ _ _ _ _ _ _ _ _).mpr ?_)
  by_cases hl : 1000 < (x.length : Int) <;> simp [opBytes, opClean, opChk, opW, opCl, fieldsOf, wFld, cFld, Opr.zero, NB_iff, VB_iff, wrPut_len, wrPutSized_len, wrap_u64_lo, wrap_u64_hi, digS_length, hx, h0, h1, h2, h3, h4, h5, hl]
 ·refine pure_vcF mix tblW_ok ((clean5_vc t l n m il id x _ _ _ _ _ _ _ _ _).mpr ?_)
  simp [opBytes, opClean, opChk, opW, opCl, fieldsOf, wFld, cFld, Opr.zero, NB_iff, VB_iff, wrPut_len, wrPutSized_len, wrap_u64_lo, wrap_u64_hi, digS_length, hx, h0, h1, h2, h3, h4, h5]
 ·refine pure_vcF mix tblW_ok ((clean6_vc t l n m il id x _ _ _ _ _ _ _ _ _).mpr ?_)
  simp [opBytes, opClean, opChk, opW, opCl, fieldsOf, wFld, cFld, Opr.zero, NB_iff, VB_iff, wrPut_len, wrPutSized_len, wrap_u64_lo, wrap_u64_hi, digS_length, hx, h0, h1, h2, h3, h4, h5]
 ·refine pure_vcF mix tblW_ok ((clean7_vc t l n m il id x _ _ _ _ _ _ _ _ _).mpr ?_)
  simp [opBytes, opClean, opChk, opW, opCl, fieldsOf, wFld, cFld, Opr.zero, NB_iff, VB_iff, wrPut_len, wrPutSized_len, wrap_u64_lo, wrap_u64_hi, digS_length, hx, h0, h1, h2, h3, h4, h5]
 ·refine pure_vcF mix tblW_ok ((clean8_vc t l n m il id x _ _ _ _ _ _ _ _ _).mpr ?_)
  simp [opBytes, opClean, opChk, opW, opCl, fieldsOf, wFld, cFld, Opr.zero, NB_iff, VB_iff, wrPut_len, wrPutSized_len, wrap_u64_lo, wrap_u64_hi, digS_length, hx, h0, h1, h2, h3, h4, h5]
def cParse : Ctr
 | [.str s] => some (decide (s.length ≤ 9223372036854775807), .tup [(opParse s).1.av, .agg [.int .i64 (opParse s).2.1, .int .i64 (opParse s).2.2]])
 | _ => none
theorem uintK_ok (e0 k : Int) : PureF Try.prog 39 (cUintK e0 k) := by
 intro args nd v h hnd
 unfold cUintK at h
 split at h
 ·rename_i s a e f n
  split at h <;> cases h
  ·rename_i hn
   subst hn
   simp only [Bool.and_eq_true, decide_eq_true_eq] at hnd
   obtain ⟨⟨hl, he⟩, hk⟩ := hnd
   have hc := uintI_ok [.agg [.str s, .int .i64 a, .int .i64 e, .int .i64 f], .int .i64 1] _ _ rfl (decide_eq_true hl)
   rw [← he, ← hk]
   exact hc
  ·exact uintI_ok _ _ _ rfl hnd
 ·cases h
theorem failK_ok : PureF Try.prog 40 cFailK := by
 intro args nd v h hnd
 unfold cFailK at h
 split at h <;> cases h
 rename_i s a e f x y
 simp only [Bool.and_eq_true, decide_eq_true_eq] at hnd
 obtain ⟨hl, he⟩ := hnd
 have hc := failI_ok [.agg [.str s, .int .i64 a, .int .i64 e, .int .i64 f], .int .i64 x, .int .i64 y] _ _ rfl (decide_eq_true hl)
 rw [← he]
 exact hc
theorem knownF_ok : PureF Try.prog 28 cKnownF := by
 intro args nd v h hnd
 unfold cKnownF at h
 split at h <;> cases h
 rename_i k
 have hk := of_decide_eq_true hnd
 refine pure_vcF mix tblW_ok ((known_vc k _).mpr ?_)
 simp
 omega
theorem tblR_ok (e0 k : Int) : TblOK Try.prog (fun _ => .undef) (tblOf (tblR e0 k)) := tbl_cons (uintK_ok e0 k) (tbl_cons sizedI_ok (tbl_cons endI_ok (tbl_nil _)))
theorem tblRU_ok (k : Int) : TblOK Try.prog (fun _ => .undef) (tblOf (tblRU k)) := tbl_cons (uintK_ok 0 k) (tbl_cons failK_ok (tbl_cons knownF_ok (tbl_cons endI_ok (tbl_nil _))))
theorem parse_ok : PureF Try.prog 13 cParse := by
 intro args nd v h hnd
 unfold cParse at h
 split at h <;> cases h
 rename_i s
 have hl := of_decide_eq_true hnd
 cases s with
 | nil =>
  refine pure_vcF mix (tblR_ok 5 0) ((parseS_vc [] _ _ _ _ _ _ _ _ _ _).mpr ?_)
  simp [rdTake, rdUse, rdOK, rdFail, numS, rdEnd, opParse, opNext, rdUint, okSize, Opr.zero, NB_iff, VB_iff]
 | cons b s =>
  have hT : rdTake (rdUse ⟨b :: s, 0, 0, 0⟩) 1 = (⟨b :: s, 1, 0, 0⟩, [b]) := rd_one b s
  have hU : rdUint ⟨b :: s, 0, 0, 0⟩ 1 = (⟨b :: s, 1, 0, 0⟩, (b.toNat : Int)) := rdU_one b s
  have hl' : s.length + 1 ≤ 9223372036854775807 := hl
  have hn : numS [b] = (b.toNat : Int) := numS_one b
  rcases kinds (b.toNat : Int) with ⟨j, hj⟩ | hk | hk | hk | hk | hk | hk | hk | hk | hk | hk
  ·omega
  ·refine pure_vcF mix (tblRU_ok b.toNat) ((parseU_vc _ (b :: s) _ _ _ _ _ _ _ _ _ _).mpr ?_)
   have hw : IntKind.i64.wrap (b.toNat : Int) = b.toNat := by
    have := b.toNat_lt
    rw [wrap_i64]
    omega
   have h8 : ¬ (1 ≤ (b.toNat : Int) ∧ (b.toNat : Int) ≤ 8) := by obtain ⟨j, hj⟩ := hk; simp only [Int.ofNat_eq_natCast] at hj; omega
   have hF : rdFailX ⟨b :: s, 1, 0, 0⟩ 11 0 = ⟨b :: s, 1, 11, 0⟩ := rdF_one b s
   have hE : (rdEnd ⟨b :: s, 1, 11, 0⟩) = ⟨b :: s, 1, 11, 0⟩ := rdE_one b s
   simp only [hT, hn, hw, h8, hF, hE, opParse, opNext, hU, NB_iff, VB_iff]
   simp [hE, hF, hl', Opr.zero, impB, isW]
  ·refine pure_vcF mix (tblRU_ok b.toNat) ((parseU_vc _ (b :: s) _ _ _ _ _ _ _ _ _ _).mpr ?_)
   have hw : IntKind.i64.wrap (b.toNat : Int) = b.toNat := by
    have := b.toNat_lt
    rw [wrap_i64]
    omega
   have h8 : ¬ (1 ≤ (b.toNat : Int) ∧ (b.toNat : Int) ≤ 8) := by omega
   have hF : rdFailX ⟨b :: s, 1, 0, 0⟩ 11 0 = ⟨b :: s, 1, 11, 0⟩ := rdF_one b s
   have hE : (rdEnd ⟨b :: s, 1, 11, 0⟩) = ⟨b :: s, 1, 11, 0⟩ := rdE_one b s
   simp only [hT, hn, hw, h8, hF, hE, opParse, opNext, hU, NB_iff, VB_iff]
   simp [hE, hF, hl', Opr.zero, impB, isW]
  ·refine pure_vcF mix (tblR_ok 0 1) ((parse1_vc (b :: s) _ _ _ _ _ _ _ _ _ _).mpr ?_)
   simp only [hT, hn, hk, opParse, opNext, hU, NB_iff, VB_iff]
   simp +contextual [hl', fieldsOf, rFld, rdUint_8, tk_len, sz_len, Opr.zero]
  ·refine pure_vcF mix (tblR_ok 0 2) ((parse2_vc (b :: s) _ _ _ _ _ _ _ _ _ _).mpr ?_)
   simp only [hT, hn, hk, opParse, opNext, hU, NB_iff, VB_iff]
   simp +contextual [hl', fieldsOf, rFld, rdUint_8, tk_len, sz_len, Opr.zero]
  ·refine pure_vcF mix (tblR_ok 0 3) ((parse3_vc (b :: s) _ _ _ _ _ _ _ _ _ _).mpr ?_)
   simp only [hT, hn, hk, opParse, opNext, hU, NB_iff, VB_iff]
   simp +contextual [hl', fieldsOf, rFld, rdUint_8, tk_len, sz_len, Opr.zero]
  ·refine pure_vcF mix (tblR_ok 0 4) ((parse4_vc (b :: s) _ _ _ _ _ _ _ _ _ _).mpr ?_)
   simp only [hT, hn, hk, opParse, opNext, hU, NB_iff, VB_iff]
   simp +contextual [hl', fieldsOf, rFld, rdUint_8, tk_len, sz_len, Opr.zero]
  ·refine pure_vcF mix (tblR_ok 0 5) ((parse5_vc (b :: s) _ _ _ _ _ _ _ _ _ _).mpr ?_)
   simp only [hT, hn, hk, opParse, opNext, hU, NB_iff, VB_iff]
   simp +contextual [hl', fieldsOf, rFld, rdUint_8, tk_len, sz_len, Opr.zero]
  ·refine pure_vcF mix (tblR_ok 0 6) ((parse6_vc (b :: s) _ _ _ _ _ _ _ _ _ _).mpr ?_)
   simp only [hT, hn, hk, opParse, opNext, hU, NB_iff, VB_iff]
   simp +contextual [hl', fieldsOf, rFld, rdUint_8, tk_len, sz_len, Opr.zero]
  ·refine pure_vcF mix (tblR_ok 0 7) ((parse7_vc (b :: s) _ _ _ _ _ _ _ _ _ _).mpr ?_)
   simp only [hT, hn, hk, opParse, opNext, hU, NB_iff, VB_iff]
   simp +contextual [hl', fieldsOf, rFld, rdUint_8, tk_len, sz_len, Opr.zero]
  ·refine pure_vcF mix (tblR_ok 0 8) ((parse8_vc (b :: s) _ _ _ _ _ _ _ _ _ _).mpr ?_)
   simp only [hT, hn, hk, opParse, opNext, hU, NB_iff, VB_iff]
   simp +contextual [hl', fieldsOf, rFld, rdUint_8, tk_len, sz_len, Opr.zero]
end Go.Proofs.Ytniihecdmcphgaa
