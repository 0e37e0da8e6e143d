/- OP: O8 (from the wire chapter). -/
import Derived.Test.YtniihecdmcphgaaO7
namespace Go.Proofs.Ytniihecdmcphgaa
open Pw Go
set_option maxRecDepth 100000
set_option linter.unusedSimpArgs false
def cUint : Ctr
 | [.agg [.str s, .int .i64 a, .int .i64 e, .int .i64 f], .int .i64 n] => some (decide (s.length ≤ 9223372036854775807), .tup [(rdUint ⟨s, a, e, f⟩ n).1.av, .int .u64 (rdUint ⟨s, a, e, f⟩ n).2])
 | _ => none
def cSized : Ctr
 | [.agg [.str s, .int .i64 a, .int .i64 e, .int .i64 f], .int .i64 n] => some (decide (s.length ≤ 9223372036854775807), .tup [(rdSized ⟨s, a, e, f⟩ n).1.av, .str (rdSized ⟨s, a, e, f⟩ n).2])
 | _ => none
def cFail : Ctr
 | [.agg [.str s, .int .i64 a, .int .i64 e, .int .i64 f], .int .i64 x, .int .i64 y] => some (decide (s.length ≤ 9223372036854775807), (rdFailX ⟨s, a, e, f⟩ x y).av)
 | _ => none
def cEnd : Ctr
 | [.agg [.str s, .int .i64 a, .int .i64 e, .int .i64 f]] => some (decide (s.length ≤ 9223372036854775807), .agg [.int .i64 (rdEnd ⟨s, a, e, f⟩).err, .int .i64 (rdEnd ⟨s, a, e, f⟩).fat])
 | _ => none
theorem uintI_ok : PureF Try.prog 39 cUint := by
 intro args nd v h hnd
 unfold cUint at h
 split at h <;> cases h
 rename_i s a e f n
 have hl := of_decide_eq_true hnd
 refine pure_vc mix tbl1_ok ((uintI_vc s a e f n _ _).mpr ?_)
 repeat' (first
  | (with_reducible refine VB_intro (fun h => ?_) (fun h => ?_) <;> try simp only [h, VB_t, VB_f, NB_t, Bool.not_true, Bool.not_false, Bool.true_and, Bool.false_and, Bool.and_true, Bool.and_false])
  | (with_reducible refine NB_intro' ?_ (fun h => ?_)))
 all_goals try simp only [isW_t, isW_f, impB_t, impB_f, beq_iff_eq, bne_iff_ne, Bool.not_eq_eq_eq_not, Bool.not_true, Bool.not_false, Bool.and_eq_true, Bool.and_eq_false_iff, Bool.or_eq_true, Bool.or_eq_false_iff, beq_eq_false_iff_ne, decide_eq_true_eq, decide_eq_false_iff_not, EqI] at *
 all_goals try simp (disch := omega) only [wrap_i64_id, wrap_u64_id, Int.add_sub_cancel] at *
 all_goals try simp (disch := omega) only [wrap_i64_id, wrap_u64_id, Int.add_sub_cancel] at *
 all_goals try simp (disch := omega) only [wrap_i64_id, wrap_u64_id, Int.add_sub_cancel] at *
 all_goals try simp (disch := omega) only [wrap_i64_id, wrap_u64_id, Int.add_sub_cancel] at *
 all_goals try grind (splits := 20) [rdUint, rdInt, rdBytes, rdSized, rdWant, rdFailX, rdEnd, rdTake, rdUse, rdOK, rdFail, okSize, numS]
theorem sizedI_ok : PureF Try.prog 71 cSized := by
 intro args nd v h hnd
 unfold cSized at h
 split at h <;> cases h
 rename_i s a e f n
 have hl := of_decide_eq_true hnd
 have h2 : 0 ≤ a → _ := fun h0 => numS_two' s a.toNat (a + 2).toNat (by omega)
 have h3 : 0 ≤ a → _ := fun h0 => numS_two' s (a + 2 - 2).toNat (a + 2).toNat (by omega)
 rcases e with e | e
 ·cases e with
  | zero =>
   refine pure_vc mix tbl1_ok ((sizedI0_vc s a f n _ _).mpr ?_)
   repeat' (first
    | (with_reducible refine VB_intro (fun h => ?_) (fun h => ?_) <;> try simp only [h, VB_t, VB_f, NB_t, Bool.not_true, Bool.not_false, Bool.true_and, Bool.false_and, Bool.and_true, Bool.and_false])
    | (with_reducible refine NB_intro' ?_ (fun h => ?_)))
   all_goals try simp only [isW_t, isW_f, impB_t, impB_f, beq_iff_eq, bne_iff_ne, Bool.not_eq_eq_eq_not, Bool.not_true, Bool.not_false, Bool.and_eq_true, Bool.and_eq_false_iff, Bool.or_eq_true, Bool.or_eq_false_iff, beq_eq_false_iff_ne, decide_eq_true_eq, decide_eq_false_iff_not, EqI] at *
   all_goals try simp (disch := omega) only [wrap_i64_id, wrap_u64_id, Int.add_sub_cancel] at *
   all_goals try simp (disch := omega) only [wrap_i64_id, wrap_u64_id, Int.add_sub_cancel] at *
   all_goals try simp (disch := omega) only [wrap_i64_id, wrap_u64_id, Int.add_sub_cancel] at *
   all_goals try simp (disch := omega) only [wrap_i64_id, wrap_u64_id, Int.add_sub_cancel] at *
   all_goals try grind (splits := 20) [rdUint, rdInt, rdBytes, rdSized, rdWant, rdFailX, rdEnd, rdTake, rdUse, rdOK, rdFail, okSize, numS]
  | succ m =>
   refine pure_vc mix tbl1_ok ((sizedI1_vc s a f n m _ _).mpr ?_)
   repeat' (first
    | (with_reducible refine VB_intro (fun h => ?_) (fun h => ?_) <;> try simp only [h, VB_t, VB_f, NB_t, Bool.not_true, Bool.not_false, Bool.true_and, Bool.false_and, Bool.and_true, Bool.and_false])
    | (with_reducible refine NB_intro' ?_ (fun h => ?_)))
   all_goals try simp only [isW_t, isW_f, impB_t, impB_f, beq_iff_eq, bne_iff_ne, Bool.not_eq_eq_eq_not, Bool.not_true, Bool.not_false, Bool.and_eq_true, Bool.and_eq_false_iff, Bool.or_eq_true, Bool.or_eq_false_iff, beq_eq_false_iff_ne, decide_eq_true_eq, decide_eq_false_iff_not, EqI] at *
   all_goals try simp (disch := omega) only [wrap_i64_id, wrap_u64_id, Int.add_sub_cancel] at *
   all_goals try simp (disch := omega) only [wrap_i64_id, wrap_u64_id, Int.add_sub_cancel] at *
   all_goals try simp (disch := omega) only [wrap_i64_id, wrap_u64_id, Int.add_sub_cancel] at *
   all_goals try simp (disch := omega) only [wrap_i64_id, wrap_u64_id, Int.add_sub_cancel] at *
   all_goals try grind (splits := 20) [rdUint, rdInt, rdBytes, rdSized, rdWant, rdFailX, rdEnd, rdTake, rdUse, rdOK, rdFail, okSize, numS]
 ·refine pure_vc mix tbl1_ok ((sizedI2_vc s a f n e _ _).mpr ?_)
  repeat' (first
   | (with_reducible refine VB_intro (fun h => ?_) (fun h => ?_) <;> try simp only [h, VB_t, VB_f, NB_t, Bool.not_true, Bool.not_false, Bool.true_and, Bool.false_and, Bool.and_true, Bool.and_false])
   | (with_reducible refine NB_intro' ?_ (fun h => ?_)))
  all_goals try simp only [isW_t, isW_f, impB_t, impB_f, beq_iff_eq, bne_iff_ne, Bool.not_eq_eq_eq_not, Bool.not_true, Bool.not_false, Bool.and_eq_true, Bool.and_eq_false_iff, Bool.or_eq_true, Bool.or_eq_false_iff, beq_eq_false_iff_ne, decide_eq_true_eq, decide_eq_false_iff_not, EqI] at *
  all_goals try simp (disch := omega) only [wrap_i64_id, wrap_u64_id, Int.add_sub_cancel] at *
  all_goals try simp (disch := omega) only [wrap_i64_id, wrap_u64_id, Int.add_sub_cancel] at *
  all_goals try simp (disch := omega) only [wrap_i64_id, wrap_u64_id, Int.add_sub_cancel] at *
  all_goals try simp (disch := omega) only [wrap_i64_id, wrap_u64_id, Int.add_sub_cancel] at *
  all_goals try grind (splits := 20) [rdUint, rdInt, rdBytes, rdSized, rdWant, rdFailX, rdEnd, rdTake, rdUse, rdOK, rdFail, okSize, numS]
theorem failI_ok : PureF Try.prog 40 cFail := by
 intro args nd v h hnd
 unfold cFail at h
 split at h <;> cases h
 rename_i s a e f x y
 have hl := of_decide_eq_true hnd
 refine pure_vc mix tbl1_ok ((failI_vc s a e f x y _).mpr ?_)
 repeat' (first
  | (with_reducible refine VB_intro (fun h => ?_) (fun h => ?_) <;> try simp only [h, VB_t, VB_f, NB_t, Bool.not_true, Bool.not_false, Bool.true_and, Bool.false_and, Bool.and_true, Bool.and_false])
  | (with_reducible refine NB_intro' ?_ (fun h => ?_)))
 all_goals try simp only [isW_t, isW_f, impB_t, impB_f, beq_iff_eq, bne_iff_ne, Bool.not_eq_eq_eq_not, Bool.not_true, Bool.not_false, Bool.and_eq_true, Bool.and_eq_false_iff, Bool.or_eq_true, Bool.or_eq_false_iff, beq_eq_false_iff_ne, decide_eq_true_eq, decide_eq_false_iff_not, EqI] at *
 all_goals try simp (disch := omega) only [wrap_i64_id, wrap_u64_id, Int.add_sub_cancel] at *
 all_goals try simp (disch := omega) only [wrap_i64_id, wrap_u64_id, Int.add_sub_cancel] at *
 all_goals try simp (disch := omega) only [wrap_i64_id, wrap_u64_id, Int.add_sub_cancel] at *
 all_goals try simp (disch := omega) only [wrap_i64_id, wrap_u64_id, Int.add_sub_cancel] at *
 all_goals try grind (splits := 20) [rdUint, rdInt, rdBytes, rdSized, rdWant, rdFailX, rdEnd, rdTake, rdUse, rdOK, rdFail, okSize, numS]
theorem endI_ok : PureF Try.prog 27 cEnd := by
 intro args nd v h hnd
 unfold cEnd at h
 split at h <;> cases h
 rename_i s a e f
 have hl := of_decide_eq_true hnd
 refine pure_vc mix tbl1_ok ((endI_vc s a e f _).mpr ?_)
 repeat' (first
  | (with_reducible refine VB_intro (fun h => ?_) (fun h => ?_) <;> try simp only [h, VB_t, VB_f, NB_t, Bool.not_true, Bool.not_false, Bool.true_and, Bool.false_and, Bool.and_true, Bool.and_false])
  | (with_reducible refine NB_intro' ?_ (fun h => ?_)))
 all_goals try simp only [isW_t, isW_f, impB_t, impB_f, beq_iff_eq, bne_iff_ne, Bool.not_eq_eq_eq_not, Bool.not_true, Bool.not_false, Bool.and_eq_true, Bool.and_eq_false_iff, Bool.or_eq_true, Bool.or_eq_false_iff, beq_eq_false_iff_ne, decide_eq_true_eq, decide_eq_false_iff_not, EqI] at *
 all_goals try simp (disch := omega) only [wrap_i64_id, wrap_u64_id, Int.add_sub_cancel] at *
 all_goals try simp (disch := omega) only [wrap_i64_id, wrap_u64_id, Int.add_sub_cancel] at *
 all_goals try simp (disch := omega) only [wrap_i64_id, wrap_u64_id, Int.add_sub_cancel] at *
 all_goals try simp (disch := omega) only [wrap_i64_id, wrap_u64_id, Int.add_sub_cancel] at *
 all_goals try grind (splits := 20) [rdUint, rdInt, rdBytes, rdSized, rdWant, rdFailX, rdEnd, rdTake, rdUse, rdOK, rdFail, okSize, numS]
def cMake : Ctr
 | [.int .i64 m] => some (true, (wrUse ⟨[], m, 0⟩).av)
 | _ => none
def cPut : Ctr
 | [.agg [.str s, .int .i64 m, .int .i64 e], .int .i64 k, .int .u64 n] => some (decide (s.length ≤ 9223372036854775807 ∧ 0 ≤ n ∧ n ≤ 18446744073709551615 ∧ -9223372036854775808 ≤ k ∧ k ≤ 9223372036854775807), (wrPut ⟨s, m, e⟩ k n).av)
 | _ => none
def cPutSized : Ctr
 | [.agg [.str s, .int .i64 m, .int .i64 e], .str t] => some (decide (s.length ≤ 9223372036854775807 ∧ t.length ≤ 9223372036854775807), (wrPutSized ⟨s, m, e⟩ t).av)
 | _ => none
def cDone : Ctr
 | [.agg [.str s, .int .i64 m, .int .i64 e]] => some (decide (s.length ≤ 9223372036854775807), .tup [.str (wrDone ⟨s, m, e⟩).1, .int .i64 (wrDone ⟨s, m, e⟩).2])
 | _ => none
theorem makeI_ok : PureF Try.prog 36 cMake := by
 intro args nd v h hnd
 unfold cMake at h
 split at h <;> cases h
 rename_i m
 skip
 refine pure_vc mix tbl1_ok ((makeI_vc m _).mpr ?_)
 repeat' (first
  | (with_reducible refine VB_intro (fun h => ?_) (fun h => ?_) <;> try simp only [h, VB_t, VB_f, NB_t, Bool.not_true, Bool.not_false, Bool.true_and, Bool.false_and, Bool.and_true, Bool.and_false])
  | (with_reducible refine NB_intro' ?_ (fun h => ?_)))
 all_goals try simp only [isW_t, isW_f, impB_t, impB_f, beq_iff_eq, bne_iff_ne, Bool.not_eq_eq_eq_not, Bool.not_true, Bool.not_false, Bool.and_eq_true, Bool.and_eq_false_iff, Bool.or_eq_true, Bool.or_eq_false_iff, beq_eq_false_iff_ne, decide_eq_true_eq, decide_eq_false_iff_not, EqI] at *
 all_goals try simp (disch := omega) only [wrap_i64_id, wrap_u64_id, Int.add_sub_cancel] at *
 all_goals try simp (disch := omega) only [wrap_i64_id, wrap_u64_id, Int.add_sub_cancel] at *
 all_goals try simp (disch := omega) only [wrap_i64_id, wrap_u64_id, Int.add_sub_cancel] at *
 all_goals try simp (disch := omega) only [wrap_i64_id, wrap_u64_id, Int.add_sub_cancel] at *
 all_goals try grind (splits := 20) [wrPutX, wrUse, wrOK, wrStop, wrAdd, wrPut, wrPutI, wrPutSized, wrDone, okSize, digS_length]
theorem putSizedI_ok : PureF Try.prog 72 cPutSized := by
 intro args nd v h hnd
 unfold cPutSized at h
 split at h <;> cases h
 rename_i s m e t
 have hl := of_decide_eq_true hnd
 refine pure_vcF mix tbl1_ok ((putSizedI_vc s m e t (wrPutSized ⟨s, m, e⟩ t)).mpr ?_)
 simp only [hide_eq, show Int.toNat 2 = 2 from rfl, digS_length, List.length_append, List.append_assoc]
 repeat' (first
  | (with_reducible refine VB_intro (fun h => ?_) (fun h => ?_) <;> try simp only [h, VB_t, VB_f, NB_t, Bool.not_true, Bool.not_false, Bool.true_and, Bool.false_and, Bool.and_true, Bool.and_false])
  | (with_reducible refine NB_intro' ?_ (fun h => ?_)))
 all_goals try simp only [isW_t, isW_f, impB_t, impB_f, beq_iff_eq, bne_iff_ne, Bool.not_eq_eq_eq_not, Bool.not_true, Bool.not_false, Bool.and_eq_true, Bool.and_eq_false_iff, Bool.or_eq_true, Bool.or_eq_false_iff, beq_eq_false_iff_ne, decide_eq_true_eq, decide_eq_false_iff_not, EqI] at *
 all_goals try simp (disch := omega) only [wrap_i64_id, wrap_u64_id, Int.add_sub_cancel] at *
 all_goals try simp (disch := omega) only [wrap_i64_id, wrap_u64_id, Int.add_sub_cancel] at *
 all_goals try simp (disch := omega) only [wrap_i64_id, wrap_u64_id, Int.add_sub_cancel] at *
 all_goals try simp (disch := omega) only [wrap_i64_id, wrap_u64_id, Int.add_sub_cancel] at *
 all_goals try grind (splits := 20) [wrPutX, wrUse, wrOK, wrStop, wrAdd, wrPut, wrPutI, wrPutSized, wrDone, okSize, digS_length, List.append_assoc, List.length_append]
theorem wputI_ok : PureF Try.prog 35 cPut := by
 intro args nd v h hnd
 unfold cPut at h
 split at h <;> cases h
 rename_i s m e k n
 have hl := of_decide_eq_true hnd
 refine pure_vcF mix tbl1_ok ((wputI_vc s m e k n _).mpr ?_)
 have w8 : ((k = 1 ∨ k = 2) ∨ k = 4) ∨ k = 8 → IntKind.i64.wrap (8 * k) = 8 * k := fun h => wrap_i64_id (by omega) (by omega)
 have tg := fun hk => too_great (n := n) hl.2.1 hl.2.2.1 (k := k) hk
 simp only [hide_eq, digS_length]
 repeat' (first
  | (with_reducible refine VB_intro (fun h => ?_) (fun h => ?_) <;> try simp only [h, VB_t, VB_f, NB_t, Bool.not_true, Bool.not_false, Bool.true_and, Bool.false_and, Bool.and_true, Bool.and_false])
  | (with_reducible refine NB_intro' ?_ (fun h => ?_)))
 all_goals try simp only [isW_t, isW_f, impB_t, impB_f, beq_iff_eq, bne_iff_ne, Bool.not_eq_eq_eq_not, Bool.not_true, Bool.not_false, Bool.and_eq_true, Bool.and_eq_false_iff, Bool.or_eq_true, Bool.or_eq_false_iff, beq_eq_false_iff_ne, decide_eq_true_eq, decide_eq_false_iff_not, EqI] at *
 all_goals try simp (disch := omega) only [wrap_i64_id, wrap_u64_id, Int.add_sub_cancel] at *
 all_goals try simp (disch := omega) only [wrap_i64_id, wrap_u64_id, Int.add_sub_cancel] at *
 all_goals try simp (disch := omega) only [wrap_i64_id, wrap_u64_id, Int.add_sub_cancel] at *
 all_goals try simp (disch := omega) only [wrap_i64_id, wrap_u64_id, Int.add_sub_cancel] at *
 all_goals try grind (splits := 20) [wrPutX, wrUse, wrOK, wrStop, wrAdd, wrPut, wrPutI, wrPutSized, wrDone, okSize, digS_length]
theorem doneI_ok : PureF Try.prog 25 cDone := by
 intro args nd v h hnd
 unfold cDone at h
 split at h <;> cases h
 rename_i s m e
 have hl := of_decide_eq_true hnd
 refine pure_vc mix tbl1_ok ((doneI_vc s m e _ _).mpr ?_)
 repeat' (first
  | (with_reducible refine VB_intro (fun h => ?_) (fun h => ?_) <;> try simp only [h, VB_t, VB_f, NB_t, Bool.not_true, Bool.not_false, Bool.true_and, Bool.false_and, Bool.and_true, Bool.and_false])
  | (with_reducible refine NB_intro' ?_ (fun h => ?_)))
 all_goals try simp only [isW_t, isW_f, impB_t, impB_f, beq_iff_eq, bne_iff_ne, Bool.not_eq_eq_eq_not, Bool.not_true, Bool.not_false, Bool.and_eq_true, Bool.and_eq_false_iff, Bool.or_eq_true, Bool.or_eq_false_iff, beq_eq_false_iff_ne, decide_eq_true_eq, decide_eq_false_iff_not, EqI] at *
 all_goals try simp (disch := omega) only [wrap_i64_id, wrap_u64_id, Int.add_sub_cancel] at *
 all_goals try simp (disch := omega) only [wrap_i64_id, wrap_u64_id, Int.add_sub_cancel] at *
 all_goals try simp (disch := omega) only [wrap_i64_id, wrap_u64_id, Int.add_sub_cancel] at *
 all_goals try simp (disch := omega) only [wrap_i64_id, wrap_u64_id, Int.add_sub_cancel] at *
 all_goals try grind (splits := 20) [wrPutX, wrUse, wrOK, wrStop, wrAdd, wrPut, wrPutI, wrPutSized, wrDone, okSize, digS_length]
end Go.Proofs.Ytniihecdmcphgaa
