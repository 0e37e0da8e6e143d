/- WIRE 13: writers, contracts. -/
import Derived.Test.YtfgedkmopgkonaaW12
namespace Go.Proofs.Ytfgedkmopgkonaa
open Pw Go
set_option maxRecDepth 100000
set_option linter.unusedSimpArgs false

def cWr : Ctr
  | [.agg [.str s, .int .i64 m, .int .i64 e]] => some (decide (s.length ≤ 9223372036854775807), (wrUse ⟨s, m, e⟩).av)
  | _ => none
def cPutR : Ctr
  | [.agg [.str s, .int .i64 m, .int .i64 e], .str t, .int .i64 x] => some (decide (0 ≤ m ∧ m ≤ 20000 ∧ (s.length : Int) ≤ m ∧ t.length ≤ 9223372036854775807), (wrPutX ⟨s, m, e⟩ t x).av)
  | _ => none
def cMake : Ctr
  | [.int .i64 m] => some (true, (wrUse ⟨[], m, 0⟩).av)
  | _ => none
def cPut : Ctr
  | [.agg [.str s, .int .i64 m, .int .i64 e], .int .i64 k, .int .u64 n] => some (decide (s.length ≤ 9223372036854775807 ∧ 0 ≤ n ∧ n ≤ 18446744073709551615 ∧ -9223372036854775808 ≤ k ∧ k ≤ 9223372036854775807), (wrPut ⟨s, m, e⟩ k n).av)
  | _ => none
def cPutI : Ctr
  | [.agg [.str s, .int .i64 m, .int .i64 e], .int .i64 n] => some (decide (s.length ≤ 9223372036854775807), (wrPutI ⟨s, m, e⟩ n).av)
  | _ => none
def cPutSized : Ctr
  | [.agg [.str s, .int .i64 m, .int .i64 e], .str t] => some (decide (s.length ≤ 9223372036854775807 ∧ t.length ≤ 9223372036854775807), (wrPutSized ⟨s, m, e⟩ t).av)
  | _ => none
def cDone : Ctr
  | [.agg [.str s, .int .i64 m, .int .i64 e]] => some (decide (s.length ≤ 9223372036854775807), .tup [.str (wrDone ⟨s, m, e⟩).1, .int .i64 (wrDone ⟨s, m, e⟩).2])
  | _ => none
def cOwn : Ctr
  | [.rof n f _] => some (strsB n f && decide (n ≤ 1000000), .rof n (fun i => .str (f i).toStr) false)
  | _ => none

theorem wrR_ok : PureF Try.prog 46 cWr := by
  intro args nd v h hnd
  unfold cWr at h
  split at h <;> cases h
  rename_i s m e
  have hl := of_decide_eq_true hnd
  refine pure_vc mix tbl1_ok ((wrR_vc s m e _).mpr ?_)
  repeat' (first
    | (with_reducible refine VB_intro (fun h => ?_) (fun h => ?_) <;> try simp only [h, VB_t, VB_f, NB_t, Bool.not_true, Bool.not_false, Bool.true_and, Bool.false_and, Bool.and_true, Bool.and_false])
    | (with_reducible refine NB_intro' ?_ (fun h => ?_)))
  all_goals try simp only [isW_t, isW_f, impB_t, impB_f, beq_iff_eq, bne_iff_ne, Bool.not_eq_eq_eq_not, Bool.not_true, Bool.not_false, Bool.and_eq_true, Bool.and_eq_false_iff, Bool.or_eq_true, Bool.or_eq_false_iff, beq_eq_false_iff_ne, decide_eq_true_eq, decide_eq_false_iff_not, EqI] at *
  all_goals try simp (disch := omega) only [wrap_i64_id, wrap_u64_id, Int.add_sub_cancel] at *
  all_goals try simp (disch := omega) only [wrap_i64_id, wrap_u64_id, Int.add_sub_cancel] at *
  all_goals try simp (disch := omega) only [wrap_i64_id, wrap_u64_id, Int.add_sub_cancel] at *
  all_goals try simp (disch := omega) only [wrap_i64_id, wrap_u64_id, Int.add_sub_cancel] at *
  all_goals try grind (splits := 20) [wrPutX, wrUse, wrOK, wrStop, wrAdd, wrPut, wrPutI, wrPutSized, wrDone, okSize, digS_length]

theorem putR_ok : PureF Try.prog 54 cPutR := by
  intro args nd v h hnd
  unfold cPutR at h
  split at h <;> cases h
  rename_i s m e t x
  have hl := of_decide_eq_true hnd
  refine pure_vc mix tbl1_ok ((putR_vc s m e t x _).mpr ?_)
  repeat' (first
    | (with_reducible refine VB_intro (fun h => ?_) (fun h => ?_) <;> try simp only [h, VB_t, VB_f, NB_t, Bool.not_true, Bool.not_false, Bool.true_and, Bool.false_and, Bool.and_true, Bool.and_false])
    | (with_reducible refine NB_intro' ?_ (fun h => ?_)))
  all_goals try simp only [isW_t, isW_f, impB_t, impB_f, beq_iff_eq, bne_iff_ne, Bool.not_eq_eq_eq_not, Bool.not_true, Bool.not_false, Bool.and_eq_true, Bool.and_eq_false_iff, Bool.or_eq_true, Bool.or_eq_false_iff, beq_eq_false_iff_ne, decide_eq_true_eq, decide_eq_false_iff_not, EqI] at *
  all_goals try simp (disch := omega) only [wrap_i64_id, wrap_u64_id, Int.add_sub_cancel] at *
  all_goals try simp (disch := omega) only [wrap_i64_id, wrap_u64_id, Int.add_sub_cancel] at *
  all_goals try simp (disch := omega) only [wrap_i64_id, wrap_u64_id, Int.add_sub_cancel] at *
  all_goals try simp (disch := omega) only [wrap_i64_id, wrap_u64_id, Int.add_sub_cancel] at *
  all_goals try grind (splits := 20) [wrPutX, wrUse, wrOK, wrStop, wrAdd, wrPut, wrPutI, wrPutSized, wrDone, okSize, digS_length]

theorem makeI_ok : PureF Try.prog 11 cMake := by
  intro args nd v h hnd
  unfold cMake at h
  split at h <;> cases h
  rename_i m
  skip
  refine pure_vc mix tbl1_ok ((makeI_vc m _).mpr ?_)
  repeat' (first
    | (with_reducible refine VB_intro (fun h => ?_) (fun h => ?_) <;> try simp only [h, VB_t, VB_f, NB_t, Bool.not_true, Bool.not_false, Bool.true_and, Bool.false_and, Bool.and_true, Bool.and_false])
    | (with_reducible refine NB_intro' ?_ (fun h => ?_)))
  all_goals try simp only [isW_t, isW_f, impB_t, impB_f, beq_iff_eq, bne_iff_ne, Bool.not_eq_eq_eq_not, Bool.not_true, Bool.not_false, Bool.and_eq_true, Bool.and_eq_false_iff, Bool.or_eq_true, Bool.or_eq_false_iff, beq_eq_false_iff_ne, decide_eq_true_eq, decide_eq_false_iff_not, EqI] at *
  all_goals try simp (disch := omega) only [wrap_i64_id, wrap_u64_id, Int.add_sub_cancel] at *
  all_goals try simp (disch := omega) only [wrap_i64_id, wrap_u64_id, Int.add_sub_cancel] at *
  all_goals try simp (disch := omega) only [wrap_i64_id, wrap_u64_id, Int.add_sub_cancel] at *
  all_goals try simp (disch := omega) only [wrap_i64_id, wrap_u64_id, Int.add_sub_cancel] at *
  all_goals try grind (splits := 20) [wrPutX, wrUse, wrOK, wrStop, wrAdd, wrPut, wrPutI, wrPutSized, wrDone, okSize, digS_length]

theorem makeR_ok : PureF Try.prog 12 cMake := by
  intro args nd v h hnd
  unfold cMake at h
  split at h <;> cases h
  rename_i m
  skip
  refine pure_vc mix tbl1_ok ((makeR_vc m _).mpr ?_)
  repeat' (first
    | (with_reducible refine VB_intro (fun h => ?_) (fun h => ?_) <;> try simp only [h, VB_t, VB_f, NB_t, Bool.not_true, Bool.not_false, Bool.true_and, Bool.false_and, Bool.and_true, Bool.and_false])
    | (with_reducible refine NB_intro' ?_ (fun h => ?_)))
  all_goals try simp only [isW_t, isW_f, impB_t, impB_f, beq_iff_eq, bne_iff_ne, Bool.not_eq_eq_eq_not, Bool.not_true, Bool.not_false, Bool.and_eq_true, Bool.and_eq_false_iff, Bool.or_eq_true, Bool.or_eq_false_iff, beq_eq_false_iff_ne, decide_eq_true_eq, decide_eq_false_iff_not, EqI] at *
  all_goals try simp (disch := omega) only [wrap_i64_id, wrap_u64_id, Int.add_sub_cancel] at *
  all_goals try simp (disch := omega) only [wrap_i64_id, wrap_u64_id, Int.add_sub_cancel] at *
  all_goals try simp (disch := omega) only [wrap_i64_id, wrap_u64_id, Int.add_sub_cancel] at *
  all_goals try simp (disch := omega) only [wrap_i64_id, wrap_u64_id, Int.add_sub_cancel] at *
  all_goals try grind (splits := 20) [wrPutX, wrUse, wrOK, wrStop, wrAdd, wrPut, wrPutI, wrPutSized, wrDone, okSize, digS_length]

theorem putIntI_ok : PureF Try.prog 15 cPutI := by
  intro args nd v h hnd
  unfold cPutI at h
  split at h <;> cases h
  rename_i s m e n
  have hl := of_decide_eq_true hnd
  refine pure_vcF mix tbl1_ok ((putIntI_vc s m e n (wrPutI ⟨s, m, e⟩ n)).mpr ?_)
  simp only [hide_eq, show Int.toNat 8 = 8 from rfl, digS_length]
  repeat' (first
    | (with_reducible refine VB_intro (fun h => ?_) (fun h => ?_) <;> try simp only [h, VB_t, VB_f, NB_t, Bool.not_true, Bool.not_false, Bool.true_and, Bool.false_and, Bool.and_true, Bool.and_false])
    | (with_reducible refine NB_intro' ?_ (fun h => ?_)))
  all_goals try simp only [isW_t, isW_f, impB_t, impB_f, beq_iff_eq, bne_iff_ne, Bool.not_eq_eq_eq_not, Bool.not_true, Bool.not_false, Bool.and_eq_true, Bool.and_eq_false_iff, Bool.or_eq_true, Bool.or_eq_false_iff, beq_eq_false_iff_ne, decide_eq_true_eq, decide_eq_false_iff_not, EqI] at *
  all_goals try simp (disch := omega) only [wrap_i64_id, wrap_u64_id, Int.add_sub_cancel] at *
  all_goals try simp (disch := omega) only [wrap_i64_id, wrap_u64_id, Int.add_sub_cancel] at *
  all_goals try simp (disch := omega) only [wrap_i64_id, wrap_u64_id, Int.add_sub_cancel] at *
  all_goals try simp (disch := omega) only [wrap_i64_id, wrap_u64_id, Int.add_sub_cancel] at *
  all_goals try grind (splits := 20) [wrPutX, wrUse, wrOK, wrStop, wrAdd, wrPut, wrPutI, wrPutSized, wrDone, okSize, digS_length]

theorem putSizedI_ok : PureF Try.prog 19 cPutSized := by
  intro args nd v h hnd
  unfold cPutSized at h
  split at h <;> cases h
  rename_i s m e t
  have hl := of_decide_eq_true hnd
  refine pure_vcF mix tbl1_ok ((putSizedI_vc s m e t (wrPutSized ⟨s, m, e⟩ t)).mpr ?_)
  simp only [hide_eq, show Int.toNat 2 = 2 from rfl, digS_length, List.length_append, List.append_assoc]
  repeat' (first
    | (with_reducible refine VB_intro (fun h => ?_) (fun h => ?_) <;> try simp only [h, VB_t, VB_f, NB_t, Bool.not_true, Bool.not_false, Bool.true_and, Bool.false_and, Bool.and_true, Bool.and_false])
    | (with_reducible refine NB_intro' ?_ (fun h => ?_)))
  all_goals try simp only [isW_t, isW_f, impB_t, impB_f, beq_iff_eq, bne_iff_ne, Bool.not_eq_eq_eq_not, Bool.not_true, Bool.not_false, Bool.and_eq_true, Bool.and_eq_false_iff, Bool.or_eq_true, Bool.or_eq_false_iff, beq_eq_false_iff_ne, decide_eq_true_eq, decide_eq_false_iff_not, EqI] at *
  all_goals try simp (disch := omega) only [wrap_i64_id, wrap_u64_id, Int.add_sub_cancel] at *
  all_goals try simp (disch := omega) only [wrap_i64_id, wrap_u64_id, Int.add_sub_cancel] at *
  all_goals try simp (disch := omega) only [wrap_i64_id, wrap_u64_id, Int.add_sub_cancel] at *
  all_goals try simp (disch := omega) only [wrap_i64_id, wrap_u64_id, Int.add_sub_cancel] at *
  all_goals try grind (splits := 20) [wrPutX, wrUse, wrOK, wrStop, wrAdd, wrPut, wrPutI, wrPutSized, wrDone, okSize, digS_length, List.append_assoc, List.length_append]

theorem wputI_ok : PureF Try.prog 13 cPut := by
  intro args nd v h hnd
  unfold cPut at h
  split at h <;> cases h
  rename_i s m e k n
  have hl := of_decide_eq_true hnd
  refine pure_vcF mix tbl1_ok ((wputI_vc s m e k n _).mpr ?_)
  have w8 : ((k = 1 ∨ k = 2) ∨ k = 4) ∨ k = 8 → IntKind.i64.wrap (8 * k) = 8 * k := fun h => wrap_i64_id (by omega) (by omega)
  have tg := fun hk => too_great (n := n) hl.2.1 hl.2.2.1 (k := k) hk
  simp only [hide_eq, digS_length]
  repeat' (first
    | (with_reducible refine VB_intro (fun h => ?_) (fun h => ?_) <;> try simp only [h, VB_t, VB_f, NB_t, Bool.not_true, Bool.not_false, Bool.true_and, Bool.false_and, Bool.and_true, Bool.and_false])
    | (with_reducible refine NB_intro' ?_ (fun h => ?_)))
  all_goals try simp only [isW_t, isW_f, impB_t, impB_f, beq_iff_eq, bne_iff_ne, Bool.not_eq_eq_eq_not, Bool.not_true, Bool.not_false, Bool.and_eq_true, Bool.and_eq_false_iff, Bool.or_eq_true, Bool.or_eq_false_iff, beq_eq_false_iff_ne, decide_eq_true_eq, decide_eq_false_iff_not, EqI] at *
  all_goals try simp (disch := omega) only [wrap_i64_id, wrap_u64_id, Int.add_sub_cancel] at *
  all_goals try simp (disch := omega) only [wrap_i64_id, wrap_u64_id, Int.add_sub_cancel] at *
  all_goals try simp (disch := omega) only [wrap_i64_id, wrap_u64_id, Int.add_sub_cancel] at *
  all_goals try simp (disch := omega) only [wrap_i64_id, wrap_u64_id, Int.add_sub_cancel] at *
  all_goals try grind (splits := 20) [wrPutX, wrUse, wrOK, wrStop, wrAdd, wrPut, wrPutI, wrPutSized, wrDone, okSize, digS_length]

theorem doneI_ok : PureF Try.prog 21 cDone := by
  intro args nd v h hnd
  unfold cDone at h
  split at h <;> cases h
  rename_i s m e
  have hl := of_decide_eq_true hnd
  refine pure_vc mix tbl1_ok ((doneI_vc s m e _ _).mpr ?_)
  repeat' (first
    | (with_reducible refine VB_intro (fun h => ?_) (fun h => ?_) <;> try simp only [h, VB_t, VB_f, NB_t, Bool.not_true, Bool.not_false, Bool.true_and, Bool.false_and, Bool.and_true, Bool.and_false])
    | (with_reducible refine NB_intro' ?_ (fun h => ?_)))
  all_goals try simp only [isW_t, isW_f, impB_t, impB_f, beq_iff_eq, bne_iff_ne, Bool.not_eq_eq_eq_not, Bool.not_true, Bool.not_false, Bool.and_eq_true, Bool.and_eq_false_iff, Bool.or_eq_true, Bool.or_eq_false_iff, beq_eq_false_iff_ne, decide_eq_true_eq, decide_eq_false_iff_not, EqI] at *
  all_goals try simp (disch := omega) only [wrap_i64_id, wrap_u64_id, Int.add_sub_cancel] at *
  all_goals try simp (disch := omega) only [wrap_i64_id, wrap_u64_id, Int.add_sub_cancel] at *
  all_goals try simp (disch := omega) only [wrap_i64_id, wrap_u64_id, Int.add_sub_cancel] at *
  all_goals try simp (disch := omega) only [wrap_i64_id, wrap_u64_id, Int.add_sub_cancel] at *
  all_goals try grind (splits := 20) [wrPutX, wrUse, wrOK, wrStop, wrAdd, wrPut, wrPutI, wrPutSized, wrDone, okSize, digS_length]

theorem doneR_ok : PureF Try.prog 22 cDone := by
  intro args nd v h hnd
  unfold cDone at h
  split at h <;> cases h
  rename_i s m e
  have hl := of_decide_eq_true hnd
  refine pure_vc mix tbl1_ok ((doneR_vc s m e _ _).mpr ?_)
  repeat' (first
    | (with_reducible refine VB_intro (fun h => ?_) (fun h => ?_) <;> try simp only [h, VB_t, VB_f, NB_t, Bool.not_true, Bool.not_false, Bool.true_and, Bool.false_and, Bool.and_true, Bool.and_false])
    | (with_reducible refine NB_intro' ?_ (fun h => ?_)))
  all_goals try simp only [isW_t, isW_f, impB_t, impB_f, beq_iff_eq, bne_iff_ne, Bool.not_eq_eq_eq_not, Bool.not_true, Bool.not_false, Bool.and_eq_true, Bool.and_eq_false_iff, Bool.or_eq_true, Bool.or_eq_false_iff, beq_eq_false_iff_ne, decide_eq_true_eq, decide_eq_false_iff_not, EqI] at *
  all_goals try simp (disch := omega) only [wrap_i64_id, wrap_u64_id, Int.add_sub_cancel] at *
  all_goals try simp (disch := omega) only [wrap_i64_id, wrap_u64_id, Int.add_sub_cancel] at *
  all_goals try simp (disch := omega) only [wrap_i64_id, wrap_u64_id, Int.add_sub_cancel] at *
  all_goals try simp (disch := omega) only [wrap_i64_id, wrap_u64_id, Int.add_sub_cancel] at *
  all_goals try grind (splits := 20) [wrPutX, wrUse, wrOK, wrStop, wrAdd, wrPut, wrPutI, wrPutSized, wrDone, okSize, digS_length]

theorem own_ok : PureF Try.prog 10 cOwn := by
  intro args nd v h hnd
  unfold cOwn at h
  split at h <;> cases h
  rename_i n f ex
  simp only [Bool.and_eq_true, decide_eq_true_eq] at hnd
  refine PureC.args (args' := [.rof n (fun i => .str (f i).toStr) false]) rfl (fun i hi => ?_) (pure_vc mix tbl1_ok ((own_vc n _).mpr ?_))
  · simp only [List.length_cons, List.length_nil] at hi
    obtain rfl : i = 0 := by omega
    exact rof_str_sub hnd.1
  · have hr : room n 16 = true := by simp [room]; omega
    simp [NB, Sq.len, Sq.sub, hr, Sq.get]
end Go.Proofs.Ytfgedkmopgkonaa
