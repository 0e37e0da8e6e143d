/- WIRE 8: readers, contracts. -/
import Derived.Test.YtfgedkmopgkonaaW7
namespace Go.Proofs.Ytfgedkmopgkonaa
open Pw Go
set_option maxRecDepth 100000
set_option linter.unusedSimpArgs false

theorem rdTake_len (r : Rd) (n : Int) : (rdTake r n).2.length ≤ r.s.length := by
  unfold rdTake
  split
  · simp
  · split
    · simp
    · simp only [List.length_take, List.length_drop]
      omega
def cUint : Ctr
  | [.agg [.str s, .int .i64 a, .int .i64 e, .int .i64 f], .int .i64 n] => some (decide (s.length ≤ 9223372036854775807), .tup [(rdUint ⟨s, a, e, f⟩ n).1.av, .int .u64 (rdUint ⟨s, a, e, f⟩ n).2])
  | _ => none
def cInt : Ctr
  | [.agg [.str s, .int .i64 a, .int .i64 e, .int .i64 f]] => some (decide (s.length ≤ 9223372036854775807), .tup [(rdInt ⟨s, a, e, f⟩).1.av, .int .i64 (rdInt ⟨s, a, e, f⟩).2])
  | _ => none
def cBytes : Ctr
  | [.agg [.str s, .int .i64 a, .int .i64 e, .int .i64 f], .int .i64 n] => some (decide (s.length ≤ 9223372036854775807), .tup [(rdBytes ⟨s, a, e, f⟩ n).1.av, .str (rdBytes ⟨s, a, e, f⟩ n).2])
  | _ => none
def cSized : Ctr
  | [.agg [.str s, .int .i64 a, .int .i64 e, .int .i64 f], .int .i64 n] => some (decide (s.length ≤ 9223372036854775807), .tup [(rdSized ⟨s, a, e, f⟩ n).1.av, .str (rdSized ⟨s, a, e, f⟩ n).2])
  | _ => none
def cWant : Ctr
  | [.agg [.str s, .int .i64 a, .int .i64 e, .int .i64 f], .str w] => some (decide (s.length ≤ 9223372036854775807 ∧ w.length ≤ 9223372036854775807), (rdWant ⟨s, a, e, f⟩ w).av)
  | _ => none
def cFail : Ctr
  | [.agg [.str s, .int .i64 a, .int .i64 e, .int .i64 f], .int .i64 x, .int .i64 y] => some (decide (s.length ≤ 9223372036854775807), (rdFailX ⟨s, a, e, f⟩ x y).av)
  | _ => none
def cEnd : Ctr
  | [.agg [.str s, .int .i64 a, .int .i64 e, .int .i64 f]] => some (decide (s.length ≤ 9223372036854775807), .agg [.int .i64 (rdEnd ⟨s, a, e, f⟩).err, .int .i64 (rdEnd ⟨s, a, e, f⟩).fat])
  | _ => none
def cRead : Ctr
  | [.str s] => some (true, .agg [.str s, .int .i64 0, .int .i64 0, .int .i64 0])
  | _ => none

theorem uintI_ok : PureF Try.prog 24 cUint := by
  intro args nd v h hnd
  unfold cUint at h
  split at h <;> cases h
  rename_i s a e f n
  have hl := of_decide_eq_true hnd
  refine pure_vc mix tbl1_ok ((uintI_vc s a e f n _ _).mpr ?_)
  repeat' (first
    | (with_reducible refine VB_intro (fun h => ?_) (fun h => ?_) <;> try simp only [h, VB_t, VB_f, NB_t, Bool.not_true, Bool.not_false, Bool.true_and, Bool.false_and, Bool.and_true, Bool.and_false])
    | (with_reducible refine NB_intro' ?_ (fun h => ?_)))
  all_goals try simp only [isW_t, isW_f, impB_t, impB_f, beq_iff_eq, bne_iff_ne, Bool.not_eq_eq_eq_not, Bool.not_true, Bool.not_false, Bool.and_eq_true, Bool.and_eq_false_iff, Bool.or_eq_true, Bool.or_eq_false_iff, beq_eq_false_iff_ne, decide_eq_true_eq, decide_eq_false_iff_not, EqI] at *
  all_goals try simp (disch := omega) only [wrap_i64_id, wrap_u64_id, Int.add_sub_cancel] at *
  all_goals try simp (disch := omega) only [wrap_i64_id, wrap_u64_id, Int.add_sub_cancel] at *
  all_goals try simp (disch := omega) only [wrap_i64_id, wrap_u64_id, Int.add_sub_cancel] at *
  all_goals try simp (disch := omega) only [wrap_i64_id, wrap_u64_id, Int.add_sub_cancel] at *
  all_goals try grind (splits := 20) [rdUint, rdInt, rdBytes, rdSized, rdWant, rdFailX, rdEnd, rdTake, rdUse, rdOK, rdFail, okSize, numS]

theorem uintR_ok : PureF Try.prog 25 cUint := by
  intro args nd v h hnd
  unfold cUint at h
  split at h <;> cases h
  rename_i s a e f n
  have hl := of_decide_eq_true hnd
  refine pure_vc mix tbl1_ok ((uintR_vc s a e f n _ _).mpr ?_)
  repeat' (first
    | (with_reducible refine VB_intro (fun h => ?_) (fun h => ?_) <;> try simp only [h, VB_t, VB_f, NB_t, Bool.not_true, Bool.not_false, Bool.true_and, Bool.false_and, Bool.and_true, Bool.and_false])
    | (with_reducible refine NB_intro' ?_ (fun h => ?_)))
  all_goals try simp only [isW_t, isW_f, impB_t, impB_f, beq_iff_eq, bne_iff_ne, Bool.not_eq_eq_eq_not, Bool.not_true, Bool.not_false, Bool.and_eq_true, Bool.and_eq_false_iff, Bool.or_eq_true, Bool.or_eq_false_iff, beq_eq_false_iff_ne, decide_eq_true_eq, decide_eq_false_iff_not, EqI] at *
  all_goals try simp (disch := omega) only [wrap_i64_id, wrap_u64_id, Int.add_sub_cancel] at *
  all_goals try simp (disch := omega) only [wrap_i64_id, wrap_u64_id, Int.add_sub_cancel] at *
  all_goals try simp (disch := omega) only [wrap_i64_id, wrap_u64_id, Int.add_sub_cancel] at *
  all_goals try simp (disch := omega) only [wrap_i64_id, wrap_u64_id, Int.add_sub_cancel] at *
  all_goals try grind (splits := 20) [rdUint, rdInt, rdBytes, rdSized, rdWant, rdFailX, rdEnd, rdTake, rdUse, rdOK, rdFail, okSize, numS]

theorem intI_ok : PureF Try.prog 26 cInt := by
  intro args nd v h hnd
  unfold cInt at h
  split at h <;> cases h
  rename_i s a e f
  have hl := of_decide_eq_true hnd
  refine pure_vc mix tbl1_ok ((intI_vc s a e f _ _).mpr ?_)
  repeat' (first
    | (with_reducible refine VB_intro (fun h => ?_) (fun h => ?_) <;> try simp only [h, VB_t, VB_f, NB_t, Bool.not_true, Bool.not_false, Bool.true_and, Bool.false_and, Bool.and_true, Bool.and_false])
    | (with_reducible refine NB_intro' ?_ (fun h => ?_)))
  all_goals try simp only [isW_t, isW_f, impB_t, impB_f, beq_iff_eq, bne_iff_ne, Bool.not_eq_eq_eq_not, Bool.not_true, Bool.not_false, Bool.and_eq_true, Bool.and_eq_false_iff, Bool.or_eq_true, Bool.or_eq_false_iff, beq_eq_false_iff_ne, decide_eq_true_eq, decide_eq_false_iff_not, EqI] at *
  all_goals try simp (disch := omega) only [wrap_i64_id, wrap_u64_id, Int.add_sub_cancel] at *
  all_goals try simp (disch := omega) only [wrap_i64_id, wrap_u64_id, Int.add_sub_cancel] at *
  all_goals try simp (disch := omega) only [wrap_i64_id, wrap_u64_id, Int.add_sub_cancel] at *
  all_goals try simp (disch := omega) only [wrap_i64_id, wrap_u64_id, Int.add_sub_cancel] at *
  all_goals try grind (splits := 20) [rdUint, rdInt, rdBytes, rdSized, rdWant, rdFailX, rdEnd, rdTake, rdUse, rdOK, rdFail, okSize, numS]

theorem intR_ok : PureF Try.prog 27 cInt := by
  intro args nd v h hnd
  unfold cInt at h
  split at h <;> cases h
  rename_i s a e f
  have hl := of_decide_eq_true hnd
  refine pure_vc mix tbl1_ok ((intR_vc s a e f _ _).mpr ?_)
  repeat' (first
    | (with_reducible refine VB_intro (fun h => ?_) (fun h => ?_) <;> try simp only [h, VB_t, VB_f, NB_t, Bool.not_true, Bool.not_false, Bool.true_and, Bool.false_and, Bool.and_true, Bool.and_false])
    | (with_reducible refine NB_intro' ?_ (fun h => ?_)))
  all_goals try simp only [isW_t, isW_f, impB_t, impB_f, beq_iff_eq, bne_iff_ne, Bool.not_eq_eq_eq_not, Bool.not_true, Bool.not_false, Bool.and_eq_true, Bool.and_eq_false_iff, Bool.or_eq_true, Bool.or_eq_false_iff, beq_eq_false_iff_ne, decide_eq_true_eq, decide_eq_false_iff_not, EqI] at *
  all_goals try simp (disch := omega) only [wrap_i64_id, wrap_u64_id, Int.add_sub_cancel] at *
  all_goals try simp (disch := omega) only [wrap_i64_id, wrap_u64_id, Int.add_sub_cancel] at *
  all_goals try simp (disch := omega) only [wrap_i64_id, wrap_u64_id, Int.add_sub_cancel] at *
  all_goals try simp (disch := omega) only [wrap_i64_id, wrap_u64_id, Int.add_sub_cancel] at *
  all_goals try grind (splits := 20) [rdUint, rdInt, rdBytes, rdSized, rdWant, rdFailX, rdEnd, rdTake, rdUse, rdOK, rdFail, okSize, numS]

theorem bytesI_ok : PureF Try.prog 28 cBytes := by
  intro args nd v h hnd
  unfold cBytes at h
  split at h <;> cases h
  rename_i s a e f n
  have hl := of_decide_eq_true hnd
  refine pure_vc mix tbl1_ok ((bytesI_vc s a e f n _ _).mpr ?_)
  repeat' (first
    | (with_reducible refine VB_intro (fun h => ?_) (fun h => ?_) <;> try simp only [h, VB_t, VB_f, NB_t, Bool.not_true, Bool.not_false, Bool.true_and, Bool.false_and, Bool.and_true, Bool.and_false])
    | (with_reducible refine NB_intro' ?_ (fun h => ?_)))
  all_goals try simp only [isW_t, isW_f, impB_t, impB_f, beq_iff_eq, bne_iff_ne, Bool.not_eq_eq_eq_not, Bool.not_true, Bool.not_false, Bool.and_eq_true, Bool.and_eq_false_iff, Bool.or_eq_true, Bool.or_eq_false_iff, beq_eq_false_iff_ne, decide_eq_true_eq, decide_eq_false_iff_not, EqI] at *
  all_goals try simp (disch := omega) only [wrap_i64_id, wrap_u64_id, Int.add_sub_cancel] at *
  all_goals try simp (disch := omega) only [wrap_i64_id, wrap_u64_id, Int.add_sub_cancel] at *
  all_goals try simp (disch := omega) only [wrap_i64_id, wrap_u64_id, Int.add_sub_cancel] at *
  all_goals try simp (disch := omega) only [wrap_i64_id, wrap_u64_id, Int.add_sub_cancel] at *
  all_goals try grind (splits := 20) [rdUint, rdInt, rdBytes, rdSized, rdWant, rdFailX, rdEnd, rdTake, rdUse, rdOK, rdFail, okSize, numS]

theorem bytesR_ok : PureF Try.prog 29 cBytes := by
  intro args nd v h hnd
  unfold cBytes at h
  split at h <;> cases h
  rename_i s a e f n
  have hl := of_decide_eq_true hnd
  refine pure_vc mix tbl1_ok ((bytesR_vc s a e f n _ _).mpr ?_)
  repeat' (first
    | (with_reducible refine VB_intro (fun h => ?_) (fun h => ?_) <;> try simp only [h, VB_t, VB_f, NB_t, Bool.not_true, Bool.not_false, Bool.true_and, Bool.false_and, Bool.and_true, Bool.and_false])
    | (with_reducible refine NB_intro' ?_ (fun h => ?_)))
  all_goals try simp only [isW_t, isW_f, impB_t, impB_f, beq_iff_eq, bne_iff_ne, Bool.not_eq_eq_eq_not, Bool.not_true, Bool.not_false, Bool.and_eq_true, Bool.and_eq_false_iff, Bool.or_eq_true, Bool.or_eq_false_iff, beq_eq_false_iff_ne, decide_eq_true_eq, decide_eq_false_iff_not, EqI] at *
  all_goals try simp (disch := omega) only [wrap_i64_id, wrap_u64_id, Int.add_sub_cancel] at *
  all_goals try simp (disch := omega) only [wrap_i64_id, wrap_u64_id, Int.add_sub_cancel] at *
  all_goals try simp (disch := omega) only [wrap_i64_id, wrap_u64_id, Int.add_sub_cancel] at *
  all_goals try simp (disch := omega) only [wrap_i64_id, wrap_u64_id, Int.add_sub_cancel] at *
  all_goals try grind (splits := 20) [rdUint, rdInt, rdBytes, rdSized, rdWant, rdFailX, rdEnd, rdTake, rdUse, rdOK, rdFail, okSize, numS]

theorem sizedR_ok : PureF Try.prog 31 cSized := by
  intro args nd v h hnd
  unfold cSized at h
  split at h <;> cases h
  rename_i s a e f n
  have hl := of_decide_eq_true hnd
  refine pure_vc mix tbl1_ok ((sizedR_vc s a e f n _ _).mpr ?_)
  have h2 : 0 ≤ a → _ := fun h0 => numS_two' s a.toNat (a + 2).toNat (by omega)
  repeat' (first
    | (with_reducible refine VB_intro (fun h => ?_) (fun h => ?_) <;> try simp only [h, VB_t, VB_f, NB_t, Bool.not_true, Bool.not_false, Bool.true_and, Bool.false_and, Bool.and_true, Bool.and_false])
    | (with_reducible refine NB_intro' ?_ (fun h => ?_)))
  all_goals try simp only [isW_t, isW_f, impB_t, impB_f, beq_iff_eq, bne_iff_ne, Bool.not_eq_eq_eq_not, Bool.not_true, Bool.not_false, Bool.and_eq_true, Bool.and_eq_false_iff, Bool.or_eq_true, Bool.or_eq_false_iff, beq_eq_false_iff_ne, decide_eq_true_eq, decide_eq_false_iff_not, EqI] at *
  all_goals try simp (disch := omega) only [wrap_i64_id, wrap_u64_id, Int.add_sub_cancel] at *
  all_goals try simp (disch := omega) only [wrap_i64_id, wrap_u64_id, Int.add_sub_cancel] at *
  all_goals try simp (disch := omega) only [wrap_i64_id, wrap_u64_id, Int.add_sub_cancel] at *
  all_goals try simp (disch := omega) only [wrap_i64_id, wrap_u64_id, Int.add_sub_cancel] at *
  all_goals try grind (splits := 20) [rdUint, rdInt, rdBytes, rdSized, rdWant, rdFailX, rdEnd, rdTake, rdUse, rdOK, rdFail, okSize, numS]

theorem sizedI_ok : PureF Try.prog 30 cSized := by
  intro args nd v h hnd
  unfold cSized at h
  split at h <;> cases h
  rename_i s a e f n
  have hl := of_decide_eq_true hnd
  have h2 : 0 ≤ a → _ := fun h0 => numS_two' s a.toNat (a + 2).toNat (by omega)
  have h3 : 0 ≤ a → _ := fun h0 => numS_two' s (a + 2 - 2).toNat (a + 2).toNat (by omega)
  rcases e with e | e
  · cases e with
    | zero =>
      refine pure_vc mix tbl1_ok ((sizedI0_vc s a f n _ _).mpr ?_)
      repeat' (first
        | (with_reducible refine VB_intro (fun h => ?_) (fun h => ?_) <;> try simp only [h, VB_t, VB_f, NB_t, Bool.not_true, Bool.not_false, Bool.true_and, Bool.false_and, Bool.and_true, Bool.and_false])
        | (with_reducible refine NB_intro' ?_ (fun h => ?_)))
      all_goals try simp only [isW_t, isW_f, impB_t, impB_f, beq_iff_eq, bne_iff_ne, Bool.not_eq_eq_eq_not, Bool.not_true, Bool.not_false, Bool.and_eq_true, Bool.and_eq_false_iff, Bool.or_eq_true, Bool.or_eq_false_iff, beq_eq_false_iff_ne, decide_eq_true_eq, decide_eq_false_iff_not, EqI] at *
      all_goals try simp (disch := omega) only [wrap_i64_id, wrap_u64_id, Int.add_sub_cancel] at *
      all_goals try simp (disch := omega) only [wrap_i64_id, wrap_u64_id, Int.add_sub_cancel] at *
      all_goals try simp (disch := omega) only [wrap_i64_id, wrap_u64_id, Int.add_sub_cancel] at *
      all_goals try simp (disch := omega) only [wrap_i64_id, wrap_u64_id, Int.add_sub_cancel] at *
      all_goals try grind (splits := 20) [rdUint, rdInt, rdBytes, rdSized, rdWant, rdFailX, rdEnd, rdTake, rdUse, rdOK, rdFail, okSize, numS]
    | succ m =>
      refine pure_vc mix tbl1_ok ((sizedI1_vc s a f n m _ _).mpr ?_)
      repeat' (first
        | (with_reducible refine VB_intro (fun h => ?_) (fun h => ?_) <;> try simp only [h, VB_t, VB_f, NB_t, Bool.not_true, Bool.not_false, Bool.true_and, Bool.false_and, Bool.and_true, Bool.and_false])
        | (with_reducible refine NB_intro' ?_ (fun h => ?_)))
      all_goals try simp only [isW_t, isW_f, impB_t, impB_f, beq_iff_eq, bne_iff_ne, Bool.not_eq_eq_eq_not, Bool.not_true, Bool.not_false, Bool.and_eq_true, Bool.and_eq_false_iff, Bool.or_eq_true, Bool.or_eq_false_iff, beq_eq_false_iff_ne, decide_eq_true_eq, decide_eq_false_iff_not, EqI] at *
      all_goals try simp (disch := omega) only [wrap_i64_id, wrap_u64_id, Int.add_sub_cancel] at *
      all_goals try simp (disch := omega) only [wrap_i64_id, wrap_u64_id, Int.add_sub_cancel] at *
      all_goals try simp (disch := omega) only [wrap_i64_id, wrap_u64_id, Int.add_sub_cancel] at *
      all_goals try simp (disch := omega) only [wrap_i64_id, wrap_u64_id, Int.add_sub_cancel] at *
      all_goals try grind (splits := 20) [rdUint, rdInt, rdBytes, rdSized, rdWant, rdFailX, rdEnd, rdTake, rdUse, rdOK, rdFail, okSize, numS]
  · refine pure_vc mix tbl1_ok ((sizedI2_vc s a f n e _ _).mpr ?_)
    repeat' (first
      | (with_reducible refine VB_intro (fun h => ?_) (fun h => ?_) <;> try simp only [h, VB_t, VB_f, NB_t, Bool.not_true, Bool.not_false, Bool.true_and, Bool.false_and, Bool.and_true, Bool.and_false])
      | (with_reducible refine NB_intro' ?_ (fun h => ?_)))
    all_goals try simp only [isW_t, isW_f, impB_t, impB_f, beq_iff_eq, bne_iff_ne, Bool.not_eq_eq_eq_not, Bool.not_true, Bool.not_false, Bool.and_eq_true, Bool.and_eq_false_iff, Bool.or_eq_true, Bool.or_eq_false_iff, beq_eq_false_iff_ne, decide_eq_true_eq, decide_eq_false_iff_not, EqI] at *
    all_goals try simp (disch := omega) only [wrap_i64_id, wrap_u64_id, Int.add_sub_cancel] at *
    all_goals try simp (disch := omega) only [wrap_i64_id, wrap_u64_id, Int.add_sub_cancel] at *
    all_goals try simp (disch := omega) only [wrap_i64_id, wrap_u64_id, Int.add_sub_cancel] at *
    all_goals try simp (disch := omega) only [wrap_i64_id, wrap_u64_id, Int.add_sub_cancel] at *
    all_goals try grind (splits := 20) [rdUint, rdInt, rdBytes, rdSized, rdWant, rdFailX, rdEnd, rdTake, rdUse, rdOK, rdFail, okSize, numS]

theorem wantI_ok : PureF Try.prog 32 cWant := by
  intro args nd v h hnd
  unfold cWant at h
  split at h <;> cases h
  rename_i s a e f w
  have hl := of_decide_eq_true hnd
  refine pure_vc mix tbl1_ok ((wantI_vc s a e f w _).mpr ?_)
  repeat' (first
    | (with_reducible refine VB_intro (fun h => ?_) (fun h => ?_) <;> try simp only [h, VB_t, VB_f, NB_t, Bool.not_true, Bool.not_false, Bool.true_and, Bool.false_and, Bool.and_true, Bool.and_false])
    | (with_reducible refine NB_intro' ?_ (fun h => ?_)))
  all_goals try simp only [isW_t, isW_f, impB_t, impB_f, beq_iff_eq, bne_iff_ne, Bool.not_eq_eq_eq_not, Bool.not_true, Bool.not_false, Bool.and_eq_true, Bool.and_eq_false_iff, Bool.or_eq_true, Bool.or_eq_false_iff, beq_eq_false_iff_ne, decide_eq_true_eq, decide_eq_false_iff_not, EqI] at *
  all_goals try simp (disch := omega) only [wrap_i64_id, wrap_u64_id, Int.add_sub_cancel] at *
  all_goals try simp (disch := omega) only [wrap_i64_id, wrap_u64_id, Int.add_sub_cancel] at *
  all_goals try simp (disch := omega) only [wrap_i64_id, wrap_u64_id, Int.add_sub_cancel] at *
  all_goals try simp (disch := omega) only [wrap_i64_id, wrap_u64_id, Int.add_sub_cancel] at *
  all_goals try grind (splits := 20) [rdUint, rdInt, rdBytes, rdSized, rdWant, rdFailX, rdEnd, rdTake, rdUse, rdOK, rdFail, okSize, numS]

theorem wantR_ok : PureF Try.prog 33 cWant := by
  intro args nd v h hnd
  unfold cWant at h
  split at h <;> cases h
  rename_i s a e f w
  have hl := of_decide_eq_true hnd
  refine pure_vc mix tbl1_ok ((wantR_vc s a e f w _).mpr ?_)
  repeat' (first
    | (with_reducible refine VB_intro (fun h => ?_) (fun h => ?_) <;> try simp only [h, VB_t, VB_f, NB_t, Bool.not_true, Bool.not_false, Bool.true_and, Bool.false_and, Bool.and_true, Bool.and_false])
    | (with_reducible refine NB_intro' ?_ (fun h => ?_)))
  all_goals try simp only [isW_t, isW_f, impB_t, impB_f, beq_iff_eq, bne_iff_ne, Bool.not_eq_eq_eq_not, Bool.not_true, Bool.not_false, Bool.and_eq_true, Bool.and_eq_false_iff, Bool.or_eq_true, Bool.or_eq_false_iff, beq_eq_false_iff_ne, decide_eq_true_eq, decide_eq_false_iff_not, EqI] at *
  all_goals try simp (disch := omega) only [wrap_i64_id, wrap_u64_id, Int.add_sub_cancel] at *
  all_goals try simp (disch := omega) only [wrap_i64_id, wrap_u64_id, Int.add_sub_cancel] at *
  all_goals try simp (disch := omega) only [wrap_i64_id, wrap_u64_id, Int.add_sub_cancel] at *
  all_goals try simp (disch := omega) only [wrap_i64_id, wrap_u64_id, Int.add_sub_cancel] at *
  all_goals try grind (splits := 20) [rdUint, rdInt, rdBytes, rdSized, rdWant, rdFailX, rdEnd, rdTake, rdUse, rdOK, rdFail, okSize, numS]

theorem failI_ok : PureF Try.prog 34 cFail := by
  intro args nd v h hnd
  unfold cFail at h
  split at h <;> cases h
  rename_i s a e f x y
  have hl := of_decide_eq_true hnd
  refine pure_vc mix tbl1_ok ((failI_vc s a e f x y _).mpr ?_)
  repeat' (first
    | (with_reducible refine VB_intro (fun h => ?_) (fun h => ?_) <;> try simp only [h, VB_t, VB_f, NB_t, Bool.not_true, Bool.not_false, Bool.true_and, Bool.false_and, Bool.and_true, Bool.and_false])
    | (with_reducible refine NB_intro' ?_ (fun h => ?_)))
  all_goals try simp only [isW_t, isW_f, impB_t, impB_f, beq_iff_eq, bne_iff_ne, Bool.not_eq_eq_eq_not, Bool.not_true, Bool.not_false, Bool.and_eq_true, Bool.and_eq_false_iff, Bool.or_eq_true, Bool.or_eq_false_iff, beq_eq_false_iff_ne, decide_eq_true_eq, decide_eq_false_iff_not, EqI] at *
  all_goals try simp (disch := omega) only [wrap_i64_id, wrap_u64_id, Int.add_sub_cancel] at *
  all_goals try simp (disch := omega) only [wrap_i64_id, wrap_u64_id, Int.add_sub_cancel] at *
  all_goals try simp (disch := omega) only [wrap_i64_id, wrap_u64_id, Int.add_sub_cancel] at *
  all_goals try simp (disch := omega) only [wrap_i64_id, wrap_u64_id, Int.add_sub_cancel] at *
  all_goals try grind (splits := 20) [rdUint, rdInt, rdBytes, rdSized, rdWant, rdFailX, rdEnd, rdTake, rdUse, rdOK, rdFail, okSize, numS]

theorem failR_ok : PureF Try.prog 35 cFail := by
  intro args nd v h hnd
  unfold cFail at h
  split at h <;> cases h
  rename_i s a e f x y
  have hl := of_decide_eq_true hnd
  refine pure_vc mix tbl1_ok ((failR_vc s a e f x y _).mpr ?_)
  repeat' (first
    | (with_reducible refine VB_intro (fun h => ?_) (fun h => ?_) <;> try simp only [h, VB_t, VB_f, NB_t, Bool.not_true, Bool.not_false, Bool.true_and, Bool.false_and, Bool.and_true, Bool.and_false])
    | (with_reducible refine NB_intro' ?_ (fun h => ?_)))
  all_goals try simp only [isW_t, isW_f, impB_t, impB_f, beq_iff_eq, bne_iff_ne, Bool.not_eq_eq_eq_not, Bool.not_true, Bool.not_false, Bool.and_eq_true, Bool.and_eq_false_iff, Bool.or_eq_true, Bool.or_eq_false_iff, beq_eq_false_iff_ne, decide_eq_true_eq, decide_eq_false_iff_not, EqI] at *
  all_goals try simp (disch := omega) only [wrap_i64_id, wrap_u64_id, Int.add_sub_cancel] at *
  all_goals try simp (disch := omega) only [wrap_i64_id, wrap_u64_id, Int.add_sub_cancel] at *
  all_goals try simp (disch := omega) only [wrap_i64_id, wrap_u64_id, Int.add_sub_cancel] at *
  all_goals try simp (disch := omega) only [wrap_i64_id, wrap_u64_id, Int.add_sub_cancel] at *
  all_goals try grind (splits := 20) [rdUint, rdInt, rdBytes, rdSized, rdWant, rdFailX, rdEnd, rdTake, rdUse, rdOK, rdFail, okSize, numS]

theorem endI_ok : PureF Try.prog 36 cEnd := by
  intro args nd v h hnd
  unfold cEnd at h
  split at h <;> cases h
  rename_i s a e f
  have hl := of_decide_eq_true hnd
  refine pure_vc mix tbl1_ok ((endI_vc s a e f _).mpr ?_)
  repeat' (first
    | (with_reducible refine VB_intro (fun h => ?_) (fun h => ?_) <;> try simp only [h, VB_t, VB_f, NB_t, Bool.not_true, Bool.not_false, Bool.true_and, Bool.false_and, Bool.and_true, Bool.and_false])
    | (with_reducible refine NB_intro' ?_ (fun h => ?_)))
  all_goals try simp only [isW_t, isW_f, impB_t, impB_f, beq_iff_eq, bne_iff_ne, Bool.not_eq_eq_eq_not, Bool.not_true, Bool.not_false, Bool.and_eq_true, Bool.and_eq_false_iff, Bool.or_eq_true, Bool.or_eq_false_iff, beq_eq_false_iff_ne, decide_eq_true_eq, decide_eq_false_iff_not, EqI] at *
  all_goals try simp (disch := omega) only [wrap_i64_id, wrap_u64_id, Int.add_sub_cancel] at *
  all_goals try simp (disch := omega) only [wrap_i64_id, wrap_u64_id, Int.add_sub_cancel] at *
  all_goals try simp (disch := omega) only [wrap_i64_id, wrap_u64_id, Int.add_sub_cancel] at *
  all_goals try simp (disch := omega) only [wrap_i64_id, wrap_u64_id, Int.add_sub_cancel] at *
  all_goals try grind (splits := 20) [rdUint, rdInt, rdBytes, rdSized, rdWant, rdFailX, rdEnd, rdTake, rdUse, rdOK, rdFail, okSize, numS]

theorem endR_ok : PureF Try.prog 37 cEnd := by
  intro args nd v h hnd
  unfold cEnd at h
  split at h <;> cases h
  rename_i s a e f
  have hl := of_decide_eq_true hnd
  refine pure_vc mix tbl1_ok ((endR_vc s a e f _).mpr ?_)
  repeat' (first
    | (with_reducible refine VB_intro (fun h => ?_) (fun h => ?_) <;> try simp only [h, VB_t, VB_f, NB_t, Bool.not_true, Bool.not_false, Bool.true_and, Bool.false_and, Bool.and_true, Bool.and_false])
    | (with_reducible refine NB_intro' ?_ (fun h => ?_)))
  all_goals try simp only [isW_t, isW_f, impB_t, impB_f, beq_iff_eq, bne_iff_ne, Bool.not_eq_eq_eq_not, Bool.not_true, Bool.not_false, Bool.and_eq_true, Bool.and_eq_false_iff, Bool.or_eq_true, Bool.or_eq_false_iff, beq_eq_false_iff_ne, decide_eq_true_eq, decide_eq_false_iff_not, EqI] at *
  all_goals try simp (disch := omega) only [wrap_i64_id, wrap_u64_id, Int.add_sub_cancel] at *
  all_goals try simp (disch := omega) only [wrap_i64_id, wrap_u64_id, Int.add_sub_cancel] at *
  all_goals try simp (disch := omega) only [wrap_i64_id, wrap_u64_id, Int.add_sub_cancel] at *
  all_goals try simp (disch := omega) only [wrap_i64_id, wrap_u64_id, Int.add_sub_cancel] at *
  all_goals try grind (splits := 20) [rdUint, rdInt, rdBytes, rdSized, rdWant, rdFailX, rdEnd, rdTake, rdUse, rdOK, rdFail, okSize, numS]

theorem readI_ok : PureF Try.prog 38 cRead := by
  intro args nd v h hnd
  unfold cRead at h
  split at h <;> cases h
  rename_i s
  exact pure_vc mix tbl1_ok ((readI_vc s).mpr ⟨rfl, rfl, rfl, rfl, trivial⟩)

theorem readR_ok : PureF Try.prog 39 cRead := by
  intro args nd v h hnd
  unfold cRead at h
  split at h <;> cases h
  rename_i s
  exact pure_vc mix tbl1_ok ((readR_vc s).mpr ⟨rfl, rfl, rfl, rfl, trivial⟩)

end Go.Proofs.Ytfgedkmopgkonaa
