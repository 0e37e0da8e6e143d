/- PRED 3: lists of conditions, contracts. -/
import Derived.Test.YtjkkkldkimdajaaDoorP2
namespace Go.Proofs.YtjkkkldkimdajaaDoor
open Pw Go
set_option maxRecDepth 100000
set_option linter.unusedSimpArgs false

theorem condI_ok : PureF Tryd.prog 15 cCond := by
  intro args nd v h hnd
  unfold cCond at h
  split at h <;> cases h
  rename_i op c x
  refine pure_vc (t := tblOf tbl1) (inv := fun _ _ => none) (k := 20) (d := 3) mix tbl1_ok ((condI_vc op c x _ _).mpr ?_)
  repeat' (first
    | (with_reducible refine VB_intro (fun h => ?_) (fun h => ?_) <;> try simp only [h, VB_t, VB_f, NB_t, Bool.not_true, Bool.not_false, Bool.true_and, Bool.false_and, Bool.and_true, Bool.and_false])
    | (with_reducible refine NB_intro' ?_ (fun h => ?_)))
  all_goals try simp only [isW_t, isW_f, impB_t, impB_f, beq_iff_eq, bne_iff_ne, Bool.not_eq_eq_eq_not, Bool.not_true, Bool.not_false, Bool.and_eq_true, Bool.and_eq_false_iff, Bool.or_eq_true, Bool.or_eq_false_iff, beq_eq_false_iff_ne, decide_eq_true_eq, decide_eq_false_iff_not, EqI] at *
  all_goals try simp (disch := omega) only [wrap_i64_id, wrap_u64_id, Int.add_sub_cancel] at *
  all_goals try simp (disch := omega) only [wrap_i64_id, wrap_u64_id, Int.add_sub_cancel] at *
  all_goals try simp (disch := omega) only [wrap_i64_id, wrap_u64_id, Int.add_sub_cancel] at *
  all_goals try simp (disch := omega) only [wrap_i64_id, wrap_u64_id, Int.add_sub_cancel] at *
  all_goals try grind (splits := 20) [condS, condE, okOp]

def cChk : Ctr
  | [.rof n f _] => some (decide (n ≤ 1000000) && condsB n f, .int .i64 (chkS n fun i => opOf (f i)))
  | _ => none
def cAll : Ctr
  | [.rof n f _, .int .i64 x] => some (decide (n ≤ 1000000) && condsB n f && okAll n (fun i => opOf (f i)), .bool (allS n (fun i => opOf (f i)) (fun i => valOf (f i)) x))
  | _ => none

theorem chkI_pure (n : Nat) (o v : Nat → Int) (hn : n ≤ 1000000) : PureC Tryd.prog (fun _ => .undef) 44 [condsAV n o v] (.int .i64 (chkS n o)) := by
  refine pure_vc mix tbl1_ok ((chkI_vc n o v _).mpr ?_)
  have hs := okAll_iff (n := n) (o := o)
  simp only [EqI, true_and, and_true, implies_true, Int.toNat_natCast, List.length_cons, List.length_nil]
  refine VB_intro (fun h => ?_) (fun h => ⟨⟨0, by simp⟩, fun i hi => ?_⟩)
  · have : 8 < n := by have := of_decide_eq_true h; omega
    simp [chkS, this]
  · have h8 : ¬ 8 < n := by have := of_decide_eq_false h; omega
    clear h
    repeat' (first
      | (with_reducible refine VB_intro (fun h => ?_) (fun h => ?_) <;> try simp only [h, VB_t, VB_f, NB_t, Bool.not_true, Bool.not_false, Bool.true_and, Bool.false_and, Bool.and_true, Bool.and_false])
      | (with_reducible refine NB_intro' ?_ (fun h => ?_))
      | (with_reducible refine Exists.intro (i + 1) ?_)
      | (with_reducible refine And.intro ?_ ?_))
    all_goals try simp only [invChk, isW_t, isW_f, impB_t, impB_f, beq_iff_eq, bne_iff_ne, Bool.not_eq_eq_eq_not, Bool.not_true, Bool.not_false, Bool.and_eq_true, Bool.and_eq_false_iff, Bool.or_eq_true, Bool.or_eq_false_iff, beq_eq_false_iff_ne, decide_eq_true_eq, decide_eq_false_iff_not, EqI, List.length_append, List.append_assoc] at *
    all_goals try simp (disch := omega) only [wrap_i64_id, wrap_u64_id, Int.add_sub_cancel] at *
    all_goals try simp (disch := omega) only [wrap_i64_id, wrap_u64_id, Int.add_sub_cancel] at *
    all_goals try omega
    all_goals try grind (splits := 20) [chkS, okOp]
theorem chkR_pure (n : Nat) (o v : Nat → Int) (hn : n ≤ 1000000) : PureC Tryd.prog (fun _ => .undef) 46 [condsAV n o v] (.int .i64 (chkS n o)) := by
  refine pure_vc mix tbl1_ok ((chkR_vc n o v _).mpr ?_)
  have hs := okAll_iff (n := n) (o := o)
  simp only [EqI, true_and, and_true, implies_true, Int.toNat_natCast, List.length_cons, List.length_nil]
  refine VB_intro (fun h => ?_) (fun h => ⟨⟨0, by simp⟩, fun i hi => ?_⟩)
  · have : 8 < n := by have := of_decide_eq_true h; omega
    simp [chkS, this]
  · have h8 : ¬ 8 < n := by have := of_decide_eq_false h; omega
    clear h
    repeat' (first
      | (with_reducible refine VB_intro (fun h => ?_) (fun h => ?_) <;> try simp only [h, VB_t, VB_f, NB_t, Bool.not_true, Bool.not_false, Bool.true_and, Bool.false_and, Bool.and_true, Bool.and_false])
      | (with_reducible refine NB_intro' ?_ (fun h => ?_))
      | (with_reducible refine Exists.intro (i + 1) ?_)
      | (with_reducible refine And.intro ?_ ?_))
    all_goals try simp only [invChkR, isW_t, isW_f, impB_t, impB_f, beq_iff_eq, bne_iff_ne, Bool.not_eq_eq_eq_not, Bool.not_true, Bool.not_false, Bool.and_eq_true, Bool.and_eq_false_iff, Bool.or_eq_true, Bool.or_eq_false_iff, beq_eq_false_iff_ne, decide_eq_true_eq, decide_eq_false_iff_not, EqI, List.length_append, List.append_assoc] at *
    all_goals try simp (disch := omega) only [wrap_i64_id, wrap_u64_id, Int.add_sub_cancel] at *
    all_goals try simp (disch := omega) only [wrap_i64_id, wrap_u64_id, Int.add_sub_cancel] at *
    all_goals try omega
    all_goals try grind (splits := 20) [chkS, okOp]
theorem allI_pure (n : Nat) (o v : Nat → Int) (x : Int) (hn : n ≤ 1000000) (hok : okAll n o = true) : PureC Tryd.prog (fun _ => .undef) 45 [condsAV n o v, .int .i64 x] (.bool (allS n o v x)) := by
  refine pure_vc mix tbl1_ok ((allI_vc n o v x _).mpr ?_)
  have hs := allS_iff (n := n) (o := o) (v := v) (x := x)
  have ho : ∀ i, i < n → 1 ≤ o i ∧ o i ≤ 6 := fun i hi => by simpa [okOp] using okAll_iff.1 hok i hi
  simp only [EqI, true_and, and_true, implies_true, Int.toNat_natCast, List.length_cons, List.length_nil]
  refine ⟨⟨0, by simp⟩, fun i hi => ?_⟩
  repeat' (first
    | (with_reducible refine VB_intro (fun h => ?_) (fun h => ?_) <;> try simp only [h, VB_t, VB_f, NB_t, Bool.not_true, Bool.not_false, Bool.true_and, Bool.false_and, Bool.and_true, Bool.and_false])
    | (with_reducible refine NB_intro' ?_ (fun h => ?_))
    | (with_reducible refine Exists.intro (i + 1) ?_)
    | (with_reducible refine And.intro ?_ ?_))
  all_goals try simp only [invAll, isW_t, isW_f, impB_t, impB_f, beq_iff_eq, bne_iff_ne, Bool.not_eq_eq_eq_not, Bool.not_true, Bool.not_false, Bool.and_eq_true, Bool.and_eq_false_iff, Bool.or_eq_true, Bool.or_eq_false_iff, beq_eq_false_iff_ne, decide_eq_true_eq, decide_eq_false_iff_not, EqI, List.length_append, List.append_assoc] at *
  all_goals try simp (disch := omega) only [wrap_i64_id, wrap_u64_id, Int.add_sub_cancel] at *
  all_goals try simp (disch := omega) only [wrap_i64_id, wrap_u64_id, Int.add_sub_cancel] at *
  all_goals try omega
  all_goals try grind (splits := 20) [allS]
theorem allR_pure (n : Nat) (o v : Nat → Int) (x : Int) (hn : n ≤ 1000000) (hok : okAll n o = true) : PureC Tryd.prog (fun _ => .undef) 47 [condsAV n o v, .int .i64 x] (.bool (allS n o v x)) := by
  refine pure_vc mix tbl1_ok ((allR_vc n o v x _).mpr ?_)
  have hs := allS_iff (n := n) (o := o) (v := v) (x := x)
  have ho : ∀ i, i < n → okOp (o i) = true := okAll_iff.1 hok
  have hc : ∀ i, i < n → condS (o i) (v i) x = opS (o i) (v i) x := fun i hi => by simp [condS, ho i hi]
  simp only [EqI, true_and, and_true, implies_true, Int.toNat_natCast, List.length_cons, List.length_nil]
  refine ⟨⟨0, by simp⟩, fun i hi => ?_⟩
  repeat' (first
    | (with_reducible refine VB_intro (fun h => ?_) (fun h => ?_) <;> try simp only [h, VB_t, VB_f, NB_t, Bool.not_true, Bool.not_false, Bool.true_and, Bool.false_and, Bool.and_true, Bool.and_false])
    | (with_reducible refine NB_intro' ?_ (fun h => ?_))
    | (with_reducible refine Exists.intro (i + 1) ?_)
    | (with_reducible refine And.intro ?_ ?_))
  all_goals try simp only [invAllR, isW_t, isW_f, impB_t, impB_f, beq_iff_eq, bne_iff_ne, Bool.not_eq_eq_eq_not, Bool.not_true, Bool.not_false, Bool.and_eq_true, Bool.and_eq_false_iff, Bool.or_eq_true, Bool.or_eq_false_iff, beq_eq_false_iff_ne, decide_eq_true_eq, decide_eq_false_iff_not, EqI, List.length_append, List.append_assoc] at *
  all_goals try simp (disch := omega) only [wrap_i64_id, wrap_u64_id, Int.add_sub_cancel] at *
  all_goals try simp (disch := omega) only [wrap_i64_id, wrap_u64_id, Int.add_sub_cancel] at *
  all_goals try omega
  all_goals try grind (splits := 20) [allS]
end Go.Proofs.YtjkkkldkimdajaaDoor
