/- WIRE 15: writers of lists, contracts. -/
import Derived.Test.YtfgedkmopgkonaaW14
namespace Go.Proofs.Ytfgedkmopgkonaa
open Pw Go
set_option maxRecDepth 100000
set_option linter.unusedSimpArgs false

def cAdd : Ctr
  | [.agg [.str s, .int .i64 m, .int .i64 e], .rof n f _] => some (decide (s.length ≤ 9223372036854775807 ∧ n ≤ 1000000 ∧ strsB n f = true), (wrAdd (wrUse ⟨s, m, e⟩) (takeF (fun i => (f i).toStr) n)).av)
  | _ => none
def sameB (n m : Nat) (f g : Nat → List UInt8) : Bool := n == m && (List.range n).all fun i => f i == g i
def cSame : Ctr
  | [.rof n f _, .rof m g _] => some (decide (n ≤ 1000000 ∧ m ≤ 1000000 ∧ strsB n f = true ∧ strsB m g = true), .bool (sameB n m (fun i => (f i).toStr) (fun i => (g i).toStr)))
  | _ => none

theorem wputR_ok : PureF Try.prog 14 cPut := by
  intro args nd v h hnd
  unfold cPut at h
  split at h <;> cases h
  rename_i s m e k n
  have hl := of_decide_eq_true hnd
  have hu := wrUse_bounds ⟨s, m, e⟩
  refine pure_vcF mix tbl3_ok ((wputR_vc s m e k n (wrPut ⟨s, m, e⟩ k n)).mpr ?_)
  simp only [hide_eq, digS_length]
  repeat' (first
    | (with_reducible refine VB_intro (fun h => ?_) (fun h => ?_) <;> try simp only [h, VB_t, VB_f, NB_t, Bool.not_true, Bool.not_false, Bool.true_and, Bool.false_and, Bool.and_true, Bool.and_false])
    | (with_reducible refine NB_intro' ?_ (fun h => ?_)))
  all_goals try simp only [isW_t, isW_f, impB_t, impB_f, beq_iff_eq, bne_iff_ne, Bool.not_eq_eq_eq_not, Bool.not_true, Bool.not_false, Bool.and_eq_true, Bool.and_eq_false_iff, Bool.or_eq_true, Bool.or_eq_false_iff, beq_eq_false_iff_ne, decide_eq_true_eq, decide_eq_false_iff_not, EqI] at *
  all_goals try simp (disch := omega) only [wrap_i64_id, wrap_u64_id, Int.add_sub_cancel] at *
  all_goals try simp (disch := omega) only [wrap_i64_id, wrap_u64_id, Int.add_sub_cancel] at *
  all_goals try simp (disch := omega) only [wrap_i64_id, wrap_u64_id, Int.add_sub_cancel] at *
  all_goals try simp (disch := omega) only [wrap_i64_id, wrap_u64_id, Int.add_sub_cancel] at *
  all_goals try grind (splits := 20) [wrPutX, wrStop, wrAdd, wrPut, okSize, digS_length]

theorem putSizedR_ok : PureF Try.prog 20 cPutSized := by
  intro args nd v h hnd
  unfold cPutSized at h
  split at h <;> cases h
  rename_i s m e t
  have hl := of_decide_eq_true hnd
  have hu := wrUse_bounds ⟨s, m, e⟩
  refine pure_vcF mix tbl3_ok ((putSizedR_vc s m e t (wrPutSized ⟨s, m, e⟩ t)).mpr ?_)
  simp only [hide_eq, show Int.toNat 2 = 2 from rfl, digS_length, List.length_append]
  repeat' (first
    | (with_reducible refine VB_intro (fun h => ?_) (fun h => ?_) <;> try simp only [h, VB_t, VB_f, NB_t, Bool.not_true, Bool.not_false, Bool.true_and, Bool.false_and, Bool.and_true, Bool.and_false])
    | (with_reducible refine NB_intro' ?_ (fun h => ?_)))
  all_goals try simp only [isW_t, isW_f, impB_t, impB_f, beq_iff_eq, bne_iff_ne, Bool.not_eq_eq_eq_not, Bool.not_true, Bool.not_false, Bool.and_eq_true, Bool.and_eq_false_iff, Bool.or_eq_true, Bool.or_eq_false_iff, beq_eq_false_iff_ne, decide_eq_true_eq, decide_eq_false_iff_not, EqI] at *
  all_goals try simp (disch := omega) only [wrap_i64_id, wrap_u64_id, Int.add_sub_cancel] at *
  all_goals try simp (disch := omega) only [wrap_i64_id, wrap_u64_id, Int.add_sub_cancel] at *
  all_goals try simp (disch := omega) only [wrap_i64_id, wrap_u64_id, Int.add_sub_cancel] at *
  all_goals try simp (disch := omega) only [wrap_i64_id, wrap_u64_id, Int.add_sub_cancel] at *
  all_goals try grind (splits := 20) [wrPutX, wrStop, wrAdd, wrPutSized, digS_length, List.length_append]

theorem addR_pure (s : List UInt8) (m e : Int) (n : Nat) (g : Nat → List UInt8) (hs : s.length ≤ 9223372036854775807) (hn : n ≤ 1000000) :
    PureC Try.prog (fun _ => .undef) 18 [.agg [.str s, .int .i64 m, .int .i64 e], .rof n (fun i => .str (g i)) false] (wrAdd (wrUse ⟨s, m, e⟩) (takeF g n)).av := by
  have hu := wrUse_bounds ⟨s, m, e⟩
  refine pure_vc mix tbl3_ok ((addR_vc s m e n g (wrUse ⟨s, m, e⟩) _).mpr ?_)
  generalize wrUse ⟨s, m, e⟩ = u at hu ⊢
  have ta : ∀ i, i < n → (takeF g i).length + (g i).length ≤ (takeF g n).length := fun i h => takeF_at g h
  have t0 : takeF g 0 = [] := rfl
  have ts : ∀ i, takeF g (i + 1) = takeF g i ++ g i := fun i => takeF_succ g i
  simp only [EqI, true_and, and_true, implies_true, Int.toNat_natCast, List.length_cons, List.length_nil]
  refine NB_intro' (by simpa using hs) fun _ => ⟨⟨0, by simp [t0]⟩, fun i hi => ?_⟩
  repeat' (first
    | (with_reducible refine VB_intro (fun h => ?_) (fun h => ?_) <;> try simp only [h, VB_t, VB_f, NB_t, Bool.not_true, Bool.not_false, Bool.true_and, Bool.false_and, Bool.and_true, Bool.and_false])
    | (with_reducible refine NB_intro' ?_ (fun h => ?_))
    | (with_reducible refine Exists.intro (i + 1) ?_)
    | (with_reducible refine And.intro ?_ ?_))
  all_goals try simp only [invAddR, isW_t, isW_f, impB_t, impB_f, beq_iff_eq, bne_iff_ne, Bool.not_eq_eq_eq_not, Bool.not_true, Bool.not_false, Bool.and_eq_true, Bool.and_eq_false_iff, Bool.or_eq_true, Bool.or_eq_false_iff, beq_eq_false_iff_ne, decide_eq_true_eq, decide_eq_false_iff_not, EqI, List.length_append, List.append_assoc] at *
  all_goals try simp (disch := omega) only [wrap_i64_id, wrap_u64_id, Int.add_sub_cancel] at *
  all_goals try simp (disch := omega) only [wrap_i64_id, wrap_u64_id, Int.add_sub_cancel] at *
  all_goals try omega
  all_goals try grind (splits := 20) [wrPutX, wrStop, wrAdd, List.length_append]

theorem wrUse_cases (s : List UInt8) (m e : Int) :
    ((decide (m < 0) || decide (m > 20000) || decide ((s.length : Int) > m) || decide (e < 0) || decide (e > 23)) = true → wrUse ⟨s, m, e⟩ = ⟨[], 0, 10⟩) ∧
    ((decide (m < 0) || decide (m > 20000) || decide ((s.length : Int) > m) || decide (e < 0) || decide (e > 23)) = false → wrUse ⟨s, m, e⟩ = ⟨s, m, e⟩ ∧ 0 ≤ m ∧ m ≤ 20000 ∧ s.length ≤ m ∧ 0 ≤ e ∧ e ≤ 23) := by
  constructor
  · intro h
    simp only [Bool.or_eq_true, decide_eq_true_eq] at h
    grind [wrUse, wrOK]
  · intro h
    simp only [Bool.or_eq_false_iff, decide_eq_false_iff_not] at h
    grind [wrUse, wrOK]

theorem addI_pure (s : List UInt8) (m e : Int) (n : Nat) (g : Nat → List UInt8) (hs : s.length ≤ 9223372036854775807) (hn : n ≤ 1000000) :
    PureC Try.prog (fun _ => .undef) 17 [.agg [.str s, .int .i64 m, .int .i64 e], .rof n (fun i => .str (g i)) false] (wrAdd (wrUse ⟨s, m, e⟩) (takeF g n)).av := by
  obtain ⟨h1, h2⟩ := wrUse_cases s m e
  refine pure_vc mix tbl3_ok ((addI_vc s m e n g (wrUse ⟨s, m, e⟩) _).mpr ?_)
  generalize wrUse ⟨s, m, e⟩ = u at h1 h2 ⊢
  have ta : ∀ i, i < n → (takeF g i).length + (g i).length ≤ (takeF g n).length := fun i h => takeF_at g h
  have t0 : takeF g 0 = [] := rfl
  have ts : ∀ i, takeF g (i + 1) = takeF g i ++ g i := fun i => takeF_succ g i
  simp only [EqI, true_and, and_true, implies_true, Int.toNat_natCast, List.length_cons, List.length_nil]
  refine VB_intro (fun h => ?_) (fun h => ?_)
  · have h3 := h1 h
    clear h1 h2 h
    subst h3
    refine ⟨⟨0, by simp [t0]⟩, fun i hi => ?_⟩
    repeat' (first
      | (with_reducible refine VB_intro (fun h => ?_) (fun h => ?_) <;> try simp only [h, VB_t, VB_f, NB_t, Bool.not_true, Bool.not_false, Bool.true_and, Bool.false_and, Bool.and_true, Bool.and_false])
      | (with_reducible refine NB_intro' ?_ (fun h => ?_))
      | (with_reducible refine Exists.intro (i + 1) ?_)
      | (with_reducible refine And.intro ?_ ?_))
    all_goals try simp only [invAdd, isW_t, isW_f, impB_t, impB_f, beq_iff_eq, bne_iff_ne, Bool.not_eq_eq_eq_not, Bool.not_true, Bool.not_false, Bool.and_eq_true, Bool.and_eq_false_iff, Bool.or_eq_true, Bool.or_eq_false_iff, beq_eq_false_iff_ne, decide_eq_true_eq, decide_eq_false_iff_not, EqI, List.length_append, List.append_assoc] at *
    all_goals try simp (disch := omega) only [wrap_i64_id, wrap_u64_id, Int.add_sub_cancel] at *
    all_goals try simp (disch := omega) only [wrap_i64_id, wrap_u64_id, Int.add_sub_cancel] at *
    all_goals try omega
    all_goals try grind (splits := 20) [wrStop, wrAdd, List.length_append]
  · obtain ⟨h3, hu⟩ := h2 h
    clear h1 h2 h
    subst h3
    simp only [true_and, and_true, implies_true]
    refine ⟨⟨0, by simp [t0]; omega⟩, fun i hi => VB_intro (fun h => ?_) (fun h => ?_)⟩
    · repeat' (first
        | (with_reducible refine VB_intro (fun h => ?_) (fun h => ?_) <;> try simp only [h, VB_t, VB_f, NB_t, Bool.not_true, Bool.not_false, Bool.true_and, Bool.false_and, Bool.and_true, Bool.and_false])
        | (with_reducible refine NB_intro' ?_ (fun h => ?_))
        | (with_reducible refine Exists.intro (i + 1) ?_)
        | (with_reducible refine And.intro ?_ ?_))
      all_goals try simp only [invAdd, isW_t, isW_f, impB_t, impB_f, beq_iff_eq, bne_iff_ne, Bool.not_eq_eq_eq_not, Bool.not_true, Bool.not_false, Bool.and_eq_true, Bool.and_eq_false_iff, Bool.or_eq_true, Bool.or_eq_false_iff, beq_eq_false_iff_ne, decide_eq_true_eq, decide_eq_false_iff_not, EqI, List.length_append, List.append_assoc] at *
      all_goals try simp (disch := omega) only [wrap_i64_id, wrap_u64_id, Int.add_sub_cancel] at *
      all_goals try simp (disch := omega) only [wrap_i64_id, wrap_u64_id, Int.add_sub_cancel] at *
      all_goals try omega
      all_goals try grind (splits := 20) [wrStop, wrAdd, List.length_append]
    · have hin : i = n := by
        have := of_decide_eq_false h
        omega
      subst hin
      refine VB_intro (fun he => ?_) (fun he => ⟨⟨0, by simp at he; simp [t0, he]; omega⟩, fun j hj => ?_⟩)
      · repeat' (first
          | (with_reducible refine VB_intro (fun h => ?_) (fun h => ?_) <;> try simp only [h, VB_t, VB_f, NB_t, Bool.not_true, Bool.not_false, Bool.true_and, Bool.false_and, Bool.and_true, Bool.and_false])
          | (with_reducible refine NB_intro' ?_ (fun h => ?_))
          | (with_reducible refine Exists.intro (i + 1) ?_)
          | (with_reducible refine And.intro ?_ ?_))
        all_goals try simp only [invAdd, isW_t, isW_f, impB_t, impB_f, beq_iff_eq, bne_iff_ne, Bool.not_eq_eq_eq_not, Bool.not_true, Bool.not_false, Bool.and_eq_true, Bool.and_eq_false_iff, Bool.or_eq_true, Bool.or_eq_false_iff, beq_eq_false_iff_ne, decide_eq_true_eq, decide_eq_false_iff_not, EqI, List.length_append, List.append_assoc] at *
        all_goals try simp (disch := omega) only [wrap_i64_id, wrap_u64_id, Int.add_sub_cancel] at *
        all_goals try simp (disch := omega) only [wrap_i64_id, wrap_u64_id, Int.add_sub_cancel] at *
        all_goals try omega
        all_goals try grind (splits := 20) [wrStop, wrAdd, List.length_append]
      · repeat' (first
          | (with_reducible refine VB_intro (fun h => ?_) (fun h => ?_) <;> try simp only [h, VB_t, VB_f, NB_t, Bool.not_true, Bool.not_false, Bool.true_and, Bool.false_and, Bool.and_true, Bool.and_false])
          | (with_reducible refine NB_intro' ?_ (fun h => ?_))
          | (with_reducible refine Exists.intro (j + 1) ?_)
          | (with_reducible refine And.intro ?_ ?_))
        all_goals try simp only [invAdd2, isW_t, isW_f, impB_t, impB_f, beq_iff_eq, bne_iff_ne, Bool.not_eq_eq_eq_not, Bool.not_true, Bool.not_false, Bool.and_eq_true, Bool.and_eq_false_iff, Bool.or_eq_true, Bool.or_eq_false_iff, beq_eq_false_iff_ne, decide_eq_true_eq, decide_eq_false_iff_not, EqI, List.length_append, List.append_assoc] at *
        all_goals try simp (disch := omega) only [wrap_i64_id, wrap_u64_id, Int.add_sub_cancel] at *
        all_goals try simp (disch := omega) only [wrap_i64_id, wrap_u64_id, Int.add_sub_cancel] at *
        all_goals try omega
        all_goals try grind (splits := 20) [wrStop, wrAdd, List.length_append]

theorem addR_ok : PureF Try.prog 18 cAdd := by
  intro args nd v h hnd
  unfold cAdd at h
  split at h <;> cases h
  rename_i s m e n f ex
  have hl := of_decide_eq_true hnd
  refine PureC.args (hc := addR_pure s m e n (fun i => (f i).toStr) hl.1 hl.2.1) ?_ (fun i hi => ?_)
  · rfl
  match i, hi with
  | 0, _ => exact ⟨rfl, rfl, rfl, trivial⟩
  | 1, _ => exact rof_str_sub hl.2.2
theorem addI_ok : PureF Try.prog 17 cAdd := by
  intro args nd v h hnd
  unfold cAdd at h
  split at h <;> cases h
  rename_i s m e n f ex
  have hl := of_decide_eq_true hnd
  refine PureC.args (hc := addI_pure s m e n (fun i => (f i).toStr) hl.1 hl.2.1) ?_ (fun i hi => ?_)
  · rfl
  match i, hi with
  | 0, _ => exact ⟨rfl, rfl, rfl, trivial⟩
  | 1, _ => exact rof_str_sub hl.2.2

theorem same_pure (n m : Nat) (f g : Nat → List UInt8) (hn : n ≤ 1000000) (_ : m ≤ 1000000) :
    PureC Try.prog (fun _ => .undef) 23 [.rof n (fun i => .str (f i)) false, .rof m (fun i => .str (g i)) false] (.bool (sameB n m f g)) := by
  refine pure_vc mix tbl3_ok ((same_vc n m f g _).mpr ?_)
  have hs : sameB n m f g = true ↔ (n = m ∧ ∀ i, i < n → f i = g i) := by simp [sameB]
  simp only [EqI, true_and, and_true, implies_true, Int.toNat_natCast, List.length_cons, List.length_nil]
  refine VB_intro (fun h => ?_) (fun h => ⟨⟨0, by simp at h; simp; omega⟩, fun i hi => ?_⟩)
  · have : sameB n m f g ≠ true := fun h' => by have := (hs.1 h').1; simp at h; omega
    simpa using this
  · repeat' (first
      | (with_reducible refine VB_intro (fun h => ?_) (fun h => ?_) <;> try simp only [h, VB_t, VB_f, NB_t, Bool.not_true, Bool.not_false, Bool.true_and, Bool.false_and, Bool.and_true, Bool.and_false])
      | (with_reducible refine NB_intro' ?_ (fun h => ?_))
      | (with_reducible refine Exists.intro (i + 1) ?_)
      | (with_reducible refine And.intro ?_ ?_))
    all_goals try simp only [invSame, isW_t, isW_f, impB_t, impB_f, beq_iff_eq, bne_iff_ne, Bool.not_eq_eq_eq_not, Bool.not_true, Bool.not_false, Bool.and_eq_true, Bool.and_eq_false_iff, Bool.or_eq_true, Bool.or_eq_false_iff, beq_eq_false_iff_ne, decide_eq_true_eq, decide_eq_false_iff_not, EqI, List.length_append, List.append_assoc] at *
    all_goals try simp (disch := omega) only [wrap_i64_id, wrap_u64_id, Int.add_sub_cancel] at *
    all_goals try simp (disch := omega) only [wrap_i64_id, wrap_u64_id, Int.add_sub_cancel] at *
    all_goals try omega
    all_goals try grind (splits := 20) [sameB]
theorem same_ok : PureF Try.prog 23 cSame := by
  intro args nd v h hnd
  unfold cSame at h
  split at h <;> cases h
  rename_i n f ex m g ex'
  have hl := of_decide_eq_true hnd
  refine PureC.args (hc := same_pure n m (fun i => (f i).toStr) (fun i => (g i).toStr) hl.1 hl.2.1) ?_ (fun i hi => ?_)
  · rfl
  match i, hi with
  | 0, _ => exact rof_str_sub hl.2.2.1
  | 1, _ => exact rof_str_sub hl.2.2.2
end Go.Proofs.Ytfgedkmopgkonaa
