/- WIRE 18: the law of writers answers true. -/
import Derived.Test.YtfgedkmopgkonaaW17
namespace Go.Proofs.Ytfgedkmopgkonaa
open Pw Go
set_option maxRecDepth 100000
set_option linter.unusedSimpArgs false

theorem strsB_str (n : Nat) (g : Nat → List UInt8) : strsB n (fun i => .str (g i)) = true := by simp [strsB, AV.isStr]
theorem sameB_refl (n : Nat) (g : Nat → List UInt8) : sameB n n g g = true := by simp [sameB]
theorem impB_tt : impB true true = true := rfl

theorem writes_sat (s : List UInt8) (m e z n : Int) (k : Nat) (g : Nat → List UInt8) (hz : -9223372036854775808 ≤ z ∧ z ≤ 9223372036854775807) (hn : 0 ≤ n ∧ n ≤ 18446744073709551615) :
    (vcFun (mkE Try.prog (tblOf tbl5) fun f b => if f = 3 ∧ b = 0 then some (invW1 s m e z n k g) else if f = 3 ∧ b = 2 then some (invW2 s m e k g) else none) 20 3 [.agg [.str s, .int .i64 m, .int .i64 e], .int .i64 z, .int .u64 n, .rof k (fun i => .str (g i)) false] .nil 0 (isBool true)).sat := by
  refine (writes_vc s m e z n k g).mpr ?_
  refine VB_intro (fun _ => rfl) (fun h => ?_)
  simp only [Bool.or_eq_false_iff, decide_eq_false_iff_not] at h
  have h1 : s.length ≤ 9223372036854775807 := by omega
  have h3 : k ≤ 1000000 := by omega
  simp only [strsB_str, sameB_refl, EqI, true_and, and_true, implies_true, Int.toNat_natCast, List.length_cons, List.length_nil, beq_self_eq_true, Bool.and_self, Bool.not_true, Bool.or_self, h1, h3, hz, hn, decide_true, isW_t, isW_f, NB_t, VB_f, Bool.not_false, Bool.and_true, bne_self_eq_false, impB_tt]
  refine ⟨⟨0, by simp⟩, fun i hi => VB_intro (fun h => ?_) (fun h => ?_)⟩
  · repeat' (first
      | (with_reducible refine VB_intro (fun h => ?_) (fun h => ?_) <;> try simp only [h, VB_t, VB_f, NB_t, Bool.not_true, Bool.not_false, Bool.true_and, Bool.false_and, Bool.and_true, Bool.and_false])
      | (with_reducible refine NB_intro' ?_ (fun h => ?_))
      | (with_reducible refine Exists.intro (i + 1) ?_)
      | (with_reducible refine And.intro ?_ ?_))
    all_goals try simp only [invW1, lenOK, isW_t, isW_f, impB_t, impB_f, beq_iff_eq, bne_iff_ne, Bool.not_eq_eq_eq_not, Bool.not_true, Bool.not_false, Bool.and_eq_true, Bool.and_eq_false_iff, Bool.or_eq_true, Bool.or_eq_false_iff, beq_eq_false_iff_ne, decide_eq_true_eq, decide_eq_false_iff_not, EqI, List.length_append, List.append_assoc] at *
    all_goals try simp (disch := omega) only [wrap_i64_id, wrap_u64_id, Int.add_sub_cancel] at *
    all_goals try simp (disch := omega) only [wrap_i64_id, wrap_u64_id, Int.add_sub_cancel] at *
    all_goals try omega
    all_goals try grind (splits := 20) [lenOK]
  · have hk : i = k := by
      have := of_decide_eq_false h
      omega
    subst hk
    refine ⟨⟨0, by simpa using hi.2⟩, fun j hj => ?_⟩
    have hg : ∀ j, j < i → (g j).length ≤ 65600 := fun j hj' => (hj.2 j hj').2
    repeat' (first
      | (with_reducible refine VB_intro (fun h => ?_) (fun h => ?_) <;> try simp only [h, VB_t, VB_f, NB_t, Bool.not_true, Bool.not_false, Bool.true_and, Bool.false_and, Bool.and_true, Bool.and_false])
      | (with_reducible refine NB_intro' ?_ (fun h => ?_))
      | (with_reducible refine Exists.intro (j + 1) ?_)
      | (with_reducible refine And.intro ?_ ?_))
    all_goals try simp only [invW2, isW_t, isW_f, impB_t, impB_f, beq_iff_eq, bne_iff_ne, Bool.not_eq_eq_eq_not, Bool.not_true, Bool.not_false, Bool.and_eq_true, Bool.and_eq_false_iff, Bool.or_eq_true, Bool.or_eq_false_iff, beq_eq_false_iff_ne, decide_eq_true_eq, decide_eq_false_iff_not, EqI, List.length_append, List.append_assoc] at *
    all_goals try simp (disch := omega) only [wrap_i64_id, wrap_u64_id, Int.add_sub_cancel] at *
    all_goals try simp (disch := omega) only [wrap_i64_id, wrap_u64_id, Int.add_sub_cancel] at *
    all_goals try omega
    all_goals try grind (splits := 20) [lenOK]
end Go.Proofs.Ytfgedkmopgkonaa
