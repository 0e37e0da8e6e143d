/- PRED 16: the law of conditions answers true. -/
import Derived.Test.YtjkkkldkimdajaaDoorP15
namespace Go.Proofs.YtjkkkldkimdajaaDoor
open Pw Go
set_option maxRecDepth 100000
set_option linter.unusedSimpArgs false

noncomputable def EPC (n : Nat) (o v : Nat → Int) (x : Int) : Env := mkE Tryd.prog (tblOf tbl5) fun f b => if f = 3 ∧ b = 0 then some (invPC n o v x) else none
theorem predConds_sat (n : Nat) (o v : Nat → Int) (x : Int) (hv : ∀ i, i < n → lowI ≤ v i ∧ v i ≤ highI) :
    (vcFun (EPC n o v x) 20 3 [.rof n (fun i => .agg [.int .i64 (o i), .int .i64 (v i)]) false, .int .i64 x] .nil 0 (isBool true)).sat := by
  refine (predConds_vc n o v x).mpr ?_
  refine VB_intro (fun h => rfl) (fun h => ?_)
  have hn : n ≤ 12 := by have := of_decide_eq_false h; omega
  have hr := rngAll_iff.2 hv
  have hroom : room n 16 = true := by simp only [room]; exact decide_eq_true (by omega)
  have hn' : n ≤ 1000000 := by omega
  simp only [EqI, imp_self, true_and, and_true, implies_true, Int.toNat_natCast, List.length_cons, List.length_nil, opOf_agg, valOf_agg, condsB_agg, hn', hr, hroom, decide_true, Bool.and_self, NB_t, or_self, or_true, true_or, Nat.zero_add, Bool.true_and, Bool.and_true, Bool.or_true,
    bne_self_eq_false, beq_self_eq_true, Bool.not_true, Bool.or_self, Bool.or_false, VB_t, VB_f, Bool.false_eq_true]
  refine ⟨⟨0, by simp⟩, fun i hi => ?_⟩
  replace hi : i ≤ n := hi
  refine VB_intro (fun hlt => ?_) (fun _ => trivial)
  have hlt' : i < n := by have := of_decide_eq_true hlt; omega
  have hd : decide ((0 : Int) ≤ (i : Int) ∧ (i : Int) < (n : Int)) = true := decide_eq_true (by omega)
  have hw : IntKind.i64.wrap ((i : Int) + 1) = ((i + 1 : Nat) : Int) := by rw [wrap_i64_id (by omega) (by omega)]; omega
  simp only [hd, NB_t, isW_f, Bool.not_false, impB, Bool.and_true, Bool.not_true, Bool.false_and]
  exact ⟨i + 1, by show i + 1 ≤ n; omega, by simp only [invPC]; omega, hw⟩
end Go.Proofs.YtjkkkldkimdajaaDoor
