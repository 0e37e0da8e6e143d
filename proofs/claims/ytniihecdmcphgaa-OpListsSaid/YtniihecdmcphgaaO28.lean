/- OP 28: OpLists, in Lean. -/
import Derived.Test.YtniihecdmcphgaaO27
import Derived.Test.YtniihecdmcphgaaPwG5
namespace Go.Proofs.Ytniihecdmcphgaa
open Pw Go
set_option maxRecDepth 100000
set_option linter.unusedSimpArgs false

theorem toOpr_agg (o : Opr) : toOpr (.agg [.int .i64 o.k, .int .i64 o.t, .int .u64 o.l, .str o.x, .int .i64 o.n, .int .i64 o.m, .int .u64 o.il, .int .u64 o.id]) = o := rfl
theorem opsB_g (n : Nat) (g : Nat → Opr) : (opsB n fun i => .agg [.int .i64 (g i).k, .int .i64 (g i).t, .int .u64 (g i).l, .str (g i).x, .int .i64 (g i).n, .int .i64 (g i).m, .int .u64 (g i).il, .int .u64 (g i).id]) = true := by
  simp only [opsB, List.all_eq_true, List.mem_range]
  exact fun i _ => rfl
theorem opsOK_g {n : Nat} {g : Nat → Opr} (hg : ∀ i, i < n → RgN (g i)) (hx : ∀ i, i < n → (g i).x.length ≤ 1100) :
    (opsOK n fun i => .agg [.int .i64 (g i).k, .int .i64 (g i).t, .int .u64 (g i).l, .str (g i).x, .int .i64 (g i).n, .int .i64 (g i).m, .int .u64 (g i).il, .int .u64 (g i).id]) = true := by
  simp only [opsOK, okOpr, List.all_eq_true, List.mem_range, Bool.and_eq_true, decide_eq_true_eq]
  exact fun i hi => ⟨⟨rfl, (hg i hi).b⟩, Nat.le_trans (hx i hi) (by decide)⟩
theorem sameO_self (n : Nat) (g : Nat → Opr) : sameO n n g g = true := by
  simp only [sameO, beq_self_eq_true, Bool.true_and, List.all_eq_true, List.mem_range]
  exact fun i _ => eqO_iff.2 rfl
theorem lists_sat (n : Nat) (g : Nat → Opr) (hg : ∀ i, i < n → RgN (g i)) :
    (vcFun (EM n g) 20 4 [.rof n (fun i => .agg [.int .i64 (g i).k, .int .i64 (g i).t, .int .u64 (g i).l, .str (g i).x, .int .i64 (g i).n, .int .i64 (g i).m, .int .u64 (g i).il, .int .u64 (g i).id]) false] .nil 0 (isBool true)).sat := by
  refine (lists_vc n g).mpr ?_
  simp only [EqI, eq_self, true_and, and_true, implies_true, Int.toNat_natCast, List.length_cons, List.length_nil, Bool.false_eq_true, false_implies, Nat.zero_add, toOpr_agg, opsB_g, sameO_self]
  refine VB_iff.2 ⟨fun _ => trivial, fun h => ⟨⟨0, by simp⟩, fun i hi => VB_iff.2 ⟨fun h1 => ?_, fun h1 => ?_⟩⟩⟩
  · have h1 := of_decide_eq_true h1
    refine NB_iff.2 ⟨decide_eq_true (by omega), VB_iff.2 ⟨fun _ => trivial, fun h2 => ⟨i + 1, ⟨by omega, fun j hj => ?_⟩, ?_, ?_⟩⟩⟩
    · have h2 := of_decide_eq_false h2
      rcases Nat.lt_or_ge j i with h3 | h3
      · exact hi.2 j h3
      · obtain rfl : j = i := by omega
        omega
    · show n - (i + 1) < n - i
      omega
    · rw [wrap_i64]
      simp only [Bool.or_eq_false_iff, decide_eq_false_iff_not] at h
      omega
  · have h1 := of_decide_eq_false h1
    simp only [Bool.or_eq_false_iff, decide_eq_false_iff_not] at h
    have hn : n ≤ 403 := by omega
    have hO := opsOK_g hg (fun j hj => hi.2 j (by omega))
    have hr : room n 72 = true := by
      simp [room]
      omega
    have hm : decide (n ≤ 1000000) = true := decide_eq_true (by omega)
    simp only [hO, hr, hm, NB_iff, impB, isW, Bool.and_true, Bool.or_true, beq_self_eq_true, true_and]
end Go.Proofs.Ytniihecdmcphgaa
