/- OP 25: lists of operations, contracts. -/
import Derived.Test.YtniihecdmcphgaaO24
namespace Go.Proofs.Ytniihecdmcphgaa
open Pw Go
set_option maxRecDepth 100000
set_option linter.unusedSimpArgs false
end Go.Proofs.Ytniihecdmcphgaa
namespace Go.Proofs.Ytniihecdmcphgaa
open Pw Go
set_option maxRecDepth 100000
set_option linter.unusedSimpArgs false
def toOpr : AV → Opr
 | .agg [.int _ k, .int _ t, .int _ l, .str x, .int _ n, .int _ m, .int _ il, .int _ id] => ⟨k, t, l, x, n, m, il, id⟩
 | _ => Opr.zero
def isOpr : AV → Bool
 | .agg [.int .i64 _, .int .i64 _, .int .u64 _, .str _, .int .i64 _, .int .i64 _, .int .u64 _, .int .u64 _] => true
 | _ => false
def opsB (n : Nat) (f : Nat → AV) : Bool := (List.range n).all fun i => isOpr (f i)
theorem rof_ops_sub {n : Nat} {f : Nat → AV} {ex : Bool} (h : opsB n f = true) : (AV.rof n f ex).sub (opsAV n (fun i => toOpr (f i))) := by
 refine ⟨rfl, fun i hi => ?_, by simp⟩
 have := List.all_eq_true.1 h i (by simpa using hi)
 show (f i).sub (.agg [.int .i64 (toOpr (f i)).k, .int .i64 (toOpr (f i)).t, .int .u64 (toOpr (f i)).l, .str (toOpr (f i)).x, .int .i64 (toOpr (f i)).n, .int .i64 (toOpr (f i)).m, .int .u64 (toOpr (f i)).il, .int .u64 (toOpr (f i)).id]) ∧ (f i).cells.length = 8
 generalize f i = x at this
 unfold isOpr at this
 split at this
 ·exact ⟨⟨rfl, rfl, rfl, rfl, rfl, rfl, rfl, rfl, trivial⟩, rfl⟩
 ·cases this
def eqO (a b : Opr) : Bool := a.k == b.k && a.t == b.t && a.l == b.l && a.x == b.x && a.n == b.n && a.m == b.m && a.il == b.il && a.id == b.id
def sameO (n m : Nat) (g h : Nat → Opr) : Bool := n == m && (List.range n).all fun i => eqO (g i) (h i)
theorem eqO_iff {a b : Opr} : eqO a b = true ↔ a = b := by
 cases a; cases b
 simp [eqO, and_assoc]
def cSame : Ctr
 | [.rof n f _, .rof m h _] => some (decide (n ≤ 1000000) && decide (m ≤ 1000000) && opsB n f && opsB m h, .bool (sameO n m (fun i => toOpr (f i)) (fun i => toOpr (h i))))
 | _ => none
theorem same_pure (n m : Nat) (g h : Nat → Opr) (hn : n ≤ 1000000) (hm : m ≤ 1000000) : PureC Try.prog (fun _ => .undef) 18 [opsAV n g, opsAV m h] (.bool (sameO n m g h)) := by
 refine pure_vc mix tblL_ok ((same_vc n m g h _).mpr ?_)
 simp only [EqI, eq_self, true_and, and_true, implies_true, Int.toNat_natCast, List.length_cons, List.length_nil, Bool.false_eq_true, false_implies]
 refine VB_iff.2 ⟨fun h1 => ?_, fun h1 => ?_⟩
 ·have : n ≠ m := by
   intro h2
   subst h2
   simp at h1
  simp [sameO, this]
 ·obtain rfl : n = m := by
   have h1 : (n : Int) = m := by simpa using h1
   omega
  refine ⟨⟨0, by simp⟩, fun i hi => VB_iff.2 ⟨fun h2 => ?_, fun h2 => ?_⟩⟩
  ·have h2 := of_decide_eq_true h2
   refine NB_iff.2 ⟨decide_eq_true (by omega), NB_iff.2 ⟨decide_eq_true (by omega), VB_iff.2 ⟨fun h3 => ?_, fun h3 => ⟨i + 1, ⟨by omega, rfl, fun j hj => ?_⟩, ?_, ?_⟩⟩⟩⟩
   ·have hne : eqO (g i) (h i) = false := by
     cases hb : eqO (g i) (h i) with
     | false => rfl
     | true =>
      rw [eqO_iff.1 hb] at h3
      simp at h3
    symm
    simp only [sameO, beq_self_eq_true, Bool.true_and, List.all_eq_false, List.mem_range]
    exact ⟨i, by omega, by simp [hne]⟩
   ·rcases Nat.lt_or_ge j i with h4 | h4
    ·exact hi.2.2 j h4
    ·obtain rfl : j = i := by omega
     refine eqO_iff.1 ?_
     simp only [eqO, Bool.not_eq_false', Bool.and_eq_true, Bool.and_true] at h3 ⊢
     simp only [h3, and_self]
   ·show n - (i + 1) < n - i
    omega
   ·rw [wrap_i64]
    omega
  ·have h2 := of_decide_eq_false h2
   obtain rfl : i = n := by omega
   symm
   simp only [sameO, beq_self_eq_true, Bool.true_and, List.all_eq_true, List.mem_range]
   exact fun j hj => eqO_iff.2 (hi.2.2 j hj)
theorem same_ok : PureF Try.prog 18 cSame := by
 intro args nd v h hnd
 unfold cSame at h
 split at h <;> cases h
 rename_i n f ex m h ex'
 simp only [Bool.and_eq_true, decide_eq_true_eq] at hnd
 obtain ⟨⟨⟨hn, hm⟩, hb⟩, hc⟩ := hnd
 refine PureC.args (args' := [opsAV n (fun i => toOpr (f i)), opsAV m (fun i => toOpr (h i))]) rfl (fun i hi => ?_) (same_pure n m _ _ hn hm)
 simp only [List.length_cons, List.length_nil] at hi
 rcases Nat.lt_or_ge i 1 with h1 | h1
 ·obtain rfl : i = 0 := by omega
  exact rof_ops_sub hb
 ·obtain rfl : i = 1 := by omega
  exact rof_ops_sub hc
end Go.Proofs.Ytniihecdmcphgaa
