/- OP 25: lists of operations, contracts. -/
import Derived.Test.YtniihecdmcphgaaO24
namespace Go.Proofs.Ytniihecdmcphgaa
open Pw Go
set_option maxRecDepth 100000
set_option linter.unusedSimpArgs false

def errS (g : Nat → Opr) : Nat → Int
  | 0 => 0
  | i + 1 => if errS g i ≠ 0 then errS g i else opChk (g i)
theorem errS_zero {g : Nat → Opr} : ∀ i, (∀ j, j < i → opChk (g j) = 0) → errS g i = 0
  | 0, _ => rfl
  | i + 1, h => by
    rw [errS, errS_zero i (fun j hj => h j (by omega)), if_neg (by simp)]
    exact h i (by omega)
theorem errS_keep {g : Nat → Opr} {i : Nat} (h : errS g i ≠ 0) : ∀ n, i ≤ n → errS g n = errS g i
  | 0, hn => by obtain rfl : i = 0 := by omega
                rfl
  | n + 1, hn => by
    rcases Nat.lt_or_ge n i with h1 | h1
    · obtain rfl : i = n + 1 := by omega
      rfl
    · rw [errS, errS_keep h n h1, if_pos h]
theorem errS_at {g : Nat → Opr} {n i : Nat} (h : ∀ j, j < i → opChk (g j) = 0) (hi : i < n) (he : opChk (g i) ≠ 0) : errS g n = opChk (g i) := by
  have h1 : errS g (i + 1) = opChk (g i) := by rw [errS, errS_zero i h, if_neg (by simp)]
  rw [errS_keep (by rw [h1]; exact he) n (by omega), h1]
theorem catS_mono (g : Nat → Opr) (i : Nat) : ∀ n, i ≤ n → (catS g i).length ≤ (catS g n).length
  | 0, hn => by obtain rfl : i = 0 := by omega
                exact Nat.le_refl _
  | n + 1, hn => by
    rcases Nat.lt_or_ge n i with h1 | h1
    · obtain rfl : i = n + 1 := by omega
      exact Nat.le_refl _
    · have := catS_mono g i n h1
      rw [catS, List.length_append]
      omega
def listS (n : Nat) (g : Nat → Opr) : List UInt8 × Int :=
  if 400 < n then ([], 4) else if errS g n ≠ 0 then ([], errS g n) else if 20000 < (catS g n).length then ([], 4) else (catS g n, 0)
theorem listS_err {n : Nat} {g : Nat → Opr} {i : Nat} (hn : ¬ 400 < n) (h : ∀ j, j < i → opChk (g j) = 0) (hi : i < n) (he : opChk (g i) ≠ 0) : listS n g = ([], opChk (g i)) := by
  unfold listS
  rw [errS_at h hi he, if_neg hn, if_pos he]
theorem listS_all {n : Nat} {g : Nat → Opr} (hn : ¬ 400 < n) (h : ∀ j, j < n → opChk (g j) = 0) : listS n g = if 20000 < (catS g n).length then ([], 4) else (catS g n, 0) := by
  unfold listS
  rw [errS_zero n h, if_neg hn, if_neg (by simp)]
theorem opBytes_len {o : Opr} (h : RgN o) : (opBytes o).1.length ≤ 1100 * 3 := by
  rw [opBytes_all h]
  split
  · simp
  · rename_i hc
    have hc := Decidable.not_not.1 hc
    obtain ⟨a, -, -⟩ := h.cl hc
    have e := (enc_cl hc).1
    have h1 := flat_len a (fieldsOf (opCl o).k)
    have h2 := fields_len (opCl o).k
    rw [← e]
    unfold enc
    rw [List.length_append, digS_length]
    omega

theorem listI_pure (n : Nat) (g : Nat → Opr) (hn : n ≤ 1000000) (hg : ∀ i, i < n → RgN (g i) ∧ (g i).x.length ≤ 9000000000000000000) : PureC Try.prog (fun _ => .undef) 16 [opsAV n g] (.tup [.str (listS n g).1, .int .i64 (listS n g).2]) := by
  refine pure_vc mix tblL_ok ((listI_vc n g _ _).mpr ?_)
  simp only [EqI, eq_self, true_and, and_true, implies_true, Int.toNat_natCast, List.length_cons, List.length_nil, Bool.false_eq_true, false_implies]
  refine VB_iff.2 ⟨fun h => ?_, fun h => ?_⟩
  · have h := of_decide_eq_true h
    unfold listS
    rw [if_pos (by omega)]
    exact ⟨rfl, rfl⟩
  · have h := of_decide_eq_false h
    have h4 : ¬ 400 < n := by omega
    refine ⟨⟨0, by simp⟩, fun i hi => VB_iff.2 ⟨fun h1 => ?_, fun h1 => ?_⟩⟩
    · have h1 := of_decide_eq_true h1
      refine NB_iff.2 ⟨decide_eq_true (by omega), VB_iff.2 ⟨fun h2 => ?_, fun h2 => ⟨i + 1, ⟨by omega, fun j hj => ?_⟩, ?_, ?_⟩⟩⟩
      · rw [listS_err h4 hi.2 (by omega) (by simpa using h2)]
        exact ⟨rfl, rfl⟩
      · rcases Nat.lt_or_ge j i with h3 | h3
        · exact hi.2 j h3
        · obtain rfl : j = i := by omega
          simpa using h2
      · show n - (i + 1) < n - i
        omega
      · rw [wrap_i64]
        omega
    · have h1 := of_decide_eq_false h1
      have hall : ∀ j, j < n → opChk (g j) = 0 := fun j hj => hi.2 j (by omega)
      rw [listS_all h4 hall]
      refine ⟨⟨0, ⟨by omega, hall, by simp [catS]⟩, by simp [catS]⟩, fun i hi => VB_iff.2 ⟨fun h1 => ?_, fun h1 => ?_⟩⟩
      · have h1 := of_decide_eq_true h1
        have hR := hg i (by omega)
        have hl := opBytes_len hR.1
        have hNd : needOp (g i) = true := decide_eq_true ⟨by omega, hR.1.l.1, hR.1.l.2, hR.1.il.1, hR.1.il.2, hR.1.id.1, hR.1.id.2⟩
        have hc : (catS g i ++ (opBytes (g i)).1) = catS g (i + 1) := rfl
        refine NB_iff.2 ⟨decide_eq_true (by omega), NB_iff.2 ⟨hNd, NB_iff.2 ⟨decide_eq_true (by omega), VB_iff.2 ⟨fun h2 => ?_, fun h2 => ⟨i + 1, ⟨by omega, hall, ?_⟩, ?_, ?_⟩⟩⟩⟩⟩
        · have h2 := of_decide_eq_true h2
          rw [hc] at h2
          have := catS_mono g (i + 1) n (by omega)
          rw [if_pos (by omega)]
          exact ⟨rfl, rfl⟩
        · have h2 := of_decide_eq_false h2
          rw [hc] at h2
          omega
        · show n - (i + 1) < n - i
          omega
        · refine ⟨rfl, ?_⟩
          rw [wrap_i64]
          omega
      · have h1 := of_decide_eq_false h1
        obtain rfl : i = n := by omega
        rw [if_neg (by omega)]
        exact ⟨rfl, rfl⟩
theorem listR_pure (n : Nat) (g : Nat → Opr) (hn : n ≤ 1000000) (hg : ∀ i, i < n → RgN (g i) ∧ (g i).x.length ≤ 9000000000000000000) : PureC Try.prog (fun _ => .undef) 17 [opsAV n g] (.tup [.str (listS n g).1, .int .i64 (listS n g).2]) := by
  refine pure_vc mix tblL_ok ((listR_vc n g _ _).mpr ?_)
  simp only [EqI, eq_self, true_and, and_true, implies_true, Int.toNat_natCast, List.length_cons, List.length_nil, Bool.false_eq_true, false_implies]
  refine VB_iff.2 ⟨fun h => ?_, fun h => ?_⟩
  · have h := of_decide_eq_true h
    unfold listS
    rw [if_pos (by omega)]
    exact ⟨rfl, rfl⟩
  · have h := of_decide_eq_false h
    have h4 : ¬ 400 < n := by omega
    refine ⟨⟨0, by simp⟩, fun i hi => VB_iff.2 ⟨fun h1 => ?_, fun h1 => ?_⟩⟩
    · have h1 := of_decide_eq_true h1
      refine NB_iff.2 ⟨decide_eq_true (by omega), VB_iff.2 ⟨fun h2 => ?_, fun h2 => ⟨i + 1, ⟨by omega, fun j hj => ?_⟩, ?_, ?_⟩⟩⟩
      · rw [listS_err h4 hi.2 (by omega) (by simpa using h2)]
        exact ⟨rfl, rfl⟩
      · rcases Nat.lt_or_ge j i with h3 | h3
        · exact hi.2 j h3
        · obtain rfl : j = i := by omega
          simpa using h2
      · show n - (i + 1) < n - i
        omega
      · rw [wrap_i64]
        omega
    · have h1 := of_decide_eq_false h1
      have hall : ∀ j, j < n → opChk (g j) = 0 := fun j hj => hi.2 j (by omega)
      rw [listS_all h4 hall]
      refine ⟨⟨0, ⟨by omega, hall, by simp [catS]⟩, by simp [catS]⟩, fun i hi => VB_iff.2 ⟨fun h1 => ?_, fun h1 => ?_⟩⟩
      · have h1 := of_decide_eq_true h1
        have hR := hg i (by omega)
        have hl := opBytes_len hR.1
        have hNd : (rgB (g i) && decide ((g i).x.length ≤ 9000000000000000000)) = true := by simp [hR.1.b, hR.2]
        have hc : (catS g i ++ (opBytes (g i)).1) = catS g (i + 1) := rfl
        refine NB_iff.2 ⟨decide_eq_true (by omega), NB_iff.2 ⟨hNd, NB_iff.2 ⟨decide_eq_true (by omega), ⟨i + 1, ⟨by omega, hall, ?_⟩, ?_, ?_⟩⟩⟩⟩
        · rw [← hc, List.length_append]
          omega
        · show n - (i + 1) < n - i
          omega
        · refine ⟨rfl, ?_⟩
          rw [wrap_i64]
          omega
      · have h1 := of_decide_eq_false h1
        obtain rfl : i = n := by omega
        refine VB_iff.2 ⟨fun h2 => ?_, fun h2 => ?_⟩
        · have h2 := of_decide_eq_true h2
          rw [if_pos (by omega)]
          exact ⟨rfl, rfl⟩
        · have h2 := of_decide_eq_false h2
          rw [if_neg (by omega)]
          exact ⟨rfl, rfl⟩
end Go.Proofs.Ytniihecdmcphgaa
namespace Go.Proofs.Ytniihecdmcphgaa
open Pw Go
set_option maxRecDepth 100000
set_option linter.unusedSimpArgs false

def toOpr : AV → Opr
  | .agg [.int _ k, .int _ t, .int _ l, .str x, .int _ n, .int _ m, .int _ il, .int _ id] => ⟨k, t, l, x, n, m, il, id⟩
  | _ => Opr.zero
def isOpr : AV → Bool
  | .agg [.int .i64 _, .int .i64 _, .int .u64 _, .str _, .int .i64 _, .int .i64 _, .int .u64 _, .int .u64 _] => true
  | _ => false
def okOpr (a : AV) : Bool := isOpr a && rgB (toOpr a) && decide ((toOpr a).x.length ≤ 9000000000000000000)
def opsB (n : Nat) (f : Nat → AV) : Bool := (List.range n).all fun i => isOpr (f i)
def opsOK (n : Nat) (f : Nat → AV) : Bool := (List.range n).all fun i => okOpr (f i)
theorem rof_ops_sub {n : Nat} {f : Nat → AV} {ex : Bool} (h : opsB n f = true) : (AV.rof n f ex).sub (opsAV n (fun i => toOpr (f i))) := by
  refine ⟨rfl, fun i hi => ?_, by simp⟩
  have := List.all_eq_true.1 h i (by simpa using hi)
  show (f i).sub (.agg [.int .i64 (toOpr (f i)).k, .int .i64 (toOpr (f i)).t, .int .u64 (toOpr (f i)).l, .str (toOpr (f i)).x, .int .i64 (toOpr (f i)).n, .int .i64 (toOpr (f i)).m, .int .u64 (toOpr (f i)).il, .int .u64 (toOpr (f i)).id]) ∧ (f i).cells.length = 8
  generalize f i = x at this
  unfold isOpr at this
  split at this
  · exact ⟨⟨rfl, rfl, rfl, rfl, rfl, rfl, rfl, rfl, trivial⟩, rfl⟩
  · cases this
def cList : Ctr
  | [.rof n f _] => some (decide (n ≤ 1000000) && opsOK n f, .tup [.str (listS n fun i => toOpr (f i)).1, .int .i64 (listS n fun i => toOpr (f i)).2])
  | _ => none
def eqO (a b : Opr) : Bool := a.k == b.k && a.t == b.t && a.l == b.l && a.x == b.x && a.n == b.n && a.m == b.m && a.il == b.il && a.id == b.id
def sameO (n m : Nat) (g h : Nat → Opr) : Bool := n == m && (List.range n).all fun i => eqO (g i) (h i)
theorem eqO_iff {a b : Opr} : eqO a b = true ↔ a = b := by
  cases a; cases b
  simp [eqO, and_assoc]
def cSame : Ctr
  | [.rof n f _, .rof m h _] => some (decide (n ≤ 1000000) && decide (m ≤ 1000000) && opsB n f && opsB m h, .bool (sameO n m (fun i => toOpr (f i)) (fun i => toOpr (h i))))
  | _ => none
theorem opsOK_B {n : Nat} {f : Nat → AV} (h : opsOK n f = true) : opsB n f = true ∧ ∀ i, i < n → RgN (toOpr (f i)) ∧ (toOpr (f i)).x.length ≤ 9000000000000000000 := by
  simp only [opsOK, okOpr, List.all_eq_true, List.mem_range, Bool.and_eq_true, decide_eq_true_eq] at h
  refine ⟨?_, fun i hi => ⟨RgN.of (h i hi).1.2, (h i hi).2⟩⟩
  simp only [opsB, List.all_eq_true, List.mem_range]
  exact fun i hi => (h i hi).1.1
theorem listI_ok : PureF Try.prog 16 cList := by
  intro args nd v h hnd
  unfold cList at h
  split at h <;> cases h
  rename_i n f ex
  simp only [Bool.and_eq_true, decide_eq_true_eq] at hnd
  obtain ⟨hb, hr⟩ := opsOK_B hnd.2
  refine PureC.args (args' := [opsAV n (fun i => toOpr (f i))]) rfl (fun i hi => ?_) (listI_pure n _ hnd.1 hr)
  simp only [List.length_cons, List.length_nil] at hi
  obtain rfl : i = 0 := by omega
  exact rof_ops_sub hb
theorem listR_ok : PureF Try.prog 17 cList := by
  intro args nd v h hnd
  unfold cList at h
  split at h <;> cases h
  rename_i n f ex
  simp only [Bool.and_eq_true, decide_eq_true_eq] at hnd
  obtain ⟨hb, hr⟩ := opsOK_B hnd.2
  refine PureC.args (args' := [opsAV n (fun i => toOpr (f i))]) rfl (fun i hi => ?_) (listR_pure n _ hnd.1 hr)
  simp only [List.length_cons, List.length_nil] at hi
  obtain rfl : i = 0 := by omega
  exact rof_ops_sub hb
theorem same_pure (n m : Nat) (g h : Nat → Opr) (hn : n ≤ 1000000) (hm : m ≤ 1000000) : PureC Try.prog (fun _ => .undef) 18 [opsAV n g, opsAV m h] (.bool (sameO n m g h)) := by
  refine pure_vc mix tblL_ok ((same_vc n m g h _).mpr ?_)
  simp only [EqI, eq_self, true_and, and_true, implies_true, Int.toNat_natCast, List.length_cons, List.length_nil, Bool.false_eq_true, false_implies]
  refine VB_iff.2 ⟨fun h1 => ?_, fun h1 => ?_⟩
  · have : n ≠ m := by
      intro h2
      subst h2
      simp at h1
    simp [sameO, this]
  · obtain rfl : n = m := by
      have h1 : (n : Int) = m := by simpa using h1
      omega
    refine ⟨⟨0, by simp⟩, fun i hi => VB_iff.2 ⟨fun h2 => ?_, fun h2 => ?_⟩⟩
    · have h2 := of_decide_eq_true h2
      refine NB_iff.2 ⟨decide_eq_true (by omega), NB_iff.2 ⟨decide_eq_true (by omega), VB_iff.2 ⟨fun h3 => ?_, fun h3 => ⟨i + 1, ⟨by omega, rfl, fun j hj => ?_⟩, ?_, ?_⟩⟩⟩⟩
      · have hne : eqO (g i) (h i) = false := by
          cases hb : eqO (g i) (h i) with
          | false => rfl
          | true =>
            rw [eqO_iff.1 hb] at h3
            simp at h3
        symm
        simp only [sameO, beq_self_eq_true, Bool.true_and, List.all_eq_false, List.mem_range]
        exact ⟨i, by omega, by simp [hne]⟩
      · rcases Nat.lt_or_ge j i with h4 | h4
        · exact hi.2.2 j h4
        · obtain rfl : j = i := by omega
          refine eqO_iff.1 ?_
          simp only [eqO, Bool.not_eq_false', Bool.and_eq_true, Bool.and_true] at h3 ⊢
          simp only [h3, and_self]
      · show n - (i + 1) < n - i
        omega
      · rw [wrap_i64]
        omega
    · have h2 := of_decide_eq_false h2
      obtain rfl : i = n := by omega
      symm
      simp only [sameO, beq_self_eq_true, Bool.true_and, List.all_eq_true, List.mem_range]
      exact fun j hj => eqO_iff.2 (hi.2.2 j hj)
theorem same_ok : PureF Try.prog 18 cSame := by
  intro args nd v h hnd
  unfold cSame at h
  split at h <;> cases h
  rename_i n f ex m h ex'
  simp only [Bool.and_eq_true, decide_eq_true_eq] at hnd
  obtain ⟨⟨⟨hn, hm⟩, hb⟩, hc⟩ := hnd
  refine PureC.args (args' := [opsAV n (fun i => toOpr (f i)), opsAV m (fun i => toOpr (h i))]) rfl (fun i hi => ?_) (same_pure n m _ _ hn hm)
  simp only [List.length_cons, List.length_nil] at hi
  rcases Nat.lt_or_ge i 1 with h1 | h1
  · obtain rfl : i = 0 := by omega
    exact rof_ops_sub hb
  · obtain rfl : i = 1 := by omega
    exact rof_ops_sub hc
end Go.Proofs.Ytniihecdmcphgaa
