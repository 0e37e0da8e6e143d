/- OP 13: To, right, Mod: conditions. -/
import Derived.Test.YtniihecdmcphgaaO10
namespace Go.Proofs.Ytniihecdmcphgaa
open Pw Go
set_option maxRecDepth 100000
set_option linter.unusedSimpArgs false

noncomputable def tblO : List (Nat × Ctr) := [(12, cBytes), (11, cClean), (15, cCheck), (13, cParse)]
theorem tblO_ok : TblOK Try.prog (fun _ => .undef) (tblOf tblO) := tbl_cons bytes_ok (tbl_cons clean_ok (tbl_cons check_ok (tbl_cons parse_ok (tbl_nil _))))

theorem to_vc (k t l n m il id : Int) (x : List UInt8) (r : Int) : (vcFun EW 20 14 [.agg [.int .i64 k, .int .i64 t, .int .u64 l, .str x, .int .i64 n, .int .i64 m, .int .u64 il, .int .u64 id]] .nil 0 (retP 3 (.int .i64 r))).sat = (
  VB (!(decide (k ≥ (1 : Int)) && decide (k ≤ (8 : Int))) || k == (4 : Int) || k == (5 : Int) || decide (t < (1 : Int)) || decide (t > (6 : Int))) ((0 : Int) = r) (t = r)) := by
  kernel_rfl

theorem mod_vc (a n r : Int) : (vcFun EW 20 22 [.int .i64 a, .int .i64 n] .nil 0 (retP 3 (.int .i64 r))).sat = (
  VB (decide (n < (1 : Int))) ((0 : Int) = r) (NB (n != (0 : Int)) (VB (decide (a.tmod n < (0 : Int))) (IntKind.i64.wrap (a.tmod n + n) = r) (a.tmod n = r)))) := by
  kernel_rfl

theorem right_vc (k t l n m il id : Int) (x : List UInt8) (k1 t1 l1 n1 m1 il1 id1 : Int) (x1 : List UInt8) : (vcFun EW 20 10 [.agg [.int .i64 k, .int .i64 t, .int .u64 l, .str x, .int .i64 n, .int .i64 m, .int .u64 il, .int .u64 id]] .nil 0 (retP 3 (.agg [.int .i64 k1, .int .i64 t1, .int .u64 l1, .str x1, .int .i64 n1, .int .i64 m1, .int .u64 il1, .int .u64 id1]))).sat = (
  VB (decide (k.tmod (8 : Int) < (0 : Int)))
    (NB (decide ((0 : Int) ≤ (0 : Int) ∧ (0 : Int) ≤ minI (↑x.length : Int) (100 : Int) ∧ minI (↑x.length : Int) (100 : Int) ≤ (↑x.length : Int)))
      (IntKind.i64.wrap ((1 : Int) + IntKind.i64.wrap (k.tmod (8 : Int) + (8 : Int))) = k1 ∧
        t = t1 ∧ l = l1 ∧ List.take ((minI (↑x.length : Int) (100 : Int)).toNat - Int.toNat (0 : Int)) (List.drop (Int.toNat (0 : Int)) x) = x1 ∧ n = n1 ∧ m = m1 ∧ il = il1 ∧ id = id1 ∧ True))
    (NB (decide ((0 : Int) ≤ (0 : Int) ∧ (0 : Int) ≤ minI (↑x.length : Int) (100 : Int) ∧ minI (↑x.length : Int) (100 : Int) ≤ (↑x.length : Int)))
      (IntKind.i64.wrap ((1 : Int) + k.tmod (8 : Int)) = k1 ∧
        t = t1 ∧ l = l1 ∧ List.take ((minI (↑x.length : Int) (100 : Int)).toNat - Int.toNat (0 : Int)) (List.drop (Int.toNat (0 : Int)) x) = x1 ∧ n = n1 ∧ m = m1 ∧ il = il1 ∧ id = id1 ∧ True))) := by
  kernel_rfl

theorem awake_vc (r : Bool) : (vcFun (mkF Try.prog (tblOf tblO) (fun _ _ => none) 8) 60 9 [] .nil 0 (retP 3 (.bool r))).sat = (
  true = r) := by
  kernel_rfl

def cAwake : Ctr
  | [] => some (true, .bool true)
  | _ => none
theorem awake_ok : PureF Try.prog 9 cAwake := by
  intro args nd v h hnd
  unfold cAwake at h
  split at h <;> cases h
  exact pure_vcF mix tblO_ok ((awake_vc _).mpr (by decide))
def cTo : Ctr
  | [.agg [.int .i64 k, .int .i64 t, .int .u64 l, .str x, .int .i64 n, .int .i64 m, .int .u64 il, .int .u64 id]] => some (true, .int .i64 (opTo ⟨k, t, l, x, n, m, il, id⟩))
  | _ => none
def modI (a n : Int) : Int := if n < 1 then 0 else a % n
def cMod : Ctr
  | [.int .i64 a, .int .i64 n] => some (decide (-9223372036854775808 ≤ a ∧ a ≤ 9223372036854775807 ∧ n ≤ 9223372036854775807), .int .i64 (modI a n))
  | _ => none
def opRight (o : Opr) : Opr := ⟨1 + o.k % 8, o.t, o.l, o.x.take 100, o.n, o.m, o.il, o.id⟩
def cRight : Ctr
  | [.agg [.int .i64 k, .int .i64 t, .int .u64 l, .str x, .int .i64 n, .int .i64 m, .int .u64 il, .int .u64 id]] =>
    some (decide (-9223372036854775808 ≤ k ∧ k ≤ 9223372036854775807), (opRight ⟨k, t, l, x, n, m, il, id⟩).av)
  | _ => none
theorem to_ok : PureF Try.prog 14 cTo := by
  intro args nd v h hnd
  unfold cTo at h
  split at h <;> cases h
  rename_i k t l x n m il id
  refine pure_vcF mix tblW_ok ((to_vc k t l n m il id x _).mpr ?_)
  repeat' (first
    | (with_reducible refine VB_intro (fun h => ?_) (fun h => ?_) <;> try simp only [h, VB_t, VB_f, NB_t, Bool.not_true, Bool.not_false, Bool.true_and, Bool.false_and, Bool.and_true, Bool.and_false])
    | (with_reducible refine NB_intro' ?_ (fun h => ?_)))
  all_goals try simp only [isW_t, isW_f, impB_t, impB_f, beq_iff_eq, bne_iff_ne, Bool.not_eq_eq_eq_not, Bool.not_true, Bool.not_false, Bool.and_eq_true, Bool.and_eq_false_iff, Bool.or_eq_true, Bool.or_eq_false_iff, beq_eq_false_iff_ne, decide_eq_true_eq, decide_eq_false_iff_not, EqI] at *
  all_goals try simp (disch := omega) only [wrap_i64_id, wrap_u64_id, Int.add_sub_cancel] at *
  all_goals try simp (disch := omega) only [wrap_i64_id, wrap_u64_id, Int.add_sub_cancel] at *
  all_goals try simp (disch := omega) only [wrap_i64_id, wrap_u64_id, Int.add_sub_cancel] at *
  all_goals try simp (disch := omega) only [wrap_i64_id, wrap_u64_id, Int.add_sub_cancel] at *
  all_goals try grind (splits := 20) [opTo]
theorem tmod_emod (a : Int) {n : Int} (hn : 1 ≤ n) : (a.tmod n < 0 → a.tmod n + n = a % n) ∧ (¬ a.tmod n < 0 → a.tmod n = a % n) ∧ a.tmod n < n ∧ -n < a.tmod n := by
  have h1 := Int.tmod_lt_of_pos a (by omega : 0 < n)
  have h2 : -n < a.tmod n := by
    by_cases h : 0 ≤ a
    · have := Int.tmod_nonneg n h
      omega
    · have := Int.tmod_lt_of_pos (-a) (by omega : 0 < n)
      rw [Int.neg_tmod] at this
      omega
  have h3 : a % n = (a.tmod n) % n := by rw [Int.tmod_def, Int.sub_mul_emod_self_left]
  refine ⟨fun h => ?_, fun h => ?_, h1, h2⟩
  · have h4 : (a.tmod n) % n = (a.tmod n + n) % n := by rw [Int.add_emod_right]
    rw [h3, h4, Int.emod_eq_of_lt (by omega) (by omega)]
  · rw [h3, Int.emod_eq_of_lt (by omega) (by omega)]
theorem mod_ok : PureF Try.prog 22 cMod := by
  intro args nd v h hnd
  unfold cMod at h
  split at h <;> cases h
  rename_i a n
  obtain ⟨h0, h1, h2⟩ := of_decide_eq_true hnd
  refine pure_vcF mix tblW_ok ((mod_vc a n _).mpr ?_)
  unfold modI
  by_cases hn : n < 1
  · rw [if_pos hn]
    exact VB_iff.2 ⟨fun _ => rfl, fun h => absurd hn (of_decide_eq_false h)⟩
  · rw [if_neg hn]
    obtain ⟨t1, t2, t3, t4⟩ := tmod_emod a (by omega : 1 ≤ n)
    refine VB_iff.2 ⟨fun h => absurd (of_decide_eq_true h) hn, fun _ => NB_iff.2 ⟨by simp; omega, VB_iff.2 ⟨fun h => ?_, fun h => t2 (of_decide_eq_false h)⟩⟩⟩
    have := t1 (of_decide_eq_true h)
    rw [wrap_i64]
    omega
theorem right_ok : PureF Try.prog 10 cRight := by
  intro args nd v h hnd
  unfold cRight at h
  split at h <;> cases h
  rename_i k t l x n m il id
  obtain ⟨h0, h1⟩ := of_decide_eq_true hnd
  refine pure_vcF mix tblW_ok ((right_vc k t l n m il id x _ _ _ _ _ _ _ _).mpr ?_)
  obtain ⟨t1, t2, t3, t4⟩ := tmod_emod k (by decide : (1 : Int) ≤ 8)
  have hx : List.take ((minI (x.length : Int) 100).toNat - Int.toNat 0) (List.drop (Int.toNat 0) x) = x.take 100 := by
    show List.take ((minI (x.length : Int) 100).toNat - 0) x = x.take 100
    unfold minI
    by_cases h : (100 : Int) < x.length
    · rw [if_pos h]; rfl
    · rw [if_neg h, List.take_of_length_le (by omega), List.take_of_length_le (by omega)]
  have hm : 0 ≤ minI (x.length : Int) 100 ∧ minI (x.length : Int) 100 ≤ x.length := by
    unfold minI
    split <;> omega
  have w1 : k.tmod 8 < 0 → IntKind.i64.wrap (1 + IntKind.i64.wrap (k.tmod 8 + 8)) = 1 + k % 8 := fun h => by
    have := t1 h
    rw [wrap_i64, wrap_i64]
    omega
  have w2 : ¬ k.tmod 8 < 0 → IntKind.i64.wrap (1 + k.tmod 8) = 1 + k % 8 := fun h => by
    have := t2 h
    rw [wrap_i64]
    omega
  simp only [VB_iff, NB_iff, decide_eq_true_eq, decide_eq_false_iff_not, hx, opRight]
  exact ⟨fun h => ⟨⟨by omega, hm.1, hm.2⟩, w1 h, by simp⟩, fun h => ⟨⟨by omega, hm.1, hm.2⟩, w2 h, by simp⟩⟩
noncomputable def tblB : List (Nat × Ctr) := (9, cAwake) :: (14, cTo) :: (22, cMod) :: (10, cRight) :: tblO
theorem tblB_ok : TblOK Try.prog (fun _ => .undef) (tblOf tblB) := tbl_cons awake_ok (tbl_cons to_ok (tbl_cons mod_ok (tbl_cons right_ok tblO_ok)))
noncomputable def EB : Env := mkE Try.prog (tblOf tblB) (fun _ _ => none)
end Go.Proofs.Ytniihecdmcphgaa
