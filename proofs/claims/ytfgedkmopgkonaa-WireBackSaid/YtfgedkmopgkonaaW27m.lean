/- WIRE 27: what is written and read back: pieces, in Lean; Short and At. -/
import Derived.Test.YtfgedkmopgkonaaW21
namespace Go.Proofs.Ytfgedkmopgkonaa
open Pw Go
set_option maxRecDepth 100000
set_option linter.unusedSimpArgs false

def toInt : AV → Int
  | .int _ n => n
  | _ => 0
def isI64 : AV → Bool
  | .int .i64 _ => true
  | _ => false
def intsB (n : Nat) (f : Nat → AV) : Bool := (List.range n).all fun i => isI64 (f i)
theorem rof_int_sub {n : Nat} {f : Nat → AV} {ex : Bool} (h : intsB n f = true) : (AV.rof n f ex).sub (.rof n (fun i => .int .i64 (toInt (f i))) false) := by
  refine ⟨rfl, fun i hi => ?_, by simp⟩
  have := List.all_eq_true.1 h i (by simpa using hi)
  show (f i).sub (.int .i64 (toInt (f i))) ∧ (f i).cells.length = 1
  generalize f i = x at this
  cases x with
  | int k m =>
    cases k <;> simp only [isI64] at this <;> first | (cases this; done) | exact ⟨rfl, rfl⟩
  | _ => simp [isI64] at this

def atS (n : Nat) (g : Nat → Int) (i : Int) : Int := if i < 0 ∨ (n : Int) ≤ i then 0 else g i.toNat
def shortB (n : Nat) (g : Nat → List UInt8) (m : Int) : Bool := (List.range n).all fun i => decide ((g i).length ≤ m)
def invShort (n : Nat) (g : Nat → List UInt8) (m : Int) : Inv := ⟨Nat, 1, fun i => ⟨[(0, strs n g), (1, .int .i64 m), (5, .int .i64 i)], []⟩, fun i => i ≤ n ∧ ∀ j, j < i → (g j).length ≤ m, fun i => n - i⟩

theorem at_vc (n : Nat) (g : Nat → Int) (i x : Int) : (vcFun (mkE Try.prog (tblOf []) (fun _ _ => none)) 20 44 [.rof n (fun i => .int .i64 (g i)) false, .int .i64 i] .nil 0 (retP 3 (.int .i64 x))).sat = (
  VB (decide (i < (0 : Int)) || decide (i ≥ (↑n : Int))) ((0 : Int) = x) (NB (decide ((0 : Int) ≤ i ∧ i < (↑n : Int))) (g i.toNat = x))) := by
  kernel_rfl

theorem short_vc (n : Nat) (g : Nat → List UInt8) (m : Int) (x : Bool) : (vcFun (mkE Try.prog (tblOf []) (fun f b => if f = 43 ∧ b = 0 then some (invShort n g m) else none)) 20 43 [.rof n (fun i => .str (g i)) false, .int .i64 m] .nil 0 (retP 3 (.bool x))).sat = (
  (∃ (i : Nat),
      (i ≤ n ∧ ∀ (j : Nat), j < i → (↑(g j).length : Int) ≤ m) ∧
        ((n = n ∧ (∀ (i : Nat), i < n → g i = g i ∧ [AV.str (g i)].length = [AV.str (g i)].length) ∧ (false = true → false = true)) ∧ m = m ∧ (0 : Int) = (↑i : Int) ∧ True) ∧ True) ∧
    ∀ (i : Nat),
      (i ≤ n ∧ ∀ (j : Nat), j < i → (↑(g j).length : Int) ≤ m) →
        VB (decide ((↑i : Int) < (↑n : Int)))
          (NB (decide ((0 : Int) ≤ (↑i : Int) ∧ (↑i : Int) < (↑n : Int)))
            (VB (decide ((↑(g (↑i : Int).toNat).length : Int) > m)) (false = x)
              (∃ (i' : Nat),
                (i' ≤ n ∧ ∀ (j : Nat), j < i' → (↑(g j).length : Int) ≤ m) ∧
                  (invShort n g m).μ i' < (invShort n g m).μ i ∧
                    ((n = n ∧ (∀ (i : Nat), i < n → g i = g i ∧ [AV.str (g i)].length = [AV.str (g i)].length) ∧ (false = true → false = true)) ∧ m = m ∧ IntKind.i64.wrap ((↑i : Int) + (1 : Int)) = (↑i' : Int) ∧ True) ∧
                      True)))
          (true = x)) := by
  kernel_rfl

def cAt : Ctr
  | [.rof n f _, .int .i64 i] => some (decide (n ≤ 9223372036854775807) && intsB n f, .int .i64 (atS n (fun i => toInt (f i)) i))
  | _ => none
def cShort : Ctr
  | [.rof n f _, .int .i64 m] => some (decide (n ≤ 1000000) && strsB n f, .bool (shortB n (fun i => (f i).toStr) m))
  | _ => none
theorem at_ok : PureF Try.prog 44 cAt := by
  intro args nd v h hnd
  unfold cAt at h
  split at h <;> cases h
  rename_i n f ex i
  simp only [Bool.and_eq_true, decide_eq_true_eq] at hnd
  have h2 := pure_vc (d := 3) (k := 20) mix (tbl_nil _) ((at_vc n (fun i => toInt (f i)) i (atS n (fun i => toInt (f i)) i)).mpr (by
    repeat' (first
      | (with_reducible refine VB_intro (fun h => ?_) (fun h => ?_) <;> try simp only [h, VB_t, VB_f, NB_t, Bool.not_true, Bool.not_false, Bool.true_and, Bool.false_and, Bool.and_true, Bool.and_false])
      | (with_reducible refine NB_intro' ?_ (fun h => ?_)))
    all_goals try simp only [isW_t, isW_f, impB_t, impB_f, beq_iff_eq, bne_iff_ne, Bool.not_eq_eq_eq_not, Bool.not_true, Bool.not_false, Bool.and_eq_true, Bool.and_eq_false_iff, Bool.or_eq_true, Bool.or_eq_false_iff, beq_eq_false_iff_ne, decide_eq_true_eq, decide_eq_false_iff_not, EqI] at *
    all_goals try simp (disch := omega) only [wrap_i64_id, wrap_u64_id, Int.add_sub_cancel] at *
    all_goals try simp (disch := omega) only [wrap_i64_id, wrap_u64_id, Int.add_sub_cancel] at *
    all_goals try simp (disch := omega) only [wrap_i64_id, wrap_u64_id, Int.add_sub_cancel] at *
    all_goals try simp (disch := omega) only [wrap_i64_id, wrap_u64_id, Int.add_sub_cancel] at *
    all_goals try grind (splits := 20) [atS]))
  refine PureC.args (hc := h2) ?_ (fun j hj => ?_)
  · rfl
  match j, hj with
  | 0, _ => exact rof_int_sub hnd.2
  | 1, _ => exact rfl
theorem short_pure (n : Nat) (g : Nat → List UInt8) (m : Int) (hn : n ≤ 1000000) : PureC Try.prog (fun _ => .undef) 43 [.rof n (fun i => .str (g i)) false, .int .i64 m] (.bool (shortB n g m)) := by
  refine pure_vc mix (tbl_nil _) ((short_vc n g m _).mpr ?_)
  have hs : shortB n g m = true ↔ ∀ i, i < n → (g i).length ≤ m := by simp [shortB]
  simp only [EqI, true_and, and_true, implies_true, Int.toNat_natCast, List.length_cons, List.length_nil]
  refine ⟨⟨0, by simp⟩, fun i hi => ?_⟩
  repeat' (first
    | (with_reducible refine VB_intro (fun h => ?_) (fun h => ?_) <;> try simp only [h, VB_t, VB_f, NB_t, Bool.not_true, Bool.not_false, Bool.true_and, Bool.false_and, Bool.and_true, Bool.and_false])
    | (with_reducible refine NB_intro' ?_ (fun h => ?_))
    | (with_reducible refine Exists.intro (i + 1) ?_)
    | (with_reducible refine And.intro ?_ ?_))
  all_goals try simp only [invShort, isW_t, isW_f, impB_t, impB_f, beq_iff_eq, bne_iff_ne, Bool.not_eq_eq_eq_not, Bool.not_true, Bool.not_false, Bool.and_eq_true, Bool.and_eq_false_iff, Bool.or_eq_true, Bool.or_eq_false_iff, beq_eq_false_iff_ne, decide_eq_true_eq, decide_eq_false_iff_not, EqI, List.length_append, List.append_assoc] at *
  all_goals try simp (disch := omega) only [wrap_i64_id, wrap_u64_id, Int.add_sub_cancel] at *
  all_goals try simp (disch := omega) only [wrap_i64_id, wrap_u64_id, Int.add_sub_cancel] at *
  all_goals try omega
  all_goals try grind (splits := 20) [shortB]
theorem short_ok : PureF Try.prog 43 cShort := by
  intro args nd v h hnd
  unfold cShort at h
  split at h <;> cases h
  rename_i n f ex m
  simp only [Bool.and_eq_true, decide_eq_true_eq] at hnd
  refine PureC.args (hc := short_pure n (fun i => (f i).toStr) m hnd.1) ?_ (fun j hj => ?_)
  · rfl
  match j, hj with
  | 0, _ => exact rof_str_sub hnd.2
  | 1, _ => exact rfl
end Go.Proofs.Ytfgedkmopgkonaa
namespace Go.Proofs.Ytfgedkmopgkonaa
open Pw Go
set_option maxRecDepth 100000
set_option linter.unusedSimpArgs false

/-! ### Writing -/
theorem wrUse_big {s : List UInt8} (h : s.length ≤ 20000) : wrUse ⟨s, 20000, 0⟩ = ⟨s, 20000, 0⟩ := by
  have : wrOK ⟨s, 20000, 0⟩ = true := by simp [wrOK]; omega
  simp [wrUse, this]
theorem wrAdd_big {s t : List UInt8} (h : s.length + t.length ≤ 20000) : wrAdd ⟨s, 20000, 0⟩ t = ⟨s ++ t, 20000, 0⟩ := by
  unfold wrAdd
  rw [if_neg (by simp), if_neg (by simp only; omega)]
theorem wrPut_big {s : List UInt8} {k n : Int} (hk : okSize k = true) (hn : numS (digS n k.toNat) = n) (h : s.length + k.toNat ≤ 20000) : wrPut ⟨s, 20000, 0⟩ k n = ⟨s ++ digS n k.toNat, 20000, 0⟩ := by
  unfold wrPut
  rw [hk, hn, wrUse_big (by omega), wrAdd_big (by rw [digS_length]; omega)]
  simp
theorem wrPutI_big {s : List UInt8} {n : Int} (h : s.length + 8 ≤ 20000) : wrPutI ⟨s, 20000, 0⟩ n = ⟨s ++ digS n 8, 20000, 0⟩ := by
  unfold wrPutI
  rw [wrUse_big (by omega), wrAdd_big (by rw [digS_length]; omega)]
theorem wrPutSized_big {s t : List UInt8} (ht : t.length ≤ 100) (h : s.length + 102 ≤ 20000) : wrPutSized ⟨s, 20000, 0⟩ t = ⟨s ++ (digS t.length 2 ++ t), 20000, 0⟩ := by
  unfold wrPutSized
  rw [if_neg (by omega), wrUse_big (by omega), wrAdd_big (by rw [List.length_append, digS_length]; omega)]

/-! ### Reading -/
theorem rdUse_ok {s : List UInt8} {a : Int} (h0 : 0 ≤ a) (h1 : a ≤ s.length) : rdUse ⟨s, a, 0, 0⟩ = ⟨s, a, 0, 0⟩ := by
  have : rdOK ⟨s, a, 0, 0⟩ = true := by simp [rdOK, h0, h1]
  simp [rdUse, this]
theorem rdTake_mid (A X B : List UInt8) : rdTake ⟨A ++ (X ++ B), A.length, 0, 0⟩ X.length = (⟨A ++ (X ++ B), (A ++ X).length, 0, 0⟩, X) := by
  unfold rdTake
  rw [if_neg (by simp), if_neg (by simp only [List.length_append]; omega)]
  simp [List.drop_append, List.take_append]
theorem rdUint_mid (A B : List UInt8) {k n : Int} (hk : okSize k = true) (h0 : 0 ≤ k) (hn : numS (digS n k.toNat) = n) :
    rdUint ⟨A ++ (digS n k.toNat ++ B), A.length, 0, 0⟩ k = (⟨A ++ (digS n k.toNat ++ B), (A ++ digS n k.toNat).length, 0, 0⟩, n) := by
  have hk' : k = ((digS n k.toNat).length : Int) := by rw [digS_length]; omega
  have ht := rdTake_mid A (digS n k.toNat) B
  rw [← hk'] at ht
  unfold rdUint
  rw [if_pos hk, rdUse_ok (by omega) (by simp only [List.length_append]; omega), ht, hn]
theorem i64_u64 (n : Int) : IntKind.i64.wrap (IntKind.u64.wrap (IntKind.i64.wrap n)) = IntKind.i64.wrap n := by simp only [wrap_i64, wrap_u64]; omega
theorem rdInt_mid (A B : List UInt8) (n : Int) : rdInt ⟨A ++ (digS (IntKind.i64.wrap n) 8 ++ B), A.length, 0, 0⟩ = (⟨A ++ (digS (IntKind.i64.wrap n) 8 ++ B), (A ++ digS (IntKind.i64.wrap n) 8).length, 0, 0⟩, IntKind.i64.wrap n) := by
  have h8 : (8 : Int) = ((digS (IntKind.i64.wrap n) 8).length : Int) := by rw [digS_length]; rfl
  have ht := rdTake_mid A (digS (IntKind.i64.wrap n) 8) B
  rw [← h8] at ht
  have hn : numS (digS (IntKind.i64.wrap n) 8) = IntKind.u64.wrap (IntKind.i64.wrap n) := by
    rw [← digS_wrap8, numS_digS 8 _ (by rw [wrap_u64]; omega) (by decide), wrap_u64]
    omega
  unfold rdInt
  rw [rdUse_ok (by omega) (by simp only [List.length_append]; omega), ht, hn, i64_u64]
theorem rdBytes_mid (A X B : List UInt8) : rdBytes ⟨A ++ (X ++ B), A.length, 0, 0⟩ X.length = (⟨A ++ (X ++ B), (A ++ X).length, 0, 0⟩, X) := by
  unfold rdBytes
  rw [if_neg (by omega), rdUse_ok (by omega) (by simp only [List.length_append]; omega), rdTake_mid]
theorem rdSized_mid (A t B : List UInt8) (ht : t.length ≤ 100) : rdSized ⟨A ++ ((digS t.length 2 ++ t) ++ B), A.length, 0, 0⟩ 100 = (⟨A ++ ((digS t.length 2 ++ t) ++ B), (A ++ (digS t.length 2 ++ t)).length, 0, 0⟩, t) := by
  have h2 : (2 : Int) = ((digS t.length 2).length : Int) := by rw [digS_length]; rfl
  have e1 : A ++ ((digS t.length 2 ++ t) ++ B) = A ++ (digS t.length 2 ++ (t ++ B)) := by simp
  have e2 : A ++ ((digS t.length 2 ++ t) ++ B) = (A ++ digS t.length 2) ++ (t ++ B) := by simp
  have k1 := rdTake_mid A (digS t.length 2) (t ++ B)
  rw [← h2, ← e1] at k1
  have k2 := rdTake_mid (A ++ digS t.length 2) t B
  rw [← e2] at k2
  have hn : numS (digS t.length 2) = t.length := by
    rw [numS_digS 2 _ (by omega) (by decide)]
    omega
  unfold rdSized
  rw [if_neg (by decide), rdUse_ok (by omega) (by simp only [List.length_append]; omega), k1]
  simp only [hn, ne_eq, not_true_eq_false, if_false]
  rw [if_neg (by omega), k2]
  simp [List.append_assoc]

theorem takeF_split (e : Nat → List UInt8) : ∀ (n i : Nat), i < n → ∃ B, takeF e n = takeF e i ++ (e i ++ B)
  | n + 1, i, h => by
    rcases Nat.lt_or_ge i n with h' | h'
    · obtain ⟨B, hB⟩ := takeF_split e n i h'
      exact ⟨B ++ e n, by rw [takeF_succ, hB]; simp⟩
    · obtain rfl : i = n := by omega
      exact ⟨[], by rw [takeF_succ]; simp⟩
theorem takeF_len (e : Nat → List UInt8) (c : Nat) (h : ∀ i, (e i).length ≤ c) : ∀ n, (takeF e n).length ≤ c * n
  | 0 => by simp [takeF]
  | n + 1 => by
    have := takeF_len e c h n
    have := h n
    rw [takeF_succ, List.length_append, Nat.mul_succ]
    omega
theorem takeF_len' (e : Nat → List UInt8) (c m : Nat) (h : ∀ i, i < m → (e i).length ≤ c) : ∀ n, n ≤ m → (takeF e n).length ≤ c * n
  | 0, _ => by simp [takeF]
  | n + 1, hn => by
    have := takeF_len' e c m h n (by omega)
    have := h n (by omega)
    rw [takeF_succ, List.length_append, Nat.mul_succ]
    omega
end Go.Proofs.Ytfgedkmopgkonaa
