/- PRED 8: least solutions, in Lean. -/
import Derived.Test.YtjkkkldkimdajaaDoorP1
namespace Go.Proofs.YtjkkkldkimdajaaDoor
open Pw Go
set_option linter.unusedSimpArgs false

def lowI : Int := -9223372036854775808
def highI : Int := 9223372036854775807
def IsLeast (n : Nat) (o v : Nat → Int) (m : Int) : Prop := lowI ≤ m ∧ m ≤ highI ∧ allS n o v m = true ∧ ∀ x, lowI ≤ x → x < m → allS n o v x = false
def NoSol (n : Nat) (o v : Nat → Int) : Prop := ∀ x, lowI ≤ x → x ≤ highI → allS n o v x = false
open Classical in
noncomputable def lstB (n : Nat) (o v : Nat → Int) : Bool := decide (∃ m, IsLeast n o v m)
open Classical in
noncomputable def lstV (n : Nat) (o v : Nat → Int) : Int := if h : ∃ m, IsLeast n o v m then Classical.choose h else 0

theorem IsLeast.unique {n : Nat} {o v : Nat → Int} {a b : Int} (ha : IsLeast n o v a) (hb : IsLeast n o v b) : a = b := by
  rcases Int.lt_trichotomy a b with h | h | h
  · have := hb.2.2.2 a ha.1 h
    rw [ha.2.2.1] at this; cases this
  · exact h
  · have := ha.2.2.2 b hb.1 h
    rw [hb.2.2.1] at this; cases this
theorem lst_of {n : Nat} {o v : Nat → Int} {m : Int} (h : IsLeast n o v m) : lstV n o v = m ∧ lstB n o v = true := by
  have he : ∃ m, IsLeast n o v m := ⟨m, h⟩
  constructor
  · unfold lstV
    rw [dif_pos he]
    exact (Classical.choose_spec he).unique h
  · simp [lstB, he]
theorem lst_none {n : Nat} {o v : Nat → Int} (h : NoSol n o v) : lstV n o v = 0 ∧ lstB n o v = false := by
  have he : ¬ ∃ m, IsLeast n o v m := by
    rintro ⟨m, h1, h2, h3, _⟩
    rw [h m h1 h2] at h3; cases h3
  constructor
  · unfold lstV
    rw [dif_neg he]
  · simp [lstB, he]

/-! ### From below -/
def lowB (o v : Nat → Int) : Nat → Int
  | 0 => lowI
  | i + 1 => if o i = 1 ∨ o i = 6 then max (lowB o v i) (v i) else if o i = 5 then max (lowB o v i) (v i + 1) else lowB o v i
theorem lowB_low (o v : Nat → Int) : ∀ i, lowI ≤ lowB o v i
  | 0 => Int.le_refl _
  | i + 1 => by
    have := lowB_low o v i
    simp only [lowB]
    split
    · omega
    · split <;> omega
/-- Each lower bound is met. -/
theorem lowB_ge (o v : Nat → Int) : ∀ n i, i < n → ((o i = 1 ∨ o i = 6) → v i ≤ lowB o v n) ∧ (o i = 5 → v i + 1 ≤ lowB o v n)
  | n + 1, i, h => by
    rcases Nat.lt_or_ge i n with h' | h'
    · have := lowB_ge o v n i h'
      simp only [lowB]
      split
      · omega
      · split <;> omega
    · obtain rfl : i = n := by omega
      simp only [lowB]
      split
      · omega
      · split <;> omega
/-- No solution lies below. -/
theorem lowB_le {o v : Nat → Int} {x : Int} (h0 : lowI ≤ x) : ∀ n, (∀ i, i < n → opS (o i) (v i) x = true) → lowB o v n ≤ x
  | 0, _ => h0
  | n + 1, h => by
    have ih := lowB_le h0 n (fun i hi => h i (by omega))
    have hn := h n (by omega)
    simp only [lowB]
    split
    · rename_i ho
      rcases ho with ho | ho <;> simp only [opS, ho] at hn <;> simp at hn <;> omega
    · split
      · rename_i ho
        simp only [opS, ho] at hn
        simp at hn
        omega
      · exact ih
theorem pigeon : ∀ (n : Nat) (w : Nat → Int) (L : Int), (∀ j : Nat, j ≤ n → ∃ i, i < n ∧ w i = L + j) → False
  | 0, w, L, h => by
    obtain ⟨i, hi, _⟩ := h 0 (by omega)
    omega
  | n + 1, w, L, h => by
    obtain ⟨i0, h0, e0⟩ := h (n + 1) (by omega)
    refine pigeon n (fun i => w (if i < i0 then i else i + 1)) L fun j hj => ?_
    obtain ⟨i, hi, e⟩ := h j (by omega)
    have hne : i ≠ i0 := fun he => by subst he; omega
    by_cases hlt : i < i0
    · exact ⟨i, by omega, by simp only [if_pos hlt]; exact e⟩
    · exact ⟨i - 1, by omega, by
        have : ¬ i - 1 < i0 := by omega
        simp only [if_neg this]
        rw [show i - 1 + 1 = i by omega]
        exact e⟩
/-- If so many from the bound on are none, there is none. -/
theorem none_from_low {n : Nat} {o v : Nat → Int} (ho : ∀ i, i < n → 1 ≤ o i ∧ o i ≤ 6) (hf : ∀ j : Nat, j ≤ n → allS n o v (lowB o v n + j) = false) : NoSol n o v := by
  intro x h0 h1
  cases hx : allS n o v x with
  | false => rfl
  | true =>
    exfalso
    have hall := allS_iff.1 hx
    have hle := lowB_le h0 n hall
    by_cases hnear : x ≤ lowB o v n + n
    · have := hf (x - lowB o v n).toNat (by omega)
      rw [show lowB o v n + ((x - lowB o v n).toNat : Int) = x by omega, hx] at this
      cases this
    · refine pigeon n v (lowB o v n) fun j hj => ?_
      have hn : ¬ ∀ i, i < n → opS (o i) (v i) (lowB o v n + j) = true := fun hc => by
        have := hf j hj
        rw [allS_iff.2 hc] at this
        cases this
      have : ∃ i, i < n ∧ opS (o i) (v i) (lowB o v n + j) = false := by
        refine Classical.byContradiction fun hno => hn fun i hi => ?_
        cases hq : opS (o i) (v i) (lowB o v n + j) with
        | true => rfl
        | false => exact absurd ⟨i, hi, hq⟩ hno
      obtain ⟨i, hi, hq⟩ := this
      refine ⟨i, hi, ?_⟩
      have hxi := hall i hi
      have hb := lowB_ge o v n i hi
      have h16 := ho i hi
      have h6 : o i = 1 ∨ o i = 2 ∨ o i = 3 ∨ o i = 4 ∨ o i = 5 ∨ o i = 6 := by omega
      rcases h6 with h | h | h | h | h | h <;> simp only [opS, h] at hq hxi <;> simp at hq hxi <;> omega

/-! ### From the values -/
/-- The least solution is the least number, or a value, or the number behind one. -/
theorem least_is {n : Nat} {o v : Nat → Int} {m : Int} (ho : ∀ i, i < n → 1 ≤ o i ∧ o i ≤ 6) (h : IsLeast n o v m) : m = lowI ∨ ∃ i, i < n ∧ (m = v i ∨ (m = v i + 1 ∧ v i < highI)) := by
  obtain ⟨h1, h2, h3, h4⟩ := h
  by_cases hm : m = lowI
  · exact .inl hm
  · refine .inr ?_
    have hp := h4 (m - 1) (by omega) (by omega)
    have hall := allS_iff.1 h3
    have : ∃ i, i < n ∧ opS (o i) (v i) (m - 1) = false := by
      refine Classical.byContradiction fun hno => ?_
      have : allS n o v (m - 1) = true := allS_iff.2 fun i hi => by
        cases hq : opS (o i) (v i) (m - 1) with
        | true => rfl
        | false => exact absurd ⟨i, hi, hq⟩ hno
      rw [hp] at this; cases this
    obtain ⟨i, hi, hq⟩ := this
    have hxi := hall i hi
    have h16 := ho i hi
    have h6 : o i = 1 ∨ o i = 2 ∨ o i = 3 ∨ o i = 4 ∨ o i = 5 ∨ o i = 6 := by omega
    refine ⟨i, hi, ?_⟩
    rcases h6 with h | h | h | h | h | h <;> simp only [opS, h] at hq hxi <;> simp at hq hxi <;> omega
end Go.Proofs.YtjkkkldkimdajaaDoor
namespace Go.Proofs.YtjkkkldkimdajaaDoor
open Pw Go
set_option maxRecDepth 100000
set_option linter.unusedSimpArgs false

theorem condsB_agg (n : Nat) (o v : Nat → Int) : condsB n (fun i => .agg [.int .i64 (o i), .int .i64 (v i)]) = true := by simp [condsB, isCond]
theorem chk_of {g : Nat} (h : ∀ (n : Nat) (o v : Nat → Int), n ≤ 1000000 → PureC Tryd.prog (fun _ => .undef) g [condsAV n o v] (.int .i64 (chkS n o))) : PureF Tryd.prog g cChk := by
  intro args nd v he hnd
  unfold cChk at he
  split at he <;> cases he
  simp only [Bool.and_eq_true, decide_eq_true_eq] at hnd
  rename_i n f ex
  refine PureC.args (args' := [condsAV n (fun i => opOf (f i)) (fun i => valOf (f i))]) rfl ?_ (h _ _ _ hnd.1)
  intro i hi
  match i, hi with
  | 0, _ => exact rof_cond_sub hnd.2
theorem all_of {g : Nat} (h : ∀ (n : Nat) (o v : Nat → Int) (x : Int), n ≤ 1000000 → okAll n o = true → PureC Tryd.prog (fun _ => .undef) g [condsAV n o v, .int .i64 x] (.bool (allS n o v x))) : PureF Tryd.prog g cAll := by
  intro args nd v he hnd
  unfold cAll at he
  split at he <;> cases he
  simp only [Bool.and_eq_true, decide_eq_true_eq] at hnd
  rename_i n f ex x
  refine PureC.args (args' := [condsAV n (fun i => opOf (f i)) (fun i => valOf (f i)), .int .i64 x]) rfl ?_ (h _ _ _ _ hnd.1.1 hnd.2)
  intro i hi
  match i, hi with
  | 0, _ => exact rof_cond_sub hnd.1.2
  | 1, _ => exact (show (AV.int .i64 x).sub (.int .i64 x) from rfl)
def tbl3 : List (Nat × Ctr) := [(44, cChk), (46, cChk), (45, cAll), (47, cAll)]
theorem tbl3_ok : TblOK Tryd.prog (fun _ => .undef) (tblOf tbl3) :=
  tbl_cons (chk_of chkI_pure) (tbl_cons (chk_of chkR_pure) (tbl_cons (all_of allI_pure) (tbl_cons (all_of allR_pure) (tbl_nil _))))

end Go.Proofs.YtjkkkldkimdajaaDoor
namespace Go.Proofs.YtjkkkldkimdajaaDoor
open Pw Go
set_option maxRecDepth 100000
set_option linter.unusedSimpArgs false

def boxI (n : Int) : Blk := .row 0 1 true (.lst [.int .i64 n])
def boxC (n : Nat) (o v : Nat → Int) : Blk := .row 0 1 true (.lst [condsAV n o v])
def invL1 (n : Nat) (o v : Nat → Int) : Inv := ⟨Nat, 10, fun i => ⟨[(1, .ptr 0 0 0 0), (4, .ptr 1 0 0 0), (8, condsAV n o v), (9, .int .i64 n), (10, .int .i64 i)], [(0, boxC n o v), (1, boxI (lowB o v i))]⟩,
  fun i => i ≤ n ∧ lowB o v i ≤ highI, fun i => n - i⟩
def invL2 (n : Nat) (o v : Nat → Int) : Inv := ⟨Nat, 30, fun i => ⟨[(1, .ptr 0 0 0 0), (4, .ptr 1 0 0 0), (7, .fn (.func 59) [] [.ptr 0 0 0 0, .ptr 1 0 0 0]), (37, .int .i64 (n + 1)), (38, .int .i64 i)], [(0, boxC n o v), (1, boxI (lowB o v n + i))]⟩,
  fun i => i ≤ n + 1 ∧ lowB o v n + i ≤ highI ∧ ∀ j : Nat, j < i → allS n o v (lowB o v n + j) = false, fun i => n + 1 - i⟩

def trL (v : Nat → Int) : Nat → List Int
  | 0 => [lowI]
  | i + 1 => trL v i ++ (v i :: if v i < highI then [v i + 1] else [])
def trV (v : Nat → Int) (i k : Nat) : Int := (trL v i).getD k 0
def trN (v : Nat → Int) (i : Nat) : Nat := (trL v i).length
def bstF (n : Nat) (o v : Nat → Int) : Nat → Bool
  | 0 => false
  | i + 1 => bstF n o v i || allS n o v (trV v n i)
def bstV (n : Nat) (o v : Nat → Int) : Nat → Int
  | 0 => 0
  | i + 1 => if allS n o v (trV v n i) = true ∧ (bstF n o v i = false ∨ trV v n i < bstV n o v i) then trV v n i else bstV n o v i
def rowT (g n : Nat) (f : Nat → Int) : Blk := .row g 1 true (.fn n fun k => .int .i64 (f k))
def invR1 (n : Nat) (o v : Nat → Int) : Inv := ⟨Nat × Nat, 10, fun p => ⟨[(0, condsAV n o v), (4, .sl 0 p.2 0 (trN v p.1) none), (5, .int .i64 p.1)], [(0, rowT p.2 (trN v p.1) (trV v p.1))]⟩,
  fun p => p.1 ≤ n, fun p => n - p.1⟩
def invR2 (n : Nat) (o v : Nat → Int) : Inv := ⟨Nat × Nat, 30, fun p => ⟨[(0, condsAV n o v), (4, .sl 0 p.2 0 (trN v n) none), (6, .int .i64 (bstV n o v p.1)), (7, .bool (bstF n o v p.1)), (8, .int .i64 p.1)], [(0, rowT p.2 (trN v n) (trV v n))]⟩,
  fun p => p.1 ≤ trN v n, fun p => trN v n - p.1⟩

theorem leastI_vc (n : Nat) (o v : Nat → Int) (r : Int) (q : Bool) : (vcFun (mkE Tryd.prog (tblOf tbl3) fun f b => if f = 48 then (if b = 0 then some (invL1 n o v) else if b = 3 then some (invL2 n o v) else none) else none) 20 48 [.rof n (fun i => .agg [.int .i64 (o i), .int .i64 (v i)]) false] .nil 0 (retP 3 (.tup [.int .i64 r, .bool q]))).sat = (
  (∃ (i : Nat),
      (i ≤ n ∧ lowB o v i ≤ highI) ∧
        (((0 : Nat) = (0 : Nat) ∧ (0 : Nat) = (0 : Nat) ∧ (0 : Nat) = (0 : Nat)) ∧
            ((0 : Nat) = (0 : Nat) ∧ (0 : Nat) = (0 : Nat) ∧ (0 : Nat) = (0 : Nat)) ∧
              (n = n ∧
                  (∀ (i : Nat), i < n → (o i = o i ∧ v i = v i ∧ True) ∧ [AV.int IntKind.i64 (o i), AV.int IntKind.i64 (v i)].length = [AV.int IntKind.i64 (o i), AV.int IntKind.i64 (v i)].length) ∧
                    (false = true → false = true)) ∧
                (↑n : Int) = (↑n : Int) ∧ (0 : Int) = (↑i : Int) ∧ True) ∧
          ((0 : Nat) = (0 : Nat) ∧
              (true = true → true = true) ∧
                ((n = n ∧
                      (∀ (i : Nat), i < n → (o i = o i ∧ v i = v i ∧ True) ∧ [AV.int IntKind.i64 (o i), AV.int IntKind.i64 (v i)].length = [AV.int IntKind.i64 (o i), AV.int IntKind.i64 (v i)].length) ∧
                        (false = true → false = true)) ∧
                    [AV.rof n (fun (i : Nat) => AV.agg [AV.int IntKind.i64 (o i), AV.int IntKind.i64 (v i)]) false].length = [condsAV n o v].length) ∧
                  True) ∧
            ((0 : Nat) = (0 : Nat) ∧ (true = true → true = true) ∧ ((-9223372036854775808 : Int) = lowB o v i ∧ [AV.int IntKind.i64 (-9223372036854775808 : Int)].length = [AV.int IntKind.i64 (lowB o v i)].length) ∧ True) ∧
              True) ∧
    ∀ (i : Nat),
      i ≤ n ∧ lowB o v i ≤ highI →
        VB (decide ((↑i : Int) < (↑n : Int)))
          (NB (decide ((0 : Int) ≤ (↑i : Int) ∧ (↑i : Int) < (↑n : Int)))
            (VB (o (↑i : Int).toNat == (1 : Int))
              (VB (o (↑i : Int).toNat == (1 : Int))
                (∃ (i' : Nat),
                  (i' ≤ n ∧ lowB o v i' ≤ highI) ∧
                    (invL1 n o v).μ i' < (invL1 n o v).μ i ∧
                      (((0 : Nat) = (0 : Nat) ∧ (0 : Nat) = (0 : Nat) ∧ (0 : Nat) = (0 : Nat)) ∧
                          ((0 : Nat) = (0 : Nat) ∧ (0 : Nat) = (0 : Nat) ∧ (0 : Nat) = (0 : Nat)) ∧
                            (n = n ∧
                                (∀ (i : Nat), i < n → (o i = o i ∧ v i = v i ∧ True) ∧ [AV.int IntKind.i64 (o i), AV.int IntKind.i64 (v i)].length = [AV.int IntKind.i64 (o i), AV.int IntKind.i64 (v i)].length) ∧
                                  (false = true → false = true)) ∧
                              (↑n : Int) = (↑n : Int) ∧ IntKind.i64.wrap ((↑i : Int) + (1 : Int)) = (↑i' : Int) ∧ True) ∧
                        ((0 : Nat) = (0 : Nat) ∧
                            (true = true → true = true) ∧
                              ((n = n ∧
                                    (∀ (i : Nat), i < n → (o i = o i ∧ v i = v i ∧ True) ∧ [AV.int IntKind.i64 (o i), AV.int IntKind.i64 (v i)].length = [AV.int IntKind.i64 (o i), AV.int IntKind.i64 (v i)].length) ∧
                                      (false = true → false = true)) ∧
                                  [condsAV n o v].length = [condsAV n o v].length) ∧
                                True) ∧
                          ((0 : Nat) = (0 : Nat) ∧
                              (true = true → true = true) ∧
                                (maxI (lowB o v i) (v (↑i : Int).toNat) = lowB o v i' ∧ [AV.int IntKind.i64 (maxI (lowB o v i) (v (↑i : Int).toNat))].length = [AV.int IntKind.i64 (lowB o v i')].length) ∧ True) ∧
                            True)
                (VB (o (↑i : Int).toNat == (5 : Int))
                  (VB (v (↑i : Int).toNat == (9223372036854775807 : Int)) ((0 : Int) = r ∧ false = q ∧ True)
                    (∃ (i' : Nat),
                      (i' ≤ n ∧ lowB o v i' ≤ highI) ∧
                        (invL1 n o v).μ i' < (invL1 n o v).μ i ∧
                          (((0 : Nat) = (0 : Nat) ∧ (0 : Nat) = (0 : Nat) ∧ (0 : Nat) = (0 : Nat)) ∧
                              ((0 : Nat) = (0 : Nat) ∧ (0 : Nat) = (0 : Nat) ∧ (0 : Nat) = (0 : Nat)) ∧
                                (n = n ∧
                                    (∀ (i : Nat), i < n → (o i = o i ∧ v i = v i ∧ True) ∧ [AV.int IntKind.i64 (o i), AV.int IntKind.i64 (v i)].length = [AV.int IntKind.i64 (o i), AV.int IntKind.i64 (v i)].length) ∧
                                      (false = true → false = true)) ∧
                                  (↑n : Int) = (↑n : Int) ∧ IntKind.i64.wrap ((↑i : Int) + (1 : Int)) = (↑i' : Int) ∧ True) ∧
                            ((0 : Nat) = (0 : Nat) ∧
                                (true = true → true = true) ∧
                                  ((n = n ∧
                                        (∀ (i : Nat), i < n → (o i = o i ∧ v i = v i ∧ True) ∧ [AV.int IntKind.i64 (o i), AV.int IntKind.i64 (v i)].length = [AV.int IntKind.i64 (o i), AV.int IntKind.i64 (v i)].length) ∧
                                          (false = true → false = true)) ∧
                                      [condsAV n o v].length = [condsAV n o v].length) ∧
                                    True) ∧
                              ((0 : Nat) = (0 : Nat) ∧
                                  (true = true → true = true) ∧
                                    (maxI (lowB o v i) (IntKind.i64.wrap (v (↑i : Int).toNat + (1 : Int))) = lowB o v i' ∧
                                        [AV.int IntKind.i64 (maxI (lowB o v i) (IntKind.i64.wrap (v (↑i : Int).toNat + (1 : Int))))].length = [AV.int IntKind.i64 (lowB o v i')].length) ∧
                                      True) ∧
                                True))
                  (∃ (i' : Nat),
                    (i' ≤ n ∧ lowB o v i' ≤ highI) ∧
                      (invL1 n o v).μ i' < (invL1 n o v).μ i ∧
                        (((0 : Nat) = (0 : Nat) ∧ (0 : Nat) = (0 : Nat) ∧ (0 : Nat) = (0 : Nat)) ∧
                            ((0 : Nat) = (0 : Nat) ∧ (0 : Nat) = (0 : Nat) ∧ (0 : Nat) = (0 : Nat)) ∧
                              (n = n ∧
                                  (∀ (i : Nat), i < n → (o i = o i ∧ v i = v i ∧ True) ∧ [AV.int IntKind.i64 (o i), AV.int IntKind.i64 (v i)].length = [AV.int IntKind.i64 (o i), AV.int IntKind.i64 (v i)].length) ∧
                                    (false = true → false = true)) ∧
                                (↑n : Int) = (↑n : Int) ∧ IntKind.i64.wrap ((↑i : Int) + (1 : Int)) = (↑i' : Int) ∧ True) ∧
                          ((0 : Nat) = (0 : Nat) ∧
                              (true = true → true = true) ∧
                                ((n = n ∧
                                      (∀ (i : Nat), i < n → (o i = o i ∧ v i = v i ∧ True) ∧ [AV.int IntKind.i64 (o i), AV.int IntKind.i64 (v i)].length = [AV.int IntKind.i64 (o i), AV.int IntKind.i64 (v i)].length) ∧
                                        (false = true → false = true)) ∧
                                    [condsAV n o v].length = [condsAV n o v].length) ∧
                                  True) ∧
                            ((0 : Nat) = (0 : Nat) ∧ (true = true → true = true) ∧ (lowB o v i = lowB o v i' ∧ [AV.int IntKind.i64 (lowB o v i)].length = [AV.int IntKind.i64 (lowB o v i')].length) ∧ True) ∧ True)))
              (VB (o (↑i : Int).toNat == (6 : Int))
                (∃ (i' : Nat),
                  (i' ≤ n ∧ lowB o v i' ≤ highI) ∧
                    (invL1 n o v).μ i' < (invL1 n o v).μ i ∧
                      (((0 : Nat) = (0 : Nat) ∧ (0 : Nat) = (0 : Nat) ∧ (0 : Nat) = (0 : Nat)) ∧
                          ((0 : Nat) = (0 : Nat) ∧ (0 : Nat) = (0 : Nat) ∧ (0 : Nat) = (0 : Nat)) ∧
                            (n = n ∧
                                (∀ (i : Nat), i < n → (o i = o i ∧ v i = v i ∧ True) ∧ [AV.int IntKind.i64 (o i), AV.int IntKind.i64 (v i)].length = [AV.int IntKind.i64 (o i), AV.int IntKind.i64 (v i)].length) ∧
                                  (false = true → false = true)) ∧
                              (↑n : Int) = (↑n : Int) ∧ IntKind.i64.wrap ((↑i : Int) + (1 : Int)) = (↑i' : Int) ∧ True) ∧
                        ((0 : Nat) = (0 : Nat) ∧
                            (true = true → true = true) ∧
                              ((n = n ∧
                                    (∀ (i : Nat), i < n → (o i = o i ∧ v i = v i ∧ True) ∧ [AV.int IntKind.i64 (o i), AV.int IntKind.i64 (v i)].length = [AV.int IntKind.i64 (o i), AV.int IntKind.i64 (v i)].length) ∧
                                      (false = true → false = true)) ∧
                                  [condsAV n o v].length = [condsAV n o v].length) ∧
                                True) ∧
                          ((0 : Nat) = (0 : Nat) ∧
                              (true = true → true = true) ∧
                                (maxI (lowB o v i) (v (↑i : Int).toNat) = lowB o v i' ∧ [AV.int IntKind.i64 (maxI (lowB o v i) (v (↑i : Int).toNat))].length = [AV.int IntKind.i64 (lowB o v i')].length) ∧ True) ∧
                            True)
                (VB (o (↑i : Int).toNat == (5 : Int))
                  (VB (v (↑i : Int).toNat == (9223372036854775807 : Int)) ((0 : Int) = r ∧ false = q ∧ True)
                    (∃ (i' : Nat),
                      (i' ≤ n ∧ lowB o v i' ≤ highI) ∧
                        (invL1 n o v).μ i' < (invL1 n o v).μ i ∧
                          (((0 : Nat) = (0 : Nat) ∧ (0 : Nat) = (0 : Nat) ∧ (0 : Nat) = (0 : Nat)) ∧
                              ((0 : Nat) = (0 : Nat) ∧ (0 : Nat) = (0 : Nat) ∧ (0 : Nat) = (0 : Nat)) ∧
                                (n = n ∧
                                    (∀ (i : Nat), i < n → (o i = o i ∧ v i = v i ∧ True) ∧ [AV.int IntKind.i64 (o i), AV.int IntKind.i64 (v i)].length = [AV.int IntKind.i64 (o i), AV.int IntKind.i64 (v i)].length) ∧
                                      (false = true → false = true)) ∧
                                  (↑n : Int) = (↑n : Int) ∧ IntKind.i64.wrap ((↑i : Int) + (1 : Int)) = (↑i' : Int) ∧ True) ∧
                            ((0 : Nat) = (0 : Nat) ∧
                                (true = true → true = true) ∧
                                  ((n = n ∧
                                        (∀ (i : Nat), i < n → (o i = o i ∧ v i = v i ∧ True) ∧ [AV.int IntKind.i64 (o i), AV.int IntKind.i64 (v i)].length = [AV.int IntKind.i64 (o i), AV.int IntKind.i64 (v i)].length) ∧
                                          (false = true → false = true)) ∧
                                      [condsAV n o v].length = [condsAV n o v].length) ∧
                                    True) ∧
                              ((0 : Nat) = (0 : Nat) ∧
                                  (true = true → true = true) ∧
                                    (maxI (lowB o v i) (IntKind.i64.wrap (v (↑i : Int).toNat + (1 : Int))) = lowB o v i' ∧
                                        [AV.int IntKind.i64 (maxI (lowB o v i) (IntKind.i64.wrap (v (↑i : Int).toNat + (1 : Int))))].length = [AV.int IntKind.i64 (lowB o v i')].length) ∧
                                      True) ∧
                                True))
                  (∃ (i' : Nat),
                    (i' ≤ n ∧ lowB o v i' ≤ highI) ∧
                      (invL1 n o v).μ i' < (invL1 n o v).μ i ∧
                        (((0 : Nat) = (0 : Nat) ∧ (0 : Nat) = (0 : Nat) ∧ (0 : Nat) = (0 : Nat)) ∧
                            ((0 : Nat) = (0 : Nat) ∧ (0 : Nat) = (0 : Nat) ∧ (0 : Nat) = (0 : Nat)) ∧
                              (n = n ∧
                                  (∀ (i : Nat), i < n → (o i = o i ∧ v i = v i ∧ True) ∧ [AV.int IntKind.i64 (o i), AV.int IntKind.i64 (v i)].length = [AV.int IntKind.i64 (o i), AV.int IntKind.i64 (v i)].length) ∧
                                    (false = true → false = true)) ∧
                                (↑n : Int) = (↑n : Int) ∧ IntKind.i64.wrap ((↑i : Int) + (1 : Int)) = (↑i' : Int) ∧ True) ∧
                          ((0 : Nat) = (0 : Nat) ∧
                              (true = true → true = true) ∧
                                ((n = n ∧
                                      (∀ (i : Nat), i < n → (o i = o i ∧ v i = v i ∧ True) ∧ [AV.int IntKind.i64 (o i), AV.int IntKind.i64 (v i)].length = [AV.int IntKind.i64 (o i), AV.int IntKind.i64 (v i)].length) ∧
                                        (false = true → false = true)) ∧
                                    [condsAV n o v].length = [condsAV n o v].length) ∧
                                  True) ∧
                            ((0 : Nat) = (0 : Nat) ∧ (true = true → true = true) ∧ (lowB o v i = lowB o v i' ∧ [AV.int IntKind.i64 (lowB o v i)].length = [AV.int IntKind.i64 (lowB o v i')].length) ∧ True) ∧ True)))))
          ((∃ (i_1 : Nat),
              (i_1 ≤ n + (1 : Nat) ∧ lowB o v n + (↑i_1 : Int) ≤ highI ∧ ∀ (j : Nat), j < i_1 → allS n o v (lowB o v n + (↑j : Int)) = false) ∧
                (((0 : Nat) = (0 : Nat) ∧ (0 : Nat) = (0 : Nat) ∧ (0 : Nat) = (0 : Nat)) ∧
                    ((0 : Nat) = (0 : Nat) ∧ (0 : Nat) = (0 : Nat) ∧ (0 : Nat) = (0 : Nat)) ∧
                      (Fn.func (59 : Nat) = Fn.func (59 : FuncId) ∧
                          True ∧ ((0 : Nat) = (0 : Nat) ∧ (0 : Nat) = (0 : Nat) ∧ (0 : Nat) = (0 : Nat)) ∧ ((0 : Nat) = (0 : Nat) ∧ (0 : Nat) = (0 : Nat) ∧ (0 : Nat) = (0 : Nat)) ∧ True) ∧
                        IntKind.i64.wrap ((↑n : Int) + (1 : Int)) = (↑n : Int) + (1 : Int) ∧ (0 : Int) = (↑i_1 : Int) ∧ True) ∧
                  ((0 : Nat) = (0 : Nat) ∧
                      (true = true → true = true) ∧
                        ((n = n ∧
                              (∀ (i : Nat), i < n → (o i = o i ∧ v i = v i ∧ True) ∧ [AV.int IntKind.i64 (o i), AV.int IntKind.i64 (v i)].length = [AV.int IntKind.i64 (o i), AV.int IntKind.i64 (v i)].length) ∧
                                (false = true → false = true)) ∧
                            [condsAV n o v].length = [condsAV n o v].length) ∧
                          True) ∧
                    ((0 : Nat) = (0 : Nat) ∧
                        (true = true → true = true) ∧ (lowB o v i = lowB o v n + (↑i_1 : Int) ∧ [AV.int IntKind.i64 (lowB o v i)].length = [AV.int IntKind.i64 (lowB o v n + (↑i_1 : Int))].length) ∧ True) ∧
                      True) ∧
            ∀ (i : Nat),
              (i ≤ n + (1 : Nat) ∧ lowB o v n + (↑i : Int) ≤ highI ∧ ∀ (j : Nat), j < i → allS n o v (lowB o v n + (↑j : Int)) = false) →
                VB (decide ((↑i : Int) < (↑n : Int) + (1 : Int)))
                  (NB
                    ((decide (n ≤ (1000000 : Nat)) && condsB n fun (i : Nat) => AV.agg [AV.int IntKind.i64 (o i), AV.int IntKind.i64 (v i)]) &&
                      okAll n fun (i : Nat) => opOf (AV.agg [AV.int IntKind.i64 (o i), AV.int IntKind.i64 (v i)]))
                    (VB
                      (allS n (fun (i : Nat) => opOf (AV.agg [AV.int IntKind.i64 (o i), AV.int IntKind.i64 (v i)])) (fun (i : Nat) => valOf (AV.agg [AV.int IntKind.i64 (o i), AV.int IntKind.i64 (v i)]))
                        (lowB o v n + (↑i : Int)))
                      (lowB o v n + (↑i : Int) = r ∧ true = q ∧ True)
                      (VB (lowB o v n + (↑i : Int) == (9223372036854775807 : Int)) ((0 : Int) = r ∧ false = q ∧ True)
                        (∃ (i' : Nat),
                          (i' ≤ n + (1 : Nat) ∧ lowB o v n + (↑i' : Int) ≤ highI ∧ ∀ (j : Nat), j < i' → allS n o v (lowB o v n + (↑j : Int)) = false) ∧
                            (invL2 n o v).μ i' < (invL2 n o v).μ i ∧
                              (((0 : Nat) = (0 : Nat) ∧ (0 : Nat) = (0 : Nat) ∧ (0 : Nat) = (0 : Nat)) ∧
                                  ((0 : Nat) = (0 : Nat) ∧ (0 : Nat) = (0 : Nat) ∧ (0 : Nat) = (0 : Nat)) ∧
                                    (Fn.func (59 : FuncId) = Fn.func (59 : FuncId) ∧
                                        True ∧ ((0 : Nat) = (0 : Nat) ∧ (0 : Nat) = (0 : Nat) ∧ (0 : Nat) = (0 : Nat)) ∧ ((0 : Nat) = (0 : Nat) ∧ (0 : Nat) = (0 : Nat) ∧ (0 : Nat) = (0 : Nat)) ∧ True) ∧
                                      (↑n : Int) + (1 : Int) = (↑n : Int) + (1 : Int) ∧ IntKind.i64.wrap ((↑i : Int) + (1 : Int)) = (↑i' : Int) ∧ True) ∧
                                ((0 : Nat) = (0 : Nat) ∧
                                    (true = true → true = true) ∧
                                      ((n = n ∧
                                            (∀ (i : Nat),
                                                i < n → (o i = o i ∧ v i = v i ∧ True) ∧ [AV.int IntKind.i64 (o i), AV.int IntKind.i64 (v i)].length = [AV.int IntKind.i64 (o i), AV.int IntKind.i64 (v i)].length) ∧
                                              (false = true → false = true)) ∧
                                          [condsAV n o v].length = [condsAV n o v].length) ∧
                                        True) ∧
                                  ((0 : Nat) = (0 : Nat) ∧
                                      (true = true → true = true) ∧
                                        (IntKind.i64.wrap (lowB o v n + (↑i : Int) + (1 : Int)) = lowB o v n + (↑i' : Int) ∧
                                            [AV.int IntKind.i64 (IntKind.i64.wrap (lowB o v n + (↑i : Int) + (1 : Int)))].length = [AV.int IntKind.i64 (lowB o v n + (↑i' : Int))].length) ∧
                                          True) ∧
                                    True))))
                  ((0 : Int) = r ∧ false = q ∧ True))) := by
  kernel_rfl

theorem leastR_vc (n : Nat) (o v : Nat → Int) (r : Int) (q : Bool) : (vcFun (mkE Tryd.prog (tblOf tbl3) fun f b => if f = 49 then (if b = 0 then some (invR1 n o v) else if b = 2 then some (invR2 n o v) else none) else none) 20 49 [.rof n (fun i => .agg [.int .i64 (o i), .int .i64 (v i)]) false] .nil 0 (retP 3 (.tup [.int .i64 r, .bool q]))).sat = (
  (∃ (i : Nat × Nat),
      i.fst.le n ∧
        ((n = n ∧
              (∀ (i : Nat), i < n → (o i = o i ∧ v i = v i ∧ True) ∧ [AV.int IntKind.i64 (o i), AV.int IntKind.i64 (v i)].length = [AV.int IntKind.i64 (o i), AV.int IntKind.i64 (v i)].length) ∧
                (false = true → false = true)) ∧
            ((0 : Nat) = i.snd ∧ (0 : Nat) = (0 : Nat) ∧ (1 : Nat) = trN v i.fst ∧ (some (1 : Nat) = none ∨ @Eq (Option Nat) none none)) ∧ (0 : Int) = (↑i.fst : Int) ∧ True) ∧
          ((0 : Nat) = i.snd ∧
              (true = true → true = true) ∧
                [AV.int IntKind.i64 (-9223372036854775808 : Int)].length = trN v i.fst ∧
                  ((-9223372036854775808 : Int) = trV v i.fst (0 : Nat) ∧ [AV.int IntKind.i64 (-9223372036854775808 : Int)].length = [AV.int IntKind.i64 (trV v i.fst (0 : Nat))].length) ∧ True) ∧
            True) ∧
    ∀ (i : Nat × Nat),
      i.fst.le n →
        VB (decide ((↑i.fst : Int) < (↑n : Int)))
          (NB (decide ((0 : Int) ≤ (↑i.fst : Int) ∧ (↑i.fst : Int) < (↑n : Int)))
            (NB (true && decide (i.snd = i.snd) && room (trN v i.fst + (1 : Nat)) (8 : Nat))
              (NB (decide ((0 : Int) ≤ (↑i.fst : Int) ∧ (↑i.fst : Int) < (↑n : Int)))
                (VB (decide (v (↑i.fst : Int).toNat < (9223372036854775807 : Int)))
                  (NB (decide ((0 : Int) ≤ (↑i.fst : Int) ∧ (↑i.fst : Int) < (↑n : Int)))
                    (NB (true && decide (i.snd + (1 : Nat) = i.snd + (1 : Nat)) && room (trN v i.fst + (1 : Nat) + (1 : Nat)) (8 : Nat))
                      (∃ (i' : Nat × Nat),
                        i'.fst.le n ∧
                          (invR1 n o v).μ i' < (invR1 n o v).μ i ∧
                            ((n = n ∧
                                  (∀ (i : Nat), i < n → (o i = o i ∧ v i = v i ∧ True) ∧ [AV.int IntKind.i64 (o i), AV.int IntKind.i64 (v i)].length = [AV.int IntKind.i64 (o i), AV.int IntKind.i64 (v i)].length) ∧
                                    (false = true → false = true)) ∧
                                (i.snd + (1 : Nat) + (1 : Nat) = i'.snd ∧ (0 : Nat) = (0 : Nat) ∧ trN v i.fst + (1 : Nat) + (1 : Nat) = trN v i'.fst ∧ (@Eq (Option Nat) none none ∨ @Eq (Option Nat) none none)) ∧
                                  IntKind.i64.wrap ((↑i.fst : Int) + (1 : Int)) = (↑i'.fst : Int) ∧ True) ∧
                              (i.snd + (1 : Nat) + (1 : Nat) = i'.snd ∧
                                  (true = true → true = true) ∧
                                    trN v i.fst + (1 : Nat) + (1 : Nat) = trN v i'.fst ∧
                                      ∀ (i_1 : Nat),
                                        i_1 < trN v i.fst + (1 : Nat) + (1 : Nat) →
                                          (if i_1 < trN v i.fst + (1 : Nat) then
                                                  if (0 : Nat) + i_1 < trN v i.fst then AV.int IntKind.i64 (trV v i.fst ((0 : Nat) + ((0 : Nat) + i_1)))
                                                  else ((Sq.lst [AV.int IntKind.i64 (v (↑i.fst : Int).toNat)]).sub (0 : Nat) (1 : Nat)).get ((0 : Nat) + i_1 - trN v i.fst)
                                                else ((Sq.lst [AV.int IntKind.i64 (IntKind.i64.wrap (v (↑i.fst : Int).toNat + (1 : Int)))]).sub (0 : Nat) (1 : Nat)).get (i_1 - (trN v i.fst + (1 : Nat)))).sub
                                              (AV.int IntKind.i64 (trV v i'.fst i_1)) ∧
                                            (if i_1 < trN v i.fst + (1 : Nat) then
                                                    if (0 : Nat) + i_1 < trN v i.fst then AV.int IntKind.i64 (trV v i.fst ((0 : Nat) + ((0 : Nat) + i_1)))
                                                    else ((Sq.lst [AV.int IntKind.i64 (v (↑i.fst : Int).toNat)]).sub (0 : Nat) (1 : Nat)).get ((0 : Nat) + i_1 - trN v i.fst)
                                                  else ((Sq.lst [AV.int IntKind.i64 (IntKind.i64.wrap (v (↑i.fst : Int).toNat + (1 : Int)))]).sub (0 : Nat) (1 : Nat)).get (i_1 - (trN v i.fst + (1 : Nat)))).cells.length =
                                              [AV.int IntKind.i64 (trV v i'.fst i_1)].length) ∧
                                True)))
                  (∃ (i' : Nat × Nat),
                    i'.fst.le n ∧
                      (invR1 n o v).μ i' < (invR1 n o v).μ i ∧
                        ((n = n ∧
                              (∀ (i : Nat), i < n → (o i = o i ∧ v i = v i ∧ True) ∧ [AV.int IntKind.i64 (o i), AV.int IntKind.i64 (v i)].length = [AV.int IntKind.i64 (o i), AV.int IntKind.i64 (v i)].length) ∧
                                (false = true → false = true)) ∧
                            (i.snd + (1 : Nat) = i'.snd ∧ (0 : Nat) = (0 : Nat) ∧ trN v i.fst + (1 : Nat) = trN v i'.fst ∧ (@Eq (Option Nat) none none ∨ @Eq (Option Nat) none none)) ∧
                              IntKind.i64.wrap ((↑i.fst : Int) + (1 : Int)) = (↑i'.fst : Int) ∧ True) ∧
                          (i.snd + (1 : Nat) = i'.snd ∧
                              (true = true → true = true) ∧
                                trN v i.fst + (1 : Nat) = trN v i'.fst ∧
                                  ∀ (i_1 : Nat),
                                    i_1 < trN v i.fst + (1 : Nat) →
                                      (if i_1 < trN v i.fst then AV.int IntKind.i64 (trV v i.fst ((0 : Nat) + i_1))
                                            else ((Sq.lst [AV.int IntKind.i64 (v (↑i.fst : Int).toNat)]).sub (0 : Nat) (1 : Nat)).get (i_1 - trN v i.fst)).sub
                                          (AV.int IntKind.i64 (trV v i'.fst i_1)) ∧
                                        (if i_1 < trN v i.fst then AV.int IntKind.i64 (trV v i.fst ((0 : Nat) + i_1))
                                              else ((Sq.lst [AV.int IntKind.i64 (v (↑i.fst : Int).toNat)]).sub (0 : Nat) (1 : Nat)).get (i_1 - trN v i.fst)).cells.length =
                                          [AV.int IntKind.i64 (trV v i'.fst i_1)].length) ∧
                            True)))))
          ((∃ (i_1 : Nat × Nat),
              i_1.fst.le (trN v n) ∧
                ((n = n ∧
                      (∀ (i : Nat), i < n → (o i = o i ∧ v i = v i ∧ True) ∧ [AV.int IntKind.i64 (o i), AV.int IntKind.i64 (v i)].length = [AV.int IntKind.i64 (o i), AV.int IntKind.i64 (v i)].length) ∧
                        (false = true → false = true)) ∧
                    (i.snd = i_1.snd ∧ (0 : Nat) = (0 : Nat) ∧ trN v i.fst = trN v n ∧ (@Eq (Option Nat) none none ∨ @Eq (Option Nat) none none)) ∧
                      (0 : Int) = bstV n o v i_1.fst ∧ false = bstF n o v i_1.fst ∧ (0 : Int) = (↑i_1.fst : Int) ∧ True) ∧
                  (i.snd = i_1.snd ∧
                      (true = true → true = true) ∧
                        trN v i.fst = trN v n ∧ ∀ (i_2 : Nat), i_2 < trN v i.fst → trV v i.fst i_2 = trV v n i_2 ∧ [AV.int IntKind.i64 (trV v i.fst i_2)].length = [AV.int IntKind.i64 (trV v n i_2)].length) ∧
                    True) ∧
            ∀ (i : Nat × Nat),
              i.fst.le (trN v n) →
                VB (decide ((↑i.fst : Int) < (↑(trN v n) : Int)))
                  (NB (decide (i.snd = i.snd) && decide ((0 : Int) ≤ (↑i.fst : Int) ∧ (↑i.fst : Int) < (↑(trN v n) : Int)))
                    (NB (decide (i.snd = i.snd))
                      (NB
                        ((decide (n ≤ (1000000 : Nat)) && condsB n fun (i : Nat) => AV.agg [AV.int IntKind.i64 (o i), AV.int IntKind.i64 (v i)]) &&
                          okAll n fun (i : Nat) => opOf (AV.agg [AV.int IntKind.i64 (o i), AV.int IntKind.i64 (v i)]))
                        (NB
                          (impB
                            (isW true
                                (allS n (fun (i : Nat) => opOf (AV.agg [AV.int IntKind.i64 (o i), AV.int IntKind.i64 (v i)])) (fun (i : Nat) => valOf (AV.agg [AV.int IntKind.i64 (o i), AV.int IntKind.i64 (v i)]))
                                  (trV v n ((0 : Nat) + (↑i.fst : Int).toNat))) &&
                              isW false !bstF n o v i.fst)
                            (decide (i.snd = i.snd) && decide ((0 : Int) ≤ (↑i.fst : Int) ∧ (↑i.fst : Int) < (↑(trN v n) : Int))))
                          (NB
                            (impB
                              (isW true
                                  (allS n (fun (i : Nat) => opOf (AV.agg [AV.int IntKind.i64 (o i), AV.int IntKind.i64 (v i)])) (fun (i : Nat) => valOf (AV.agg [AV.int IntKind.i64 (o i), AV.int IntKind.i64 (v i)]))
                                    (trV v n ((0 : Nat) + (↑i.fst : Int).toNat))) &&
                                isW false !bstF n o v i.fst)
                              (decide (i.snd = i.snd)))
                            (VB
                              (allS n (fun (i : Nat) => opOf (AV.agg [AV.int IntKind.i64 (o i), AV.int IntKind.i64 (v i)])) (fun (i : Nat) => valOf (AV.agg [AV.int IntKind.i64 (o i), AV.int IntKind.i64 (v i)]))
                                  (trV v n ((0 : Nat) + (↑i.fst : Int).toNat)) &&
                                (!bstF n o v i.fst || decide (trV v n ((0 : Nat) + (↑i.fst : Int).toNat) < bstV n o v i.fst)))
                              (NB (decide (i.snd = i.snd) && decide ((0 : Int) ≤ (↑i.fst : Int) ∧ (↑i.fst : Int) < (↑(trN v n) : Int)))
                                (NB (decide (i.snd = i.snd))
                                  (∃ (i' : Nat × Nat),
                                    i'.fst.le (trN v n) ∧
                                      (invR2 n o v).μ i' < (invR2 n o v).μ i ∧
                                        ((n = n ∧
                                              (∀ (i : Nat),
                                                  i < n → (o i = o i ∧ v i = v i ∧ True) ∧ [AV.int IntKind.i64 (o i), AV.int IntKind.i64 (v i)].length = [AV.int IntKind.i64 (o i), AV.int IntKind.i64 (v i)].length) ∧
                                                (false = true → false = true)) ∧
                                            (i.snd = i'.snd ∧ (0 : Nat) = (0 : Nat) ∧ trN v n = trN v n ∧ (@Eq (Option Nat) none none ∨ @Eq (Option Nat) none none)) ∧
                                              trV v n ((0 : Nat) + (↑i.fst : Int).toNat) = bstV n o v i'.fst ∧ true = bstF n o v i'.fst ∧ IntKind.i64.wrap ((↑i.fst : Int) + (1 : Int)) = (↑i'.fst : Int) ∧ True) ∧
                                          (i.snd = i'.snd ∧
                                              (true = true → true = true) ∧
                                                trN v n = trN v n ∧ ∀ (i : Nat), i < trN v n → trV v n i = trV v n i ∧ [AV.int IntKind.i64 (trV v n i)].length = [AV.int IntKind.i64 (trV v n i)].length) ∧
                                            True)))
                              (∃ (i' : Nat × Nat),
                                i'.fst.le (trN v n) ∧
                                  (invR2 n o v).μ i' < (invR2 n o v).μ i ∧
                                    ((n = n ∧
                                          (∀ (i : Nat), i < n → (o i = o i ∧ v i = v i ∧ True) ∧ [AV.int IntKind.i64 (o i), AV.int IntKind.i64 (v i)].length = [AV.int IntKind.i64 (o i), AV.int IntKind.i64 (v i)].length) ∧
                                            (false = true → false = true)) ∧
                                        (i.snd = i'.snd ∧ (0 : Nat) = (0 : Nat) ∧ trN v n = trN v n ∧ (@Eq (Option Nat) none none ∨ @Eq (Option Nat) none none)) ∧
                                          bstV n o v i.fst = bstV n o v i'.fst ∧ bstF n o v i.fst = bstF n o v i'.fst ∧ IntKind.i64.wrap ((↑i.fst : Int) + (1 : Int)) = (↑i'.fst : Int) ∧ True) ∧
                                      (i.snd = i'.snd ∧
                                          (true = true → true = true) ∧
                                            trN v n = trN v n ∧ ∀ (i : Nat), i < trN v n → trV v n i = trV v n i ∧ [AV.int IntKind.i64 (trV v n i)].length = [AV.int IntKind.i64 (trV v n i)].length) ∧
                                        True)))))))
                  (bstV n o v i.fst = r ∧ bstF n o v i.fst = q ∧ True))) := by
  kernel_rfl

end Go.Proofs.YtjkkkldkimdajaaDoor
namespace Go.Proofs.YtjkkkldkimdajaaDoor
open Pw Go
set_option maxRecDepth 100000
set_option linter.unusedSimpArgs false

theorem opOf_agg (n v : Int) : opOf (.agg [.int .i64 n, .int .i64 v]) = n := rfl
theorem valOf_agg (n v : Int) : valOf (.agg [.int .i64 n, .int .i64 v]) = v := rfl
theorem ok_op {n : Nat} {o : Nat → Int} (h : okAll n o = true) : ∀ i, i < n → 1 ≤ o i ∧ o i ≤ 6 := fun i hi => by simpa [okOp] using okAll_iff.1 h i hi
theorem lst_max {n : Nat} {o v : Nat → Int} {i : Nat} (hi : i < n) (ho : o i = 5) (hv : v i = 9223372036854775807) : (0 : Int) = lstV n o v ∧ false = lstB n o v := by
  have : NoSol n o v := fun x h0 h1 => by
    cases hx : allS n o v x with
    | false => rfl
    | true =>
      have := allS_iff.1 hx i hi
      simp only [opS, ho] at this
      simp at this
      simp only [highI] at h1
      omega
  have := lst_none this
  exact ⟨this.1.symm, this.2.symm⟩
theorem lst_at {n : Nat} {o v : Nat → Int} {j : Nat} (hf : ∀ k : Nat, k < j → allS n o v (lowB o v n + k) = false) (ht : allS n o v (lowB o v n + j) = true) (hh : lowB o v n + j ≤ highI) : lowB o v n + j = lstV n o v ∧ true = lstB n o v := by
  have hl := lowB_low o v n
  have : IsLeast n o v (lowB o v n + j) := ⟨by omega, hh, ht, fun x h0 h1 => by
    cases hx : allS n o v x with
    | false => rfl
    | true =>
      have hle := lowB_le h0 n (allS_iff.1 hx)
      have := hf (x - lowB o v n).toNat (by omega)
      rw [show lowB o v n + ((x - lowB o v n).toNat : Int) = x by omega, hx] at this
      cases this⟩
  have := lst_of this
  exact ⟨this.1.symm, this.2.symm⟩
theorem lst_all {n : Nat} {o v : Nat → Int} (ho : ∀ i, i < n → 1 ≤ o i ∧ o i ≤ 6) (hf : ∀ k : Nat, k < n + 1 → allS n o v (lowB o v n + k) = false) : (0 : Int) = lstV n o v ∧ false = lstB n o v := by
  have := lst_none (none_from_low ho fun j hj => hf j (by omega))
  exact ⟨this.1.symm, this.2.symm⟩
theorem lst_top {n : Nat} {o v : Nat → Int} {j : Nat} (hf : ∀ k : Nat, k < j + 1 → allS n o v (lowB o v n + k) = false) (ht : lowB o v n + j = 9223372036854775807) : (0 : Int) = lstV n o v ∧ false = lstB n o v := by
  have : NoSol n o v := fun x h0 h1 => by
    cases hx : allS n o v x with
    | false => rfl
    | true =>
      have hle := lowB_le h0 n (allS_iff.1 hx)
      simp only [highI] at h1
      have := hf (x - lowB o v n).toNat (by omega)
      rw [show lowB o v n + ((x - lowB o v n).toNat : Int) = x by omega, hx] at this
      cases this
  have := lst_none this
  exact ⟨this.1.symm, this.2.symm⟩
theorem lowB_s1 {o v : Nat → Int} {i : Nat} (h : o i = 1 ∨ o i = 6) : lowB o v (i + 1) = maxI (lowB o v i) (v i) := by
  simp only [lowB, if_pos h, maxI]
  split <;> omega
theorem lowB_s5 {o v : Nat → Int} {i : Nat} (h : o i = 5) : lowB o v (i + 1) = maxI (lowB o v i) (v i + 1) := by
  simp only [lowB, if_neg (show ¬ (o i = 1 ∨ o i = 6) by omega), if_pos h, maxI]
  split <;> omega
theorem lowB_s0 {o v : Nat → Int} {i : Nat} (h : o i ≠ 1) (h6 : o i ≠ 6) (h5 : o i ≠ 5) : lowB o v (i + 1) = lowB o v i := by
  simp only [lowB, if_neg (show ¬ (o i = 1 ∨ o i = 6) by omega), if_neg h5]
theorem maxI_le {a b c : Int} (ha : a ≤ c) (hb : b ≤ c) : maxI a b ≤ c := by
  unfold maxI
  split <;> omega

theorem leastI_pure (n : Nat) (o v : Nat → Int) (hn : n ≤ 1000000) (hok : okAll n o = true) (hv : ∀ i, i < n → lowI ≤ v i ∧ v i ≤ highI) :
    PureC Tryd.prog (fun _ => .undef) 48 [condsAV n o v] (.tup [.int .i64 (lstV n o v), .bool (lstB n o v)]) := by
  refine pure_vc mix tbl3_ok ((leastI_vc n o v _ _).mpr ?_)
  have ho := ok_op hok
  simp only [EqI, imp_self, true_and, and_true, implies_true, Int.toNat_natCast, List.length_cons, List.length_nil, opOf_agg, valOf_agg, condsB_agg, hok, hn, decide_true, Bool.and_self, NB_t]
  refine ⟨⟨0, by simp [lowB, lowI, highI]⟩, fun i hi => ?_⟩
  refine VB_intro (fun h => ?_) (fun h => ?_)
  · have hin : i < n := by have := of_decide_eq_true h; omega
    have hvi := hv i hin
    have hoi := ho i hin
    simp only [lowI, highI] at hvi hi
    have fin : ∀ x : Int, x = lowB o v (i + 1) → x ≤ highI → ∃ i', (i' ≤ n ∧ lowB o v i' ≤ 9223372036854775807) ∧ (invL1 n o v).μ i' < (invL1 n o v).μ i ∧ IntKind.i64.wrap ((i : Int) + 1) = (i' : Int) ∧ x = lowB o v i' := fun x hx hh => by
      refine ⟨i + 1, ⟨by omega, ?_⟩, ?_, ?_, hx⟩
      · simp only [highI] at hh; omega
      · simp only [invL1]; omega
      · rw [wrap_i64_id (by omega) (by omega)]; omega
    refine NB_intro (decide_eq_true (by omega)) ?_
    have key5 : o i = 5 → VB (v i == 9223372036854775807) ((0 : Int) = lstV n o v ∧ false = lstB n o v) (∃ i', (i' ≤ n ∧ lowB o v i' ≤ 9223372036854775807) ∧ (invL1 n o v).μ i' < (invL1 n o v).μ i ∧ IntKind.i64.wrap ((i : Int) + 1) = (i' : Int) ∧ maxI (lowB o v i) (IntKind.i64.wrap (v i + 1)) = lowB o v i') := fun h5 => by
      refine VB_intro (fun hm => lst_max hin h5 (by simpa using hm)) (fun hm => ?_)
      have hm' : v i ≠ 9223372036854775807 := by simpa using hm
      refine fin _ ?_ (maxI_le (by simp only [highI]; omega) (by rw [wrap_i64_id (by omega) (by omega)]; simp only [highI]; omega))
      rw [wrap_i64_id (by omega) (by omega), lowB_s5 h5]
    simp only [highI] at fin ⊢
    refine VB_intro (fun h1 => VB_intro (fun _ => ?_) (fun h1' => by rw [h1] at h1'; cases h1')) (fun h1 => VB_intro (fun h6 => ?_) (fun h6 => ?_))
    · exact fin _ (lowB_s1 (.inl (by simpa using h1))).symm (maxI_le (by omega) (by omega))
    · exact fin _ (lowB_s1 (.inr (by simpa using h6))).symm (maxI_le (by omega) (by omega))
    · refine VB_intro (fun h5 => key5 (by simpa using h5)) (fun h5 => ?_)
      exact fin _ (lowB_s0 (by simpa using h1) (by simpa using h6) (by simpa using h5)).symm (by omega)
  · have hin : i = n := by have := of_decide_eq_false h; omega
    subst hin
    refine ⟨⟨0, ⟨by omega, by simpa using hi.2, fun j hj => by omega⟩, ⟨by rw [wrap_i64_id (by omega) (by omega)], by simp⟩, by simp⟩, fun j hj => ?_⟩
    obtain ⟨hj1, hj2, hj3⟩ := hj
    refine VB_intro (fun hlt => ?_) (fun hlt => ?_)
    · have hjn : j < i + 1 := by have := of_decide_eq_true hlt; omega
      refine VB_intro (fun ht => lst_at hj3 ht hj2) (fun hf => ?_)
      have hf' : ∀ k : Nat, k < j + 1 → allS i o v (lowB o v i + k) = false := fun k hk => by
        rcases Nat.lt_or_ge k j with h' | h'
        · exact hj3 k h'
        · obtain rfl : k = j := by omega
          exact hf
      refine VB_intro (fun ht => lst_top hf' (by simpa using ht)) (fun ht => ?_)
      have ht' : lowB o v i + j ≠ 9223372036854775807 := by simpa using ht
      have hll := lowB_low o v i
      simp only [highI, lowI] at hj2 hll ⊢
      refine ⟨j + 1, ⟨by omega, by omega, hf'⟩, by simp only [invL2]; omega, by rw [wrap_i64_id (by omega) (by omega)]; omega, by rw [wrap_i64_id (by omega) (by omega)]; omega⟩
    · have hjn : j = i + 1 := by have := of_decide_eq_false hlt; omega
      subst hjn
      exact lst_all ho hj3
end Go.Proofs.YtjkkkldkimdajaaDoor
namespace Go.Proofs.YtjkkkldkimdajaaDoor
open Pw Go
set_option maxRecDepth 100000
set_option linter.unusedSimpArgs false

theorem trN_zero (v : Nat → Int) : trN v 0 = 1 := rfl
theorem trN_succ (v : Nat → Int) (i : Nat) : trN v (i + 1) = if v i < highI then trN v i + 1 + 1 else trN v i + 1 := by
  simp only [trN, trL, List.length_append, List.length_cons]
  split <;> simp <;> omega
theorem trN_le (v : Nat → Int) : ∀ i, trN v i ≤ 2 * i + 1
  | 0 => by simp [trN_zero]
  | i + 1 => by
    have := trN_le v i
    rw [trN_succ]
    split <;> omega
theorem trV_zero (v : Nat → Int) : trV v 0 0 = lowI := rfl
theorem trV_succ (v : Nat → Int) (i k : Nat) (hk : k < trN v (i + 1)) : trV v (i + 1) k = if k < trN v i then trV v i k else if k < trN v i + 1 then v i else v i + 1 := by
  have e1 : k < trN v (i + 1) := hk
  rw [trN_succ] at e1
  have hl : (trL v i).length = trN v i := rfl
  by_cases h : k < trN v i
  · rw [if_pos h]
    simp only [trV, trL, List.getD_eq_getElem?_getD]
    rw [List.getElem?_append_left (by omega)]
  · rw [if_neg h]
    by_cases h2 : k < trN v i + 1
    · rw [if_pos h2]
      simp only [trV, trL, List.getD_eq_getElem?_getD]
      rw [List.getElem?_append_right (by omega), show k - (trL v i).length = 0 by omega]
      rfl
    · rw [if_neg h2]
      simp only [trV, trL, List.getD_eq_getElem?_getD]
      split at e1
      · rename_i hh
        rw [List.getElem?_append_right (by omega), show k - (trL v i).length = 1 by omega, if_pos hh]
        rfl
      · omega
/-- Each try lies in the range, and each value and the number behind it are tried. -/
theorem trV_range {n : Nat} {v : Nat → Int} (hv : ∀ i, i < n → lowI ≤ v i ∧ v i ≤ highI) : ∀ i, i ≤ n → ∀ k, k < trN v i → lowI ≤ trV v i k ∧ trV v i k ≤ highI
  | 0, _, k, hk => by
    rw [trN_zero] at hk
    obtain rfl : k = 0 := by omega
    rw [trV_zero]
    decide
  | i + 1, hi, k, hk => by
    have ih := trV_range hv i (by omega)
    have := hv i (by omega)
    rw [trV_succ v i k hk]
    rw [trN_succ] at hk
    split
    · exact ih k (by assumption)
    · split
      · exact this
      · split at hk <;> omega
theorem trV_tries (v : Nat → Int) : ∀ n, (∃ k, k < trN v n ∧ trV v n k = lowI) ∧ ∀ i, i < n → (∃ k, k < trN v n ∧ trV v n k = v i) ∧ (v i < highI → ∃ k, k < trN v n ∧ trV v n k = v i + 1)
  | 0 => ⟨⟨0, by simp [trN_zero], rfl⟩, fun i hi => by omega⟩
  | n + 1 => by
    obtain ⟨⟨k0, h0, e0⟩, ih⟩ := trV_tries v n
    have up : ∀ k, k < trN v n → k < trN v (n + 1) ∧ trV v (n + 1) k = trV v n k := fun k hk => by
      have : k < trN v (n + 1) := by rw [trN_succ]; split <;> omega
      exact ⟨this, by rw [trV_succ v n k this, if_pos hk]⟩
    refine ⟨⟨k0, (up k0 h0).1, by rw [(up k0 h0).2, e0]⟩, fun i hi => ?_⟩
    rcases Nat.lt_or_ge i n with h | h
    · obtain ⟨⟨k1, h1, e1⟩, h2⟩ := ih i h
      refine ⟨⟨k1, (up k1 h1).1, by rw [(up k1 h1).2, e1]⟩, fun hv => ?_⟩
      obtain ⟨k2, h3, e3⟩ := h2 hv
      exact ⟨k2, (up k2 h3).1, by rw [(up k2 h3).2, e3]⟩
    · obtain rfl : i = n := by omega
      refine ⟨⟨trN v i, ?_, ?_⟩, fun hv => ⟨trN v i + 1, ?_, ?_⟩⟩
      · rw [trN_succ]; split <;> omega
      · rw [trV_succ v i _ (by rw [trN_succ]; split <;> omega), if_neg (by omega), if_pos (by omega)]
      · rw [trN_succ, if_pos hv]; omega
      · rw [trV_succ v i _ (by rw [trN_succ, if_pos hv]; omega), if_neg (by omega), if_neg (by omega)]

theorem bst_spec (n : Nat) (o v : Nat → Int) : ∀ i, (bstF n o v i = true → (∃ k, k < i ∧ bstV n o v i = trV v n k ∧ allS n o v (trV v n k) = true) ∧ ∀ k, k < i → allS n o v (trV v n k) = true → bstV n o v i ≤ trV v n k) ∧
    (bstF n o v i = false → bstV n o v i = 0 ∧ ∀ k, k < i → allS n o v (trV v n k) = false)
  | 0 => ⟨fun h => by simp [bstF] at h, fun _ => ⟨rfl, fun k hk => by omega⟩⟩
  | i + 1 => by
    obtain ⟨ih1, ih2⟩ := bst_spec n o v i
    simp only [bstF, bstV]
    cases hf : bstF n o v i with
    | true =>
      obtain ⟨⟨k0, a1, a2, a3⟩, a4⟩ := ih1 hf
      refine ⟨fun _ => ?_, fun h => by simp at h⟩
      cases ha : allS n o v (trV v n i) with
      | true =>
        by_cases hlt : trV v n i < bstV n o v i
        · rw [if_pos ⟨rfl, .inr hlt⟩]
          refine ⟨⟨i, by omega, rfl, ha⟩, fun k hk hak => ?_⟩
          rcases Nat.lt_or_ge k i with h | h
          · have := a4 k h hak; omega
          · obtain rfl : k = i := by omega
            omega
        · rw [if_neg (fun h => by rcases h.2 with h | h; · cases h
                                  · exact hlt h)]
          refine ⟨⟨k0, by omega, a2, a3⟩, fun k hk hak => ?_⟩
          rcases Nat.lt_or_ge k i with h | h
          · exact a4 k h hak
          · obtain rfl : k = i := by omega
            omega
      | false =>
        rw [if_neg (fun h => by cases h.1)]
        refine ⟨⟨k0, by omega, a2, a3⟩, fun k hk hak => ?_⟩
        rcases Nat.lt_or_ge k i with h | h
        · exact a4 k h hak
        · obtain rfl : k = i := by omega
          rw [ha] at hak; cases hak
    | false =>
      obtain ⟨b1, b2⟩ := ih2 hf
      cases ha : allS n o v (trV v n i) with
      | true =>
        refine ⟨fun _ => ?_, fun h => by simp at h⟩
        rw [if_pos ⟨rfl, .inl rfl⟩]
        refine ⟨⟨i, by omega, rfl, ha⟩, fun k hk hak => ?_⟩
        rcases Nat.lt_or_ge k i with h | h
        · rw [b2 k h] at hak; cases hak
        · obtain rfl : k = i := by omega
          omega
      | false =>
        refine ⟨fun h => by simp at h, fun _ => ?_⟩
        rw [if_neg (fun h => by cases h.1)]
        refine ⟨b1, fun k hk => ?_⟩
        rcases Nat.lt_or_ge k i with h | h
        · exact b2 k h
        · obtain rfl : k = i := by omega
          exact ha
/-- The least solution, if there is one at all: below any solution there is a least one. -/
theorem least_ex {n : Nat} {o v : Nat → Int} : ∀ (d : Nat) (x : Int), lowI ≤ x → x ≤ highI → allS n o v x = true → x - lowI ≤ d → ∃ m, IsLeast n o v m := by
  intro d
  induction d with
  | zero => intro x h0 h1 hx hd; exact ⟨x, h0, h1, hx, fun y hy hlt => by omega⟩
  | succ d ih =>
    intro x h0 h1 hx hd
    by_cases h : ∃ y, lowI ≤ y ∧ y < x ∧ allS n o v y = true
    · obtain ⟨y, hy0, hy1, hy2⟩ := h
      exact ih y hy0 (by omega) hy2 (by omega)
    · refine ⟨x, h0, h1, hx, fun y hy hlt => ?_⟩
      cases hq : allS n o v y with
      | false => rfl
      | true => exact absurd ⟨y, hy, hlt, hq⟩ h
theorem bst_lst {n : Nat} {o v : Nat → Int} (ho : ∀ i, i < n → 1 ≤ o i ∧ o i ≤ 6) (hv : ∀ i, i < n → lowI ≤ v i ∧ v i ≤ highI) : bstV n o v (trN v n) = lstV n o v ∧ bstF n o v (trN v n) = lstB n o v := by
  obtain ⟨s1, s2⟩ := bst_spec n o v (trN v n)
  have tried : ∀ m, IsLeast n o v m → ∃ k, k < trN v n ∧ trV v n k = m := fun m hm => by
    obtain ⟨t0, t1⟩ := trV_tries v n
    rcases least_is ho hm with h | ⟨i, hi, h | ⟨h, h'⟩⟩
    · rw [h]; exact t0
    · rw [h]; exact (t1 i hi).1
    · rw [h]; exact (t1 i hi).2 h'
  cases hf : bstF n o v (trN v n) with
  | true =>
    obtain ⟨⟨k, h1, h2, h3⟩, h4⟩ := s1 hf
    have hr := trV_range hv n (Nat.le_refl _) k h1
    obtain ⟨m, hm⟩ := least_ex (trV v n k - lowI).toNat _ hr.1 hr.2 h3 (by omega)
    obtain ⟨k', a1, a2⟩ := tried m hm
    have a3 := h4 k' a1 (by rw [a2]; exact hm.2.2.1)
    have : m = bstV n o v (trN v n) := by
      rcases Int.lt_trichotomy m (bstV n o v (trN v n)) with h | h | h
      · omega
      · exact h
      · have := hm.2.2.2 (trV v n k) hr.1 (by omega)
        rw [h3] at this; cases this
    have := lst_of (this ▸ hm)
    exact ⟨this.1.symm, this.2.symm⟩
  | false =>
    obtain ⟨b1, b2⟩ := s2 hf
    have : NoSol n o v := fun x h0 h1 => by
      cases hx : allS n o v x with
      | false => rfl
      | true =>
        obtain ⟨m, hm⟩ := least_ex (x - lowI).toNat x h0 h1 hx (by omega)
        obtain ⟨k, a1, a2⟩ := tried m hm
        have := b2 k a1
        rw [a2, hm.2.2.1] at this; cases this
    have := lst_none this
    exact ⟨by rw [b1, this.1], this.2.symm⟩
end Go.Proofs.YtjkkkldkimdajaaDoor
namespace Go.Proofs.YtjkkkldkimdajaaDoor
open Pw Go
set_option maxRecDepth 100000
set_option linter.unusedSimpArgs false

theorem one_get (x : AV) : ((Sq.lst [x]).sub 0 1).get 0 = x := rfl
theorem sub_int (a b : Int) : (AV.int .i64 a).sub (.int .i64 b) ↔ a = b := by show (if _ then _ else _) ↔ _; rw [if_pos rfl]
theorem cells_int (a b : Int) : (AV.int .i64 a).cells.length = [AV.int .i64 b].length := rfl
theorem bst_t {n : Nat} {o v : Nat → Int} {i : Nat} (h : (allS n o v (trV v n i) && (!bstF n o v i || decide (trV v n i < bstV n o v i))) = true) : trV v n i = bstV n o v (i + 1) ∧ true = bstF n o v (i + 1) := by
  simp only [Bool.and_eq_true, Bool.or_eq_true, Bool.not_eq_true', decide_eq_true_eq] at h
  simp only [bstV, bstF, h.1, Bool.or_true]
  rw [if_pos ⟨trivial, h.2⟩]
  exact ⟨rfl, trivial⟩
theorem bst_f {n : Nat} {o v : Nat → Int} {i : Nat} (h : (allS n o v (trV v n i) && (!bstF n o v i || decide (trV v n i < bstV n o v i))) = false) : bstV n o v i = bstV n o v (i + 1) ∧ bstF n o v i = bstF n o v (i + 1) := by
  simp only [Bool.and_eq_false_iff, Bool.or_eq_false_iff, Bool.not_eq_false', decide_eq_false_iff_not] at h
  simp only [bstV, bstF]
  rcases h with h | ⟨h1, h2⟩
  · rw [if_neg (fun hh => by rw [h] at hh; cases hh.1), h]
    simp
  · rw [if_neg (fun hh => by rcases hh.2 with h | h; · rw [h1] at h; cases h
                             · exact h2 h), h1]
    simp

theorem leastR_pure (n : Nat) (o v : Nat → Int) (hn : n ≤ 1000000) (hok : okAll n o = true) (hv : ∀ i, i < n → lowI ≤ v i ∧ v i ≤ highI) :
    PureC Tryd.prog (fun _ => .undef) 49 [condsAV n o v] (.tup [.int .i64 (lstV n o v), .bool (lstB n o v)]) := by
  refine pure_vc mix tbl3_ok ((leastR_vc n o v _ _).mpr ?_)
  have ho := ok_op hok
  simp only [EqI, imp_self, true_and, and_true, implies_true, Int.toNat_natCast, List.length_cons, List.length_nil, opOf_agg, valOf_agg, condsB_agg, hok, hn, decide_true, Bool.and_self, NB_t, or_self, or_true, true_or, Nat.zero_add, Bool.true_and]
  refine ⟨⟨(0, 0), by simp, by simp [trN_zero, trV_zero, lowI]⟩, fun p hp => ?_⟩
  obtain ⟨i, g⟩ := p
  simp only at hp ⊢
  replace hp : i ≤ n := hp
  have hmi := trN_le v i
  refine VB_intro (fun h => ?_) (fun h => ?_)
  · have hin : i < n := by have := of_decide_eq_true h; omega
    have hvi := hv i hin
    simp only [lowI, highI] at hvi
    have hd : decide ((0 : Int) ≤ (i : Int) ∧ (i : Int) < (n : Int)) = true := decide_eq_true (by omega)
    have hroom : ∀ k, k ≤ trN v i + 2 → room k 8 = true := fun k hk => by
      simp only [room]
      exact decide_eq_true (by omega)
    rw [hd]
    simp only [hroom _ (show trN v i + 1 ≤ trN v i + 2 by omega), hroom _ (show trN v i + 1 + 1 ≤ trN v i + 2 by omega), NB_t]
    have hw : IntKind.i64.wrap ((i : Int) + 1) = ((i + 1 : Nat) : Int) := by rw [wrap_i64_id (by omega) (by omega)]; omega
    refine VB_intro (fun hlt => ?_) (fun hlt => ?_)
    · have hlt' : v i < highI := by simpa [highI] using hlt
      have hwv : IntKind.i64.wrap (v i + 1) = v i + 1 := by simp only [highI] at hlt'; rw [wrap_i64_id (by omega) (by omega)]
      have hN : trN v (i + 1) = trN v i + 1 + 1 := by rw [trN_succ, if_pos hlt']
      refine ⟨(i + 1, g + 1 + 1), by show i + 1 ≤ n; omega, by simp only [invR1]; omega, ⟨⟨rfl, hN.symm⟩, hw⟩, rfl, hN.symm, fun k hk => ?_⟩
      have hT := trV_succ v i k (by omega)
      simp only
      by_cases h1 : k < trN v i
      · rw [if_pos (show k < trN v i + 1 by omega), if_pos h1, hT, if_pos h1]
        exact ⟨(sub_int _ _).2 rfl, rfl⟩
      · by_cases h2 : k < trN v i + 1
        · rw [if_pos h2, if_neg h1, show k - trN v i = 0 by omega, one_get, hT, if_neg h1, if_pos h2]
          exact ⟨(sub_int _ _).2 rfl, rfl⟩
        · rw [if_neg h2, show k - (trN v i + 1) = 0 by omega, one_get, hT, if_neg h1, if_neg h2, hwv]
          exact ⟨(sub_int _ _).2 rfl, rfl⟩
    · have hlt' : ¬ v i < highI := by simpa [highI] using hlt
      have hN : trN v (i + 1) = trN v i + 1 := by rw [trN_succ, if_neg hlt']
      refine ⟨(i + 1, g + 1), by show i + 1 ≤ n; omega, by simp only [invR1]; omega, ⟨⟨rfl, hN.symm⟩, hw⟩, rfl, hN.symm, fun k hk => ?_⟩
      have hT := trV_succ v i k (by omega)
      simp only
      by_cases h1 : k < trN v i
      · rw [if_pos h1, hT, if_pos h1]
        exact ⟨(sub_int _ _).2 rfl, rfl⟩
      · rw [if_neg h1, show k - trN v i = 0 by omega, one_get, hT, if_neg h1, if_pos (by omega)]
        exact ⟨(sub_int _ _).2 rfl, rfl⟩
  · have hin : i = n := by have := of_decide_eq_false h; omega
    subst hin
    refine ⟨⟨(0, g), by simp, by simp [bstV, bstF]⟩, fun p hp => ?_⟩
    obtain ⟨k, g⟩ := p
    simp only at hp ⊢
    replace hp : k ≤ trN v i := hp
    refine VB_intro (fun hk => ?_) (fun hk => ?_)
    · have hk' : k < trN v i := by have := of_decide_eq_true hk; omega
      have hd : decide ((0 : Int) ≤ (k : Int) ∧ (k : Int) < (trN v i : Int)) = true := decide_eq_true (by omega)
      have hw : IntKind.i64.wrap ((k : Int) + 1) = ((k + 1 : Nat) : Int) := by rw [wrap_i64_id (by omega) (by omega)]; omega
      simp only [hd, NB_t, impB_t, implies_true]
      refine NB_intro (by simp [impB_t]) (NB_intro (by simp [impB_t]) (VB_intro (fun hb => ?_) (fun hb => ?_)))
      · obtain ⟨b1, b2⟩ := bst_t hb
        exact ⟨(k + 1, g), by show k + 1 ≤ _; omega, by simp only [invR2]; omega, ⟨rfl, b1, b2, hw⟩, rfl⟩
      · obtain ⟨b1, b2⟩ := bst_f hb
        exact ⟨(k + 1, g), by show k + 1 ≤ _; omega, by simp only [invR2]; omega, ⟨rfl, b1, b2, hw⟩, rfl⟩
    · have hk' : k = trN v i := by have := of_decide_eq_false hk; omega
      subst hk'
      exact bst_lst ho hv
end Go.Proofs.YtjkkkldkimdajaaDoor
