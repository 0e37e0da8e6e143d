/- PRED 18: conditions made of numbers. -/
import Derived.Test.YtjkkkldkimdajaaDoorP14
namespace Go.Proofs.YtjkkkldkimdajaaDoor
open Pw Go
set_option maxRecDepth 100000
set_option linter.unusedSimpArgs false

theorem mod_vc (a b r : Int) : (vcFun E0 20 42 [.int .i64 a, .int .i64 b] .nil 0 (retP 3 (.int .i64 r))).sat = (
  VB (decide (b < (1 : Int))) ((0 : Int) = r) (NB (b != (0 : Int)) (VB (decide (a.tmod b < (0 : Int))) (IntKind.i64.wrap (a.tmod b + b) = r) (a.tmod b = r)))) := by
  kernel_rfl

theorem tmod_emod {a b : Int} (hb : 1 ≤ b) : (a.tmod b < 0 → a.tmod b + b = a % b) ∧ (¬ a.tmod b < 0 → a.tmod b = a % b) := by
  have h1 := Int.emod_nonneg a (b := b) (by omega)
  have h2 := Int.emod_lt_of_pos a (b := b) (by omega)
  rcases Int.lt_or_le a 0 with h | h
  · have e : a.tmod b = -((-a) % b) := by
      have : a.tmod b = -((-a).tmod b) := by rw [Int.neg_tmod]; omega
      rw [this, Int.tmod_eq_emod_of_nonneg (by omega)]
    have h3 := Int.emod_nonneg (-a) (b := b) (by omega)
    have h4 := Int.emod_lt_of_pos (-a) (b := b) (by omega)
    have h5 : a % b = (-((-a) % b)) % b := by
      have e1 := Int.emod_add_mul_ediv (-a) b
      have : a = -((-a) % b) + b * (-((-a) / b)) := by rw [Int.mul_neg]; omega
      calc a % b = (-((-a) % b) + b * (-((-a) / b))) % b := by rw [← this]
        _ = (-((-a) % b)) % b := by rw [Int.add_mul_emod_self_left]
    constructor
    · intro hlt
      rw [h5, e]
      have : (-((-a) % b) + b) % b = (-((-a) % b)) % b := by rw [Int.add_emod_right]
      rw [← this]
      rw [e] at hlt
      exact (Int.emod_eq_of_lt (by omega) (by omega)).symm
    · intro hge
      rw [h5, e]
      rw [e] at hge
      exact (Int.emod_eq_of_lt (by omega) (by omega)).symm
  · have e : a.tmod b = a % b := Int.tmod_eq_emod_of_nonneg h
    rw [e]
    exact ⟨fun hlt => by omega, fun _ => rfl⟩
def cMod : Ctr
  | [.int .i64 a, .int .i64 b] => some (decide (1 ≤ b) && decide (b ≤ 9223372036854775807), .int .i64 (a % b))
  | _ => none
theorem mod_ok : PureF Tryd.prog 42 cMod := by
  intro args nd v h hnd
  unfold cMod at h
  split at h <;> cases h
  rename_i a b
  simp only [Bool.and_eq_true, decide_eq_true_eq] at hnd
  refine pure_vc mix (tbl_nil _) ((mod_vc a b _).mpr ?_)
  obtain ⟨m1, m2⟩ := tmod_emod (a := a) hnd.1
  have h1 := Int.emod_nonneg a (b := b) (by omega)
  have h2 := Int.emod_lt_of_pos a (b := b) (by omega)
  refine VB_intro (fun h => absurd (of_decide_eq_true h) (by omega)) (fun _ => NB_intro (by simp; omega) (VB_intro (fun h => ?_) (fun h => ?_)))
  · have := m1 (by simpa using h)
    rw [this, wrap_i64_id (by omega) (by omega)]
  · exact m2 (by simpa using h)
def tbl6 : List (Nat × Ctr) := [(42, cMod)]
theorem tbl6_ok : TblOK Tryd.prog (fun _ => .undef) (tblOf tbl6) := tbl_cons mod_ok (tbl_nil _)

end Go.Proofs.YtjkkkldkimdajaaDoor
namespace Go.Proofs.YtjkkkldkimdajaaDoor
open Pw Go
set_option maxRecDepth 100000
set_option linter.unusedSimpArgs false

theorem op_vc (a b x y : Int) : (vcFun (mkE Tryd.prog (tblOf tbl6) fun _ _ => none) 20 41 [.int .i64 a, .int .i64 b] .nil 0 (retP 3 (.agg [.int .i64 x, .int .i64 y]))).sat = (
  IntKind.i64.wrap ((1 : Int) + a % (6 : Int)) = x ∧ b = y ∧ True) := by
  kernel_rfl

def cOp : Ctr
  | [.int .i64 a, .int .i64 b] => some (true, .agg [.int .i64 (1 + a % 6), .int .i64 b])
  | _ => none
theorem op_ok : PureF Tryd.prog 41 cOp := by
  intro args nd v h hnd
  unfold cOp at h
  split at h <;> cases h
  rename_i a b
  refine pure_vc (t := tblOf tbl6) (inv := fun _ _ => none) (k := 20) (d := 3) mix tbl6_ok ((op_vc a b _ _).mpr ?_)
  have h1 := Int.emod_nonneg a (b := 6) (by omega)
  have h2 := Int.emod_lt_of_pos a (b := 6) (by omega)
  refine ?_
  refine ⟨wrap_i64_id (by omega) (by omega), rfl, trivial⟩
noncomputable def tbl7 : List (Nat × Ctr) := (41, cOp) :: (42, cMod) :: tbl5
theorem tbl7_ok : TblOK Tryd.prog (fun _ => .undef) (tblOf tbl7) := tbl_cons op_ok (tbl_cons mod_ok tbl5_ok)

end Go.Proofs.YtjkkkldkimdajaaDoor
namespace Go.Proofs.YtjkkkldkimdajaaDoor
open Pw Go
set_option maxRecDepth 100000
set_option linter.unusedSimpArgs false

def opNum (f : Nat → Int) (i : Nat) : Int := 1 + f i % 6
def invPL (n m : Nat) (f v : Nat → Int) (x : Int) : Inv := ⟨Nat × Nat, 10, fun p => ⟨[(0, .rof n (fun i => .int .i64 (f i)) false), (1, .rof m (fun i => .int .i64 (v i)) false), (2, .int .i64 x), (7, .bool true), (8, .sl 0 p.2 0 p.1 none), (9, .int .i64 p.1)],
  [(0, .row p.2 2 true (.fn p.1 (fun i => .agg [.int .i64 (opNum f i), .int .i64 (v i)])))]⟩, fun p => p.1 ≤ n ∧ p.1 ≤ m ∧ p.1 ≤ 8, fun p => 8 - p.1⟩

theorem predLeast_vc (n m : Nat) (f v : Nat → Int) (x : Int) : (vcFun (mkE Tryd.prog (tblOf tbl7) fun g b => if g = 8 ∧ b = 0 then some (invPL n m f v x) else none) 20 8 [.rof n (fun i => .int .i64 (f i)) false, .rof m (fun i => .int .i64 (v i)) false, .int .i64 x] .nil 0 (isBool true)).sat = (
  (∃ (i : Nat × Nat),
      (i.fst ≤ n ∧ i.fst ≤ m ∧ i.fst ≤ (8 : Nat)) ∧
        ((n = n ∧ (∀ (i : Nat), i < n → f i = f i ∧ [AV.int IntKind.i64 (f i)].length = [AV.int IntKind.i64 (f i)].length) ∧ (false = true → false = true)) ∧
            (m = m ∧ (∀ (i : Nat), i < m → v i = v i ∧ [AV.int IntKind.i64 (v i)].length = [AV.int IntKind.i64 (v i)].length) ∧ (false = true → false = true)) ∧
              x = x ∧ true = true ∧ (i.fst = (0 : Nat) ∧ i.snd = i.snd ∧ i.fst = (0 : Nat)) ∧ (0 : Int) = (↑i.fst : Int) ∧ True) ∧
          i.fst = (0 : Nat) ∧ True) ∧
    ∀ (i : Nat × Nat),
      i.fst ≤ n ∧ i.fst ≤ m ∧ i.fst ≤ (8 : Nat) →
        VB (decide ((↑i.fst : Int) < (↑n : Int)) && decide ((↑i.fst : Int) < (↑m : Int)) && decide ((↑i.fst : Int) < (8 : Int)))
          (NB (decide ((0 : Int) ≤ (↑i.fst : Int) ∧ (↑i.fst : Int) < (↑n : Int)))
            (NB (decide ((0 : Int) ≤ (↑i.fst : Int) ∧ (↑i.fst : Int) < (↑m : Int)))
              (NB (true && decide (i.snd = i.snd) && room (i.fst + (1 : Nat)) (16 : Nat))
                (∃ (i' : Nat × Nat),
                  (i'.fst ≤ n ∧ i'.fst ≤ m ∧ i'.fst ≤ (8 : Nat)) ∧
                    (invPL n m f v x).μ i' < (invPL n m f v x).μ i ∧
                      ((n = n ∧ (∀ (i : Nat), i < n → f i = f i ∧ [AV.int IntKind.i64 (f i)].length = [AV.int IntKind.i64 (f i)].length) ∧ (false = true → false = true)) ∧
                          (m = m ∧ (∀ (i : Nat), i < m → v i = v i ∧ [AV.int IntKind.i64 (v i)].length = [AV.int IntKind.i64 (v i)].length) ∧ (false = true → false = true)) ∧
                            x = x ∧
                              true = true ∧
                                (i.snd + (1 : Nat) = i'.snd ∧ (0 : Nat) = (0 : Nat) ∧ i.fst + (1 : Nat) = i'.fst ∧ (@Eq (Option Nat) none none ∨ @Eq (Option Nat) none none)) ∧
                                  IntKind.i64.wrap ((↑i.fst : Int) + (1 : Int)) = (↑i'.fst : Int) ∧ True) ∧
                        (i.snd + (1 : Nat) = i'.snd ∧
                            (true = true → true = true) ∧
                              i.fst + (1 : Nat) = i'.fst ∧
                                ∀ (i_1 : Nat),
                                  i_1 < i.fst + (1 : Nat) →
                                    (if i_1 < i.fst then AV.agg [AV.int IntKind.i64 (opNum f ((0 : Nat) + i_1)), AV.int IntKind.i64 (v ((0 : Nat) + i_1))]
                                          else
                                            ((Sq.lst [AV.agg [AV.int IntKind.i64 ((1 : Int) + f (↑i.fst : Int).toNat % (6 : Int)), AV.int IntKind.i64 (v (↑i.fst : Int).toNat)]]).sub (0 : Nat) (1 : Nat)).get
                                              (i_1 - i.fst)).sub
                                        (AV.agg [AV.int IntKind.i64 (opNum f i_1), AV.int IntKind.i64 (v i_1)]) ∧
                                      (if i_1 < i.fst then AV.agg [AV.int IntKind.i64 (opNum f ((0 : Nat) + i_1)), AV.int IntKind.i64 (v ((0 : Nat) + i_1))]
                                            else
                                              ((Sq.lst [AV.agg [AV.int IntKind.i64 ((1 : Int) + f (↑i.fst : Int).toNat % (6 : Int)), AV.int IntKind.i64 (v (↑i.fst : Int).toNat)]]).sub (0 : Nat) (1 : Nat)).get
                                                (i_1 - i.fst)).cells.length =
                                        [AV.int IntKind.i64 (opNum f i_1), AV.int IntKind.i64 (v i_1)].length) ∧
                          True))))
          (NB
            (((decide (i.fst ≤ (1000000 : Nat)) && condsB i.fst fun (k : Nat) => AV.agg [AV.int IntKind.i64 (opNum f ((0 : Nat) + k)), AV.int IntKind.i64 (v ((0 : Nat) + k))]) &&
                rngAll i.fst fun (i : Nat) => v ((0 : Nat) + i)) &&
              (decide (i.snd = i.snd) && true))
            (NB ((decide (i.fst ≤ (1000000 : Nat)) && condsB i.fst fun (k : Nat) => AV.agg [AV.int IntKind.i64 (opNum f ((0 : Nat) + k)), AV.int IntKind.i64 (v ((0 : Nat) + k))]) && (decide (i.snd = i.snd) && true))
              (VB
                ((chkS i.fst fun (i : Nat) => opNum f ((0 : Nat) + i)) != (0 : Int) ||
                  (LeastE i.fst (fun (i : Nat) => opNum f ((0 : Nat) + i)) fun (i : Nat) => v ((0 : Nat) + i)) != (0 : Int) &&
                    (LeastE i.fst (fun (i : Nat) => opNum f ((0 : Nat) + i)) fun (i : Nat) => v ((0 : Nat) + i)) != (7 : Int))
                (false = true)
                (VB ((LeastE i.fst (fun (i : Nat) => opNum f ((0 : Nat) + i)) fun (i : Nat) => v ((0 : Nat) + i)) == (7 : Int))
                  (((true && !AllS i.fst (fun (i : Nat) => opNum f ((0 : Nat) + i)) (fun (i : Nat) => v ((0 : Nat) + i)) x) == true) = true)
                  (NB ((decide (i.fst ≤ (1000000 : Nat)) && condsB i.fst fun (k : Nat) => AV.agg [AV.int IntKind.i64 (opNum f ((0 : Nat) + k)), AV.int IntKind.i64 (v ((0 : Nat) + k))]) && (decide (i.snd = i.snd) && true))
                    (((true && (chkS i.fst fun (i : Nat) => opNum f ((0 : Nat) + i)) == (0 : Int) &&
                            AllS i.fst (fun (i : Nat) => opNum f ((0 : Nat) + i)) (fun (i : Nat) => v ((0 : Nat) + i)) (LeastS i.fst (fun (i : Nat) => opNum f ((0 : Nat) + i)) fun (i : Nat) => v ((0 : Nat) + i)) &&
                          (!AllS i.fst (fun (i : Nat) => opNum f ((0 : Nat) + i)) (fun (i : Nat) => v ((0 : Nat) + i)) x ||
                            decide (x ≥ LeastS i.fst (fun (i : Nat) => opNum f ((0 : Nat) + i)) fun (i : Nat) => v ((0 : Nat) + i)))) ==
                        true) =
                      true))))))) := by
  kernel_rfl

end Go.Proofs.YtjkkkldkimdajaaDoor
namespace Go.Proofs.YtjkkkldkimdajaaDoor
open Pw Go
set_option maxRecDepth 100000
set_option linter.unusedSimpArgs false

theorem lst_yes {n : Nat} {o v : Nat → Int} (h : lstB n o v = true) : IsLeast n o v (lstV n o v) := by
  have h' : ∃ m, IsLeast n o v m := by simpa [lstB] using h
  obtain ⟨m, hm⟩ := h'
  rw [(lst_of hm).1]
  exact hm
theorem lst_no {n : Nat} {o v : Nat → Int} (h : lstB n o v = false) {x : Int} (h0 : lowI ≤ x) (h1 : x ≤ highI) : allS n o v x = false := by
  cases hx : allS n o v x with
  | false => rfl
  | true =>
    obtain ⟨m, hm⟩ := least_ex (x - lowI).toNat x h0 h1 hx (by omega)
    rw [(lst_of hm).2] at h; cases h
theorem opNum_ok (n : Nat) (f : Nat → Int) : okAll n (opNum f) = true := okAll_iff.2 fun i _ => by
  have h1 := Int.emod_nonneg (f i) (b := 6) (by omega)
  have h2 := Int.emod_lt_of_pos (f i) (b := 6) (by omega)
  have e : opNum f i = 1 + f i % 6 := rfl
  simp only [okOp, Bool.and_eq_true, decide_eq_true_eq]
  omega
noncomputable def EPL (n m : Nat) (f v : Nat → Int) (x : Int) : Env := mkE Tryd.prog (tblOf tbl7) fun g b => if g = 8 ∧ b = 0 then some (invPL n m f v x) else none
theorem predLeast_sat (n m : Nat) (f v : Nat → Int) (x : Int) (hv : ∀ i, i < m → lowI ≤ v i ∧ v i ≤ highI) (hx : lowI ≤ x ∧ x ≤ highI) :
    (vcFun (EPL n m f v x) 20 8 [.rof n (fun i => .int .i64 (f i)) false, .rof m (fun i => .int .i64 (v i)) false, .int .i64 x] .nil 0 (isBool true)).sat := by
  refine (predLeast_vc n m f v x).mpr ?_
  simp only [EqI, imp_self, true_and, and_true, implies_true, Int.toNat_natCast, List.length_cons, List.length_nil, opOf_agg, valOf_agg, condsB_agg, decide_true, Bool.and_self, NB_t, or_self, or_true, true_or, Nat.zero_add, Bool.true_and, Bool.and_true, Bool.or_true]
  refine ⟨⟨(0, 0), by simp⟩, fun p hp => ?_⟩
  obtain ⟨q, g⟩ := p
  simp only at hp ⊢
  obtain ⟨hq1, hq2, hq3⟩ := hp
  refine VB_intro (fun h => ?_) (fun h => ?_)
  · simp only [Bool.and_eq_true, decide_eq_true_eq] at h
    obtain ⟨⟨h1, h2⟩, h3⟩ := h
    refine NB_intro (decide_eq_true (by omega)) (NB_intro (decide_eq_true (by omega)) (NB_intro ?_ ?_))
    · simp only [room]
      exact decide_eq_true (by omega)
    · refine ⟨(q + 1, g + 1), ⟨by simp only; omega, by simp only; omega, by simp only; omega⟩, by simp only [invPL]; omega, ?_, rfl, rfl, fun k hk => ?_⟩
      · refine ⟨⟨rfl, rfl⟩, ?_⟩
        rw [wrap_i64_id (by omega) (by omega)]; simp
      · by_cases hkq : k < q
        · rw [if_pos hkq]
          exact ⟨⟨rfl, rfl, trivial⟩, rfl⟩
        · obtain rfl : k = q := by omega
          rw [if_neg hkq, Nat.sub_self]
          exact ⟨⟨rfl, rfl, trivial⟩, rfl⟩
  · have hk : chkS q (opNum f) = 0 := by simp [chkS, opNum_ok]; omega
    have hn : decide (q ≤ 1000000) = true := decide_eq_true (by omega)
    have hr : rngAll q v = true := rngAll_iff.2 fun i hi => hv i (by omega)
    have e1 : chkS q (fun i => opNum f i) = 0 := hk
    have e2 : ∀ y, AllS q (fun i => opNum f i) (fun i => v i) y = allS q (opNum f) v y := fun y => by simp [AllS, hk]
    have e3 : LeastS q (fun i => opNum f i) (fun i => v i) = lstV q (opNum f) v := by simp [LeastS, hk]
    have e4 : LeastE q (fun i => opNum f i) (fun i => v i) = if lstB q (opNum f) v = true then 0 else 7 := by simp [LeastE, hk]
    have e5 : rngAll q (fun i => v i) = true := hr
    simp only [hn, e1, e2, e3, e4, e5, Bool.true_and, NB_t, bne_self_eq_false, Bool.false_or, beq_self_eq_true]
    cases hb : lstB q (opNum f) v with
    | false =>
      have := lst_no hb hx.1 hx.2
      simp [this, VB]
    | true =>
      obtain ⟨h1, h2, h3, h4⟩ := lst_yes hb
      have : (!allS q (opNum f) v x || decide (x ≥ lstV q (opNum f) v)) = true := by
        cases ha : allS q (opNum f) v x with
        | false => rfl
        | true =>
          simp only [Bool.not_true, Bool.false_or, decide_eq_true_eq]
          rcases Int.lt_or_le x (lstV q (opNum f) v) with h | h
          · have := h4 x hx.1 h
            rw [ha] at this; cases this
          · exact h
      simp only [h3, this, VB, if_true, Bool.and_self, Bool.true_and]
      rfl
end Go.Proofs.YtjkkkldkimdajaaDoor
