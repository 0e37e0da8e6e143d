/- PRED 51: the end of the law of atoms made of numbers. -/
import Derived.Test.YtjkkkldkimdajaaDoorP48
import Derived.Test.YtjkkkldkimdajaaDoorP18
namespace Go.Proofs.YtjkkkldkimdajaaDoor
open Pw Go
set_option maxRecDepth 100000
set_option linter.unusedSimpArgs false

theorem app_leaf (w : List Int) (y : Int) (i : Nat) (hi : i < w.length + 1) : (if i < w.length then AV.int .i64 (w.getD (0 + i) 0) else ((Sq.lst [AV.int .i64 y]).sub 0 1).get (i - w.length)).sub (.int .i64 ((w ++ [y]).getD i 0)) ∧
    (if i < w.length then AV.int .i64 (w.getD (0 + i) 0) else ((Sq.lst [AV.int .i64 y]).sub 0 1).get (i - w.length)).cells.length = [AV.int .i64 ((w ++ [y]).getD i 0)].length := by
  by_cases h : i < w.length
  · rw [if_pos h, Nat.zero_add]
    refine ⟨(sub_int _ _).2 ?_, rfl⟩
    simp [List.getD_eq_getElem?_getD, List.getElem?_append_left h]
  · obtain rfl : i = w.length := by omega
    rw [if_neg h, Nat.sub_self, one_get]
    refine ⟨(sub_int _ _).2 ?_, rfl⟩
    simp [List.getD_eq_getElem?_getD]
theorem room_w {w : List Int} (h : w.length ≤ 2) : (true && decide True && room (w.length + 1) 8) = true := by
  have : room (w.length + 1) 8 = true := by simp only [room]; exact decide_eq_true (by omega)
  rw [this]; rfl
theorem nar_tail {a b : Bool} {iE : Int} {W : Ats} {l kk x : Int} (hI : iE = 0) (hE : allE W 3 kk = 0) (hS : whS W l kk x 3 = w3S a b) (hab : b = true → a = true) : (
VB (a)
                                              (∃ (i : Nat),
                                                True ∧
                                                  (true = true ∧
                                                      a = a ∧
                                                        b = b ∧
                                                          iE = iE ∧
                                                            (((if allE W (3 : Nat) kk = (0 : Int) then whN W l kk x (3 : Nat) else (0 : Nat)) =
                                                                  if allE W (3 : Nat) kk = (0 : Int) then whN W l kk x (3 : Nat) else (0 : Nat)) ∧
                                                                (∀ (i : Nat),
                                                                    (i < if allE W (3 : Nat) kk = (0 : Int) then whN W l kk x (3 : Nat) else (0 : Nat)) →
                                                                      whV W l kk x (3 : Nat) i = whV W l kk x (3 : Nat) i ∧
                                                                        [AV.int IntKind.i64 (whV W l kk x (3 : Nat) i)].length =
                                                                          [AV.int IntKind.i64 (whV W l kk x (3 : Nat) i)].length) ∧
                                                                  (false = true → false = true)) ∧
                                                              allE W (3 : Nat) kk = allE W (3 : Nat) kk ∧
                                                                ((0 : Nat) = i ∧ (0 : Nat) = (0 : Nat) ∧ (1 : Nat) = (w1S (a)).length ∧ (@Eq (Option Nat) none none ∨ @Eq (Option Nat) none none)) ∧
                                                                  True) ∧
                                                    ((0 : Nat) = i ∧
                                                        (true = true → true = true) ∧
                                                          [AV.int IntKind.i64 (0 : Int)].length = (w1S (a)).length ∧
                                                            ((0 : Int) = (w1S (a)).getD (0 : Nat) (0 : Int) ∧
                                                                [AV.int IntKind.i64 (0 : Int)].length = [AV.int IntKind.i64 ((w1S (a)).getD (0 : Nat) (0 : Int))].length) ∧
                                                              True) ∧
                                                      True)
                                              (∃ (i : Nat),
                                                True ∧
                                                  (true = true ∧
                                                      a = a ∧
                                                        b = b ∧
                                                          iE = iE ∧
                                                            (((if allE W (3 : Nat) kk = (0 : Int) then whN W l kk x (3 : Nat) else (0 : Nat)) =
                                                                  if allE W (3 : Nat) kk = (0 : Int) then whN W l kk x (3 : Nat) else (0 : Nat)) ∧
                                                                (∀ (i : Nat),
                                                                    (i < if allE W (3 : Nat) kk = (0 : Int) then whN W l kk x (3 : Nat) else (0 : Nat)) →
                                                                      whV W l kk x (3 : Nat) i = whV W l kk x (3 : Nat) i ∧
                                                                        [AV.int IntKind.i64 (whV W l kk x (3 : Nat) i)].length =
                                                                          [AV.int IntKind.i64 (whV W l kk x (3 : Nat) i)].length) ∧
                                                                  (false = true → false = true)) ∧
                                                              allE W (3 : Nat) kk = allE W (3 : Nat) kk ∧
                                                                ((w1S (a)).length = (0 : Nat) ∧ i = i ∧ (w1S (a)).length = (0 : Nat)) ∧ True) ∧
                                                    (w1S (a)).length = (0 : Nat) ∧ True) ∧
                                            ∀ (i : Nat),
                                              True →
                                                VB (b)
                                                    (NB (true && decide (i = i) && room ((w1S (a)).length + (1 : Nat)) (8 : Nat))
                                                      (∃ (i_1 : Nat),
                                                        True ∧
                                                          (true = true ∧
                                                              a = a ∧
                                                                b = b ∧
                                                                  iE = iE ∧
                                                                    (((if allE W (3 : Nat) kk = (0 : Int) then whN W l kk x (3 : Nat) else (0 : Nat)) =
                                                                          if allE W (3 : Nat) kk = (0 : Int) then whN W l kk x (3 : Nat) else (0 : Nat)) ∧
                                                                        (∀ (i : Nat),
                                                                            (i < if allE W (3 : Nat) kk = (0 : Int) then whN W l kk x (3 : Nat) else (0 : Nat)) →
                                                                              whV W l kk x (3 : Nat) i = whV W l kk x (3 : Nat) i ∧
                                                                                [AV.int IntKind.i64 (whV W l kk x (3 : Nat) i)].length =
                                                                                  [AV.int IntKind.i64 (whV W l kk x (3 : Nat) i)].length) ∧
                                                                          (false = true → false = true)) ∧
                                                                      allE W (3 : Nat) kk = allE W (3 : Nat) kk ∧
                                                                        (i + (1 : Nat) = i_1 ∧
                                                                            (0 : Nat) = (0 : Nat) ∧
                                                                              (w1S (a)).length + (1 : Nat) = (w2S (a) (b)).length ∧
                                                                                (@Eq (Option Nat) none none ∨ @Eq (Option Nat) none none)) ∧
                                                                          True) ∧
                                                            (i + (1 : Nat) = i_1 ∧
                                                                (true = true → true = true) ∧
                                                                  (w1S (a)).length + (1 : Nat) = (w2S (a) (b)).length ∧
                                                                    ∀ (i : Nat),
                                                                      i < (w1S (a)).length + (1 : Nat) →
                                                                        (if i < (w1S (a)).length then AV.int IntKind.i64 ((w1S (a)).getD ((0 : Nat) + i) (0 : Int))
                                                                              else ((Sq.lst [AV.int IntKind.i64 (1 : Int)]).sub (0 : Nat) (1 : Nat)).get (i - (w1S (a)).length)).sub
                                                                            (AV.int IntKind.i64 ((w2S (a) (b)).getD i (0 : Int))) ∧
                                                                          (if i < (w1S (a)).length then AV.int IntKind.i64 ((w1S (a)).getD ((0 : Nat) + i) (0 : Int))
                                                                                else ((Sq.lst [AV.int IntKind.i64 (1 : Int)]).sub (0 : Nat) (1 : Nat)).get (i - (w1S (a)).length)).cells.length =
                                                                            [AV.int IntKind.i64 ((w2S (a) (b)).getD i (0 : Int))].length) ∧
                                                              True))
                                                    (∃ (i_1 : Nat),
                                                      True ∧
                                                        (true = true ∧
                                                            a = a ∧
                                                              b = b ∧
                                                                iE = iE ∧
                                                                  (((if allE W (3 : Nat) kk = (0 : Int) then whN W l kk x (3 : Nat) else (0 : Nat)) =
                                                                        if allE W (3 : Nat) kk = (0 : Int) then whN W l kk x (3 : Nat) else (0 : Nat)) ∧
                                                                      (∀ (i : Nat),
                                                                          (i < if allE W (3 : Nat) kk = (0 : Int) then whN W l kk x (3 : Nat) else (0 : Nat)) →
                                                                            whV W l kk x (3 : Nat) i = whV W l kk x (3 : Nat) i ∧
                                                                              [AV.int IntKind.i64 (whV W l kk x (3 : Nat) i)].length =
                                                                                [AV.int IntKind.i64 (whV W l kk x (3 : Nat) i)].length) ∧
                                                                        (false = true → false = true)) ∧
                                                                    allE W (3 : Nat) kk = allE W (3 : Nat) kk ∧
                                                                      (i = i_1 ∧
                                                                          (0 : Nat) = (0 : Nat) ∧
                                                                            (w1S (a)).length = (w2S (a) (b)).length ∧
                                                                              (@Eq (Option Nat) none none ∨ @Eq (Option Nat) none none)) ∧
                                                                        True) ∧
                                                          (i = i_1 ∧
                                                              (true = true → true = true) ∧
                                                                (w1S (a)).length = (w2S (a) (b)).length ∧
                                                                  ∀ (i : Nat),
                                                                    i < (w1S (a)).length →
                                                                      (w1S (a)).getD i (0 : Int) = (w2S (a) (b)).getD i (0 : Int) ∧
                                                                        [AV.int IntKind.i64 ((w1S (a)).getD i (0 : Int))].length =
                                                                          [AV.int IntKind.i64 ((w2S (a) (b)).getD i (0 : Int))].length) ∧
                                                            True) ∧
                                                  ∀ (i : Nat),
                                                    True →
                                                      VB (a)
                                                          (NB (true && decide (i = i) && room ((w2S (a) (b)).length + (1 : Nat)) (8 : Nat))
                                                            (∃ (i_1 : Nat),
                                                              True ∧
                                                                (true = true ∧
                                                                    a = a ∧
                                                                      b = b ∧
                                                                        iE = iE ∧
                                                                          (((if allE W (3 : Nat) kk = (0 : Int) then whN W l kk x (3 : Nat) else (0 : Nat)) =
                                                                                if allE W (3 : Nat) kk = (0 : Int) then whN W l kk x (3 : Nat) else (0 : Nat)) ∧
                                                                              (∀ (i : Nat),
                                                                                  (i < if allE W (3 : Nat) kk = (0 : Int) then whN W l kk x (3 : Nat) else (0 : Nat)) →
                                                                                    whV W l kk x (3 : Nat) i = whV W l kk x (3 : Nat) i ∧
                                                                                      [AV.int IntKind.i64 (whV W l kk x (3 : Nat) i)].length =
                                                                                        [AV.int IntKind.i64 (whV W l kk x (3 : Nat) i)].length) ∧
                                                                                (false = true → false = true)) ∧
                                                                            allE W (3 : Nat) kk = allE W (3 : Nat) kk ∧
                                                                              (i + (1 : Nat) = i_1 ∧
                                                                                  (0 : Nat) = (0 : Nat) ∧
                                                                                    (w2S (a) (b)).length + (1 : Nat) =
                                                                                        (w3S (a) (b)).length ∧
                                                                                      (@Eq (Option Nat) none none ∨ @Eq (Option Nat) none none)) ∧
                                                                                True) ∧
                                                                  (i + (1 : Nat) = i_1 ∧
                                                                      (true = true → true = true) ∧
                                                                        (w2S (a) (b)).length + (1 : Nat) = (w3S (a) (b)).length ∧
                                                                          ∀ (i : Nat),
                                                                            i < (w2S (a) (b)).length + (1 : Nat) →
                                                                              (if i < (w2S (a) (b)).length then
                                                                                      AV.int IntKind.i64 ((w2S (a) (b)).getD ((0 : Nat) + i) (0 : Int))
                                                                                    else
                                                                                      ((Sq.lst [AV.int IntKind.i64 (2 : Int)]).sub (0 : Nat) (1 : Nat)).get
                                                                                        (i - (w2S (a) (b)).length)).sub
                                                                                  (AV.int IntKind.i64 ((w3S (a) (b)).getD i (0 : Int))) ∧
                                                                                (if i < (w2S (a) (b)).length then
                                                                                        AV.int IntKind.i64 ((w2S (a) (b)).getD ((0 : Nat) + i) (0 : Int))
                                                                                      else
                                                                                        ((Sq.lst [AV.int IntKind.i64 (2 : Int)]).sub (0 : Nat) (1 : Nat)).get
                                                                                          (i - (w2S (a) (b)).length)).cells.length =
                                                                                  [AV.int IntKind.i64 ((w3S (a) (b)).getD i (0 : Int))].length) ∧
                                                                    True))
                                                          (∃ (i_1 : Nat),
                                                            True ∧
                                                              (true = true ∧
                                                                  a = a ∧
                                                                    b = b ∧
                                                                      iE = iE ∧
                                                                        (((if allE W (3 : Nat) kk = (0 : Int) then whN W l kk x (3 : Nat) else (0 : Nat)) =
                                                                              if allE W (3 : Nat) kk = (0 : Int) then whN W l kk x (3 : Nat) else (0 : Nat)) ∧
                                                                            (∀ (i : Nat),
                                                                                (i < if allE W (3 : Nat) kk = (0 : Int) then whN W l kk x (3 : Nat) else (0 : Nat)) →
                                                                                  whV W l kk x (3 : Nat) i = whV W l kk x (3 : Nat) i ∧
                                                                                    [AV.int IntKind.i64 (whV W l kk x (3 : Nat) i)].length =
                                                                                      [AV.int IntKind.i64 (whV W l kk x (3 : Nat) i)].length) ∧
                                                                              (false = true → false = true)) ∧
                                                                          allE W (3 : Nat) kk = allE W (3 : Nat) kk ∧
                                                                            (i = i_1 ∧
                                                                                (0 : Nat) = (0 : Nat) ∧
                                                                                  (w2S (a) (b)).length = (w3S (a) (b)).length ∧
                                                                                    (@Eq (Option Nat) none none ∨ @Eq (Option Nat) none none)) ∧
                                                                              True) ∧
                                                                (i = i_1 ∧
                                                                    (true = true → true = true) ∧
                                                                      (w2S (a) (b)).length = (w3S (a) (b)).length ∧
                                                                        ∀ (i : Nat),
                                                                          i < (w2S (a) (b)).length →
                                                                            (w2S (a) (b)).getD i (0 : Int) =
                                                                                (w3S (a) (b)).getD i (0 : Int) ∧
                                                                              [AV.int IntKind.i64 ((w2S (a) (b)).getD i (0 : Int))].length =
                                                                                [AV.int IntKind.i64 ((w3S (a) (b)).getD i (0 : Int))].length) ∧
                                                                  True) ∧
                                                        ∀ (i : Nat),
                                                          True →
                                                            NB
                                                              (impB
                                                                (isW true
                                                                  (true && iE == (0 : Int) && (a || !b) &&
                                                                    allE W (3 : Nat) kk == (0 : Int)))
                                                                ((((decide
                                                                            ((if allE W (3 : Nat) kk = (0 : Int) then whN W l kk x (3 : Nat) else (0 : Nat)) ≤
                                                                              (1000000 : Nat)) &&
                                                                          decide
                                                                            ((if allE W (3 : Nat) kk = (0 : Int) then whN W l kk x (3 : Nat) else (0 : Nat)) =
                                                                              (w3S (a) (b)).length) &&
                                                                        intsB (if allE W (3 : Nat) kk = (0 : Int) then whN W l kk x (3 : Nat) else (0 : Nat)) fun (k : Nat) =>
                                                                          AV.int IntKind.i64 (whV W l kk x (3 : Nat) k)) &&
                                                                      intsB (w3S (a) (b)).length fun (k : Nat) =>
                                                                        AV.int IntKind.i64 ((w3S (a) (b)).getD ((0 : Nat) + k) (0 : Int))) &&
                                                                    eqFn (fun (k : Nat) => iOf (AV.int IntKind.i64 (whV W l kk x (3 : Nat) k))) fun (k : Nat) =>
                                                                      iOf (AV.int IntKind.i64 ((w3S (a) (b)).getD ((0 : Nat) + k) (0 : Int)))) &&
                                                                  (true && (decide (i = i) && true))))
                                                              (((true && iE == (0 : Int) && (a || !b) &&
                                                                      allE W (3 : Nat) kk == (0 : Int) &&
                                                                    true) ==
                                                                  true) =
                                                                true)) := by
  have h1 : (w1S a).length ≤ 1 := by cases a <;> decide
  have h2 : (w2S a b).length ≤ 2 := by cases a <;> cases b <;> decide
  have r1 : room ((w1S a).length + 1) 8 = true := by simp only [room]; exact decide_eq_true (by omega)
  have r2 : room ((w2S a b).length + 1) 8 = true := by simp only [room]; exact decide_eq_true (by omega)
  refine ⟨VB_intro (fun h => ⟨0, trivial, by simp [w1S, h]⟩) (fun h => ⟨0, trivial, by simp [w1S, h]⟩), fun g _ => ⟨VB_intro (fun h => NB_intro (by simp [r1]) ⟨g + 1, trivial, ?_⟩) (fun h => ⟨g, trivial, by simp [w2S, h]⟩), fun g _ => ⟨VB_intro (fun h => NB_intro (by simp [r2]) ⟨g + 1, trivial, ?_⟩) (fun h => ⟨g, trivial, by simp [w3S, h]⟩), fun g _ => ?_⟩⟩⟩
  · have e : w2S a b = w1S a ++ [1] := if_pos h
    have el : (w2S a b).length = (w1S a).length + 1 := by rw [e]; simp
    refine ⟨⟨rfl, rfl, rfl, rfl, ⟨rfl, fun _ _ => ⟨rfl, rfl⟩, fun h => h⟩, rfl, ⟨rfl, rfl, el.symm, .inl rfl⟩, trivial⟩, ⟨rfl, fun h => h, el.symm, fun i hi => ?_⟩, trivial⟩
    rw [e]
    exact app_leaf (w1S a) 1 i hi
  · have e : w3S a b = w2S a b ++ [2] := if_pos h
    have el : (w3S a b).length = (w2S a b).length + 1 := by rw [e]; simp
    refine ⟨⟨rfl, rfl, rfl, rfl, ⟨rfl, fun _ _ => ⟨rfl, rfl⟩, fun h => h⟩, rfl, ⟨rfl, rfl, el.symm, .inl rfl⟩, trivial⟩, ⟨rfl, fun h => h, el.symm, fun i hi => ?_⟩, trivial⟩
    rw [e]
    exact app_leaf (w2S a b) 2 i hi
  · subst hI
    have h3 : (w3S a b).length ≤ 3 := by cases a <;> cases b <;> decide
    have hN : whN W l kk x 3 = (w3S a b).length := by rw [whN, hS]
    have hV : ∀ q, whV W l kk x 3 q = (w3S a b).getD q 0 := fun q => by rw [whV, hS]
    have hn : (w3S a b).length ≤ 1000000 := by omega
    have hb : (a || !b) = true := by
      cases b with
      | false => simp
      | true => rw [hab rfl]; rfl
    simp only [hE, if_true, hN, hV, iOf_at, Nat.zero_add, intsB_at, eqFn_self, hn, hb, decide_true, Bool.and_self, beq_self_eq_true, isW_t]
    exact NB_intro (by simp [impB_t]) trivial
end Go.Proofs.YtjkkkldkimdajaaDoor
namespace Go.Proofs.YtjkkkldkimdajaaDoor
open Pw Go
set_option maxRecDepth 100000
set_option linter.unusedSimpArgs false

section
variable {k : Int} {bd : Bool} {bo : Int} {n : Nat} {o v : Nat → Int} {l x : Int}
theorem nf_check (hn : n ≤ 8) (hok : okAll n o = true) (hk : 0 ≤ k ∧ k ≤ 25) (hb : bd = true ∨ bo = 0) : checkE k bd bo n o [120] = 0 := by
  have h1 : atomS k bd bo n o [120] = true := by
    have hnm : nameS [120] = true := by decide
    have hb' : (bd || bo == 0) = true := by rcases hb with h | h <;> simp [h]
    simp only [atomS, hnm, hok, hb', decide_eq_true (show k ≥ 0 by omega), decide_eq_true (show k ≤ 25 by omega), Bool.or_true, Bool.and_self]
  rw [checkE, if_neg (by omega), if_pos h1]
theorem nf_event (hk : 0 ≤ k ∧ k ≤ 25) : eventE k = 0 := by rw [eventE, if_neg (by omega)]
theorem nf_matE (hc : checkE k bd bo n o [120] = 0) (hk : 0 ≤ k ∧ k ≤ 25) : MatE k bd bo n o [120] k = 0 := by rw [MatE, if_pos hc, nf_event hk]
theorem nf_matB (hc : checkE k bd bo n o [120] = 0) (hk : 0 ≤ k ∧ k ≤ 25) : MatB k bd bo n o v [120] l k x = ((!bd || belowS l bo) && allS n o v x) := by
  simp [MatB, hc, nf_event hk, matchS]
theorem nf_emp (hc : checkE k bd bo n o [120] = 0) : EmpB k bd bo n o v [120] = !lstB n o v := by simp [EmpB, hc]
theorem nf_samE (hc : checkE k bd bo n o [120] = 0) : SamE k bd bo n o v [120] = if lstB n o v = true then 0 else 7 := by simp [SamE, hc]
theorem nf_first (hc : checkE k bd bo n o [120] = 0) (hk : 0 ≤ k ∧ k ≤ 25) (hu : u64B bo = true) (hl : u64B l = true) (hx : lowI ≤ x ∧ x ≤ highI) :
    (MatE k bd bo n o [120] k != 0 || checkE k bd bo n o [120] != 0 || !EmpB k bd bo n o v [120] == (SamE k bd bo n o v [120] == 7) || MatB k bd bo n o v [120] l k x && (EmpB k bd bo n o v [120] || bd && andNotI .u64 l bo != 0)) = false := by
  rw [nf_matE hc hk, hc, nf_emp hc, nf_samE hc, nf_matB hc hk]
  have hbb := below_bits (u64B_iff.1 hl) (u64B_iff.1 hu)
  have hne : (andNotI .u64 l bo != 0) = !belowS l bo := by rw [← hbb]; rfl
  rw [hne]
  cases hb : lstB n o v with
  | true =>
    cases bd <;> cases belowS l bo <;> cases allS n o v x <;> rfl
  | false =>
    have := lst_no hb hx.1 hx.2
    rw [this]
    cases bd <;> cases belowS l bo <;> rfl
theorem below_self (a : Int) : belowS a a = true := belowS_iff.2 fun _ _ h => h
theorem nf_sam (hc : checkE k bd bo n o [120] = 0) (hb : lstB n o v = true) : SamE k bd bo n o v [120] = 0 ∧ SamL k bd bo n o v [120] = bo ∧ SamK k bd bo n o v [120] = k ∧ SamX k bd bo n o v [120] = lstV n o v := by
  simp [SamE, SamL, SamK, SamX, SamOk, hc, hb]
theorem nf_second (hc : checkE k bd bo n o [120] = 0) (hk : 0 ≤ k ∧ k ≤ 25) (hb : lstB n o v = true) :
    (SamE k bd bo n o v [120] == 0 && !(MatE k bd bo n o [120] (SamK k bd bo n o v [120]) == 0 && MatB k bd bo n o v [120] (SamL k bd bo n o v [120]) (SamK k bd bo n o v [120]) (SamX k bd bo n o v [120]) == true)) = false := by
  obtain ⟨s1, s2, s3, s4⟩ := nf_sam hc hb
  rw [s1, s2, s3, s4, nf_matE hc hk, nf_matB hc hk, below_self, (lst_yes hb).2.2.1]
  cases bd <;> rfl
theorem nf_third (hb : (SamE k bd bo n o v [120] == 0) = false) : (SamE k bd bo n o v [120] == 0 && true) = false := by rw [hb]; rfl
theorem nf_lst (hc : checkE k bd bo n o [120] = 0) (hb : (SamE k bd bo n o v [120] == 0) = true) : lstB n o v = true := by
  rw [nf_samE hc] at hb
  cases h : lstB n o v with
  | true => rfl
  | false => rw [h] at hb; cases hb
end
theorem andI_bit {a b : Int} (ha : u64B a = true) (hb : u64B b = true) {i : Nat} (hi : i < 64) (h : bitS (andI .u64 a b) i = true) : bitS a i = true := by
  rw [u64B_iff] at ha hb
  obtain ⟨A, rfl⟩ := Int.eq_ofNat_of_zero_le ha.1
  obtain ⟨B, rfl⟩ := Int.eq_ofNat_of_zero_le hb.1
  have hA : A < 2 ^ 64 := by omega
  have hB : B < 2 ^ 64 := by omega
  have e : andI .u64 (A : Int) (B : Int) = ((A &&& B : Nat) : Int) := by
    simp only [andI]
    have e1 : BitVec.ofInt IntKind.u64.bits (A : Int) = BitVec.ofNat 64 A := BitVec.ofInt_natCast 64 _
    have e2 : BitVec.ofInt IntKind.u64.bits (B : Int) = BitVec.ofNat 64 B := BitVec.ofInt_natCast 64 _
    rw [e1, e2, wrap_u64]
    have e3 : (BitVec.ofNat 64 A &&& BitVec.ofNat 64 B).toNat = A &&& B := by
      rw [BitVec.toNat_and, BitVec.toNat_ofNat, BitVec.toNat_ofNat, Nat.mod_eq_of_lt hA, Nat.mod_eq_of_lt hB]
    show ((BitVec.ofNat 64 A &&& BitVec.ofNat 64 B).toNat : Int) % 18446744073709551616 = _
    rw [e3]
    have : A &&& B ≤ A := Nat.and_le_left
    omega
  rw [e] at h
  have hlt : A &&& B < 2 ^ 64 := Nat.lt_of_le_of_lt Nat.and_le_left hA
  rw [bitS_nat _ i hlt hi, Nat.testBit_and] at h
  rw [bitS_nat A i hA hi]
  simp only [Bool.and_eq_true] at h
  exact h.1
theorem andI_u64 (a b : Int) : u64B (andI .u64 a b) = true := by
  rw [u64B_iff, andI, wrap_u64]
  omega
theorem below_and {l a b : Int} (ha : u64B a = true) (hb : u64B b = true) (h : belowS l (andI .u64 a b) = true) : belowS l a = true :=
  belowS_iff.2 fun j hj hl => andI_bit ha hb hj (belowS_iff.1 h j hj hl)
theorem kindS_range (n : Int) : 0 ≤ kindS n ∧ kindS n ≤ 25 := by
  have h1 := Int.emod_nonneg n (b := 1073741824) (by omega)
  have h2 : kindS n = (n % 1073741824) % 26 := by rw [kindS, kS, Int.tmod_eq_emod_of_nonneg h1]
  have h3 := Int.emod_nonneg (n % 1073741824) (b := 26) (by omega)
  have h4 := Int.emod_lt_of_pos (n % 1073741824) (b := 26) (by omega)
  omega
theorem boS_ok (n : Int) : u64B (boS n) = true ∧ (bdS n = true ∨ boS n = 0) := by
  rw [boS]
  split
  · exact ⟨labS_ok _, .inl (by assumption)⟩
  · exact ⟨by rfl, .inr rfl⟩
theorem bo2S_ok (n more : Int) : u64B (bo2S n more) = true ∧ (bdS n = true ∨ bo2S n more = 0) := by
  rw [bo2S]
  split
  · exact ⟨andI_u64 _ _, .inl (by assumption)⟩
  · exact ⟨(boS_ok n).1, (boS_ok n).2⟩
theorem op_ok6 (j : Int) : okOp (1 + j % 6) = true := by
  have h1 := Int.emod_nonneg j (b := 6) (by omega)
  have h2 := Int.emod_lt_of_pos j (b := 6) (by omega)
  simp only [okOp, Bool.and_eq_true, decide_eq_true_eq]
  omega
/-- The tail: what the lists hold. -/
theorem wh3 {A : Ats} {l k x : Int} {a b : Bool} (h0 : matchJ A l k x 0 = a) (h1 : matchJ A l k x 1 = b) (h2 : matchJ A l k x 2 = a) : whS A l k x 3 = w3S a b := by
  subst h0; subst h1
  simp only [whS, h2, w3S, w2S, w1S]
  rfl
end Go.Proofs.YtjkkkldkimdajaaDoor
