/- AGGREGATES 6: the conditions of AggregateBounds. -/
import Derived.Test.YtahgdngngpkeiaaDoorA5
namespace Go.Proofs.YtahgdngngpkeiaaDoor
open Pw Go
set_option maxRecDepth 100000
set_option linter.unusedSimpArgs false

noncomputable def EB : Env := mkG Tryd.prog gN (tblOf tblB) (fun _ _ => none) 8
theorem bounds_vc (n : Nat) (a : Nat → Int) (x : Int) : (vcFun EB 40 3 [intsAV n a, .int .i64 x] .nil 0 (isBool true)).sat = (
  VB (decide ((↑n : Int) < (1 : Int)) || decide ((↑n : Int) > (40 : Int))) (true = true)
    (NB (decide ((-9223372036854775808 : Int) ≤ x ∧ x ≤ (9223372036854775807 : Int) ∧ (↑n : Int) ≤ (9223372036854775807 : Int)))
      (NB (decide ((0 : Int) ≤ modI x (↑n : Int) ∧ modI x (↑n : Int) ≤ (↑n : Int) ∧ (↑n : Int) ≤ (↑n : Int)))
        (NB (decide ((0 : Int) ≤ (0 : Int) ∧ (0 : Int) ≤ modI x (↑n : Int) ∧ modI x (↑n : Int) ≤ (↑n : Int)))
          (NB (true && room ((0 : Nat) + ((↑n : Int).toNat - (modI x (↑n : Int)).toNat)) (8 : Nat) && true && ((↑n : Int).toNat - (modI x (↑n : Int)).toNat != (0 : Nat) || true))
            (NB (true && room ((0 : Nat) + ((↑n : Int).toNat - (modI x (↑n : Int)).toNat) + ((modI x (↑n : Int)).toNat - Int.toNat (0 : Int))) (8 : Nat))
              (NB (inR (1 : Int) && decide (n ≤ (1000000 : Nat)) && intsB n fun (i : Nat) => AV.int IntKind.i64 (a i))
                (NB
                  ((inR (1 : Int) && decide ((0 : Nat) + ((↑n : Int).toNat - (modI x (↑n : Int)).toNat) + ((modI x (↑n : Int)).toNat - Int.toNat (0 : Int)) ≤ (1000000 : Nat)) &&
                      intsB ((0 : Nat) + ((↑n : Int).toNat - (modI x (↑n : Int)).toNat) + ((modI x (↑n : Int)).toNat - Int.toNat (0 : Int))) fun (k : Nat) =>
                        if (0 : Nat) + k < (0 : Nat) + ((↑n : Int).toNat - (modI x (↑n : Int)).toNat) then AV.int IntKind.i64 (a ((modI x (↑n : Int)).toNat + ((0 : Nat) + ((0 : Nat) + k))))
                        else AV.int IntKind.i64 (a (Int.toNat (0 : Int) + ((0 : Nat) + k - ((0 : Nat) + ((↑n : Int).toNat - (modI x (↑n : Int)).toNat)))))) &&
                    true)
                  (NB (inR (2 : Int) && decide (n ≤ (1000000 : Nat)) && intsB n fun (i : Nat) => AV.int IntKind.i64 (a i))
                    (NB
                      ((inR (2 : Int) && decide ((0 : Nat) + ((↑n : Int).toNat - (modI x (↑n : Int)).toNat) + ((modI x (↑n : Int)).toNat - Int.toNat (0 : Int)) ≤ (1000000 : Nat)) &&
                          intsB ((0 : Nat) + ((↑n : Int).toNat - (modI x (↑n : Int)).toNat) + ((modI x (↑n : Int)).toNat - Int.toNat (0 : Int))) fun (k : Nat) =>
                            if (0 : Nat) + k < (0 : Nat) + ((↑n : Int).toNat - (modI x (↑n : Int)).toNat) then AV.int IntKind.i64 (a ((modI x (↑n : Int)).toNat + ((0 : Nat) + ((0 : Nat) + k))))
                            else AV.int IntKind.i64 (a (Int.toNat (0 : Int) + ((0 : Nat) + k - ((0 : Nat) + ((↑n : Int).toNat - (modI x (↑n : Int)).toNat)))))) &&
                        true)
                      (VB
                        ((2 : Int) != (2 : Int) &&
                            ((ofE (2 : Int) n fun (i : Nat) => a i) != (0 : Int) ||
                              (ofE (2 : Int) ((0 : Nat) + ((↑n : Int).toNat - (modI x (↑n : Int)).toNat) + ((modI x (↑n : Int)).toNat - Int.toNat (0 : Int))) fun (i : Nat) =>
                                  toInt
                                    (if (0 : Nat) + i < (0 : Nat) + ((↑n : Int).toNat - (modI x (↑n : Int)).toNat) then AV.int IntKind.i64 (a ((modI x (↑n : Int)).toNat + ((0 : Nat) + ((0 : Nat) + i))))
                                    else AV.int IntKind.i64 (a (Int.toNat (0 : Int) + ((0 : Nat) + i - ((0 : Nat) + ((↑n : Int).toNat - (modI x (↑n : Int)).toNat))))))) !=
                                (0 : Int)) ||
                          (ofE (2 : Int) n fun (i : Nat) => a i) != (0 : Int) && (ofE (2 : Int) n fun (i : Nat) => a i) != (16 : Int))
                        (false = true)
                        (NB (inR (3 : Int) && decide (n ≤ (1000000 : Nat)) && intsB n fun (i : Nat) => AV.int IntKind.i64 (a i))
                          (NB
                            ((inR (3 : Int) && decide ((0 : Nat) + ((↑n : Int).toNat - (modI x (↑n : Int)).toNat) + ((modI x (↑n : Int)).toNat - Int.toNat (0 : Int)) ≤ (1000000 : Nat)) &&
                                intsB ((0 : Nat) + ((↑n : Int).toNat - (modI x (↑n : Int)).toNat) + ((modI x (↑n : Int)).toNat - Int.toNat (0 : Int))) fun (k : Nat) =>
                                  if (0 : Nat) + k < (0 : Nat) + ((↑n : Int).toNat - (modI x (↑n : Int)).toNat) then AV.int IntKind.i64 (a ((modI x (↑n : Int)).toNat + ((0 : Nat) + ((0 : Nat) + k))))
                                  else AV.int IntKind.i64 (a (Int.toNat (0 : Int) + ((0 : Nat) + k - ((0 : Nat) + ((↑n : Int).toNat - (modI x (↑n : Int)).toNat)))))) &&
                              true)
                            (VB
                              ((3 : Int) != (2 : Int) &&
                                  ((ofE (3 : Int) n fun (i : Nat) => a i) != (0 : Int) ||
                                    (ofE (3 : Int) ((0 : Nat) + ((↑n : Int).toNat - (modI x (↑n : Int)).toNat) + ((modI x (↑n : Int)).toNat - Int.toNat (0 : Int))) fun (i : Nat) =>
                                        toInt
                                          (if (0 : Nat) + i < (0 : Nat) + ((↑n : Int).toNat - (modI x (↑n : Int)).toNat) then AV.int IntKind.i64 (a ((modI x (↑n : Int)).toNat + ((0 : Nat) + ((0 : Nat) + i))))
                                          else AV.int IntKind.i64 (a (Int.toNat (0 : Int) + ((0 : Nat) + i - ((0 : Nat) + ((↑n : Int).toNat - (modI x (↑n : Int)).toNat))))))) !=
                                      (0 : Int)) ||
                                (ofE (3 : Int) n fun (i : Nat) => a i) != (0 : Int) && (ofE (3 : Int) n fun (i : Nat) => a i) != (16 : Int))
                              (false = true)
                              (NB (inR (4 : Int) && decide (n ≤ (1000000 : Nat)) && intsB n fun (i : Nat) => AV.int IntKind.i64 (a i))
                                (NB
                                  ((inR (4 : Int) && decide ((0 : Nat) + ((↑n : Int).toNat - (modI x (↑n : Int)).toNat) + ((modI x (↑n : Int)).toNat - Int.toNat (0 : Int)) ≤ (1000000 : Nat)) &&
                                      intsB ((0 : Nat) + ((↑n : Int).toNat - (modI x (↑n : Int)).toNat) + ((modI x (↑n : Int)).toNat - Int.toNat (0 : Int))) fun (k : Nat) =>
                                        if (0 : Nat) + k < (0 : Nat) + ((↑n : Int).toNat - (modI x (↑n : Int)).toNat) then AV.int IntKind.i64 (a ((modI x (↑n : Int)).toNat + ((0 : Nat) + ((0 : Nat) + k))))
                                        else AV.int IntKind.i64 (a (Int.toNat (0 : Int) + ((0 : Nat) + k - ((0 : Nat) + ((↑n : Int).toNat - (modI x (↑n : Int)).toNat)))))) &&
                                    true)
                                  (VB
                                    ((4 : Int) != (2 : Int) &&
                                        ((ofE (4 : Int) n fun (i : Nat) => a i) != (0 : Int) ||
                                          (ofE (4 : Int) ((0 : Nat) + ((↑n : Int).toNat - (modI x (↑n : Int)).toNat) + ((modI x (↑n : Int)).toNat - Int.toNat (0 : Int))) fun (i : Nat) =>
                                              toInt
                                                (if (0 : Nat) + i < (0 : Nat) + ((↑n : Int).toNat - (modI x (↑n : Int)).toNat) then AV.int IntKind.i64 (a ((modI x (↑n : Int)).toNat + ((0 : Nat) + ((0 : Nat) + i))))
                                                else AV.int IntKind.i64 (a (Int.toNat (0 : Int) + ((0 : Nat) + i - ((0 : Nat) + ((↑n : Int).toNat - (modI x (↑n : Int)).toNat))))))) !=
                                            (0 : Int)) ||
                                      (ofE (4 : Int) n fun (i : Nat) => a i) != (0 : Int) && (ofE (4 : Int) n fun (i : Nat) => a i) != (16 : Int))
                                    (false = true)
                                    (NB (inR (5 : Int) && decide (n ≤ (1000000 : Nat)) && intsB n fun (i : Nat) => AV.int IntKind.i64 (a i))
                                      (NB
                                        ((inR (5 : Int) && decide ((0 : Nat) + ((↑n : Int).toNat - (modI x (↑n : Int)).toNat) + ((modI x (↑n : Int)).toNat - Int.toNat (0 : Int)) ≤ (1000000 : Nat)) &&
                                            intsB ((0 : Nat) + ((↑n : Int).toNat - (modI x (↑n : Int)).toNat) + ((modI x (↑n : Int)).toNat - Int.toNat (0 : Int))) fun (k : Nat) =>
                                              if (0 : Nat) + k < (0 : Nat) + ((↑n : Int).toNat - (modI x (↑n : Int)).toNat) then AV.int IntKind.i64 (a ((modI x (↑n : Int)).toNat + ((0 : Nat) + ((0 : Nat) + k))))
                                              else AV.int IntKind.i64 (a (Int.toNat (0 : Int) + ((0 : Nat) + k - ((0 : Nat) + ((↑n : Int).toNat - (modI x (↑n : Int)).toNat)))))) &&
                                          true)
                                        (VB
                                          ((5 : Int) != (2 : Int) &&
                                              ((ofE (5 : Int) n fun (i : Nat) => a i) != (0 : Int) ||
                                                (ofE (5 : Int) ((0 : Nat) + ((↑n : Int).toNat - (modI x (↑n : Int)).toNat) + ((modI x (↑n : Int)).toNat - Int.toNat (0 : Int))) fun (i : Nat) =>
                                                    toInt
                                                      (if (0 : Nat) + i < (0 : Nat) + ((↑n : Int).toNat - (modI x (↑n : Int)).toNat) then AV.int IntKind.i64 (a ((modI x (↑n : Int)).toNat + ((0 : Nat) + ((0 : Nat) + i))))
                                                      else AV.int IntKind.i64 (a (Int.toNat (0 : Int) + ((0 : Nat) + i - ((0 : Nat) + ((↑n : Int).toNat - (modI x (↑n : Int)).toNat))))))) !=
                                                  (0 : Int)) ||
                                            (ofE (5 : Int) n fun (i : Nat) => a i) != (0 : Int) && (ofE (5 : Int) n fun (i : Nat) => a i) != (16 : Int))
                                          (false = true)
                                          (NB (inR (6 : Int) && decide (n ≤ (1000000 : Nat)) && intsB n fun (i : Nat) => AV.int IntKind.i64 (a i))
                                            (NB
                                              ((inR (6 : Int) && decide ((0 : Nat) + ((↑n : Int).toNat - (modI x (↑n : Int)).toNat) + ((modI x (↑n : Int)).toNat - Int.toNat (0 : Int)) ≤ (1000000 : Nat)) &&
                                                  intsB ((0 : Nat) + ((↑n : Int).toNat - (modI x (↑n : Int)).toNat) + ((modI x (↑n : Int)).toNat - Int.toNat (0 : Int))) fun (k : Nat) =>
                                                    if (0 : Nat) + k < (0 : Nat) + ((↑n : Int).toNat - (modI x (↑n : Int)).toNat) then AV.int IntKind.i64 (a ((modI x (↑n : Int)).toNat + ((0 : Nat) + ((0 : Nat) + k))))
                                                    else AV.int IntKind.i64 (a (Int.toNat (0 : Int) + ((0 : Nat) + k - ((0 : Nat) + ((↑n : Int).toNat - (modI x (↑n : Int)).toNat)))))) &&
                                                true)
                                              (VB
                                                ((6 : Int) != (2 : Int) &&
                                                    ((ofE (6 : Int) n fun (i : Nat) => a i) != (0 : Int) ||
                                                      (ofE (6 : Int) ((0 : Nat) + ((↑n : Int).toNat - (modI x (↑n : Int)).toNat) + ((modI x (↑n : Int)).toNat - Int.toNat (0 : Int))) fun (i : Nat) =>
                                                          toInt
                                                            (if (0 : Nat) + i < (0 : Nat) + ((↑n : Int).toNat - (modI x (↑n : Int)).toNat) then
                                                              AV.int IntKind.i64 (a ((modI x (↑n : Int)).toNat + ((0 : Nat) + ((0 : Nat) + i))))
                                                            else AV.int IntKind.i64 (a (Int.toNat (0 : Int) + ((0 : Nat) + i - ((0 : Nat) + ((↑n : Int).toNat - (modI x (↑n : Int)).toNat))))))) !=
                                                        (0 : Int)) ||
                                                  (ofE (6 : Int) n fun (i : Nat) => a i) != (0 : Int) && (ofE (6 : Int) n fun (i : Nat) => a i) != (16 : Int))
                                                (false = true)
                                                (VB
                                                  ((((ofV (1 : Int) n fun (i : Nat) => a i) != (↑n : Int) || decide ((ofV (3 : Int) n fun (i : Nat) => a i) > ofV (5 : Int) n fun (i : Nat) => a i) ||
                                                              decide ((ofV (3 : Int) n fun (i : Nat) => a i) > ofV (6 : Int) n fun (i : Nat) => a i) ||
                                                            decide ((ofV (5 : Int) n fun (i : Nat) => a i) > ofV (4 : Int) n fun (i : Nat) => a i) ||
                                                          decide ((ofV (6 : Int) n fun (i : Nat) => a i) > ofV (4 : Int) n fun (i : Nat) => a i) ||
                                                        (ofV (1 : Int) n fun (i : Nat) => a i) !=
                                                          ofV (1 : Int) ((0 : Nat) + ((↑n : Int).toNat - (modI x (↑n : Int)).toNat) + ((modI x (↑n : Int)).toNat - Int.toNat (0 : Int))) fun (i : Nat) =>
                                                            toInt
                                                              (if (0 : Nat) + i < (0 : Nat) + ((↑n : Int).toNat - (modI x (↑n : Int)).toNat) then
                                                                AV.int IntKind.i64 (a ((modI x (↑n : Int)).toNat + ((0 : Nat) + ((0 : Nat) + i))))
                                                              else AV.int IntKind.i64 (a (Int.toNat (0 : Int) + ((0 : Nat) + i - ((0 : Nat) + ((↑n : Int).toNat - (modI x (↑n : Int)).toNat))))))) ||
                                                      (ofV (3 : Int) n fun (i : Nat) => a i) !=
                                                        ofV (3 : Int) ((0 : Nat) + ((↑n : Int).toNat - (modI x (↑n : Int)).toNat) + ((modI x (↑n : Int)).toNat - Int.toNat (0 : Int))) fun (i : Nat) =>
                                                          toInt
                                                            (if (0 : Nat) + i < (0 : Nat) + ((↑n : Int).toNat - (modI x (↑n : Int)).toNat) then
                                                              AV.int IntKind.i64 (a ((modI x (↑n : Int)).toNat + ((0 : Nat) + ((0 : Nat) + i))))
                                                            else AV.int IntKind.i64 (a (Int.toNat (0 : Int) + ((0 : Nat) + i - ((0 : Nat) + ((↑n : Int).toNat - (modI x (↑n : Int)).toNat))))))) ||
                                                    (ofV (4 : Int) n fun (i : Nat) => a i) !=
                                                      ofV (4 : Int) ((0 : Nat) + ((↑n : Int).toNat - (modI x (↑n : Int)).toNat) + ((modI x (↑n : Int)).toNat - Int.toNat (0 : Int))) fun (i : Nat) =>
                                                        toInt
                                                          (if (0 : Nat) + i < (0 : Nat) + ((↑n : Int).toNat - (modI x (↑n : Int)).toNat) then
                                                            AV.int IntKind.i64 (a ((modI x (↑n : Int)).toNat + ((0 : Nat) + ((0 : Nat) + i))))
                                                          else AV.int IntKind.i64 (a (Int.toNat (0 : Int) + ((0 : Nat) + i - ((0 : Nat) + ((↑n : Int).toNat - (modI x (↑n : Int)).toNat)))))))
                                                  (false = true)
                                                  (VB (true && (↑n : Int) == (1 : Int))
                                                    (NB (decide ((0 : Int) ≤ (0 : Int) ∧ (0 : Int) < (↑n : Int)))
                                                      (VB ((ofV (2 : Int) n fun (i : Nat) => a i) != a (Int.toNat (0 : Int))) (false = true)
                                                        (VB (true && (↑n : Int) == (1 : Int))
                                                          (NB (decide ((0 : Int) ≤ (0 : Int) ∧ (0 : Int) < (↑n : Int)))
                                                            (VB ((ofV (3 : Int) n fun (i : Nat) => a i) != a (Int.toNat (0 : Int))) (false = true)
                                                              (VB (true && (↑n : Int) == (1 : Int))
                                                                (NB (decide ((0 : Int) ≤ (0 : Int) ∧ (0 : Int) < (↑n : Int)))
                                                                  (VB ((ofV (4 : Int) n fun (i : Nat) => a i) != a (Int.toNat (0 : Int))) (false = true)
                                                                    (VB (true && (↑n : Int) == (1 : Int))
                                                                      (NB (decide ((0 : Int) ≤ (0 : Int) ∧ (0 : Int) < (↑n : Int)))
                                                                        (VB ((ofV (5 : Int) n fun (i : Nat) => a i) != a (Int.toNat (0 : Int))) (false = true)
                                                                          (VB (true && (↑n : Int) == (1 : Int))
                                                                            (NB (decide ((0 : Int) ≤ (0 : Int) ∧ (0 : Int) < (↑n : Int)))
                                                                              (VB ((ofV (6 : Int) n fun (i : Nat) => a i) != a (Int.toNat (0 : Int))) (false = true) (true = true)))
                                                                            (true = true))))
                                                                      (true = true))))
                                                                (true = true))))
                                                          (true = true))))
                                                    (true = true)))))))))))))))))))))))))) := by
  kernel_rfl

end Go.Proofs.YtahgdngngpkeiaaDoor
namespace Go.Proofs.YtahgdngngpkeiaaDoor
open Pw Go
set_option maxRecDepth 100000
set_option linter.unusedSimpArgs false

theorem leastS_le (a : Nat → Int) : ∀ (k i : Nat), i ≤ k → leastS a k ≤ a i
  | 0, i, h => by have : i = 0 := by omega
                  subst this; exact Int.le_refl _
  | k + 1, i, h => by
    have hm : leastS a (k + 1) ≤ leastS a k ∧ leastS a (k + 1) ≤ a (k + 1) := by
      simp only [leastS, minI]; split <;> omega
    by_cases e : i = k + 1
    · subst e; exact hm.2
    · have := leastS_le a k i (by omega); omega
theorem leastS_in (a : Nat → Int) : ∀ (k : Nat), ∃ i, i ≤ k ∧ leastS a k = a i
  | 0 => ⟨0, Nat.le_refl _, rfl⟩
  | k + 1 => by
    obtain ⟨i, h1, h2⟩ := leastS_in a k
    simp only [leastS, minI]
    split
    · exact ⟨k + 1, Nat.le_refl _, rfl⟩
    · exact ⟨i, by omega, h2⟩
theorem mostS_ge (a : Nat → Int) : ∀ (k i : Nat), i ≤ k → a i ≤ mostS a k
  | 0, i, h => by have : i = 0 := by omega
                  subst this; exact Int.le_refl _
  | k + 1, i, h => by
    have hm : mostS a k ≤ mostS a (k + 1) ∧ a (k + 1) ≤ mostS a (k + 1) := by
      simp only [mostS, maxI]; split <;> omega
    by_cases e : i = k + 1
    · subst e; exact hm.2
    · have := mostS_ge a k i (by omega); omega
theorem mostS_in (a : Nat → Int) : ∀ (k : Nat), ∃ i, i ≤ k ∧ mostS a k = a i
  | 0 => ⟨0, Nat.le_refl _, rfl⟩
  | k + 1 => by
    obtain ⟨i, h1, h2⟩ := mostS_in a k
    simp only [mostS, maxI]
    split
    · exact ⟨k + 1, Nat.le_refl _, rfl⟩
    · exact ⟨i, by omega, h2⟩
theorem leastS_congr (a b : Nat → Int) (k : Nat) (h1 : ∀ i, i ≤ k → ∃ j, j ≤ k ∧ a i = b j) (h2 : ∀ i, i ≤ k → ∃ j, j ≤ k ∧ b i = a j) : leastS a k = leastS b k := by
  obtain ⟨i, hi, ei⟩ := leastS_in a k
  obtain ⟨j, hj, ej⟩ := leastS_in b k
  obtain ⟨i', hi', ei'⟩ := h1 i hi
  obtain ⟨j', hj', ej'⟩ := h2 j hj
  have q1 := leastS_le b k i' hi'
  have q2 := leastS_le a k j' hj'
  omega
theorem mostS_congr (a b : Nat → Int) (k : Nat) (h1 : ∀ i, i ≤ k → ∃ j, j ≤ k ∧ a i = b j) (h2 : ∀ i, i ≤ k → ∃ j, j ≤ k ∧ b i = a j) : mostS a k = mostS b k := by
  obtain ⟨i, hi, ei⟩ := mostS_in a k
  obtain ⟨j, hj, ej⟩ := mostS_in b k
  obtain ⟨i', hi', ei'⟩ := h1 i hi
  obtain ⟨j', hj', ej'⟩ := h2 j hj
  have q1 := mostS_ge b k i' hi'
  have q2 := mostS_ge a k j' hj'
  omega
theorem ofE_or {f : Int} {n : Nat} {a : Nat → Int} (h1 : 1 ≤ f) (h6 : f ≤ 6) (hn : 1 ≤ n) : ofE f n a = 0 ∨ (f = 2 ∧ ofE f n a = 16) := by
  unfold ofE
  rw [if_neg (by omega)]
  by_cases e1 : f = 1
  · simp [e1]
  · by_cases e2 : f = 2
    · subst e2
      simp only [sumE]
      by_cases h : okTo a n = true <;> simp [h]
    · rw [if_neg e1, if_neg e2, if_neg (by omega)]; simp
/-- The list, turned. -/
def turn (a : Nat → Int) (n k : Nat) (i : Nat) : Int := if i < n - k then a (k + i) else a (i - (n - k))

theorem bounds_sat (n : Nat) (a : Nat → Int) (x : Int) (hx : rng64 x) (ha : ∀ i, i < n → rng64 (a i)) : (vcFun EB 40 3 [intsAV n a, .int .i64 x] .nil 0 (isBool true)).sat := by
  rw [bounds_vc]
  refine VB_intro (fun h => rfl) (fun h => ?_)
  simp only [Bool.or_eq_false_iff, decide_eq_false_iff_not] at h
  obtain ⟨k, hk, hkn⟩ : ∃ k : Nat, modI x (n : Int) = (k : Int) ∧ k < n := by
    have h1 := Int.emod_nonneg x (by omega : (n : Int) ≠ 0)
    have h2 := Int.emod_lt_of_pos x (by omega : (0 : Int) < n)
    refine ⟨(x % (n : Int)).toNat, ?_, by omega⟩
    unfold modI
    rw [if_neg (by omega)]
    omega
  have hlen : 0 + (n - k) + (k - 0) = n := by omega
  have hint : ∀ b : Nat → Nat → Prop, True := fun _ => trivial
  have ht : ∀ i, i < n → rng64 (turn a n k i) := by
    intro i hi
    unfold turn
    split
    · exact ha _ (by omega)
    · exact ha _ (by omega)
  have hfun : (fun (q : Nat) => if 0 + q < 0 + (n - k) then AV.int .i64 (a (k + (0 + (0 + q)))) else AV.int .i64 (a (0 + (0 + q - (0 + (n - k)))))) = fun q => AV.int .i64 (turn a n k q) := by
    funext q
    simp only [Nat.zero_add, turn]
    split <;> rfl
  have hfun2 : (fun (q : Nat) => toInt (if 0 + q < 0 + (n - k) then AV.int .i64 (a (k + (0 + (0 + q)))) else AV.int .i64 (a (0 + (0 + q - (0 + (n - k))))))) = turn a n k := by
    funext q
    simp only [Nat.zero_add, turn]
    split <;> rfl
  have e0 : Int.toNat 0 = 0 := rfl
  have eta : (fun i => a i) = a := rfl
  simp only [hk, Int.toNat_natCast, e0, hfun, hfun2, hlen, intsB_av ha, intsB_av ht, eta]
  have hb1 : n ≤ 1000000 := by omega
  have hR : ∀ f : Int, 1 ≤ f → f ≤ 6 → inR f = true := fun f h1 h2 => inR_iff.2 (by constructor <;> omega)
  simp only [hR 1 (by omega) (by omega), hR 2 (by omega) (by omega), hR 3 (by omega) (by omega), hR 4 (by omega) (by omega), hR 5 (by omega) (by omega), hR 6 (by omega) (by omega), hb1, decide_true, Bool.and_self, Bool.true_and, Bool.and_true, NB_t]
  obtain ⟨m, rfl⟩ : ∃ m, n = m + 1 := ⟨n - 1, by omega⟩
  have c1 : ∀ i, i ≤ m → ∃ j, j ≤ m ∧ a i = turn a (m + 1) k j := by
    intro i hi
    by_cases e : k ≤ i
    · refine ⟨i - k, by omega, ?_⟩
      unfold turn
      rw [if_pos (by omega)]
      congr 1; omega
    · refine ⟨i + (m + 1 - k), by omega, ?_⟩
      unfold turn
      rw [if_neg (by omega)]
      congr 1; omega
  have c2 : ∀ i, i ≤ m → ∃ j, j ≤ m ∧ turn a (m + 1) k i = a j := by
    intro i hi
    unfold turn
    split
    · exact ⟨k + i, by omega, rfl⟩
    · exact ⟨i - (m + 1 - k), by omega, rfl⟩
  have v1 : ∀ b : Nat → Int, ofV 1 (m + 1) b = ((m + 1 : Nat) : Int) := fun b => by simp [ofV]
  have v3 : ∀ b : Nat → Int, ofV 3 (m + 1) b = leastS b m := fun b => by simp [ofV]
  have v4 : ∀ b : Nat → Int, ofV 4 (m + 1) b = mostS b m := fun b => by simp [ofV]
  have v5 : ∀ b : Nat → Int, ofV 5 (m + 1) b = b 0 := fun b => by simp [ofV]
  have v6 : ∀ b : Nat → Int, ofV 6 (m + 1) b = b m := fun b => by simp [ofV]
  have q1 := leastS_congr a (turn a (m + 1) k) m c1 c2
  have q2 := mostS_congr a (turn a (m + 1) k) m c1 c2
  have l0 := leastS_le a m 0 (Nat.zero_le _)
  have lm := leastS_le a m m (Nat.le_refl _)
  have g0 := mostS_ge a m 0 (Nat.zero_le _)
  have gm := mostS_ge a m m (Nat.le_refl _)
  have w1 : ∀ (f : Int) (b : Nat → Int), 1 ≤ f → f ≤ 6 → f ≠ 2 → ofE f (m + 1) b = 0 := fun f b h1 h2 h3 => by
    rcases ofE_or (a := b) (n := m + 1) h1 h2 (by omega) with h | h
    · exact h
    · exact absurd h.1 h3
  have w2 : ∀ b : Nat → Int, ((ofE 2 (m + 1) b != 0) && (ofE 2 (m + 1) b != 16)) = false := fun b => by
    rcases ofE_or (a := b) (n := m + 1) (f := 2) (by omega) (by omega) (by omega) with h | h
    · simp [h]
    · simp [h.2]
  simp only [w1 1 _ (by omega) (by omega) (by omega), w1 3 _ (by omega) (by omega) (by omega), w1 4 _ (by omega) (by omega) (by omega), w1 5 _ (by omega) (by omega) (by omega), w1 6 _ (by omega) (by omega) (by omega), w2, v1, v3, v4, v5, v6, q1, q2]
  have hh : (m : Int) + 1 ≤ 40 := by have := h.2; omega
  have F : ∀ {p q : Prop} {b : Bool}, b = false → q → VB b p q := fun hb hq => VB_intro (fun h => by rw [hb] at h; cases h) (fun _ => hq)
  refine NB_intro (by simp only [decide_eq_true_eq]; exact ⟨hx.1, hx.2, by omega⟩) (NB_intro (by simp only [decide_eq_true_eq]; omega) (NB_intro (by simp only [decide_eq_true_eq]; omega) (NB_intro (by simp [room]; omega) (NB_intro (by simp [room]; omega)
    (F (by simp) (F (by simp) (F (by simp) (F (by simp) (F (by simp) (F ?_ ?_))))))))))
  · rw [← q1, ← q2]
    simp only [bne_self_eq_false, Bool.false_or, Bool.or_false, Bool.or_eq_false_iff, decide_eq_false_iff_not]
    omega
  · have last : ∀ {p q : Prop}, (m = 0 → p) → (m ≠ 0 → q) → VB (((m + 1 : Nat) : Int) == 1) p q := by
      intro p q hp hq
      refine VB_intro (fun h => hp ?_) (fun h => hq fun e => ?_)
      · have h1 : ((m + 1 : Nat) : Int) = 1 := beq_iff_eq.1 h
        omega
      · subst e
        simp at h
    refine last (fun e => ?_) (fun _ => trivial)
    subst e
    have hs : ofV 2 1 a = a 0 := by
      have : okTo a 1 = true := by simp only [okTo, pSum, Bool.true_and]; exact inR_iff.2 (by have := ha 0 (by omega); simpa using this)
      simp [ofV, sumV, this, pSum]
    have e1 : leastS (turn a (0 + 1) k) 0 = a 0 := by rw [← q1]; rfl
    have e2 : mostS (turn a (0 + 1) k) 0 = a 0 := by rw [← q2]; rfl
    refine NB_intro (by simp) (F (by simp [hs]) (last (fun _ => ?_) (fun e => absurd rfl e)))
    refine NB_intro (by simp) (F (by simp [e1]) (last (fun _ => ?_) (fun e => absurd rfl e)))
    refine NB_intro (by simp) (F (by simp [e2]) (last (fun _ => ?_) (fun e => absurd rfl e)))
    refine NB_intro (by simp) (F (by simp) (last (fun _ => ?_) (fun e => absurd rfl e)))
    exact NB_intro (by simp) (F (by simp) trivial)
end Go.Proofs.YtahgdngngpkeiaaDoor
