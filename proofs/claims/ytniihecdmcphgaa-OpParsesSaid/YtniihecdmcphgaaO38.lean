/- OP 38: lists of operations read: the contract of ParseList. -/
import Derived.Test.YtniihecdmcphgaaO37
namespace Go.Proofs.Ytniihecdmcphgaa
open Pw Go
set_option maxRecDepth 100000
set_option linter.unusedSimpArgs false
def plGo (s : List UInt8) : Nat → Nat → Nat × Int × Int
 | 0, _ => (0, 0, 0)
 | f + 1, j => if oOff s j < s.length then (if j = 400 then (0, 4, oOff s j) else if oErr s j ≠ 0 then (0, oErr s j, oFat s j) else plGo s f (j + 1)) else (j, 0, 0)
def plS (s : List UInt8) : Nat × Int × Int := if (s.length : Int) > 20000 then (0, 4, 20000) else plGo s 401 0
def plQ (s : List UInt8) (j : Nat) : Prop := good s j ∧ j ≤ 400 ∧ plGo s (401 - j) j = plGo s 401 0 ∧ 0 ≤ oOff s j ∧ oOff s j ≤ s.length
theorem plQ_0 (s : List UInt8) : plQ s 0 := ⟨fun i hi => by omega, by omega, rfl, Int.le_refl _, by show (0 : Int) ≤ s.length; omega⟩
theorem plQ_succ {s : List UInt8} {j : Nat} (h : plQ s j) (h1 : oOff s j < s.length) (h2 : j ≠ 400) (h3 : oErr s j = 0) : plQ s (j + 1) := by
 obtain ⟨k1, k2, k3, k4, k5⟩ := h
 have hb := (opNext_rd k4 k5).1.bounds
 refine ⟨fun i hi => ?_, by omega, ?_, hb.1, hb.2⟩
 ·by_cases e : i = j
  ·subst e; exact ⟨h3, k4, h1⟩
  ·exact k1 i (by omega)
 ·have e : 401 - j = (401 - (j + 1)) + 1 := by omega
  rw [e, plGo, if_pos h1, if_neg h2, if_neg (by omega)] at k3
  exact k3
theorem pl_end {s : List UInt8} {j : Nat} (h : plQ s j) : plGo s 401 0 = if oOff s j < s.length then (if j = 400 then (0, 4, oOff s j) else if oErr s j ≠ 0 then (0, oErr s j, oFat s j) else plGo s (400 - j) (j + 1)) else (j, 0, 0) := by
 obtain ⟨k1, k2, k3, k4, k5⟩ := h
 have e : 401 - j = (400 - j) + 1 := by omega
 rw [← k3, e, plGo]
theorem plist_pure (s : List UInt8) (hl : s.length ≤ 9223372036854775807) : PureC Try.prog (fun _ => .undef) 20 [.str s] (.tup [.rof (plS s).1 (fun i => (oAt s i).av) false, .agg [.int .i64 (plS s).2.1, .int .i64 (plS s).2.2]]) := by
  refine pure_vc (t := tblOf tblN) (inv := fun h b => if h = 47 ∧ b = 0 then some (invPL s (plQ s)) else none) (k := 20) (d := 3) mix tblN_ok ((plist_vc s (plQ s) _ _ _ _).mpr ?_)
  refine VB_intro (fun h => ?_) (fun h => ?_)
  · have h : (s.length : Int) > 20000 := of_decide_eq_true h
    simp [plS, h]
  have h20 : ¬ (s.length : Int) > 20000 := of_decide_eq_false h
  have hS : plS s = plGo s 401 0 := by unfold plS; rw [if_neg h20]
  rw [hS]
  refine ⟨⟨(0, 0), plQ_0 s, by simp [oOff]⟩, fun i hQ => ?_⟩
  obtain ⟨j, gen⟩ := i
  have hend := pl_end hQ
  have hQ' := hQ
  obtain ⟨k1, k2, k3, k4, k5⟩ := hQ'
  refine VB_intro (fun h => ?_) (fun h => ?_)
  · have h1 : oOff s j < s.length := of_decide_eq_true h
    rw [if_pos h1] at hend
    refine NB_intro (by simp only [Bool.and_eq_true, decide_eq_true_eq]; exact ⟨⟨hl, k4⟩, h1⟩) (VB_intro (fun h => ?_) (fun h => ?_))
    · have h2 : j = 400 := by have : (j : Int) = 400 := beq_iff_eq.1 h
                              omega
      rw [if_pos h2] at hend
      rw [hend]
      exact ⟨rfl, ⟨rfl, rfl, trivial⟩, trivial⟩
    · have h2 : j ≠ 400 := fun e => by subst e; simp at h
      rw [if_neg h2] at hend
      refine VB_intro (fun h => ?_) (fun h => ?_)
      · have h3 : oErr s j ≠ 0 := by have : (opNext s (oOff s j)).2.err ≠ 0 := by simpa using h
                                     exact this
        rw [if_pos h3] at hend
        rw [hend]
        exact ⟨rfl, ⟨rfl, rfl, trivial⟩, trivial⟩
      · have h3 : oErr s j = 0 := by have : (opNext s (oOff s j)).2.err = 0 := by simpa using h
                                     exact this
        refine NB_intro (by simp [room]; omega) (VB_intro (fun h => ?_) (fun _ => ?_))
        · exfalso
          have : (opNext s (oOff s j)).2.err ≠ 0 := by simpa using h
          exact this h3
        · refine ⟨(j + 1, gen + 1), plQ_succ hQ h1 h2 h3, by show 500 - (j + 1) < 500 - j; omega, ⟨rfl, ⟨rfl, rfl, rfl⟩, rfl, trivial⟩, ⟨rfl, fun h => h, ⟨trivial, rfl⟩, trivial⟩, ⟨rfl, fun h => h, ⟨⟨rfl, rfl, trivial⟩, rfl⟩, trivial⟩,
            ⟨rfl, fun h => h, ⟨⟨rfl, rfl, rfl, .inl rfl⟩, rfl⟩, trivial⟩, ⟨rfl, fun h => h, ⟨rfl, rfl⟩, trivial⟩, ⟨rfl, fun h => h, rfl, fun q hq => ?_⟩, trivial⟩
          by_cases hqj : q < j
          · simp only [if_pos hqj, Nat.zero_add]
            exact ⟨⟨rfl, rfl, rfl, rfl, rfl, rfl, rfl, rfl, trivial⟩, rfl⟩
          · have hq : q < j + 1 := hq
            have e : q = j := by omega
            subst e
            simp only [if_neg hqj, Nat.sub_self]
            exact ⟨⟨rfl, rfl, rfl, rfl, rfl, rfl, rfl, rfl, trivial⟩, rfl⟩
  · have h1 : ¬ (oOff s j < s.length) := of_decide_eq_false h
    rw [if_neg h1] at hend
    rw [hend]
    refine NB_intro (by simp) ⟨⟨rfl, fun q hq => ?_, fun h => by cases h⟩, ⟨rfl, rfl, trivial⟩, trivial⟩
    simp
def cPList : Ctr
 | [.str s] => some (decide (s.length ≤ 9223372036854775807), .tup [.rof (plS s).1 (fun i => (oAt s i).av) false, .agg [.int .i64 (plS s).2.1, .int .i64 (plS s).2.2]])
 | _ => none
theorem plist_ok : PureF Try.prog 20 cPList := by
 intro args nd v h hnd
 unfold cPList at h
 split at h <;> cases h
 exact plist_pure _ (of_decide_eq_true hnd)
end Go.Proofs.Ytniihecdmcphgaa
