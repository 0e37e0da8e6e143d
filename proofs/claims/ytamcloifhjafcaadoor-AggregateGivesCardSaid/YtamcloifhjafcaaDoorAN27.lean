/- NODES 27: the values of a name: contracts of both codes. -/
import Derived.Test.YtamcloifhjafcaaDoorAN26
namespace Go.Proofs.YtamcloifhjafcaaDoor
open Pw Go
set_option maxRecDepth 100000
set_option linter.unusedSimpArgs false

def nmErr (m : Int) (A : List AtomG) (N : List Bool) (nm : List UInt8) : Int := if m ≠ 0 then m else if knK A N nm A.length = false then 12 else 0
def nmVal (m : Int) (ev : List EvG) (A : List AtomG) (N : List Bool) (ps : List PlG) (nm : List UInt8) : List Int := if nmErr m A N nm = 0 then vlK ev A ps nm ps.length else []
theorem knK_succ (A : List AtomG) (N : List Bool) (nm : List UInt8) (i : Nat) : knK A N nm (i + 1) = (knK A N nm i || (an (A.getD i atomD) == nm && !N.getD i false)) := by
  simp [knK, List.range_succ, List.any_append]
theorem vlK_succ {ev : List EvG} {A : List AtomG} {ps : List PlG} {nm : List UInt8} {j : Nat} (hj : j < ps.length) : vlK ev A ps nm (j + 1) = if isNm A nm (ps.getD j plD) = true then vlK ev A ps nm j ++ [(ev.getD (ps.getD j plD).1.toNat evD).2.2.2.2.1] else vlK ev A ps nm j := by
  have := take_getD ps plD hj
  simp only [vlK, this, List.filter_append, List.map_append]
  generalize ps.getD j plD = p
  cases h : isNm A nm p <;> simp [List.filter_cons, h]
theorem vlK_len (ev : List EvG) (A : List AtomG) (ps : List PlG) (nm : List UInt8) (j : Nat) : (vlK ev A ps nm j).length ≤ ps.length := by
  simp only [vlK, List.length_map]
  have h1 := List.length_filter_le (isNm A nm) (ps.take j)
  have h2 := List.length_take_le' j ps
  omega
theorem int_app {L : List Int} {a : Int} {q : Nat} (hq : q < L.length + 1) :
    (if q < L.length then AV.int IntKind.i64 (L.getD q 0) else ((Sq.lst [AV.int IntKind.i64 a]).sub 0 1).get (q - L.length)).sub (AV.int IntKind.i64 ((L ++ [a]).getD q 0)) ∧ (if q < L.length then AV.int IntKind.i64 (L.getD q 0) else ((Sq.lst [AV.int IntKind.i64 a]).sub 0 1).get (q - L.length)).cells.length = [AV.int IntKind.i64 ((L ++ [a]).getD q 0)].length :=
  app_row (F := AV.int IntKind.i64) hq (fun a => by simp [AV.sub])
theorem named_sat (x : NodeG) (w : Int) (hs : List HaveG) (es : List AggG) (ev : List EvG) (ps : List PlG) (m : Int) (A : List AtomG) (N : List Bool) (nm : List UInt8) (hAN : A.length = N.length) (hA : A.length ≤ 1000) (hp : ps.length ≤ 40) (hr : m = 0 → ∀ j, j < ps.length → outB ev.length N.length (ps.getD j plD) = false) :
    (vcFun (mkG Tryd.prog gN (tblOf (tblG1 x w hs es ev ps m A N)) (fun f b => if f = 13 ∧ b = 0 then some (invD1 ev ps A N nm) else if f = 13 ∧ b = 2 then some (invD2 ev ps A nm) else none) 0) 20 13 [qA x w hs es, evsA ev, mA ps, .str nm] .nil 0 (retP 4 (.tup [isA (nmVal m ev A N ps nm), .int .i64 (nmErr m A N nm)]))).sat := by
  refine (named_vc x w hs es ev ps m A N nm _ _).mpr ?_
  simp only [EqI, true_and, and_true, imp_self, implies_true, Int.toNat_natCast, Nat.zero_add, or_self]
  refine NB_intro (atB_self _) ?_
  refine VB_intro (fun h => ?_) (fun h => ?_)
  · have hm : m ≠ 0 := by simpa using h
    have hE : nmErr m A N nm = m := if_pos hm
    rw [hE]
    exact ⟨by simp [nmVal, hE, hm], rfl⟩
  have hm : m = 0 := by simpa using h
  replace hr := hr hm
  refine ⟨⟨0, Nat.zero_le _, rfl, rfl⟩, fun i hi => VB_intro (fun h1 => ?_) (fun h1 => ?_)⟩
  · have hlt : i < A.length := by have := of_decide_eq_true h1; omega
    refine NB_intro (decide_eq_true (by omega)) (NB_intro (by rw [decide_eq_true (show (0 : Int) ≤ (i : Int) ∧ (i : Int) < N.length by omega)]; exact impB_t.2 fun _ => rfl) ⟨i + 1, hlt, by simp only [invD1]; omega, ?_, by rw [wrap_i64_id (by omega) (by omega)]; omega⟩)
    rw [knK_succ]
  have hi : i ≤ A.length := hi
  have hie : i = A.length := by have := of_decide_eq_false h1; omega
  subst hie
  refine VB_intro (fun h2 => ?_) (fun h2 => ?_)
  · have h2 : knK A N nm A.length = false := by simpa using h2
    have hE : nmErr m A N nm = 12 := by simp [nmErr, hm, h2]
    rw [hE]
    exact ⟨by simp [nmVal, hE], rfl⟩
  have h2 : knK A N nm A.length = true := by simpa using h2
  have hE : nmErr m A N nm = 0 := by simp [nmErr, hm, h2]
  have hV : nmVal m ev A N ps nm = vlK ev A ps nm ps.length := by simp [nmVal, hE]
  rw [hE, hV]
  refine ⟨⟨(0, 0), Nat.zero_le _, ⟨⟨rfl, rfl⟩, rfl⟩, rfl⟩, fun p hp2 => VB_intro (fun h3 => ?_) (fun h3 => ?_)⟩
  · obtain ⟨j, gen⟩ := p
    have hj : j < ps.length := by have := of_decide_eq_true h3; simp only at this; omega
    obtain ⟨o1, o2, o3, o4⟩ := out_in (hr j hj)
    have hle := vlK_len ev A ps nm j
    have hs := vlK_succ (ev := ev) (A := A) (nm := nm) hj
    refine NB_intro (decide_eq_true (by simp only; omega)) (NB_intro (decide_eq_true (by simp only; omega)) (VB_intro (fun h4 => ?_) (fun h4 => ?_)))
    · have h4 : isNm A nm (ps.getD j plD) = true := h4
      rw [if_pos h4] at hs
      have hsl : (vlK ev A ps nm (j + 1)).length = (vlK ev A ps nm j).length + 1 := by rw [hs]; simp
      refine (NB_intro (decide_eq_true (by simp only; omega)) (NB_intro (by simp only [Bool.true_and, decide_true, room]; exact decide_eq_true (by show ((vlK ev A ps nm j).length + 1) * 8 ≤ _ ∧ (vlK ev A ps nm j).length + 1 ≤ _; omega)) ⟨(j + 1, gen + 1), hj, by simp only [invD2]; omega, ⟨⟨rfl, hsl.symm⟩, by simp only; rw [wrap_i64_id (by omega) (by omega)]; omega⟩, rfl, hsl.symm, fun q hq => ?_⟩))
      simp only [hs]
      exact int_app hq
    · have h4 : isNm A nm (ps.getD j plD) = false := h4
      rw [h4] at hs
      simp only [Bool.false_eq_true, if_false] at hs
      refine ⟨(j + 1, gen), hj, by simp only [invD2]; omega, ⟨⟨rfl, by simp only [hs]⟩, by simp only; rw [wrap_i64_id (by omega) (by omega)]; omega⟩, rfl, by simp only [hs], fun q hq => ?_⟩
      simp only [hs]
      exact ⟨trivial, trivial⟩
  · obtain ⟨j, gen⟩ := p
    have hp2 : j ≤ ps.length := hp2
    have hj : j = ps.length := by have := of_decide_eq_false h3; simp only at this; omega
    subst hj
    exact NB_intro (by simp) ⟨⟨rfl, fun q hq => ⟨rfl, rfl⟩, fun h => by cases h⟩, rfl⟩
theorem refnamed_sat (x : NodeG) (w : Int) (hs : List HaveG) (es : List AggG) (ev : List EvG) (ps : List PlG) (e1 e2 : Int) (A : List AtomG) (N : List Bool) (nm : List UInt8) (hAN : A.length = N.length) (hA : A.length ≤ 1000) (hp : ps.length ≤ 40) (hr : ∀ j, j < ps.length → outB ev.length N.length (ps.getD j plD) = false) :
    (vcFun (mkG Tryd.prog gN (tblOf (tblG2 x e1 e2 A N)) (fun f b => if f = 48 ∧ b = 0 then some (invE1 ev ps A N nm) else if f = 48 ∧ b = 2 then some (invE2 ev ps A nm) else none) 0) 20 48 [qA x w hs es, evsA ev, mA ps, .str nm] .nil 0 (retP 4 (.tup [isA (nmVal 0 ev A N ps nm), .int .i64 (nmErr 0 A N nm)]))).sat := by
  refine (refnamed_vc x w hs es ev ps e1 e2 A N nm _ _).mpr ?_
  simp only [EqI, true_and, and_true, imp_self, implies_true, Int.toNat_natCast, Nat.zero_add, or_self]
  simp only [atB_self, NB_t]
  refine ⟨⟨0, Nat.zero_le _, rfl, rfl⟩, fun i hi => VB_intro (fun h1 => ?_) (fun h1 => ?_)⟩
  · have hlt : i < A.length := by have := of_decide_eq_true h1; omega
    refine NB_intro (by rw [decide_eq_true (show (0 : Int) ≤ (i : Int) ∧ (i : Int) < N.length by omega)]; exact impB_t.2 fun _ => rfl) (NB_intro (by rw [decide_eq_true (show (0 : Int) ≤ (i : Int) ∧ (i : Int) < A.length by omega)]; exact impB_t.2 fun _ => rfl) ⟨i + 1, hlt, by simp only [invE1]; omega, ?_, by rw [wrap_i64_id (by omega) (by omega)]; omega⟩)
    rw [knK_succ]
    rw [Bool.and_comm]
  have hi : i ≤ A.length := hi
  have hie : i = A.length := by have := of_decide_eq_false h1; omega
  subst hie
  refine VB_intro (fun h2 => ?_) (fun h2 => ?_)
  · have h2 : knK A N nm A.length = false := by simpa using h2
    have hE : nmErr 0 A N nm = 12 := by simp [nmErr, h2]
    rw [hE]
    exact ⟨by simp [nmVal, hE], rfl⟩
  have h2 : knK A N nm A.length = true := by simpa using h2
  have hE : nmErr 0 A N nm = 0 := by simp [nmErr, h2]
  have hV : nmVal 0 ev A N ps nm = vlK ev A ps nm ps.length := by simp [nmVal, hE]
  rw [hE, hV]
  refine ⟨⟨(0, 0), Nat.zero_le _, ⟨⟨rfl, rfl⟩, rfl⟩, rfl⟩, fun p hp2 => VB_intro (fun h3 => ?_) (fun h3 => ?_)⟩
  · obtain ⟨j, gen⟩ := p
    have hj : j < ps.length := by have := of_decide_eq_true h3; simp only at this; omega
    obtain ⟨o1, o2, o3, o4⟩ := out_in (hr j hj)
    have hle := vlK_len ev A ps nm j
    have hs := vlK_succ (ev := ev) (A := A) (nm := nm) hj
    refine NB_intro (decide_eq_true (by simp only; omega)) (NB_intro (decide_eq_true (by simp only; omega)) (VB_intro (fun h4 => ?_) (fun h4 => ?_)))
    · have h4 : isNm A nm (ps.getD j plD) = true := h4
      rw [if_pos h4] at hs
      have hsl : (vlK ev A ps nm (j + 1)).length = (vlK ev A ps nm j).length + 1 := by rw [hs]; simp
      refine NB_intro (decide_eq_true (by simp only; omega)) (NB_intro (decide_eq_true (by simp only; omega)) (NB_intro (by simp only [Bool.true_and, decide_true, room]; exact decide_eq_true (by show ((vlK ev A ps nm j).length + 1) * 8 ≤ _ ∧ (vlK ev A ps nm j).length + 1 ≤ _; omega)) ⟨(j + 1, gen + 1), hj, by simp only [invE2]; omega, ⟨⟨rfl, hsl.symm⟩, by simp only; rw [wrap_i64_id (by omega) (by omega)]; omega⟩, rfl, hsl.symm, fun q hq => ?_⟩))
      simp only [hs]
      exact int_app hq
    · have h4 : isNm A nm (ps.getD j plD) = false := h4
      rw [h4] at hs
      simp only [Bool.false_eq_true, if_false] at hs
      refine ⟨(j + 1, gen), hj, by simp only [invE2]; omega, ⟨⟨rfl, by simp only [hs]⟩, by simp only; rw [wrap_i64_id (by omega) (by omega)]; omega⟩, rfl, by simp only [hs], fun q hq => ?_⟩
      simp only [hs]
      exact ⟨trivial, trivial⟩
  · obtain ⟨j, gen⟩ := p
    have hp2 : j ≤ ps.length := hp2
    have hj : j = ps.length := by have := of_decide_eq_false h3; simp only at this; omega
    subst hj
    exact NB_intro (by simp) ⟨⟨rfl, fun q hq => ⟨rfl, rfl⟩, fun h => by cases h⟩, rfl⟩
end Go.Proofs.YtamcloifhjafcaaDoor
