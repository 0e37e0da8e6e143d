/- NODES 12: light queries; the checks of queries, conditions. -/
import Derived.Test.YtamcloifhjafcaaGreatDoorAN10
namespace Go.Proofs.YtamcloifhjafcaaGreatDoor
open Pw Go
set_option maxRecDepth 100000
set_option linter.unusedSimpArgs false
theorem qA_refl (x : NodeG) (w : Int) (hs : List HaveG) (es : List AggG) : (qA x w hs es).sub (qA x w hs es) = True :=
 eq_true ⟨rfl, rfl, rfl, rfl, rfl, rfl, ⟨rfl, fun _ _ => ⟨⟨rfl, rfl, trivial⟩, rfl⟩, fun h => h⟩, rfl, ⟨rfl, fun _ _ => ⟨nodeA_sub 15 0 _, rfl⟩, fun h => h⟩, rfl, ⟨rfl, fun _ _ => ⟨⟨rfl, rfl, rfl, rfl, trivial⟩, rfl⟩, fun h => h⟩, ⟨rfl, fun _ _ => ⟨⟨rfl, rfl, trivial⟩, rfl⟩, fun h => h⟩, trivial⟩
theorem all_at {α : Type} {l : List α} {p : α → Bool} {d : α} : l.all p = true ↔ ∀ i, i < l.length → p (l.getD i d) = true := by
 rw [List.all_eq_true]
 constructor
 ·intro h i hi
  exact h _ (by simp [List.getD, hi])
 ·intro h y hy
  obtain ⟨i, hi, rfl⟩ := List.mem_iff_getElem.1 hy
  have := h i hi
  simpa [List.getD, hi] using this
theorem all_no {α : Type} {l : List α} {p : α → Bool} {d : α} {i : Nat} (hi : i < l.length) (h : p (l.getD i d) = false) : l.all p = false := by
 rw [Bool.eq_false_iff]
 intro hc
 rw [all_at (d := d)] at hc
 rw [hc i hi] at h
 cases h
theorem lightQ_pure (x : NodeG) (w : Int) (hs : List HaveG) (es : List AggG) : PureC Tryz.prog gN 4 [qA x w hs es] (.bool (lightQ x hs es)) := by
 refine pure_vcG mix (tblG_cons lightN_ok (tblG_nil _ _)) ((lightQ_vc x w hs es _).mpr ?_)
 have hcut : weighS 8 (nodeOf 9 (nodeA 16 x)) = weighS 8 x := by rw [(nodeT_is 9 16 x (by decide)).2, weighS_cut 8]
 have hN : lightN (nodeOf 9 (nodeA 16 x)) = lightN x := by unfold lightN; rw [hcut]
 simp only [qA_refl, EqI, true_and, and_true, imp_self, implies_true, Int.toNat_natCast, hN, (nodeT_is 9 16 x (by decide)).1, NB_t]
 have h0 : lightQ x hs es = (lightN x && decide (hs.length ≤ 10) && decide (es.length ≤ 10) && hs.all (fun h => decide (h.1.2.1.length ≤ 20)) && es.all (fun a => decide (a.2.1.length ≤ 20))) := rfl
 refine VB_intro (fun h => ?_) (fun h => ?_)
 ·simp only [Bool.or_eq_true, Bool.not_eq_true', decide_eq_true_eq] at h
  rw [h0]
  rcases h with (h | h) | h
  ·rw [h]; rfl
  ·rw [decide_eq_false (show ¬ hs.length ≤ 10 by omega)]; simp
  ·rw [decide_eq_false (show ¬ es.length ≤ 10 by omega)]; simp
 ·simp only [Bool.or_eq_false_iff, Bool.not_eq_false', decide_eq_false_iff_not] at h
  obtain ⟨⟨h1, h2⟩, h3⟩ := h
  have h0 : lightQ x hs es = (hs.all (fun h => decide (h.1.2.1.length ≤ 20)) && es.all (fun a => decide (a.2.1.length ≤ 20))) := by
   rw [h0, h1, decide_eq_true (show hs.length ≤ 10 by omega), decide_eq_true (show es.length ≤ 10 by omega)]
   simp
  rw [h0]
  refine ⟨⟨0, ⟨by omega, fun j hj => by omega⟩, rfl⟩, fun i ⟨hi1, hi2⟩ => VB_intro (fun h => ?_) (fun h => ?_)⟩
  ·have hlt : i < hs.length := by have := of_decide_eq_true h; omega
   refine NB_intro (decide_eq_true (by omega)) (VB_intro (fun h => ?_) (fun h => ?_))
   ·have h := of_decide_eq_true h
    rw [all_no (d := haveD) hlt (by show decide _ = false; exact decide_eq_false (by omega))]
    rfl
   ·have h := of_decide_eq_false h
    refine ⟨i + 1, ⟨by omega, fun j hj => ?_⟩, by simp only [invLQ1]; omega, by rw [wrap_i64_id (by omega) (by omega)]; omega⟩
    rcases Nat.lt_or_ge j i with h' | h'
    ·exact hi2 j h'
    ·obtain rfl : j = i := by omega
     omega
  ·have hie : i = hs.length := by have := of_decide_eq_false h; omega
   subst hie
   have ha : hs.all (fun h => decide (h.1.2.1.length ≤ 20)) = true := (all_at (d := haveD)).2 fun i hi => decide_eq_true (hi2 i hi)
   rw [ha, Bool.true_and]
   refine ⟨⟨0, ⟨by omega, hi2, fun j hj => by omega⟩, rfl⟩, fun i ⟨hj1, _, hj2⟩ => VB_intro (fun h => ?_) (fun h => ?_)⟩
   ·have hlt : i < es.length := by have := of_decide_eq_true h; omega
    refine NB_intro (decide_eq_true (by omega)) (VB_intro (fun h => ?_) (fun h => ?_))
    ·have h := of_decide_eq_true h
     rw [all_no (d := aggD) hlt (by show decide _ = false; exact decide_eq_false (by omega))]
    ·have h := of_decide_eq_false h
     refine ⟨i + 1, ⟨by omega, hi2, fun j hj => ?_⟩, by simp only [invLQ2]; omega, by rw [wrap_i64_id (by omega) (by omega)]; omega⟩
     rcases Nat.lt_or_ge j i with h' | h'
     ·exact hj2 j h'
     ·obtain rfl : j = i := by omega
      omega
   ·have hie : i = es.length := by have := of_decide_eq_false h; omega
    subst hie
    exact ((all_at (d := aggD)).2 fun i hi => decide_eq_true (hj2 i hi)).symm
def aggB (f : Int) (s : List UInt8) : Bool := decide (1 ≤ f) && decide (f ≤ 6) && nameS s
def cAgg : Ctr
 | [.agg [.int .i64 f, .str s]] => some (decide (s.length ≤ 9223372036854775807), .bool (aggB f s))
 | _ => none
abbrev havesA (hs : List HaveG) : AV := .rof hs.length (fun i => haveA (hs.getD i haveD)) false
abbrev aggsA (es : List AggG) : AV := .rof es.length (fun i => aggA (es.getD i aggD)) false
def haveB (h : HaveG) : Bool := aggB h.1.1 h.1.2.1 && okOp h.2.1.1
def aggBG (a : AggG) : Bool := aggB a.1 a.2.1
def cSoundE : Ctr
 | [n] => some (isNode 8 n, .int .i64 (sndE (nodeOf 8 n)))
 | _ => none
def invHC (hs : List HaveG) : Inv := ⟨Nat, 50, fun i => ⟨[(0, havesA hs), (1, .fn (.func 92) [] []), (6, havesA hs), (7, .int .i64 hs.length), (8, .int .i64 i)], []⟩, fun i => i ≤ hs.length ∧ ∀ j, j < i → haveB (hs.getD j haveD) = true, fun i => hs.length - i⟩
def invAC (es : List AggG) : Inv := ⟨Nat, 50, fun i => ⟨[(0, aggsA es), (1, .fn (.func 96) [] []), (6, aggsA es), (7, .int .i64 es.length), (8, .int .i64 i)], []⟩, fun i => i ≤ es.length ∧ ∀ j, j < i → aggBG (es.getD j aggD) = true, fun i => es.length - i⟩
theorem aggI_vc (f : Int) (s : List UInt8) (r : Bool) : (vcFun (mkG Tryz.prog gN (tblOf tblN) (fun _ _ => none) 0) 20 93 [.agg [.int .i64 f, .str s]] .nil 0 (retP 3 (.bool r))).sat = ( NB (impB (isW true (decide (f ≥ (1 : Int)) && decide (f ≤ (6 : Int)))) (decide (s.length ≤ (9223372036854775807 : Nat)))) ((decide (f ≥ (1 : Int)) && decide (f ≤ (6 : Int)) && nameS s) = r)) := by
 kernel_rfl
theorem aggR_vc (f : Int) (s : List UInt8) (r : Bool) : (vcFun (mkG Tryz.prog gN (tblOf tblN) (fun _ _ => none) 0) 20 70 [.agg [.int .i64 f, .str s]] .nil 0 (retP 3 (.bool r))).sat = ( NB (impB (isW true (decide (f ≥ (1 : Int)) && decide (f ≤ (6 : Int)))) (decide (s.length ≤ (9223372036854775807 : Nat)))) ((decide (f ≥ (1 : Int)) && decide (f ≤ (6 : Int)) && nameS s) = r)) := by
 kernel_rfl
theorem hcI_vc (hs : List HaveG) (r : Bool) : (vcFun (mkG Tryz.prog gN (tblOf [(93, cAgg)]) (fun f b => if f = 108 ∧ b = 0 then some (invHC hs) else none) 0) 20 91 [havesA hs, .fn (.func 92) [] []] .nil 0 (retP 3 (.bool r))).sat = (let c0 := (hs.length = hs.length ∧ (∀ (i : Nat), i < hs.length → ((hs.getD i haveD).fst.fst = (hs.getD i haveD).fst.fst ∧ (hs.getD i haveD).fst.snd.fst = (hs.getD i haveD).fst.snd.fst ∧ (hs.getD i haveD).snd.fst.fst = (hs.getD i haveD).snd.fst.fst ∧ (hs.getD i haveD).snd.fst.snd.fst = (hs.getD i haveD).snd.fst.snd.fst ∧ True) ∧ [AV.int IntKind.i64 (hs.getD i haveD).fst.fst, AV.str (hs.getD i haveD).fst.snd.fst, AV.int IntKind.i64 (hs.getD i haveD).snd.fst.fst, AV.int IntKind.i64 (hs.getD i haveD).snd.fst.snd.fst].length = [AV.int IntKind.i64 (hs.getD i haveD).fst.fst, AV.str (hs.getD i haveD).fst.snd.fst, AV.int IntKind.i64 (hs.getD i haveD).snd.fst.fst, AV.int IntKind.i64 (hs.getD i haveD).snd.fst.snd.fst].length) ∧ (false = true → false = true))
 let c3 := fun (i : Nat) => (i ≤ hs.length ∧ ∀ (j : Nat), j < i → haveB (hs.getD j haveD) = true)
 let c1 := fun (i : Nat) => (∃ (i' : Nat), (c3 i') ∧ (invHC hs).μ i' < (invHC hs).μ i ∧ (c0 ∧ (Fn.func (92 : FuncId) = Fn.func (92 : FuncId) ∧ True ∧ True) ∧ c0 ∧ (↑hs.length : Int) = (↑hs.length : Int) ∧ IntKind.i64.wrap ((↑i : Int) + (1 : Int)) = (↑i' : Int) ∧ True) ∧ True)
 let c2 := fun (i : Nat) => (hs.getD (↑i : Int).toNat haveD)
 (∃ (i : Nat), (c3 i) ∧ (c0 ∧ (Fn.func (92 : FuncId) = Fn.func (92 : FuncId) ∧ True ∧ True) ∧ c0 ∧ (↑hs.length : Int) = (↑hs.length : Int) ∧ (0 : Int) = (↑i : Int) ∧ True) ∧ True) ∧ ∀ (i : Nat), (c3 i) → VB (decide ((↑i : Int) < (↑hs.length : Int))) (NB (decide ((0 : Int) ≤ (↑i : Int) ∧ (↑i : Int) < (↑hs.length : Int))) (NB (decide ((c2 i).fst.snd.fst.length ≤ (9223372036854775807 : Nat))) (VB (isW false !aggB (c2 i).fst.fst (c2 i).fst.snd.fst) (VB (!aggB (c2 i).fst.fst (c2 i).fst.snd.fst || !(decide ((c2 i).snd.fst.fst ≥ (1 : Int)) && decide ((c2 i).snd.fst.fst ≤ (6 : Int)))) (decide ((↑i : Int) ≥ (0 : Int)) = r) (c1 i)) (VB (!aggB (c2 i).fst.fst (c2 i).fst.snd.fst || true) (decide ((↑i : Int) ≥ (0 : Int)) = r) (c1 i))))) (false = r)) := by
 kernel_rfl
theorem acI_vc (es : List AggG) (r : Bool) : (vcFun (mkG Tryz.prog gN (tblOf [(93, cAgg)]) (fun f b => if f = 110 ∧ b = 0 then some (invAC es) else none) 0) 20 95 [aggsA es, .fn (.func 96) [] []] .nil 0 (retP 3 (.bool r))).sat = ( (∃ (i : Nat), (i ≤ es.length ∧ ∀ (j : Nat), j < i → aggBG (es.getD j aggD) = true) ∧ ((es.length = es.length ∧ (∀ (i : Nat), i < es.length → ((es.getD i aggD).fst = (es.getD i aggD).fst ∧ (es.getD i aggD).snd.fst = (es.getD i aggD).snd.fst ∧ True) ∧ [AV.int IntKind.i64 (es.getD i aggD).fst, AV.str (es.getD i aggD).snd.fst].length = [AV.int IntKind.i64 (es.getD i aggD).fst, AV.str (es.getD i aggD).snd.fst].length) ∧ (false = true → false = true)) ∧ (Fn.func (96 : FuncId) = Fn.func (96 : FuncId) ∧ True ∧ True) ∧ (es.length = es.length ∧ (∀ (i : Nat), i < es.length → ((es.getD i aggD).fst = (es.getD i aggD).fst ∧ (es.getD i aggD).snd.fst = (es.getD i aggD).snd.fst ∧ True) ∧ [AV.int IntKind.i64 (es.getD i aggD).fst, AV.str (es.getD i aggD).snd.fst].length = [AV.int IntKind.i64 (es.getD i aggD).fst, AV.str (es.getD i aggD).snd.fst].length) ∧ (false = true → false = true)) ∧ (↑es.length : Int) = (↑es.length : Int) ∧ (0 : Int) = (↑i : Int) ∧ True) ∧ True) ∧ ∀ (i : Nat), (i ≤ es.length ∧ ∀ (j : Nat), j < i → aggBG (es.getD j aggD) = true) → VB (decide ((↑i : Int) < (↑es.length : Int))) (NB (decide ((0 : Int) ≤ (↑i : Int) ∧ (↑i : Int) < (↑es.length : Int))) (NB (decide ((es.getD (↑i : Int).toNat aggD).snd.fst.length ≤ (9223372036854775807 : Nat))) (VB (!aggB (es.getD (↑i : Int).toNat aggD).fst (es.getD (↑i : Int).toNat aggD).snd.fst) (decide ((↑i : Int) ≥ (0 : Int)) = r) (∃ (i' : Nat), (i' ≤ es.length ∧ ∀ (j : Nat), j < i' → aggBG (es.getD j aggD) = true) ∧ (invAC es).μ i' < (invAC es).μ i ∧ ((es.length = es.length ∧ (∀ (i : Nat), i < es.length → ((es.getD i aggD).fst = (es.getD i aggD).fst ∧ (es.getD i aggD).snd.fst = (es.getD i aggD).snd.fst ∧ True) ∧ [AV.int IntKind.i64 (es.getD i aggD).fst, AV.str (es.getD i aggD).snd.fst].length = [AV.int IntKind.i64 (es.getD i aggD).fst, AV.str (es.getD i aggD).snd.fst].length) ∧ (false = true → false = true)) ∧ (Fn.func (96 : FuncId) = Fn.func (96 : FuncId) ∧ True ∧ True) ∧ (es.length = es.length ∧ (∀ (i : Nat), i < es.length → ((es.getD i aggD).fst = (es.getD i aggD).fst ∧ (es.getD i aggD).snd.fst = (es.getD i aggD).snd.fst ∧ True) ∧ [AV.int IntKind.i64 (es.getD i aggD).fst, AV.str (es.getD i aggD).snd.fst].length = [AV.int IntKind.i64 (es.getD i aggD).fst, AV.str (es.getD i aggD).snd.fst].length) ∧ (false = true → false = true)) ∧ (↑es.length : Int) = (↑es.length : Int) ∧ IntKind.i64.wrap ((↑i : Int) + (1 : Int)) = (↑i' : Int) ∧ True) ∧ True)))) (false = r)) := by
 kernel_rfl
theorem sndI_vc (x : NodeG) (r : Int) : (vcFun (mkG Tryz.prog gN (tblOf [(86, cSoundI 8)]) (fun _ _ => none) 0) 20 67 [nodeA 9 x] .nil 0 (retP 3 (.int .i64 r))).sat = ( NB (isNode (8 : Nat) (nodeA (9 : Nat) x) && true && true) (VB (!soundB (Int.toNat (200 : Int)) (nodeOf (8 : Nat) (nodeA (9 : Nat) x))) ((3 : Int) = r) ((0 : Int) = r))) := by
 kernel_rfl
theorem sndR_vc (x : NodeG) (r : Int) : (vcFun (mkG Tryz.prog gN (tblOf [(69, cSoundR 8)]) (fun _ _ => none) 0) 20 65 [nodeA 9 x] .nil 0 (retP 3 (.int .i64 r))).sat = ( NB (isNode (8 : Nat) (nodeA (9 : Nat) x) && true && true) (VB (!soundB ((201 : Int) - (1 : Int)).toNat (nodeOf (8 : Nat) (nodeA (9 : Nat) x))) ((3 : Int) = r) ((0 : Int) = r))) := by
 kernel_rfl
end Go.Proofs.YtamcloifhjafcaaGreatDoor
