/- QUERIES D5: flow.Reads: conditions. -/
import Derived.Test.YtamcloifhjafcaaGreatDoorQD3
namespace Go.Proofs.YtamcloifhjafcaaGreatDoor
open Pw Go
set_option maxRecDepth 100000
set_option linter.unusedSimpArgs false
def rsN (A : List AtomG) (l c : Int) : Nat → Nat
 | 0 => 0
 | i + 1 => if andNotI .u64 l (atR (A.getD i atomD) c) == 0 then rsN A l c i + 1 else rsN A l c i
def invRs (A : List AtomG) (l c : Int) : Inv := ⟨Nat × Nat, 40, fun p => ⟨[(0, atsW A), (1, .fn (.func 31) [] [.ptr 1 0 0 0, .ptr 2 0 0 0]), (5, .sl 30 p.2 0 (rsN A l c p.1) none), (8, atsW A), (9, .int .i64 A.length), (10, .int .i64 p.1)],
 [(1, .row 0 1 true (.lst [.int .u64 l])), (2, .row 0 1 true (.lst [.int .u64 c])), (30, .row p.2 1 true (.fn (rsN A l c p.1) (fun _ => .undef)))]⟩, fun p => p.1 ≤ A.length, fun p => A.length - p.1⟩
noncomputable def ERs (x : NodeG) (w : Int) (hs : List HaveG) (es : List AggG) (A : List AtomG) (e s l c : Int) : Env := mkG Tryz.prog gN (tblOf [(24, cAt [qA x w hs es] (.int .i64 e)), (29, cAt [nodeA 16 x] (.tup [atsW A, .int .i64 s]))])
 (fun f b => if f = 30 ∧ b = 0 then some (invRs A l c) else none) 0
theorem reads_vc (x : NodeG) (w : Int) (hs : List HaveG) (es : List AggG) (A : List AtomG) (e s l c : Int) (r : Bool) (e' : Int) : (vcFun (ERs x w hs es A e s l c) 20 15 [qA x w hs es, .int .u64 l, .int .u64 c] .nil 0 (retP 3 (.tup [.bool r, .int .i64 e']))).sat = (let c2 := ((0 : Nat) = (0 : Nat) ∧ (0 : Nat) = (0 : Nat) ∧ (0 : Nat) = (0 : Nat))
 let c3 := ((0 : Nat) = (0 : Nat) ∧ (true = true → true = true) ∧ (l = l ∧ [AV.int IntKind.u64 l].length = [AV.int IntKind.u64 l].length) ∧ True)
 let c4 := ((0 : Nat) = (0 : Nat) ∧ (true = true → true = true) ∧ (c = c ∧ [AV.int IntKind.u64 c].length = [AV.int IntKind.u64 c].length) ∧ True)
 let c5 := fun (i_1 : Nat) (i : Nat × Nat) => (if i_1 < rsN A l c i.fst then AV.undef else ((Sq.lst [AV.int IntKind.i64 (↑i.fst : Int)]).sub (0 : Nat) (1 : Nat)).get (i_1 - rsN A l c i.fst))
 let c0 := fun (i : Nat × Nat) => (NB (true && decide (i.snd = i.snd) && room (rsN A l c i.fst + (1 : Nat)) (8 : Nat)) (∃ (i' : Nat × Nat), i'.fst.le A.length ∧ (invRs A l c).μ i' < (invRs A l c).μ i ∧ ((atsW A).sub (atsW A) ∧ (Fn.func (31 : FuncId) = Fn.func (31 : FuncId) ∧ True ∧ c2 ∧ c2 ∧ True) ∧ (i.snd + (1 : Nat) = i'.snd ∧ (0 : Nat) = (0 : Nat) ∧ rsN A l c i.fst + (1 : Nat) = rsN A l c i'.fst ∧ (@Eq (Option Nat) none none ∨ @Eq (Option Nat) none none)) ∧ (atsW A).sub (atsW A) ∧ (↑A.length : Int) = (↑A.length : Int) ∧ IntKind.i64.wrap ((↑i.fst : Int) + (1 : Int)) = (↑i'.fst : Int) ∧ True) ∧ c3 ∧ c4 ∧ (i.snd + (1 : Nat) = i'.snd ∧ (true = true → true = true) ∧ rsN A l c i.fst + (1 : Nat) = rsN A l c i'.fst ∧ ∀ (i_1 : Nat), i_1 < rsN A l c i.fst + (1 : Nat) → (c5 i_1 i).sub AV.undef ∧ (c5 i_1 i).cells.length = [AV.undef].length) ∧ True))
 let c1 := fun (i : Nat × Nat) => (∃ (i' : Nat × Nat), i'.fst.le A.length ∧ (invRs A l c).μ i' < (invRs A l c).μ i ∧ ((atsW A).sub (atsW A) ∧ (Fn.func (31 : FuncId) = Fn.func (31 : FuncId) ∧ True ∧ c2 ∧ c2 ∧ True) ∧ (i.snd = i'.snd ∧ (0 : Nat) = (0 : Nat) ∧ rsN A l c i.fst = rsN A l c i'.fst ∧ (@Eq (Option Nat) none none ∨ @Eq (Option Nat) none none)) ∧ (atsW A).sub (atsW A) ∧ (↑A.length : Int) = (↑A.length : Int) ∧ IntKind.i64.wrap ((↑i.fst : Int) + (1 : Int)) = (↑i'.fst : Int) ∧ True) ∧ c3 ∧ c4 ∧ (i.snd = i'.snd ∧ (true = true → true = true) ∧ rsN A l c i.fst = rsN A l c i'.fst ∧ ∀ (i_1 : Nat), i_1 < rsN A l c i.fst → True ∧ [AV.undef].length = [AV.undef].length) ∧ True)
 NB (atB [qA x w hs es] [qA x w hs es]) (VB (e != (0 : Int)) (false = r ∧ e = e' ∧ True) (NB (atB [nodeA (16 : Nat) x] [nodeA (16 : Nat) x]) ((∃ (i : Nat × Nat), i.fst.le A.length ∧ ((atsW A).sub (atsW A) ∧ (Fn.func (31 : Nat) = Fn.func (31 : FuncId) ∧ True ∧ c2 ∧ c2 ∧ True) ∧ (rsN A l c i.fst = (0 : Nat) ∧ i.snd = i.snd ∧ rsN A l c i.fst = (0 : Nat)) ∧ (atsW A).sub (atsW A) ∧ (↑A.length : Int) = (↑A.length : Int) ∧ (0 : Int) = (↑i.fst : Int) ∧ True) ∧ c3 ∧ c4 ∧ rsN A l c i.fst = (0 : Nat) ∧ True) ∧ ∀ (i : Nat × Nat), i.fst.le A.length → VB (decide ((↑i.fst : Int) < (↑A.length : Int))) (NB (decide ((0 : Int) ≤ (↑i.fst : Int) ∧ (↑i.fst : Int) < (↑A.length : Int))) (VB (A.getD (↑i.fst : Int).toNat atomD).snd.fst (VB (andNotI IntKind.u64 l (A.getD (↑i.fst : Int).toNat atomD).snd.snd.fst == (0 : Int)) (c0 i) (c1 i)) (VB (andNotI IntKind.u64 l c == (0 : Int)) (c0 i) (c1 i)))) (decide ((↑(rsN A l c i.fst) : Int) > (0 : Int)) = r ∧ (0 : Int) = e' ∧ True))))) := by
 kernel_rfl
end Go.Proofs.YtamcloifhjafcaaGreatDoor
namespace Go.Proofs.YtamcloifhjafcaaGreatDoor
open Pw Go
set_option maxRecDepth 100000
set_option linter.unusedSimpArgs false
def Sb (x y : AV) : Prop := x.sub y ∧ x.cells.length = y.cells.length
theorem sb_app {f G : Nat → AV} {n : Nat} {v : AV} (hf : ∀ q, q < n → Sb (f q) (G q)) (hv : Sb v (G n)) : ∀ q, q < n + 1 → Sb (if q < n then f q else ((Sq.lst [v]).sub 0 1).get (q - n)) (G q) := by
 intro q hq
 by_cases h : q < n
 ·rw [if_pos h]; exact hf q h
 ·obtain rfl : q = n := by omega
  rw [if_neg h, Nat.sub_self]
  exact hv
theorem un_sub (x : AV) : x.sub .undef := by cases x <;> trivial
theorem rsN_le (A : List AtomG) (l c : Int) : ∀ i, rsN A l c i ≤ i
 | 0 => Nat.le_refl _
 | i + 1 => by
  have := rsN_le A l c i
  simp only [rsN]
  split <;> omega
theorem reads_sat (x : NodeG) (w : Int) (hs : List HaveG) (es : List AggG) (A : List AtomG) (hA : A.length ≤ 1000000) (s l c : Int) :
  (vcFun (ERs x w hs es A 0 s l c) 20 15 [qA x w hs es, .int .u64 l, .int .u64 c] .nil 0 (retP 3 (.tup [.bool (decide ((rsN A l c A.length : Int) > 0)), .int .i64 0]))).sat := by
 rw [reads_vc]
 simp only [EqI, atsWR, and_self, true_and, and_true, implies_true, Bool.false_eq_true, false_implies, or_self, NB_t, Bool.true_and, decide_true, Bool.and_true]
 refine NB_intro (atB_self _) (VB_intro (fun h => absurd h (by simp)) (fun _ => NB_intro (atB_self _) ⟨⟨(0, 0), Nat.zero_le _, ⟨rfl, rfl⟩, rfl⟩, fun ⟨i, g⟩ hi => ?_⟩))
 have hi : i ≤ A.length := hi
 have hL := rsN_le A l c i
 refine VB_intro (fun hlt => ?_) (fun hge => ?_)
 ·rw [decide_eq_true_eq] at hlt
  simp only at hlt
  have hi1 : i + 1 ≤ A.length := by omega
  have hw : IntKind.i64.wrap ((i : Int) + 1) = ((i + 1 : Nat) : Int) := by rw [wrap_i64_id (by omega) (by omega)]; rfl
  have hr : room (rsN A l c i + 1) 8 = true := by simp [room]; omega
  have yes : ∀ hb : (andNotI .u64 l (atR (A.getD i atomD) c) == 0) = true, rsN A l c (i + 1) = rsN A l c i + 1 := fun hb => by simp only [rsN, hb, if_true]
  have no : ∀ hb : ¬ (andNotI .u64 l (atR (A.getD i atomD) c) == 0) = true, rsN A l c (i + 1) = rsN A l c i := fun hb => by simp only [rsN]; rw [if_neg hb]
  simp only [Int.toNat_natCast]
  have hun : ∀ q, q < rsN A l c i + 1 → (if q < rsN A l c i then AV.undef else ((Sq.lst [AV.int .i64 (i : Int)]).sub 0 1).get (q - rsN A l c i)).sub AV.undef ∧
    (if q < rsN A l c i then AV.undef else ((Sq.lst [AV.int .i64 (i : Int)]).sub 0 1).get (q - rsN A l c i)).cells.length = [AV.undef].length :=
   sb_app (f := fun _ => .undef) (G := fun _ => .undef) (fun q _ => ⟨un_sub _, rfl⟩) ⟨un_sub _, rfl⟩
  refine NB_intro (by rw [decide_eq_true_eq]; omega) (VB_intro (fun hb => ?_) (fun hb => ?_))
  ·have ha : atR (A.getD i atomD) c = (A.getD i atomD).2.2.1 := if_pos hb
   rw [ha] at yes no
   refine VB_intro (fun h1 => NB_intro hr ⟨(i + 1, g + 1), hi1, by simp only [invRs]; omega, ⟨⟨rfl, (yes h1).symm⟩, hw⟩, rfl, (yes h1).symm, hun⟩) (fun h1 => ?_)
   have h1 := no (by rw [h1]; simp)
   exact ⟨(i + 1, g), hi1, by simp only [invRs]; omega, ⟨⟨rfl, h1.symm⟩, hw⟩, rfl, h1.symm⟩
  ·have ha : atR (A.getD i atomD) c = c := if_neg (by rw [hb]; simp)
   rw [ha] at yes no
   refine VB_intro (fun h1 => NB_intro hr ⟨(i + 1, g + 1), hi1, by simp only [invRs]; omega, ⟨⟨rfl, (yes h1).symm⟩, hw⟩, rfl, (yes h1).symm, hun⟩) (fun h1 => ?_)
   have h1 := no (by rw [h1]; simp)
   exact ⟨(i + 1, g), hi1, by simp only [invRs]; omega, ⟨⟨rfl, h1.symm⟩, hw⟩, rfl, h1.symm⟩
 ·rw [decide_eq_false_iff_not] at hge
  simp only at hge
  obtain rfl : i = A.length := by omega
  rfl
theorem rsN_mt (A : List AtomG) (l c : Int) : ∀ i, decide ((rsN A l c i : Int) > 0) = mtO A l c i
 | 0 => rfl
 | i + 1 => by
  have ih := rsN_mt A l c i
  have hS : mtO A l c (i + 1) = (mtO A l c i || andNotI .u64 l (atR (A.getD i atomD) c) == 0) := by simp [mtO, List.range_succ, List.any_append]
  rw [hS, ← ih]
  by_cases h : (andNotI .u64 l (atR (A.getD i atomD) c) == 0) = true
  ·have e : rsN A l c (i + 1) = rsN A l c i + 1 := if_pos h
   rw [e, h, Bool.or_true]
   exact decide_eq_true (by omega)
  ·have e : rsN A l c (i + 1) = rsN A l c i := if_neg h
   have h' : (andNotI .u64 l (atR (A.getD i atomD) c) == 0) = false := by simpa using h
   rw [e, h', Bool.or_false]
theorem reads_pure {x : NodeG} (w : Int) {hs : List HaveG} {es : List AggG} (hq : LtW x hs es) (l c : Int) : PureC Tryz.prog gN 15 [qA x w hs es, .int .u64 l, .int .u64 c] (.tup [.bool (RsV x w hs es l c), .int .i64 (wfE x w hs es)]) := by
 have ht := tblG_cons (cAt_ok (wf_pure w hq)) (tblG_cons (cAt_ok (at16W (atomsI_pure x hq.lit hq.few))) (tblG_nil Tryz.prog gN))
 by_cases h : wfE x w hs es = 0
 ·have hs' := reads_sat x w hs es (atomsL 8 x) (Nat.le_trans (Nat.le_trans (AN_leW x) hq.lv) (by decide)) (sndE x) l c
  rw [rsN_mt] at hs'
  have e1 : RsV x w hs es l c = mtO (atomsL 8 x) l c (atomsL 8 x).length := by rw [RsV, wfA, if_pos h]
  rw [h] at ht ⊢
  rw [e1]
  exact pure_vcG (d := 3) mix ht hs'
 ·have e1 : RsV x w hs es l c = false := by rw [RsV, wfA, if_neg h]; rfl
  rw [e1]
  refine pure_vcG (d := 3) mix ht ((reads_vc x w hs es (atomsL 8 x) (wfE x w hs es) (sndE x) l c _ _).mpr (NB_intro (atB_self _) (VB_intro (fun _ => ⟨rfl, rfl, trivial⟩) (fun h2 => absurd (bne_eq_false_iff_eq.1 h2) h))))
end Go.Proofs.YtamcloifhjafcaaGreatDoor
