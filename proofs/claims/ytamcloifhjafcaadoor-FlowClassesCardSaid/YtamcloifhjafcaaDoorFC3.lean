/- FLOW CLASSES 3: contracts; the run of the chapter's examples. -/
import Derived.Test.YtamcloifhjafcaaDoorFC2
namespace Go.Proofs.YtamcloifhjafcaaDoor
open Pw Go
set_option maxRecDepth 100000
set_option linter.unusedSimpArgs false

def cL : AV → Int
  | .agg [.int _ a, _, _] => a
  | _ => 0
def cS : AV → Int
  | .agg [_, .int _ a, _] => a
  | _ => 0
def cR : AV → Int
  | .agg [_, _, .int _ a] => a
  | _ => 0
def isCls : AV → Bool
  | .agg [.int .u64 _, .int .i64 _, .int .i64 _] => true
  | _ => false
def clsB (n : Nat) (f : Nat → AV) : Bool := (List.range n).all fun j => isCls (f j)
def clsOf (f : Nat → AV) : Cls := ⟨fun j => cL (f j), fun j => cS (f j), fun j => cR (f j)⟩
theorem cls_sub {n : Nat} {f : Nat → AV} {ex : Bool} (h : clsB n f = true) : (AV.rof n f ex).sub (clsAV n (clsOf f)) := by
  refine ⟨rfl, fun j hj => ?_, by simp⟩
  have := List.all_eq_true.1 h j (by simpa using hj)
  show (f j).sub (.agg [.int .u64 (cL (f j)), .int .i64 (cS (f j)), .int .i64 (cR (f j))]) ∧ (f j).cells.length = 3
  generalize f j = x at this
  unfold isCls at this
  split at this
  · exact ⟨⟨rfl, rfl, rfl, trivial⟩, rfl⟩
  · cases this
theorem clsOf_at (C : Cls) : clsOf (fun j => .agg [.int .u64 (C.L j), .int .i64 (C.S j), .int .i64 (C.R j)]) = C := rfl
theorem clsB_at (n : Nat) (C : Cls) : clsB n (fun j => .agg [.int .u64 (C.L j), .int .i64 (C.S j), .int .i64 (C.R j)]) = true := by simp [clsB, isCls]
def iOf : AV → Int
  | .int _ n => n
  | _ => 0
def isI : AV → Bool
  | .int .i64 _ => true
  | _ => false
def intsB (n : Nat) (f : Nat → AV) : Bool := (List.range n).all fun k => isI (f k)
theorem ints_sub {n : Nat} {f : Nat → AV} {ex : Bool} (h : intsB n f = true) : (AV.rof n f ex).sub (.rof n (fun k => .int .i64 (iOf (f k))) false) := by
  refine ⟨rfl, fun j hj => ?_, by simp⟩
  have := List.all_eq_true.1 h j (by simpa using hj)
  show (f j).sub (.int .i64 (iOf (f j))) ∧ (f j).cells.length = 1
  generalize f j = x at this
  unfold isI at this
  split at this
  · exact ⟨rfl, rfl⟩
  · cases this
theorem intsB_at (n : Nat) (f : Nat → Int) : intsB n (fun k => .int .i64 (f k)) = true := by simp [intsB, isI]
theorem iOf_at (k : IntKind) (n : Int) : iOf (.int k n) = n := rfl
open Classical in
noncomputable def eqFn (f g : Nat → Int) : Bool := decide (f = g)
theorem eqFn_self (f : Nat → Int) : eqFn f f = true := by simp [eqFn]
theorem eqFn_eq {f g : Nat → Int} (h : eqFn f g = true) : f = g := by simpa [eqFn] using h
theorem args2 {g : Nat} {gl : Nat → AV} {x y x' y' v : AV} (hs : x.sub y) (hs' : x'.sub y') (h : PureC Tryd.prog gl g [y, y'] v) : PureC Tryd.prog gl g [x, x'] v := by
  refine PureC.args (args' := [y, y']) rfl ?_ h
  intro i hi
  match i, hi with
  | 0, _ => exact hs
  | 1, _ => exact hs'
def cSees : Ctr
  | [.rof n f _, .int .u64 x] => some (decide (n ≤ 1000000) && clsB n f, SeAV n (clsOf f) x)
  | _ => none
noncomputable def cSameInts : Ctr
  | [.rof n f _, .rof n' g _] => some (decide (n ≤ 1000000) && decide (n = n') && intsB n f && intsB n' g && eqFn (fun k => iOf (f k)) (fun k => iOf (g k)), .bool true)
  | _ => none
theorem int_sub (k : IntKind) (x : Int) : (AV.int k x).sub (.int k x) := by show (if _ then _ else _); rw [if_pos rfl]
theorem seesI_ok : PureG Tryd.prog gN 27 cSees := by
  intro args nd v he hnd
  unfold cSees at he
  split at he <;> cases he
  simp only [Bool.and_eq_true, decide_eq_true_eq] at hnd
  exact args2 (cls_sub hnd.2) (int_sub _ _) (seesI_pure _ _ _ hnd.1)
theorem seesR_ok : PureG Tryd.prog gN 28 cSees := by
  intro args nd v he hnd
  unfold cSees at he
  split at he <;> cases he
  simp only [Bool.and_eq_true, decide_eq_true_eq] at hnd
  exact args2 (cls_sub hnd.2) (int_sub _ _) (seesR_pure _ _ _ hnd.1)
theorem sameInts_ok : PureG Tryd.prog gN 31 cSameInts := by
  intro args nd v he hnd
  unfold cSameInts at he
  split at he <;> cases he
  simp only [Bool.and_eq_true, decide_eq_true_eq] at hnd
  obtain ⟨⟨⟨⟨h1, rfl⟩, h3⟩, h4⟩, h5⟩ := hnd
  rename_i n f ex g ex'
  have e := eqFn_eq h5
  have h6 := ints_sub (ex := ex') h4
  have e' : (fun k => AV.int .i64 (iOf (g k))) = fun k => AV.int .i64 (iOf (f k)) := by funext k; rw [show iOf (g k) = iOf (f k) from (congrFun e k).symm]
  rw [e'] at h6
  exact args2 (ints_sub h3) h6 (sameInts_pure _ _ h1)
-- the run of the chapter's examples
def node (k m a : Int) (b : Bool) (x : Int) : AV := .agg [.int .i64 k, .int .i64 m, .int .i64 m, .int .i64 a, .bool b, .int .u64 x, .nils, .str [], .nils]
def qry (l : List AV) (w : Int) : AV := .agg [.int .i64 3, .int .i64 0, .int .i64 0, .int .i64 0, .bool false, .int .u64 0, .nils, .str [], .rol l true, .int .u64 w, .nils, .nils]
def q1 : AV := qry [node 1 1 0 true 1, node 2 0 1 true 2, node 1 1 2 false 0] 5
def q2 : AV := qry [node 1 1 0 true 1, node 1 1 1 true 2] 5
def q3 : AV := qry [node 1 1 0 true 1, node 2 0 1 true 2, node 1 1 2 false 0] 10001
theorem wf1 : PureC Tryd.prog gN 57 [q1] (.int .i64 0) := pure_runT (t := tblOf []) (k := 60) (d := 9) mix (tblG_nil _ _) (by kernel_rfl)
theorem wf2 : PureC Tryd.prog gN 57 [q2] (.int .i64 0) := pure_runT (t := tblOf []) (k := 60) (d := 9) mix (tblG_nil _ _) (by kernel_rfl)
theorem wf3 : PureC Tryd.prog gN 57 [q3] (.int .i64 2) := pure_runT (t := tblOf []) (k := 60) (d := 9) mix (tblG_nil _ _) (by kernel_rfl)
def tblW : List (Nat × List AV × AV) := [(57, [q1], .int .i64 0), (57, [q2], .int .i64 0), (57, [q3], .int .i64 2)]
theorem tblW_ok : TblOK Tryd.prog gN (tblL tblW) := tblL_cons wf1 (tblL_cons wf2 (tblL_cons wf3 (tblL_nil _ _)))
theorem awake_runs : PureC Tryd.prog gN 26 [] (.bool true) := pure_runT (t := tblL tblW) (k := 60) (d := 9) mix tblW_ok (by kernel_rfl)
def cAwake : Ctr := litCtr [([], .bool true)]
theorem awake_ok : PureG Tryd.prog gN 26 cAwake := litCtr_cons awake_runs (litCtr_nil _ _ _)
noncomputable def tblC : List (Nat × Ctr) := [(27, cSees), (28, cSees), (31, cSameInts), (26, cAwake)]
theorem tblC_ok : TblOK Tryd.prog gN (tblOf tblC) := tblG_cons seesI_ok (tblG_cons seesR_ok (tblG_cons sameInts_ok (tblG_cons awake_ok (tblG_nil _ _))))
end Go.Proofs.YtamcloifhjafcaaDoor
