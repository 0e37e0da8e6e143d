/- PRED 14: All and Least, of the program and of the reference. -/
import Derived.Test.YtjkkkldkimdajaaDoorP8
namespace Go.Proofs.YtjkkkldkimdajaaDoor
open Pw Go
set_option maxRecDepth 100000
set_option linter.unusedSimpArgs false

def rngAll (n : Nat) (v : Nat → Int) : Bool := (List.range n).all fun i => decide (-9223372036854775808 ≤ v i) && decide (v i ≤ 9223372036854775807)
theorem rngAll_iff {n : Nat} {v : Nat → Int} : rngAll n v = true ↔ ∀ i, i < n → lowI ≤ v i ∧ v i ≤ highI := by simp [rngAll, lowI, highI]
noncomputable def cLst : Ctr
  | [.rof n f _] => some (decide (n ≤ 1000000) && condsB n f && okAll n (fun i => opOf (f i)) && rngAll n (fun i => valOf (f i)), .tup [.int .i64 (lstV n (fun i => opOf (f i)) (fun i => valOf (f i))), .bool (lstB n (fun i => opOf (f i)) (fun i => valOf (f i)))])
  | _ => none
theorem lst_of_pure {g : Nat} (h : ∀ (n : Nat) (o v : Nat → Int), n ≤ 1000000 → okAll n o = true → (∀ i, i < n → lowI ≤ v i ∧ v i ≤ highI) → PureC Tryd.prog (fun _ => .undef) g [condsAV n o v] (.tup [.int .i64 (lstV n o v), .bool (lstB n o v)])) : PureF Tryd.prog g cLst := by
  intro args nd v he hnd
  unfold cLst at he
  split at he <;> cases he
  simp only [Bool.and_eq_true, decide_eq_true_eq] at hnd
  rename_i n f ex
  refine PureC.args (args' := [condsAV n (fun i => opOf (f i)) (fun i => valOf (f i))]) rfl ?_ (h _ _ _ hnd.1.1.1 hnd.1.2 (rngAll_iff.1 hnd.2))
  intro i hi
  match i, hi with
  | 0, _ => exact rof_cond_sub hnd.1.1.2
noncomputable def tbl4 : List (Nat × Ctr) := [(48, cLst), (49, cLst), (44, cChk), (46, cChk), (45, cAll), (47, cAll)]
theorem tbl4_ok : TblOK Tryd.prog (fun _ => .undef) (tblOf tbl4) := tbl_cons (lst_of_pure leastI_pure) (tbl_cons (lst_of_pure leastR_pure) tbl3_ok)

theorem allII_vc (n : Nat) (o v : Nat → Int) (x : Int) (r : Bool) (e : Int) : (vcFun (mkE Tryd.prog (tblOf tbl4) fun _ _ => none) 20 11 [.rof n (fun i => .agg [.int .i64 (o i), .int .i64 (v i)]) false, .int .i64 x] .nil 0 (retP 3 (.tup [.bool r, .int .i64 e]))).sat = (
  NB (decide (n ≤ (1000000 : Nat)) && condsB n fun (i : Nat) => AV.agg [AV.int IntKind.i64 (o i), AV.int IntKind.i64 (v i)])
    (VB ((chkS n fun (i : Nat) => opOf (AV.agg [AV.int IntKind.i64 (o i), AV.int IntKind.i64 (v i)])) != (0 : Int))
      (false = r ∧ (chkS n fun (i : Nat) => opOf (AV.agg [AV.int IntKind.i64 (o i), AV.int IntKind.i64 (v i)])) = e ∧ True)
      (NB
        ((decide (n ≤ (1000000 : Nat)) && condsB n fun (i : Nat) => AV.agg [AV.int IntKind.i64 (o i), AV.int IntKind.i64 (v i)]) &&
          okAll n fun (i : Nat) => opOf (AV.agg [AV.int IntKind.i64 (o i), AV.int IntKind.i64 (v i)]))
        (allS n (fun (i : Nat) => opOf (AV.agg [AV.int IntKind.i64 (o i), AV.int IntKind.i64 (v i)])) (fun (i : Nat) => valOf (AV.agg [AV.int IntKind.i64 (o i), AV.int IntKind.i64 (v i)])) x = r ∧ (0 : Int) = e ∧ True)))) := by
  kernel_rfl

theorem allRR_vc (n : Nat) (o v : Nat → Int) (x : Int) (r : Bool) (e : Int) : (vcFun (mkE Tryd.prog (tblOf tbl4) fun _ _ => none) 20 12 [.rof n (fun i => .agg [.int .i64 (o i), .int .i64 (v i)]) false, .int .i64 x] .nil 0 (retP 3 (.tup [.bool r, .int .i64 e]))).sat = (
  NB (decide (n ≤ (1000000 : Nat)) && condsB n fun (i : Nat) => AV.agg [AV.int IntKind.i64 (o i), AV.int IntKind.i64 (v i)])
    (VB ((chkS n fun (i : Nat) => opOf (AV.agg [AV.int IntKind.i64 (o i), AV.int IntKind.i64 (v i)])) != (0 : Int))
      (false = r ∧ (chkS n fun (i : Nat) => opOf (AV.agg [AV.int IntKind.i64 (o i), AV.int IntKind.i64 (v i)])) = e ∧ True)
      (NB
        ((decide (n ≤ (1000000 : Nat)) && condsB n fun (i : Nat) => AV.agg [AV.int IntKind.i64 (o i), AV.int IntKind.i64 (v i)]) &&
          okAll n fun (i : Nat) => opOf (AV.agg [AV.int IntKind.i64 (o i), AV.int IntKind.i64 (v i)]))
        (allS n (fun (i : Nat) => opOf (AV.agg [AV.int IntKind.i64 (o i), AV.int IntKind.i64 (v i)])) (fun (i : Nat) => valOf (AV.agg [AV.int IntKind.i64 (o i), AV.int IntKind.i64 (v i)])) x = r ∧ (0 : Int) = e ∧ True)))) := by
  kernel_rfl

theorem leastII_vc (n : Nat) (o v : Nat → Int) (r : Int) (e : Int) : (vcFun (mkE Tryd.prog (tblOf tbl4) fun _ _ => none) 20 13 [.rof n (fun i => .agg [.int .i64 (o i), .int .i64 (v i)]) false] .nil 0 (retP 3 (.tup [.int .i64 r, .int .i64 e]))).sat = (
  NB (decide (n ≤ (1000000 : Nat)) && condsB n fun (i : Nat) => AV.agg [AV.int IntKind.i64 (o i), AV.int IntKind.i64 (v i)])
    (VB ((chkS n fun (i : Nat) => opOf (AV.agg [AV.int IntKind.i64 (o i), AV.int IntKind.i64 (v i)])) != (0 : Int))
      ((0 : Int) = r ∧ (chkS n fun (i : Nat) => opOf (AV.agg [AV.int IntKind.i64 (o i), AV.int IntKind.i64 (v i)])) = e ∧ True)
      (NB
        (((decide (n ≤ (1000000 : Nat)) && condsB n fun (i : Nat) => AV.agg [AV.int IntKind.i64 (o i), AV.int IntKind.i64 (v i)]) &&
            okAll n fun (i : Nat) => opOf (AV.agg [AV.int IntKind.i64 (o i), AV.int IntKind.i64 (v i)])) &&
          rngAll n fun (i : Nat) => valOf (AV.agg [AV.int IntKind.i64 (o i), AV.int IntKind.i64 (v i)]))
        (VB (!lstB n (fun (i : Nat) => opOf (AV.agg [AV.int IntKind.i64 (o i), AV.int IntKind.i64 (v i)])) fun (i : Nat) => valOf (AV.agg [AV.int IntKind.i64 (o i), AV.int IntKind.i64 (v i)]))
          ((0 : Int) = r ∧ (7 : Int) = e ∧ True)
          ((lstV n (fun (i : Nat) => opOf (AV.agg [AV.int IntKind.i64 (o i), AV.int IntKind.i64 (v i)])) fun (i : Nat) => valOf (AV.agg [AV.int IntKind.i64 (o i), AV.int IntKind.i64 (v i)])) = r ∧ (0 : Int) = e ∧ True))))) := by
  kernel_rfl

theorem leastRR_vc (n : Nat) (o v : Nat → Int) (r : Int) (e : Int) : (vcFun (mkE Tryd.prog (tblOf tbl4) fun _ _ => none) 20 14 [.rof n (fun i => .agg [.int .i64 (o i), .int .i64 (v i)]) false] .nil 0 (retP 3 (.tup [.int .i64 r, .int .i64 e]))).sat = (
  NB (decide (n ≤ (1000000 : Nat)) && condsB n fun (i : Nat) => AV.agg [AV.int IntKind.i64 (o i), AV.int IntKind.i64 (v i)])
    (VB ((chkS n fun (i : Nat) => opOf (AV.agg [AV.int IntKind.i64 (o i), AV.int IntKind.i64 (v i)])) != (0 : Int))
      ((0 : Int) = r ∧ (chkS n fun (i : Nat) => opOf (AV.agg [AV.int IntKind.i64 (o i), AV.int IntKind.i64 (v i)])) = e ∧ True)
      (NB
        (((decide (n ≤ (1000000 : Nat)) && condsB n fun (i : Nat) => AV.agg [AV.int IntKind.i64 (o i), AV.int IntKind.i64 (v i)]) &&
            okAll n fun (i : Nat) => opOf (AV.agg [AV.int IntKind.i64 (o i), AV.int IntKind.i64 (v i)])) &&
          rngAll n fun (i : Nat) => valOf (AV.agg [AV.int IntKind.i64 (o i), AV.int IntKind.i64 (v i)]))
        (VB (!lstB n (fun (i : Nat) => opOf (AV.agg [AV.int IntKind.i64 (o i), AV.int IntKind.i64 (v i)])) fun (i : Nat) => valOf (AV.agg [AV.int IntKind.i64 (o i), AV.int IntKind.i64 (v i)]))
          ((0 : Int) = r ∧ (7 : Int) = e ∧ True)
          ((lstV n (fun (i : Nat) => opOf (AV.agg [AV.int IntKind.i64 (o i), AV.int IntKind.i64 (v i)])) fun (i : Nat) => valOf (AV.agg [AV.int IntKind.i64 (o i), AV.int IntKind.i64 (v i)])) = r ∧ (0 : Int) = e ∧ True))))) := by
  kernel_rfl

def AllS (n : Nat) (o v : Nat → Int) (x : Int) : Bool := decide (chkS n o = 0) && allS n o v x
noncomputable def LeastS (n : Nat) (o v : Nat → Int) : Int := if chkS n o = 0 then lstV n o v else 0
noncomputable def LeastE (n : Nat) (o v : Nat → Int) : Int := if chkS n o = 0 then (if lstB n o v = true then 0 else 7) else chkS n o
theorem chk_zero {n : Nat} {o : Nat → Int} (h : chkS n o = 0) : okAll n o = true ∧ n ≤ 8 := by
  simp only [chkS] at h
  split at h
  · cases h
  · split at h
    · exact ⟨by assumption, by omega⟩
    · cases h
theorem lstV_none {n : Nat} {o v : Nat → Int} (h : lstB n o v = false) : lstV n o v = 0 := by
  unfold lstV
  rw [dif_neg]
  simpa [lstB] using h
theorem AllS_eq {n : Nat} {o v : Nat → Int} {x : Int} : (chkS n o = 0 → AllS n o v x = allS n o v x) ∧ (chkS n o ≠ 0 → AllS n o v x = false) := by
  constructor <;> intro h <;> simp [AllS, h]

theorem allII_pure (n : Nat) (o v : Nat → Int) (x : Int) (hn : n ≤ 1000000) : PureC Tryd.prog (fun _ => .undef) 11 [condsAV n o v, .int .i64 x] (.tup [.bool (AllS n o v x), .int .i64 (chkS n o)]) := by
  refine pure_vc (t := tblOf tbl4) (inv := fun _ _ => none) (k := 20) (d := 3) mix tbl4_ok ((allII_vc n o v x _ _).mpr ?_)
  simp only [EqI, opOf_agg, valOf_agg, condsB_agg, hn, decide_true, Bool.and_self, Bool.true_and, Bool.and_true, NB_t]
  refine VB_intro (fun h => ?_) (fun h => ?_)
  · have h' : chkS n o ≠ 0 := by simpa using h
    simp [AllS_eq.2 h']
  · have h' : chkS n o = 0 := by simpa using h
    exact NB_intro (chk_zero h').1 ⟨(AllS_eq.1 h').symm, h'.symm, trivial⟩
theorem allRR_pure (n : Nat) (o v : Nat → Int) (x : Int) (hn : n ≤ 1000000) : PureC Tryd.prog (fun _ => .undef) 12 [condsAV n o v, .int .i64 x] (.tup [.bool (AllS n o v x), .int .i64 (chkS n o)]) := by
  refine pure_vc (t := tblOf tbl4) (inv := fun _ _ => none) (k := 20) (d := 3) mix tbl4_ok ((allRR_vc n o v x _ _).mpr ?_)
  simp only [EqI, opOf_agg, valOf_agg, condsB_agg, hn, decide_true, Bool.and_self, Bool.true_and, Bool.and_true, NB_t]
  refine VB_intro (fun h => ?_) (fun h => ?_)
  · have h' : chkS n o ≠ 0 := by simpa using h
    simp [AllS_eq.2 h']
  · have h' : chkS n o = 0 := by simpa using h
    exact NB_intro (chk_zero h').1 ⟨(AllS_eq.1 h').symm, h'.symm, trivial⟩
theorem least_fin {n : Nat} {o v : Nat → Int} (h : chkS n o = 0) : VB (!lstB n o v) ((0 : Int) = LeastS n o v ∧ (7 : Int) = LeastE n o v ∧ True) (lstV n o v = LeastS n o v ∧ (0 : Int) = LeastE n o v ∧ True) := by
  refine VB_intro (fun hb => ?_) (fun hb => ?_)
  · have hb' : lstB n o v = false := by simpa using hb
    simp [LeastS, LeastE, h, hb', lstV_none hb']
  · have hb' : lstB n o v = true := by simpa using hb
    simp [LeastS, LeastE, h, hb']
theorem leastII_pure (n : Nat) (o v : Nat → Int) (hn : n ≤ 1000000) (hv : rngAll n v = true) : PureC Tryd.prog (fun _ => .undef) 13 [condsAV n o v] (.tup [.int .i64 (LeastS n o v), .int .i64 (LeastE n o v)]) := by
  refine pure_vc (t := tblOf tbl4) (inv := fun _ _ => none) (k := 20) (d := 3) mix tbl4_ok ((leastII_vc n o v _ _).mpr ?_)
  simp only [EqI, opOf_agg, valOf_agg, condsB_agg, hn, hv, decide_true, Bool.and_self, Bool.true_and, Bool.and_true, NB_t]
  refine VB_intro (fun h => ?_) (fun h => ?_)
  · have h' : chkS n o ≠ 0 := by simpa using h
    simp [LeastS, LeastE, h']
  · have h' : chkS n o = 0 := by simpa using h
    exact NB_intro (chk_zero h').1 (least_fin h')
theorem leastRR_pure (n : Nat) (o v : Nat → Int) (hn : n ≤ 1000000) (hv : rngAll n v = true) : PureC Tryd.prog (fun _ => .undef) 14 [condsAV n o v] (.tup [.int .i64 (LeastS n o v), .int .i64 (LeastE n o v)]) := by
  refine pure_vc (t := tblOf tbl4) (inv := fun _ _ => none) (k := 20) (d := 3) mix tbl4_ok ((leastRR_vc n o v _ _).mpr ?_)
  simp only [EqI, opOf_agg, valOf_agg, condsB_agg, hn, hv, decide_true, Bool.and_self, Bool.true_and, Bool.and_true, NB_t]
  refine VB_intro (fun h => ?_) (fun h => ?_)
  · have h' : chkS n o ≠ 0 := by simpa using h
    simp [LeastS, LeastE, h']
  · have h' : chkS n o = 0 := by simpa using h
    exact NB_intro (chk_zero h').1 (least_fin h')
def cAllE : Ctr
  | [.rof n f _, .int .i64 x] => some (decide (n ≤ 1000000) && condsB n f, .tup [.bool (AllS n (fun i => opOf (f i)) (fun i => valOf (f i)) x), .int .i64 (chkS n (fun i => opOf (f i)))])
  | _ => none
noncomputable def cLeastE : Ctr
  | [.rof n f _] => some (decide (n ≤ 1000000) && condsB n f && rngAll n (fun i => valOf (f i)), .tup [.int .i64 (LeastS n (fun i => opOf (f i)) (fun i => valOf (f i))), .int .i64 (LeastE n (fun i => opOf (f i)) (fun i => valOf (f i)))])
  | _ => none
theorem allE_of {g : Nat} (h : ∀ (n : Nat) (o v : Nat → Int) (x : Int), n ≤ 1000000 → PureC Tryd.prog (fun _ => .undef) g [condsAV n o v, .int .i64 x] (.tup [.bool (AllS n o v x), .int .i64 (chkS n o)])) : PureF Tryd.prog g cAllE := by
  intro args nd v he hnd
  unfold cAllE at he
  split at he <;> cases he
  simp only [Bool.and_eq_true, decide_eq_true_eq] at hnd
  rename_i n f ex x
  refine PureC.args (args' := [condsAV n (fun i => opOf (f i)) (fun i => valOf (f i)), .int .i64 x]) rfl ?_ (h _ _ _ _ hnd.1)
  intro i hi
  match i, hi with
  | 0, _ => exact rof_cond_sub hnd.2
  | 1, _ => exact (show (AV.int .i64 x).sub (.int .i64 x) from rfl)
theorem leastE_of {g : Nat} (h : ∀ (n : Nat) (o v : Nat → Int), n ≤ 1000000 → rngAll n v = true → PureC Tryd.prog (fun _ => .undef) g [condsAV n o v] (.tup [.int .i64 (LeastS n o v), .int .i64 (LeastE n o v)])) : PureF Tryd.prog g cLeastE := by
  intro args nd v he hnd
  unfold cLeastE at he
  split at he <;> cases he
  simp only [Bool.and_eq_true, decide_eq_true_eq] at hnd
  rename_i n f ex
  refine PureC.args (args' := [condsAV n (fun i => opOf (f i)) (fun i => valOf (f i))]) rfl ?_ (h _ _ _ hnd.1.1 hnd.2)
  intro i hi
  match i, hi with
  | 0, _ => exact rof_cond_sub hnd.1.2
theorem awake_ok : PureF Tryd.prog 10 cAwake := by
  intro args nd v h hnd
  unfold cAwake at h
  split at h <;> cases h
  exact pure_closed (k := 40) mix (by kernel_rfl)
noncomputable def tbl5 : List (Nat × Ctr) := [(10, cAwake), (6, cAwake), (11, cAllE), (12, cAllE), (13, cLeastE), (14, cLeastE), (15, cCond), (16, cCond)]
theorem tbl5_ok : TblOK Tryd.prog (fun _ => .undef) (tblOf tbl5) :=
  tbl_cons awake_ok (tbl_cons known_ok (tbl_cons (allE_of allII_pure) (tbl_cons (allE_of allRR_pure) (tbl_cons (leastE_of leastII_pure) (tbl_cons (leastE_of leastRR_pure) (tbl_cons condI_ok (tbl_cons condR_ok (tbl_nil _))))))))
end Go.Proofs.YtjkkkldkimdajaaDoor
