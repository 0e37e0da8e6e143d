/- PRED 1: conditions, in Lean; their code. -/
import Derived.Test.YtjkkkldkimdajaaDoorRows
import Derived.Test.YtjkkkldkimdajaaDoorPwG5
namespace Go.Proofs.YtjkkkldkimdajaaDoor
open Pw Go
set_option maxRecDepth 100000
set_option linter.unusedSimpArgs false

theorem mix : Tryd.prog.follows .mixedOrders = true := by kernel_rfl
/-- Whether a comparison with c holds for x. -/
def opS (op c x : Int) : Bool :=
  if op = 1 then x == c else if op = 2 then x != c else if op = 3 then decide (x < c) else if op = 4 then decide (x ≤ c) else if op = 5 then decide (x > c) else decide (x ≥ c)
def okOp (op : Int) : Bool := decide (1 ≤ op) && decide (op ≤ 6)
noncomputable def E0 : Env := mkE Tryd.prog (tblOf []) fun _ _ => none

theorem holds1_vc (c x : Int) (r : Bool) : (vcFun E0 20 51 [.agg [.int .i64 1, .int .i64 c], .int .i64 x] .nil 0 (retP 3 (.bool r))).sat = (
  (x == c) = r) := by
  kernel_rfl

theorem holds2_vc (c x : Int) (r : Bool) : (vcFun E0 20 51 [.agg [.int .i64 2, .int .i64 c], .int .i64 x] .nil 0 (retP 3 (.bool r))).sat = (
  (x != c) = r) := by
  kernel_rfl

theorem holds3_vc (c x : Int) (r : Bool) : (vcFun E0 20 51 [.agg [.int .i64 3, .int .i64 c], .int .i64 x] .nil 0 (retP 3 (.bool r))).sat = (
  decide (x < c) = r) := by
  kernel_rfl

theorem holds4_vc (c x : Int) (r : Bool) : (vcFun E0 20 51 [.agg [.int .i64 4, .int .i64 c], .int .i64 x] .nil 0 (retP 3 (.bool r))).sat = (
  decide (x ≤ c) = r) := by
  kernel_rfl

theorem holds5_vc (c x : Int) (r : Bool) : (vcFun E0 20 51 [.agg [.int .i64 5, .int .i64 c], .int .i64 x] .nil 0 (retP 3 (.bool r))).sat = (
  decide (x > c) = r) := by
  kernel_rfl

theorem holds6_vc (c x : Int) (r : Bool) : (vcFun E0 20 51 [.agg [.int .i64 6, .int .i64 c], .int .i64 x] .nil 0 (retP 3 (.bool r))).sat = (
  decide (x ≥ c) = r) := by
  kernel_rfl

theorem condR_vc (op c x : Int) (r : Bool) (e : Int) : (vcFun E0 20 16 [.agg [.int .i64 op, .int .i64 c], .int .i64 x] .nil 0 (retP 3 (.tup [.bool r, .int .i64 e]))).sat = (
  VB (op == (1 : Int)) ((x == c) = r ∧ (0 : Int) = e ∧ True)
    (VB (op == (2 : Int)) ((x != c) = r ∧ (0 : Int) = e ∧ True)
      (VB (op == (3 : Int)) (decide (x < c) = r ∧ (0 : Int) = e ∧ True)
        (VB (op == (4 : Int)) (decide (x ≤ c) = r ∧ (0 : Int) = e ∧ True)
          (VB (op == (5 : Int)) (decide (x > c) = r ∧ (0 : Int) = e ∧ True) (VB (op == (6 : Int)) (decide (x ≥ c) = r ∧ (0 : Int) = e ∧ True) (false = r ∧ (11 : Int) = e ∧ True))))))) := by
  kernel_rfl

def cHolds : Ctr
  | [.agg [.int .i64 op, .int .i64 c], .int .i64 x] => some (decide (1 ≤ op ∧ op ≤ 6), .bool (opS op c x))
  | _ => none
theorem holds1_ok (c x : Int) : PureC Tryd.prog (fun _ => .undef) 51 [.agg [.int .i64 1, .int .i64 c], .int .i64 x] (.bool (opS 1 c x)) :=
  pure_vc (t := tblOf []) (inv := fun _ _ => none) (k := 20) (d := 3) mix (tbl_nil _) ((holds1_vc c x (opS 1 c x)).mpr (by simp [opS]))
theorem holds2_ok (c x : Int) : PureC Tryd.prog (fun _ => .undef) 51 [.agg [.int .i64 2, .int .i64 c], .int .i64 x] (.bool (opS 2 c x)) :=
  pure_vc (t := tblOf []) (inv := fun _ _ => none) (k := 20) (d := 3) mix (tbl_nil _) ((holds2_vc c x (opS 2 c x)).mpr (by simp [opS]))
theorem holds3_ok (c x : Int) : PureC Tryd.prog (fun _ => .undef) 51 [.agg [.int .i64 3, .int .i64 c], .int .i64 x] (.bool (opS 3 c x)) :=
  pure_vc (t := tblOf []) (inv := fun _ _ => none) (k := 20) (d := 3) mix (tbl_nil _) ((holds3_vc c x (opS 3 c x)).mpr (by simp [opS]))
theorem holds4_ok (c x : Int) : PureC Tryd.prog (fun _ => .undef) 51 [.agg [.int .i64 4, .int .i64 c], .int .i64 x] (.bool (opS 4 c x)) :=
  pure_vc (t := tblOf []) (inv := fun _ _ => none) (k := 20) (d := 3) mix (tbl_nil _) ((holds4_vc c x (opS 4 c x)).mpr (by simp [opS]))
theorem holds5_ok (c x : Int) : PureC Tryd.prog (fun _ => .undef) 51 [.agg [.int .i64 5, .int .i64 c], .int .i64 x] (.bool (opS 5 c x)) :=
  pure_vc (t := tblOf []) (inv := fun _ _ => none) (k := 20) (d := 3) mix (tbl_nil _) ((holds5_vc c x (opS 5 c x)).mpr (by simp [opS]))
theorem holds6_ok (c x : Int) : PureC Tryd.prog (fun _ => .undef) 51 [.agg [.int .i64 6, .int .i64 c], .int .i64 x] (.bool (opS 6 c x)) :=
  pure_vc (t := tblOf []) (inv := fun _ _ => none) (k := 20) (d := 3) mix (tbl_nil _) ((holds6_vc c x (opS 6 c x)).mpr (by simp [opS]))
theorem holds_ok : PureF Tryd.prog 51 cHolds := by
  intro args nd v h hnd
  unfold cHolds at h
  split at h <;> cases h
  rename_i op c x
  have hl := of_decide_eq_true hnd
  have h6 : op = 1 ∨ op = 2 ∨ op = 3 ∨ op = 4 ∨ op = 5 ∨ op = 6 := by omega
  rcases h6 with rfl | rfl | rfl | rfl | rfl | rfl
  · exact holds1_ok c x
  · exact holds2_ok c x
  · exact holds3_ok c x
  · exact holds4_ok c x
  · exact holds5_ok c x
  · exact holds6_ok c x
def condE (op : Int) : Int := if okOp op = true then 0 else 11
def condS (op c x : Int) : Bool := okOp op && opS op c x
def cCond : Ctr
  | [.agg [.int .i64 op, .int .i64 c], .int .i64 x] => some (true, .tup [.bool (condS op c x), .int .i64 (condE op)])
  | _ => none
theorem condR_ok : PureF Tryd.prog 16 cCond := by
  intro args nd v h hnd
  unfold cCond at h
  split at h <;> cases h
  rename_i op c x
  refine pure_vc mix (tbl_nil _) ((condR_vc op c x _ _).mpr ?_)
  repeat' (first
    | (with_reducible refine VB_intro (fun h => ?_) (fun h => ?_) <;> try simp only [h, VB_t, VB_f, NB_t, Bool.not_true, Bool.not_false, Bool.true_and, Bool.false_and, Bool.and_true, Bool.and_false])
    | (with_reducible refine NB_intro' ?_ (fun h => ?_)))
  all_goals try simp only [isW_t, isW_f, impB_t, impB_f, beq_iff_eq, bne_iff_ne, Bool.not_eq_eq_eq_not, Bool.not_true, Bool.not_false, Bool.and_eq_true, Bool.and_eq_false_iff, Bool.or_eq_true, Bool.or_eq_false_iff, beq_eq_false_iff_ne, decide_eq_true_eq, decide_eq_false_iff_not, EqI] at *
  all_goals try simp (disch := omega) only [wrap_i64_id, wrap_u64_id, Int.add_sub_cancel] at *
  all_goals try simp (disch := omega) only [wrap_i64_id, wrap_u64_id, Int.add_sub_cancel] at *
  all_goals try simp (disch := omega) only [wrap_i64_id, wrap_u64_id, Int.add_sub_cancel] at *
  all_goals try simp (disch := omega) only [wrap_i64_id, wrap_u64_id, Int.add_sub_cancel] at *
  all_goals try grind (splits := 20) [condS, condE, okOp, opS]
end Go.Proofs.YtjkkkldkimdajaaDoor
namespace Go.Proofs.YtjkkkldkimdajaaDoor
open Pw Go
set_option maxRecDepth 100000
set_option linter.unusedSimpArgs false

def condsAV (n : Nat) (o v : Nat → Int) : AV := .rof n (fun i => .agg [.int .i64 (o i), .int .i64 (v i)]) false
def opOf : AV → Int
  | .agg [.int _ n, _] => n
  | _ => 0
def valOf : AV → Int
  | .agg [_, .int _ n] => n
  | _ => 0
def isCond : AV → Bool
  | .agg [.int .i64 _, .int .i64 _] => true
  | _ => false
def condsB (n : Nat) (f : Nat → AV) : Bool := (List.range n).all fun i => isCond (f i)
theorem rof_cond_sub {n : Nat} {f : Nat → AV} {ex : Bool} (h : condsB n f = true) : (AV.rof n f ex).sub (condsAV n (fun i => opOf (f i)) (fun i => valOf (f i))) := by
  refine ⟨rfl, fun i hi => ?_, by simp⟩
  have := List.all_eq_true.1 h i (by simpa using hi)
  show (f i).sub (.agg [.int .i64 (opOf (f i)), .int .i64 (valOf (f i))]) ∧ (f i).cells.length = 2
  generalize f i = x at this
  unfold isCond at this
  split at this
  · exact ⟨⟨rfl, rfl, trivial⟩, rfl⟩
  · cases this

def okAll (n : Nat) (o : Nat → Int) : Bool := (List.range n).all fun i => okOp (o i)
def chkS (n : Nat) (o : Nat → Int) : Int := if 8 < n then 6 else if okAll n o = true then 0 else 11
def allS (n : Nat) (o v : Nat → Int) (x : Int) : Bool := (List.range n).all fun i => opS (o i) (v i) x
theorem okAll_iff {n : Nat} {o : Nat → Int} : okAll n o = true ↔ ∀ i, i < n → okOp (o i) = true := by simp [okAll]
theorem allS_iff {n : Nat} {o v : Nat → Int} {x : Int} : allS n o v x = true ↔ ∀ i, i < n → opS (o i) (v i) x = true := by simp [allS]
def tbl1 : List (Nat × Ctr) := [(51, cHolds), (16, cCond)]
theorem tbl1_ok : TblOK Tryd.prog (fun _ => .undef) (tblOf tbl1) := tbl_cons holds_ok (tbl_cons condR_ok (tbl_nil _))
noncomputable def E1 : Env := mkE Tryd.prog (tblOf tbl1) fun _ _ => none
def invChk (n : Nat) (o v : Nat → Int) : Inv := ⟨Nat, 1, fun i => ⟨[(8, condsAV n o v), (9, .int .i64 n), (10, .int .i64 i)], []⟩, fun i => i ≤ n ∧ ∀ j, j < i → okOp (o j) = true, fun i => n - i⟩
def invChkR (n : Nat) (o v : Nat → Int) : Inv := ⟨Nat, 1, fun i => ⟨[(0, condsAV n o v), (3, .int .i64 i)], []⟩, fun i => i ≤ n ∧ ∀ j, j < i → okOp (o j) = true, fun i => n - i⟩
def invAll (n : Nat) (o v : Nat → Int) (x : Int) : Inv := ⟨Nat, 1, fun i => ⟨[(1, .int .i64 x), (7, condsAV n o v), (8, .int .i64 n), (9, .int .i64 i)], []⟩, fun i => i ≤ n ∧ ∀ j, j < i → opS (o j) (v j) x = true, fun i => n - i⟩
def invAllR (n : Nat) (o v : Nat → Int) (x : Int) : Inv := ⟨Nat, 1, fun i => ⟨[(0, condsAV n o v), (1, .int .i64 x), (5, .int .i64 i)], []⟩, fun i => i ≤ n ∧ ∀ j, j < i → opS (o j) (v j) x = true, fun i => n - i⟩

theorem condI_vc (op c x : Int) (r : Bool) (e : Int) : (vcFun E1 20 15 [.agg [.int .i64 op, .int .i64 c], .int .i64 x] .nil 0 (retP 3 (.tup [.bool r, .int .i64 e]))).sat = (
  VB (!(decide (op ≥ (1 : Int)) && decide (op ≤ (6 : Int)))) (false = r ∧ (11 : Int) = e ∧ True) (NB (decide ((1 : Int) ≤ op ∧ op ≤ (6 : Int))) (opS op c x = r ∧ (0 : Int) = e ∧ True))) := by
  kernel_rfl

theorem chkI_vc (n : Nat) (o v : Nat → Int) (r : Int) : (vcFun (mkE Tryd.prog (tblOf tbl1) fun f b => if f = 44 ∧ b = 0 then some (invChk n o v) else none) 20 44 [.rof n (fun i => .agg [.int .i64 (o i), .int .i64 (v i)]) false] .nil 0 (retP 3 (.int .i64 r))).sat = (
  VB (decide ((↑n : Int) > (8 : Int))) ((6 : Int) = r)
    ((∃ (i : Nat),
        (i ≤ n ∧ ∀ (j : Nat), j < i → okOp (o j) = true) ∧
          ((n = n ∧
                (∀ (i : Nat), i < n → (o i = o i ∧ v i = v i ∧ True) ∧ [AV.int IntKind.i64 (o i), AV.int IntKind.i64 (v i)].length = [AV.int IntKind.i64 (o i), AV.int IntKind.i64 (v i)].length) ∧
                  (false = true → false = true)) ∧
              (↑n : Int) = (↑n : Int) ∧ (0 : Int) = (↑i : Int) ∧ True) ∧
            True) ∧
      ∀ (i : Nat),
        (i ≤ n ∧ ∀ (j : Nat), j < i → okOp (o j) = true) →
          VB (decide ((↑i : Int) < (↑n : Int)))
            (NB (decide ((0 : Int) ≤ (↑i : Int) ∧ (↑i : Int) < (↑n : Int)))
              (VB (!(decide (o (↑i : Int).toNat ≥ (1 : Int)) && decide (o (↑i : Int).toNat ≤ (6 : Int)))) ((11 : Int) = r)
                (∃ (i' : Nat),
                  (i' ≤ n ∧ ∀ (j : Nat), j < i' → okOp (o j) = true) ∧
                    (invChk n o v).μ i' < (invChk n o v).μ i ∧
                      ((n = n ∧
                            (∀ (i : Nat), i < n → (o i = o i ∧ v i = v i ∧ True) ∧ [AV.int IntKind.i64 (o i), AV.int IntKind.i64 (v i)].length = [AV.int IntKind.i64 (o i), AV.int IntKind.i64 (v i)].length) ∧
                              (false = true → false = true)) ∧
                          (↑n : Int) = (↑n : Int) ∧ IntKind.i64.wrap ((↑i : Int) + (1 : Int)) = (↑i' : Int) ∧ True) ∧
                        True)))
            ((0 : Int) = r))) := by
  kernel_rfl

theorem chkR_vc (n : Nat) (o v : Nat → Int) (r : Int) : (vcFun (mkE Tryd.prog (tblOf tbl1) fun f b => if f = 46 ∧ b = 0 then some (invChkR n o v) else none) 20 46 [.rof n (fun i => .agg [.int .i64 (o i), .int .i64 (v i)]) false] .nil 0 (retP 3 (.int .i64 r))).sat = (
  VB (decide ((↑n : Int) > (8 : Int))) ((6 : Int) = r)
    ((∃ (i : Nat),
        (i ≤ n ∧ ∀ (j : Nat), j < i → okOp (o j) = true) ∧
          ((n = n ∧
                (∀ (i : Nat), i < n → (o i = o i ∧ v i = v i ∧ True) ∧ [AV.int IntKind.i64 (o i), AV.int IntKind.i64 (v i)].length = [AV.int IntKind.i64 (o i), AV.int IntKind.i64 (v i)].length) ∧
                  (false = true → false = true)) ∧
              (0 : Int) = (↑i : Int) ∧ True) ∧
            True) ∧
      ∀ (i : Nat),
        (i ≤ n ∧ ∀ (j : Nat), j < i → okOp (o j) = true) →
          VB (decide ((↑i : Int) < (↑n : Int)))
            (NB (decide ((0 : Int) ≤ (↑i : Int) ∧ (↑i : Int) < (↑n : Int)))
              (NB (impB (isW false (decide (o (↑i : Int).toNat < (1 : Int)))) (decide ((0 : Int) ≤ (↑i : Int) ∧ (↑i : Int) < (↑n : Int))))
                (VB (decide (o (↑i : Int).toNat < (1 : Int)) || decide (o (↑i : Int).toNat > (6 : Int))) ((11 : Int) = r)
                  (∃ (i' : Nat),
                    (i' ≤ n ∧ ∀ (j : Nat), j < i' → okOp (o j) = true) ∧
                      (invChkR n o v).μ i' < (invChkR n o v).μ i ∧
                        ((n = n ∧
                              (∀ (i : Nat), i < n → (o i = o i ∧ v i = v i ∧ True) ∧ [AV.int IntKind.i64 (o i), AV.int IntKind.i64 (v i)].length = [AV.int IntKind.i64 (o i), AV.int IntKind.i64 (v i)].length) ∧
                                (false = true → false = true)) ∧
                            IntKind.i64.wrap ((↑i : Int) + (1 : Int)) = (↑i' : Int) ∧ True) ∧
                          True))))
            ((0 : Int) = r))) := by
  kernel_rfl

theorem allI_vc (n : Nat) (o v : Nat → Int) (x : Int) (r : Bool) : (vcFun (mkE Tryd.prog (tblOf tbl1) fun f b => if f = 45 ∧ b = 0 then some (invAll n o v x) else none) 20 45 [.rof n (fun i => .agg [.int .i64 (o i), .int .i64 (v i)]) false, .int .i64 x] .nil 0 (retP 3 (.bool r))).sat = (
  (∃ (i : Nat),
      (i ≤ n ∧ ∀ (j : Nat), j < i → opS (o j) (v j) x = true) ∧
        (x = x ∧
            (n = n ∧
                (∀ (i : Nat), i < n → (o i = o i ∧ v i = v i ∧ True) ∧ [AV.int IntKind.i64 (o i), AV.int IntKind.i64 (v i)].length = [AV.int IntKind.i64 (o i), AV.int IntKind.i64 (v i)].length) ∧
                  (false = true → false = true)) ∧
              (↑n : Int) = (↑n : Int) ∧ (0 : Int) = (↑i : Int) ∧ True) ∧
          True) ∧
    ∀ (i : Nat),
      (i ≤ n ∧ ∀ (j : Nat), j < i → opS (o j) (v j) x = true) →
        VB (decide ((↑i : Int) < (↑n : Int)))
          (NB (decide ((0 : Int) ≤ (↑i : Int) ∧ (↑i : Int) < (↑n : Int)))
            (NB (decide ((1 : Int) ≤ o (↑i : Int).toNat ∧ o (↑i : Int).toNat ≤ (6 : Int)))
              (VB (!opS (o (↑i : Int).toNat) (v (↑i : Int).toNat) x) (false = r)
                (∃ (i' : Nat),
                  (i' ≤ n ∧ ∀ (j : Nat), j < i' → opS (o j) (v j) x = true) ∧
                    (invAll n o v x).μ i' < (invAll n o v x).μ i ∧
                      (x = x ∧
                          (n = n ∧
                              (∀ (i : Nat), i < n → (o i = o i ∧ v i = v i ∧ True) ∧ [AV.int IntKind.i64 (o i), AV.int IntKind.i64 (v i)].length = [AV.int IntKind.i64 (o i), AV.int IntKind.i64 (v i)].length) ∧
                                (false = true → false = true)) ∧
                            (↑n : Int) = (↑n : Int) ∧ IntKind.i64.wrap ((↑i : Int) + (1 : Int)) = (↑i' : Int) ∧ True) ∧
                        True))))
          (true = r)) := by
  kernel_rfl

theorem allR_vc (n : Nat) (o v : Nat → Int) (x : Int) (r : Bool) : (vcFun (mkE Tryd.prog (tblOf tbl1) fun f b => if f = 47 ∧ b = 0 then some (invAllR n o v x) else none) 20 47 [.rof n (fun i => .agg [.int .i64 (o i), .int .i64 (v i)]) false, .int .i64 x] .nil 0 (retP 3 (.bool r))).sat = (
  (∃ (i : Nat),
      (i ≤ n ∧ ∀ (j : Nat), j < i → opS (o j) (v j) x = true) ∧
        ((n = n ∧
              (∀ (i : Nat), i < n → (o i = o i ∧ v i = v i ∧ True) ∧ [AV.int IntKind.i64 (o i), AV.int IntKind.i64 (v i)].length = [AV.int IntKind.i64 (o i), AV.int IntKind.i64 (v i)].length) ∧
                (false = true → false = true)) ∧
            x = x ∧ (0 : Int) = (↑i : Int) ∧ True) ∧
          True) ∧
    ∀ (i : Nat),
      (i ≤ n ∧ ∀ (j : Nat), j < i → opS (o j) (v j) x = true) →
        VB (decide ((↑i : Int) < (↑n : Int)))
          (NB (decide ((0 : Int) ≤ (↑i : Int) ∧ (↑i : Int) < (↑n : Int)))
            (VB (!condS (o (↑i : Int).toNat) (v (↑i : Int).toNat) x) (false = r)
              (∃ (i' : Nat),
                (i' ≤ n ∧ ∀ (j : Nat), j < i' → opS (o j) (v j) x = true) ∧
                  (invAllR n o v x).μ i' < (invAllR n o v x).μ i ∧
                    ((n = n ∧
                          (∀ (i : Nat), i < n → (o i = o i ∧ v i = v i ∧ True) ∧ [AV.int IntKind.i64 (o i), AV.int IntKind.i64 (v i)].length = [AV.int IntKind.i64 (o i), AV.int IntKind.i64 (v i)].length) ∧
                            (false = true → false = true)) ∧
                        x = x ∧ IntKind.i64.wrap ((↑i : Int) + (1 : Int)) = (↑i' : Int) ∧ True) ∧
                      True)))
          (true = r)) := by
  kernel_rfl

end Go.Proofs.YtjkkkldkimdajaaDoor
namespace Go.Proofs.YtjkkkldkimdajaaDoor
open Pw Go
set_option maxRecDepth 100000
set_option linter.unusedSimpArgs false

theorem condI_ok : PureF Tryd.prog 15 cCond := by
  intro args nd v h hnd
  unfold cCond at h
  split at h <;> cases h
  rename_i op c x
  refine pure_vc (t := tblOf tbl1) (inv := fun _ _ => none) (k := 20) (d := 3) mix tbl1_ok ((condI_vc op c x _ _).mpr ?_)
  repeat' (first
    | (with_reducible refine VB_intro (fun h => ?_) (fun h => ?_) <;> try simp only [h, VB_t, VB_f, NB_t, Bool.not_true, Bool.not_false, Bool.true_and, Bool.false_and, Bool.and_true, Bool.and_false])
    | (with_reducible refine NB_intro' ?_ (fun h => ?_)))
  all_goals try simp only [isW_t, isW_f, impB_t, impB_f, beq_iff_eq, bne_iff_ne, Bool.not_eq_eq_eq_not, Bool.not_true, Bool.not_false, Bool.and_eq_true, Bool.and_eq_false_iff, Bool.or_eq_true, Bool.or_eq_false_iff, beq_eq_false_iff_ne, decide_eq_true_eq, decide_eq_false_iff_not, EqI] at *
  all_goals try simp (disch := omega) only [wrap_i64_id, wrap_u64_id, Int.add_sub_cancel] at *
  all_goals try simp (disch := omega) only [wrap_i64_id, wrap_u64_id, Int.add_sub_cancel] at *
  all_goals try simp (disch := omega) only [wrap_i64_id, wrap_u64_id, Int.add_sub_cancel] at *
  all_goals try simp (disch := omega) only [wrap_i64_id, wrap_u64_id, Int.add_sub_cancel] at *
  all_goals try grind (splits := 20) [condS, condE, okOp]

def cChk : Ctr
  | [.rof n f _] => some (decide (n ≤ 1000000) && condsB n f, .int .i64 (chkS n fun i => opOf (f i)))
  | _ => none
def cAll : Ctr
  | [.rof n f _, .int .i64 x] => some (decide (n ≤ 1000000) && condsB n f && okAll n (fun i => opOf (f i)), .bool (allS n (fun i => opOf (f i)) (fun i => valOf (f i)) x))
  | _ => none

theorem chkI_pure (n : Nat) (o v : Nat → Int) (hn : n ≤ 1000000) : PureC Tryd.prog (fun _ => .undef) 44 [condsAV n o v] (.int .i64 (chkS n o)) := by
  refine pure_vc mix tbl1_ok ((chkI_vc n o v _).mpr ?_)
  have hs := okAll_iff (n := n) (o := o)
  simp only [EqI, true_and, and_true, implies_true, Int.toNat_natCast, List.length_cons, List.length_nil]
  refine VB_intro (fun h => ?_) (fun h => ⟨⟨0, by simp⟩, fun i hi => ?_⟩)
  · have : 8 < n := by have := of_decide_eq_true h; omega
    simp [chkS, this]
  · have h8 : ¬ 8 < n := by have := of_decide_eq_false h; omega
    clear h
    repeat' (first
      | (with_reducible refine VB_intro (fun h => ?_) (fun h => ?_) <;> try simp only [h, VB_t, VB_f, NB_t, Bool.not_true, Bool.not_false, Bool.true_and, Bool.false_and, Bool.and_true, Bool.and_false])
      | (with_reducible refine NB_intro' ?_ (fun h => ?_))
      | (with_reducible refine Exists.intro (i + 1) ?_)
      | (with_reducible refine And.intro ?_ ?_))
    all_goals try simp only [invChk, isW_t, isW_f, impB_t, impB_f, beq_iff_eq, bne_iff_ne, Bool.not_eq_eq_eq_not, Bool.not_true, Bool.not_false, Bool.and_eq_true, Bool.and_eq_false_iff, Bool.or_eq_true, Bool.or_eq_false_iff, beq_eq_false_iff_ne, decide_eq_true_eq, decide_eq_false_iff_not, EqI, List.length_append, List.append_assoc] at *
    all_goals try simp (disch := omega) only [wrap_i64_id, wrap_u64_id, Int.add_sub_cancel] at *
    all_goals try simp (disch := omega) only [wrap_i64_id, wrap_u64_id, Int.add_sub_cancel] at *
    all_goals try omega
    all_goals try grind (splits := 20) [chkS, okOp]
theorem chkR_pure (n : Nat) (o v : Nat → Int) (hn : n ≤ 1000000) : PureC Tryd.prog (fun _ => .undef) 46 [condsAV n o v] (.int .i64 (chkS n o)) := by
  refine pure_vc mix tbl1_ok ((chkR_vc n o v _).mpr ?_)
  have hs := okAll_iff (n := n) (o := o)
  simp only [EqI, true_and, and_true, implies_true, Int.toNat_natCast, List.length_cons, List.length_nil]
  refine VB_intro (fun h => ?_) (fun h => ⟨⟨0, by simp⟩, fun i hi => ?_⟩)
  · have : 8 < n := by have := of_decide_eq_true h; omega
    simp [chkS, this]
  · have h8 : ¬ 8 < n := by have := of_decide_eq_false h; omega
    clear h
    repeat' (first
      | (with_reducible refine VB_intro (fun h => ?_) (fun h => ?_) <;> try simp only [h, VB_t, VB_f, NB_t, Bool.not_true, Bool.not_false, Bool.true_and, Bool.false_and, Bool.and_true, Bool.and_false])
      | (with_reducible refine NB_intro' ?_ (fun h => ?_))
      | (with_reducible refine Exists.intro (i + 1) ?_)
      | (with_reducible refine And.intro ?_ ?_))
    all_goals try simp only [invChkR, isW_t, isW_f, impB_t, impB_f, beq_iff_eq, bne_iff_ne, Bool.not_eq_eq_eq_not, Bool.not_true, Bool.not_false, Bool.and_eq_true, Bool.and_eq_false_iff, Bool.or_eq_true, Bool.or_eq_false_iff, beq_eq_false_iff_ne, decide_eq_true_eq, decide_eq_false_iff_not, EqI, List.length_append, List.append_assoc] at *
    all_goals try simp (disch := omega) only [wrap_i64_id, wrap_u64_id, Int.add_sub_cancel] at *
    all_goals try simp (disch := omega) only [wrap_i64_id, wrap_u64_id, Int.add_sub_cancel] at *
    all_goals try omega
    all_goals try grind (splits := 20) [chkS, okOp]
theorem allI_pure (n : Nat) (o v : Nat → Int) (x : Int) (hn : n ≤ 1000000) (hok : okAll n o = true) : PureC Tryd.prog (fun _ => .undef) 45 [condsAV n o v, .int .i64 x] (.bool (allS n o v x)) := by
  refine pure_vc mix tbl1_ok ((allI_vc n o v x _).mpr ?_)
  have hs := allS_iff (n := n) (o := o) (v := v) (x := x)
  have ho : ∀ i, i < n → 1 ≤ o i ∧ o i ≤ 6 := fun i hi => by simpa [okOp] using okAll_iff.1 hok i hi
  simp only [EqI, true_and, and_true, implies_true, Int.toNat_natCast, List.length_cons, List.length_nil]
  refine ⟨⟨0, by simp⟩, fun i hi => ?_⟩
  repeat' (first
    | (with_reducible refine VB_intro (fun h => ?_) (fun h => ?_) <;> try simp only [h, VB_t, VB_f, NB_t, Bool.not_true, Bool.not_false, Bool.true_and, Bool.false_and, Bool.and_true, Bool.and_false])
    | (with_reducible refine NB_intro' ?_ (fun h => ?_))
    | (with_reducible refine Exists.intro (i + 1) ?_)
    | (with_reducible refine And.intro ?_ ?_))
  all_goals try simp only [invAll, isW_t, isW_f, impB_t, impB_f, beq_iff_eq, bne_iff_ne, Bool.not_eq_eq_eq_not, Bool.not_true, Bool.not_false, Bool.and_eq_true, Bool.and_eq_false_iff, Bool.or_eq_true, Bool.or_eq_false_iff, beq_eq_false_iff_ne, decide_eq_true_eq, decide_eq_false_iff_not, EqI, List.length_append, List.append_assoc] at *
  all_goals try simp (disch := omega) only [wrap_i64_id, wrap_u64_id, Int.add_sub_cancel] at *
  all_goals try simp (disch := omega) only [wrap_i64_id, wrap_u64_id, Int.add_sub_cancel] at *
  all_goals try omega
  all_goals try grind (splits := 20) [allS]
theorem allR_pure (n : Nat) (o v : Nat → Int) (x : Int) (hn : n ≤ 1000000) (hok : okAll n o = true) : PureC Tryd.prog (fun _ => .undef) 47 [condsAV n o v, .int .i64 x] (.bool (allS n o v x)) := by
  refine pure_vc mix tbl1_ok ((allR_vc n o v x _).mpr ?_)
  have hs := allS_iff (n := n) (o := o) (v := v) (x := x)
  have ho : ∀ i, i < n → okOp (o i) = true := okAll_iff.1 hok
  have hc : ∀ i, i < n → condS (o i) (v i) x = opS (o i) (v i) x := fun i hi => by simp [condS, ho i hi]
  simp only [EqI, true_and, and_true, implies_true, Int.toNat_natCast, List.length_cons, List.length_nil]
  refine ⟨⟨0, by simp⟩, fun i hi => ?_⟩
  repeat' (first
    | (with_reducible refine VB_intro (fun h => ?_) (fun h => ?_) <;> try simp only [h, VB_t, VB_f, NB_t, Bool.not_true, Bool.not_false, Bool.true_and, Bool.false_and, Bool.and_true, Bool.and_false])
    | (with_reducible refine NB_intro' ?_ (fun h => ?_))
    | (with_reducible refine Exists.intro (i + 1) ?_)
    | (with_reducible refine And.intro ?_ ?_))
  all_goals try simp only [invAllR, isW_t, isW_f, impB_t, impB_f, beq_iff_eq, bne_iff_ne, Bool.not_eq_eq_eq_not, Bool.not_true, Bool.not_false, Bool.and_eq_true, Bool.and_eq_false_iff, Bool.or_eq_true, Bool.or_eq_false_iff, beq_eq_false_iff_ne, decide_eq_true_eq, decide_eq_false_iff_not, EqI, List.length_append, List.append_assoc] at *
  all_goals try simp (disch := omega) only [wrap_i64_id, wrap_u64_id, Int.add_sub_cancel] at *
  all_goals try simp (disch := omega) only [wrap_i64_id, wrap_u64_id, Int.add_sub_cancel] at *
  all_goals try omega
  all_goals try grind (splits := 20) [allS]
end Go.Proofs.YtjkkkldkimdajaaDoor
namespace Go.Proofs.YtjkkkldkimdajaaDoor
open Pw Go
set_option maxRecDepth 100000
set_option linter.unusedSimpArgs false

def cAwake : Ctr
  | [] => some (true, .bool true)
  | _ => none
theorem known_ok : PureF Tryd.prog 6 cAwake := by
  intro args nd v h hnd
  unfold cAwake at h
  split at h <;> cases h
  exact pure_closed (k := 40) mix (by kernel_rfl)
def tbl2 : List (Nat × Ctr) := [(15, cCond), (6, cAwake)]
theorem tbl2_ok : TblOK Tryd.prog (fun _ => .undef) (tblOf tbl2) := tbl_cons condI_ok (tbl_cons known_ok (tbl_nil _))

end Go.Proofs.YtjkkkldkimdajaaDoor
