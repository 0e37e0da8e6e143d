/- PRED 2: lists of conditions, their code. -/
import Derived.Test.YtjkkkldkimdajaaDoorP1
namespace Go.Proofs.YtjkkkldkimdajaaDoor
open Pw Go
set_option maxRecDepth 100000
set_option linter.unusedSimpArgs false

def condsAV (n : Nat) (o v : Nat → Int) : AV := .rof n (fun i => .agg [.int .i64 (o i), .int .i64 (v i)]) false
def opOf : AV → Int
  | .agg [.int _ n, _] => n
  | _ => 0
def valOf : AV → Int
  | .agg [_, .int _ n] => n
  | _ => 0
def isCond : AV → Bool
  | .agg [.int .i64 _, .int .i64 _] => true
  | _ => false
def condsB (n : Nat) (f : Nat → AV) : Bool := (List.range n).all fun i => isCond (f i)
theorem rof_cond_sub {n : Nat} {f : Nat → AV} {ex : Bool} (h : condsB n f = true) : (AV.rof n f ex).sub (condsAV n (fun i => opOf (f i)) (fun i => valOf (f i))) := by
  refine ⟨rfl, fun i hi => ?_, by simp⟩
  have := List.all_eq_true.1 h i (by simpa using hi)
  show (f i).sub (.agg [.int .i64 (opOf (f i)), .int .i64 (valOf (f i))]) ∧ (f i).cells.length = 2
  generalize f i = x at this
  unfold isCond at this
  split at this
  · exact ⟨⟨rfl, rfl, trivial⟩, rfl⟩
  · cases this

def okAll (n : Nat) (o : Nat → Int) : Bool := (List.range n).all fun i => okOp (o i)
def chkS (n : Nat) (o : Nat → Int) : Int := if 8 < n then 6 else if okAll n o = true then 0 else 11
def allS (n : Nat) (o v : Nat → Int) (x : Int) : Bool := (List.range n).all fun i => opS (o i) (v i) x
theorem okAll_iff {n : Nat} {o : Nat → Int} : okAll n o = true ↔ ∀ i, i < n → okOp (o i) = true := by simp [okAll]
theorem allS_iff {n : Nat} {o v : Nat → Int} {x : Int} : allS n o v x = true ↔ ∀ i, i < n → opS (o i) (v i) x = true := by simp [allS]
def tbl1 : List (Nat × Ctr) := [(51, cHolds), (16, cCond)]
theorem tbl1_ok : TblOK Tryd.prog (fun _ => .undef) (tblOf tbl1) := tbl_cons holds_ok (tbl_cons condR_ok (tbl_nil _))
noncomputable def E1 : Env := mkE Tryd.prog (tblOf tbl1) fun _ _ => none
def invChk (n : Nat) (o v : Nat → Int) : Inv := ⟨Nat, 1, fun i => ⟨[(8, condsAV n o v), (9, .int .i64 n), (10, .int .i64 i)], []⟩, fun i => i ≤ n ∧ ∀ j, j < i → okOp (o j) = true, fun i => n - i⟩
def invChkR (n : Nat) (o v : Nat → Int) : Inv := ⟨Nat, 1, fun i => ⟨[(0, condsAV n o v), (3, .int .i64 i)], []⟩, fun i => i ≤ n ∧ ∀ j, j < i → okOp (o j) = true, fun i => n - i⟩
def invAll (n : Nat) (o v : Nat → Int) (x : Int) : Inv := ⟨Nat, 1, fun i => ⟨[(1, .int .i64 x), (7, condsAV n o v), (8, .int .i64 n), (9, .int .i64 i)], []⟩, fun i => i ≤ n ∧ ∀ j, j < i → opS (o j) (v j) x = true, fun i => n - i⟩
def invAllR (n : Nat) (o v : Nat → Int) (x : Int) : Inv := ⟨Nat, 1, fun i => ⟨[(0, condsAV n o v), (1, .int .i64 x), (5, .int .i64 i)], []⟩, fun i => i ≤ n ∧ ∀ j, j < i → opS (o j) (v j) x = true, fun i => n - i⟩

theorem condI_vc (op c x : Int) (r : Bool) (e : Int) : (vcFun E1 20 15 [.agg [.int .i64 op, .int .i64 c], .int .i64 x] .nil 0 (retP 3 (.tup [.bool r, .int .i64 e]))).sat = (
  VB (!(decide (op ≥ (1 : Int)) && decide (op ≤ (6 : Int)))) (false = r ∧ (11 : Int) = e ∧ True) (NB (decide ((1 : Int) ≤ op ∧ op ≤ (6 : Int))) (opS op c x = r ∧ (0 : Int) = e ∧ True))) := by
  kernel_rfl

theorem chkI_vc (n : Nat) (o v : Nat → Int) (r : Int) : (vcFun (mkE Tryd.prog (tblOf tbl1) fun f b => if f = 44 ∧ b = 0 then some (invChk n o v) else none) 20 44 [.rof n (fun i => .agg [.int .i64 (o i), .int .i64 (v i)]) false] .nil 0 (retP 3 (.int .i64 r))).sat = (
  VB (decide ((↑n : Int) > (8 : Int))) ((6 : Int) = r)
    ((∃ (i : Nat),
        (i ≤ n ∧ ∀ (j : Nat), j < i → okOp (o j) = true) ∧
          ((n = n ∧
                (∀ (i : Nat), i < n → (o i = o i ∧ v i = v i ∧ True) ∧ [AV.int IntKind.i64 (o i), AV.int IntKind.i64 (v i)].length = [AV.int IntKind.i64 (o i), AV.int IntKind.i64 (v i)].length) ∧
                  (false = true → false = true)) ∧
              (↑n : Int) = (↑n : Int) ∧ (0 : Int) = (↑i : Int) ∧ True) ∧
            True) ∧
      ∀ (i : Nat),
        (i ≤ n ∧ ∀ (j : Nat), j < i → okOp (o j) = true) →
          VB (decide ((↑i : Int) < (↑n : Int)))
            (NB (decide ((0 : Int) ≤ (↑i : Int) ∧ (↑i : Int) < (↑n : Int)))
              (VB (!(decide (o (↑i : Int).toNat ≥ (1 : Int)) && decide (o (↑i : Int).toNat ≤ (6 : Int)))) ((11 : Int) = r)
                (∃ (i' : Nat),
                  (i' ≤ n ∧ ∀ (j : Nat), j < i' → okOp (o j) = true) ∧
                    (invChk n o v).μ i' < (invChk n o v).μ i ∧
                      ((n = n ∧
                            (∀ (i : Nat), i < n → (o i = o i ∧ v i = v i ∧ True) ∧ [AV.int IntKind.i64 (o i), AV.int IntKind.i64 (v i)].length = [AV.int IntKind.i64 (o i), AV.int IntKind.i64 (v i)].length) ∧
                              (false = true → false = true)) ∧
                          (↑n : Int) = (↑n : Int) ∧ IntKind.i64.wrap ((↑i : Int) + (1 : Int)) = (↑i' : Int) ∧ True) ∧
                        True)))
            ((0 : Int) = r))) := by
  kernel_rfl

theorem chkR_vc (n : Nat) (o v : Nat → Int) (r : Int) : (vcFun (mkE Tryd.prog (tblOf tbl1) fun f b => if f = 46 ∧ b = 0 then some (invChkR n o v) else none) 20 46 [.rof n (fun i => .agg [.int .i64 (o i), .int .i64 (v i)]) false] .nil 0 (retP 3 (.int .i64 r))).sat = (
  VB (decide ((↑n : Int) > (8 : Int))) ((6 : Int) = r)
    ((∃ (i : Nat),
        (i ≤ n ∧ ∀ (j : Nat), j < i → okOp (o j) = true) ∧
          ((n = n ∧
                (∀ (i : Nat), i < n → (o i = o i ∧ v i = v i ∧ True) ∧ [AV.int IntKind.i64 (o i), AV.int IntKind.i64 (v i)].length = [AV.int IntKind.i64 (o i), AV.int IntKind.i64 (v i)].length) ∧
                  (false = true → false = true)) ∧
              (0 : Int) = (↑i : Int) ∧ True) ∧
            True) ∧
      ∀ (i : Nat),
        (i ≤ n ∧ ∀ (j : Nat), j < i → okOp (o j) = true) →
          VB (decide ((↑i : Int) < (↑n : Int)))
            (NB (decide ((0 : Int) ≤ (↑i : Int) ∧ (↑i : Int) < (↑n : Int)))
              (NB (impB (isW false (decide (o (↑i : Int).toNat < (1 : Int)))) (decide ((0 : Int) ≤ (↑i : Int) ∧ (↑i : Int) < (↑n : Int))))
                (VB (decide (o (↑i : Int).toNat < (1 : Int)) || decide (o (↑i : Int).toNat > (6 : Int))) ((11 : Int) = r)
                  (∃ (i' : Nat),
                    (i' ≤ n ∧ ∀ (j : Nat), j < i' → okOp (o j) = true) ∧
                      (invChkR n o v).μ i' < (invChkR n o v).μ i ∧
                        ((n = n ∧
                              (∀ (i : Nat), i < n → (o i = o i ∧ v i = v i ∧ True) ∧ [AV.int IntKind.i64 (o i), AV.int IntKind.i64 (v i)].length = [AV.int IntKind.i64 (o i), AV.int IntKind.i64 (v i)].length) ∧
                                (false = true → false = true)) ∧
                            IntKind.i64.wrap ((↑i : Int) + (1 : Int)) = (↑i' : Int) ∧ True) ∧
                          True))))
            ((0 : Int) = r))) := by
  kernel_rfl

theorem allI_vc (n : Nat) (o v : Nat → Int) (x : Int) (r : Bool) : (vcFun (mkE Tryd.prog (tblOf tbl1) fun f b => if f = 45 ∧ b = 0 then some (invAll n o v x) else none) 20 45 [.rof n (fun i => .agg [.int .i64 (o i), .int .i64 (v i)]) false, .int .i64 x] .nil 0 (retP 3 (.bool r))).sat = (
  (∃ (i : Nat),
      (i ≤ n ∧ ∀ (j : Nat), j < i → opS (o j) (v j) x = true) ∧
        (x = x ∧
            (n = n ∧
                (∀ (i : Nat), i < n → (o i = o i ∧ v i = v i ∧ True) ∧ [AV.int IntKind.i64 (o i), AV.int IntKind.i64 (v i)].length = [AV.int IntKind.i64 (o i), AV.int IntKind.i64 (v i)].length) ∧
                  (false = true → false = true)) ∧
              (↑n : Int) = (↑n : Int) ∧ (0 : Int) = (↑i : Int) ∧ True) ∧
          True) ∧
    ∀ (i : Nat),
      (i ≤ n ∧ ∀ (j : Nat), j < i → opS (o j) (v j) x = true) →
        VB (decide ((↑i : Int) < (↑n : Int)))
          (NB (decide ((0 : Int) ≤ (↑i : Int) ∧ (↑i : Int) < (↑n : Int)))
            (NB (decide ((1 : Int) ≤ o (↑i : Int).toNat ∧ o (↑i : Int).toNat ≤ (6 : Int)))
              (VB (!opS (o (↑i : Int).toNat) (v (↑i : Int).toNat) x) (false = r)
                (∃ (i' : Nat),
                  (i' ≤ n ∧ ∀ (j : Nat), j < i' → opS (o j) (v j) x = true) ∧
                    (invAll n o v x).μ i' < (invAll n o v x).μ i ∧
                      (x = x ∧
                          (n = n ∧
                              (∀ (i : Nat), i < n → (o i = o i ∧ v i = v i ∧ True) ∧ [AV.int IntKind.i64 (o i), AV.int IntKind.i64 (v i)].length = [AV.int IntKind.i64 (o i), AV.int IntKind.i64 (v i)].length) ∧
                                (false = true → false = true)) ∧
                            (↑n : Int) = (↑n : Int) ∧ IntKind.i64.wrap ((↑i : Int) + (1 : Int)) = (↑i' : Int) ∧ True) ∧
                        True))))
          (true = r)) := by
  kernel_rfl

theorem allR_vc (n : Nat) (o v : Nat → Int) (x : Int) (r : Bool) : (vcFun (mkE Tryd.prog (tblOf tbl1) fun f b => if f = 47 ∧ b = 0 then some (invAllR n o v x) else none) 20 47 [.rof n (fun i => .agg [.int .i64 (o i), .int .i64 (v i)]) false, .int .i64 x] .nil 0 (retP 3 (.bool r))).sat = (
  (∃ (i : Nat),
      (i ≤ n ∧ ∀ (j : Nat), j < i → opS (o j) (v j) x = true) ∧
        ((n = n ∧
              (∀ (i : Nat), i < n → (o i = o i ∧ v i = v i ∧ True) ∧ [AV.int IntKind.i64 (o i), AV.int IntKind.i64 (v i)].length = [AV.int IntKind.i64 (o i), AV.int IntKind.i64 (v i)].length) ∧
                (false = true → false = true)) ∧
            x = x ∧ (0 : Int) = (↑i : Int) ∧ True) ∧
          True) ∧
    ∀ (i : Nat),
      (i ≤ n ∧ ∀ (j : Nat), j < i → opS (o j) (v j) x = true) →
        VB (decide ((↑i : Int) < (↑n : Int)))
          (NB (decide ((0 : Int) ≤ (↑i : Int) ∧ (↑i : Int) < (↑n : Int)))
            (VB (!condS (o (↑i : Int).toNat) (v (↑i : Int).toNat) x) (false = r)
              (∃ (i' : Nat),
                (i' ≤ n ∧ ∀ (j : Nat), j < i' → opS (o j) (v j) x = true) ∧
                  (invAllR n o v x).μ i' < (invAllR n o v x).μ i ∧
                    ((n = n ∧
                          (∀ (i : Nat), i < n → (o i = o i ∧ v i = v i ∧ True) ∧ [AV.int IntKind.i64 (o i), AV.int IntKind.i64 (v i)].length = [AV.int IntKind.i64 (o i), AV.int IntKind.i64 (v i)].length) ∧
                            (false = true → false = true)) ∧
                        x = x ∧ IntKind.i64.wrap ((↑i : Int) + (1 : Int)) = (↑i' : Int) ∧ True) ∧
                      True)))
          (true = r)) := by
  kernel_rfl

end Go.Proofs.YtjkkkldkimdajaaDoor
