/- AGGREGATES 3: an aggregate, by its function: the program's, the document's. -/
import Derived.Test.YtamcloifhjafcaaDoorAA1
namespace Go.Proofs.YtamcloifhjafcaaDoor
open Pw Go
set_option maxRecDepth 100000
set_option linter.unusedSimpArgs false
theorem ints_of {g : Nat} {F : Nat → (Nat → Int) → AV} {B : Nat → Bool} (h : ∀ (n : Nat) (a : Nat → Int), n ≤ 1000000 → B n = true → (∀ i, i < n → rng64 (a i)) → PureC Tryd.prog (fun _ => .undef) g [intsAV n a] (F n a)) :
  PureF Tryd.prog g (fun args => match args with | [.rof n f _] => some (decide (n ≤ 1000000) && B n && intsB n f, F n (fun i => toInt (f i))) | _ => none) := by
 intro args nd v he hnd
 simp only at he
 split at he <;> cases he
 simp only [Bool.and_eq_true, decide_eq_true_eq] at hnd
 rename_i n f ex
 obtain ⟨h1, h2⟩ := rof_ints_sub (ex := ex) hnd.2
 refine PureC.args (args' := [intsAV n (fun i => toInt (f i))]) rfl ?_ (h _ _ hnd.1.1 hnd.1.2 h2)
 intro i hi
 match i, hi with
 | 0, _ => exact h1
def cTotal : Ctr := fun args => match args with | [.rof n f _] => some (decide (n ≤ 1000000) && true && intsB n f, .tup [.int .i64 (sumV n (fun i => toInt (f i))), .int .i64 (sumE n (fun i => toInt (f i)))]) | _ => none
def cLeast : Ctr := fun args => match args with | [.rof n f _] => some (decide (n ≤ 1000000) && decide (1 ≤ n) && intsB n f, .tup [.int .i64 (leastS (fun i => toInt (f i)) (n - 1)), .int .i64 0]) | _ => none
def cMost : Ctr := fun args => match args with | [.rof n f _] => some (decide (n ≤ 1000000) && decide (1 ≤ n) && intsB n f, .tup [.int .i64 (mostS (fun i => toInt (f i)) (n - 1)), .int .i64 0]) | _ => none
theorem cTotal_ok : PureF Tryd.prog 85 cTotal :=
 ints_of (F := fun n a => .tup [.int .i64 (sumV n a), .int .i64 (sumE n a)]) (B := fun _ => true) (fun n a hn _ ha => total_pure n a (by omega) ha)
theorem cSumR_ok : PureF Tryd.prog 98 cTotal :=
 ints_of (F := fun n a => .tup [.int .i64 (sumV n a), .int .i64 (sumE n a)]) (B := fun _ => true) (fun n a hn _ ha => refsum_pure n a (by omega) ha)
theorem cLeast_ok : PureF Tryd.prog 86 cLeast :=
 ints_of (F := fun n a => .tup [.int .i64 (leastS a (n - 1)), .int .i64 0]) (B := fun n => decide (1 ≤ n)) (fun n a hn h1 _ => by
  obtain ⟨m, rfl⟩ : ∃ m, n = m + 1 := ⟨n - 1, by have := of_decide_eq_true h1; omega⟩
  exact least_pure m a (by omega))
theorem cMost_ok : PureF Tryd.prog 89 cMost :=
 ints_of (F := fun n a => .tup [.int .i64 (mostS a (n - 1)), .int .i64 0]) (B := fun n => decide (1 ≤ n)) (fun n a hn h1 _ => by
  obtain ⟨m, rfl⟩ : ∃ m, n = m + 1 := ⟨n - 1, by have := of_decide_eq_true h1; omega⟩
  exact most_pure m a (by omega))
def tblAg : List (Nat × Ctr) := [(85, cTotal), (86, cLeast), (89, cMost), (98, cTotal)]
theorem tblAg_ok : TblOK Tryd.prog (fun _ => .undef) (tblOf tblAg) := tbl_cons cTotal_ok (tbl_cons cLeast_ok (tbl_cons cMost_ok (tbl_cons cSumR_ok (tbl_nil _))))
def invX : Inv := ⟨Unit, 5, fun _ => ⟨[], []⟩, fun _ => False, fun _ => 0⟩
def invM (n : Nat) (a : Nat → Int) (f : Int) (g : Nat → Int) : Inv := ⟨Nat, 0, fun i => ⟨[(0, .int .i64 f), (1, intsAV n a), (6, .int .i64 n), (7, .int .i64 (g i)), (8, .int .i64 (i + 1))], []⟩, fun i => i + 1 ≤ n, fun i => n - i⟩
theorem ofI1_vc (n : Nat) (a : Nat → Int) (s e : Int) : (vcFun (mkE Tryd.prog (tblOf tblAg) fun _ _ => none) 20 52 [.int .i64 1, intsAV n a] .nil 0 (retP 3 (.tup [.int .i64 s, .int .i64 e]))).sat = ( (↑n : Int) = s ∧ (0 : Int) = e ∧ True) := by
 kernel_rfl
theorem ofI2_vc (n : Nat) (a : Nat → Int) (s e : Int) : (vcFun (mkE Tryd.prog (tblOf tblAg) fun _ _ => none) 20 52 [.int .i64 2, intsAV n a] .nil 0 (retP 3 (.tup [.int .i64 s, .int .i64 e]))).sat = ( NB (decide (n ≤ (1000000 : Nat)) && true && intsB n fun (i : Nat) => AV.int IntKind.i64 (a i)) ((sumV n fun (i : Nat) => a i) = s ∧ (sumE n fun (i : Nat) => a i) = e ∧ True)) := by
 kernel_rfl
theorem ofI3_vc (n : Nat) (a : Nat → Int) (s e : Int) : (vcFun (mkE Tryd.prog (tblOf tblAg) fun _ _ => none) 20 52 [.int .i64 3, intsAV n a] .nil 0 (retP 3 (.tup [.int .i64 s, .int .i64 e]))).sat = ( VB (true && (↑n : Int) == (0 : Int)) ((0 : Int) = s ∧ (7 : Int) = e ∧ True) (NB (decide (n ≤ (1000000 : Nat)) && decide ((1 : Nat) ≤ n) && intsB n fun (i : Nat) => AV.int IntKind.i64 (a i)) (leastS (fun (i : Nat) => a i) (n - (1 : Nat)) = s ∧ (0 : Int) = e ∧ True))) := by
 kernel_rfl
theorem ofI4_vc (n : Nat) (a : Nat → Int) (s e : Int) : (vcFun (mkE Tryd.prog (tblOf tblAg) fun _ _ => none) 20 52 [.int .i64 4, intsAV n a] .nil 0 (retP 3 (.tup [.int .i64 s, .int .i64 e]))).sat = ( VB (true && (↑n : Int) == (0 : Int)) ((0 : Int) = s ∧ (7 : Int) = e ∧ True) (NB (decide (n ≤ (1000000 : Nat)) && decide ((1 : Nat) ≤ n) && intsB n fun (i : Nat) => AV.int IntKind.i64 (a i)) (mostS (fun (i : Nat) => a i) (n - (1 : Nat)) = s ∧ (0 : Int) = e ∧ True))) := by
 kernel_rfl
theorem ofI5_vc (n : Nat) (a : Nat → Int) (s e : Int) : (vcFun (mkE Tryd.prog (tblOf tblAg) fun _ _ => none) 20 52 [.int .i64 5, intsAV n a] .nil 0 (retP 3 (.tup [.int .i64 s, .int .i64 e]))).sat = ( VB (true && (↑n : Int) == (0 : Int)) ((0 : Int) = s ∧ (7 : Int) = e ∧ True) (NB (decide ((0 : Int) ≤ (0 : Int) ∧ (0 : Int) < (↑n : Int))) (a (Int.toNat (0 : Int)) = s ∧ (0 : Int) = e ∧ True))) := by
 kernel_rfl
theorem ofI6_vc (n : Nat) (a : Nat → Int) (s e : Int) : (vcFun (mkE Tryd.prog (tblOf tblAg) fun _ _ => none) 20 52 [.int .i64 6, intsAV n a] .nil 0 (retP 3 (.tup [.int .i64 s, .int .i64 e]))).sat = ( VB (true && (↑n : Int) == (0 : Int)) ((0 : Int) = s ∧ (7 : Int) = e ∧ True) (NB (decide ((0 : Int) ≤ IntKind.i64.wrap ((↑n : Int) - (1 : Int)) ∧ IntKind.i64.wrap ((↑n : Int) - (1 : Int)) < (↑n : Int))) (a (IntKind.i64.wrap ((↑n : Int) - (1 : Int))).toNat = s ∧ (0 : Int) = e ∧ True))) := by
 kernel_rfl
theorem ofR1_vc (n : Nat) (a : Nat → Int) (s e : Int) : (vcFun (mkE Tryd.prog (tblOf tblAg) (fun _ _ => none)) 20 64 [.int .i64 1, intsAV n a] .nil 0 (retP 3 (.tup [.int .i64 s, .int .i64 e]))).sat = ( (↑n : Int) = s ∧ (0 : Int) = e ∧ True) := by
 kernel_rfl
theorem ofR2_vc (n : Nat) (a : Nat → Int) (s e : Int) : (vcFun (mkE Tryd.prog (tblOf tblAg) (fun _ _ => none)) 20 64 [.int .i64 2, intsAV n a] .nil 0 (retP 3 (.tup [.int .i64 s, .int .i64 e]))).sat = ( NB (decide (n ≤ (1000000 : Nat)) && true && intsB n fun (i : Nat) => AV.int IntKind.i64 (a i)) ((sumV n fun (i : Nat) => a i) = s ∧ (sumE n fun (i : Nat) => a i) = e ∧ True)) := by
 kernel_rfl
theorem ofR3_vc (n : Nat) (a : Nat → Int) (s e : Int) : (vcFun (mkE Tryd.prog (tblOf tblAg) (fun f b => if f = 64 ∧ b = 1 then some (invM n a 3 (leastS a)) else none)) 20 64 [.int .i64 3, intsAV n a] .nil 0 (retP 3 (.tup [.int .i64 s, .int .i64 e]))).sat = ( VB ((↑n : Int) == (0 : Int)) ((0 : Int) = s ∧ (7 : Int) = e ∧ True) (NB (decide ((0 : Int) ≤ (0 : Int) ∧ (0 : Int) < (↑n : Int))) ((∃ (i : Nat), (i + (1 : Nat)).le n ∧ (EqI (3 : Int) (3 : Int) ∧ (n = n ∧ (∀ (i : Nat), i < n → a i = a i ∧ [AV.int IntKind.i64 (a i)].length = [AV.int IntKind.i64 (a i)].length) ∧ (false = true → false = true)) ∧ (↑n : Int) = (↑n : Int) ∧ a (Int.toNat (0 : Int)) = leastS a i ∧ (1 : Int) = (↑i : Int) + (1 : Int) ∧ True) ∧ True) ∧ ∀ (i : Nat), (i + (1 : Nat)).le n → VB (decide ((↑i : Int) + (1 : Int) < (↑n : Int))) (NB (decide ((0 : Int) ≤ (↑i : Int) + (1 : Int) ∧ (↑i : Int) + (1 : Int) < (↑n : Int))) (∃ (i' : Nat), (i' + (1 : Nat)).le n ∧ (invM n a (3 : Int) (leastS a)).μ i' < (invM n a (3 : Int) (leastS a)).μ i ∧ (EqI (3 : Int) (3 : Int) ∧ (n = n ∧ (∀ (i : Nat), i < n → a i = a i ∧ [AV.int IntKind.i64 (a i)].length = [AV.int IntKind.i64 (a i)].length) ∧ (false = true → false = true)) ∧ (↑n : Int) = (↑n : Int) ∧ minI (leastS a i) (a ((↑i : Int) + (1 : Int)).toNat) = leastS a i' ∧ IntKind.i64.wrap ((↑i : Int) + (1 : Int) + (1 : Int)) = (↑i' : Int) + (1 : Int) ∧ True) ∧ True)) (leastS a i = s ∧ (0 : Int) = e ∧ True)))) := by
 kernel_rfl
theorem ofR4_vc (n : Nat) (a : Nat → Int) (s e : Int) : (vcFun (mkE Tryd.prog (tblOf tblAg) (fun f b => if f = 64 ∧ b = 1 then some (invM n a 4 (mostS a)) else none)) 20 64 [.int .i64 4, intsAV n a] .nil 0 (retP 3 (.tup [.int .i64 s, .int .i64 e]))).sat = ( VB ((↑n : Int) == (0 : Int)) ((0 : Int) = s ∧ (7 : Int) = e ∧ True) (NB (decide ((0 : Int) ≤ (0 : Int) ∧ (0 : Int) < (↑n : Int))) ((∃ (i : Nat), (i + (1 : Nat)).le n ∧ (EqI (4 : Int) (4 : Int) ∧ (n = n ∧ (∀ (i : Nat), i < n → a i = a i ∧ [AV.int IntKind.i64 (a i)].length = [AV.int IntKind.i64 (a i)].length) ∧ (false = true → false = true)) ∧ (↑n : Int) = (↑n : Int) ∧ a (Int.toNat (0 : Int)) = mostS a i ∧ (1 : Int) = (↑i : Int) + (1 : Int) ∧ True) ∧ True) ∧ ∀ (i : Nat), (i + (1 : Nat)).le n → VB (decide ((↑i : Int) + (1 : Int) < (↑n : Int))) (NB (decide ((0 : Int) ≤ (↑i : Int) + (1 : Int) ∧ (↑i : Int) + (1 : Int) < (↑n : Int))) (∃ (i' : Nat), (i' + (1 : Nat)).le n ∧ (invM n a (4 : Int) (mostS a)).μ i' < (invM n a (4 : Int) (mostS a)).μ i ∧ (EqI (4 : Int) (4 : Int) ∧ (n = n ∧ (∀ (i : Nat), i < n → a i = a i ∧ [AV.int IntKind.i64 (a i)].length = [AV.int IntKind.i64 (a i)].length) ∧ (false = true → false = true)) ∧ (↑n : Int) = (↑n : Int) ∧ maxI (mostS a i) (a ((↑i : Int) + (1 : Int)).toNat) = mostS a i' ∧ IntKind.i64.wrap ((↑i : Int) + (1 : Int) + (1 : Int)) = (↑i' : Int) + (1 : Int) ∧ True) ∧ True)) (mostS a i = s ∧ (0 : Int) = e ∧ True)))) := by
 kernel_rfl
theorem ofR5_vc (n : Nat) (a : Nat → Int) (s e : Int) : (vcFun (mkE Tryd.prog (tblOf tblAg) (fun _ _ => none)) 20 64 [.int .i64 5, intsAV n a] .nil 0 (retP 3 (.tup [.int .i64 s, .int .i64 e]))).sat = ( VB ((↑n : Int) == (0 : Int)) ((0 : Int) = s ∧ (7 : Int) = e ∧ True) (NB (decide ((0 : Int) ≤ (0 : Int) ∧ (0 : Int) < (↑n : Int))) (a (Int.toNat (0 : Int)) = s ∧ (0 : Int) = e ∧ True))) := by
 kernel_rfl
theorem ofR6_vc (n : Nat) (a : Nat → Int) (s e : Int) : (vcFun (mkE Tryd.prog (tblOf tblAg) (fun _ _ => none)) 20 64 [.int .i64 6, intsAV n a] .nil 0 (retP 3 (.tup [.int .i64 s, .int .i64 e]))).sat = ( VB ((↑n : Int) == (0 : Int)) ((0 : Int) = s ∧ (7 : Int) = e ∧ True) (NB (decide ((0 : Int) ≤ IntKind.i64.wrap ((↑n : Int) - (1 : Int)) ∧ IntKind.i64.wrap ((↑n : Int) - (1 : Int)) < (↑n : Int))) (a (IntKind.i64.wrap ((↑n : Int) - (1 : Int))).toNat = s ∧ (0 : Int) = e ∧ True))) := by
 kernel_rfl
theorem ofIx_vc (n : Nat) (a : Nat → Int) (f : Int) (s e : Int) : (vcFun (mkE Tryd.prog (tblOf tblAg) fun g b => if g = 52 ∧ b = 100007 then some invX else none) 20 52 [.int .i64 f, intsAV n a] .nil 0 (retP 3 (.tup [.int .i64 s, .int .i64 e]))).sat = ( VB (decide (IntKind.i64.wrap (f - (1 : Int)) < (0 : Int)) || decide (IntKind.i64.wrap (f - (1 : Int)) ≥ (6 : Int))) ((0 : Int) = s ∧ (11 : Int) = e ∧ True) (VB (decide (IntKind.i64.wrap (f - (1 : Int)) > (1 : Int)) && (↑n : Int) == (0 : Int)) ((0 : Int) = s ∧ (7 : Int) = e ∧ True) (∃ (_ : Unit), False ∧ True ∧ True)) ∧ ∀ (_ : Unit), False → False) := by
 kernel_rfl
theorem ofRx_vc (n : Nat) (a : Nat → Int) (f : Int) (s e : Int) : (vcFun (mkE Tryd.prog (tblOf tblAg) fun _ _ => none) 20 64 [.int .i64 f, intsAV n a] .nil 0 (retP 3 (.tup [.int .i64 s, .int .i64 e]))).sat = ( VB (decide (f < (1 : Int)) || decide (f > (6 : Int))) ((0 : Int) = s ∧ (11 : Int) = e ∧ True) (VB (f == (1 : Int)) ((↑n : Int) = s ∧ (0 : Int) = e ∧ True) (VB (f == (2 : Int)) (NB (decide (n ≤ (1000000 : Nat)) && true && intsB n fun (i : Nat) => AV.int IntKind.i64 (a i)) ((sumV n fun (i : Nat) => a i) = s ∧ (sumE n fun (i : Nat) => a i) = e ∧ True)) (VB ((↑n : Int) == (0 : Int)) ((0 : Int) = s ∧ (7 : Int) = e ∧ True) (VB (f == (5 : Int)) (NB (decide ((0 : Int) ≤ (0 : Int) ∧ (0 : Int) < (↑n : Int))) (a (Int.toNat (0 : Int)) = s ∧ (0 : Int) = e ∧ True)) (VB (f == (6 : Int)) (NB (decide ((0 : Int) ≤ IntKind.i64.wrap ((↑n : Int) - (1 : Int)) ∧ IntKind.i64.wrap ((↑n : Int) - (1 : Int)) < (↑n : Int))) (a (IntKind.i64.wrap ((↑n : Int) - (1 : Int))).toNat = s ∧ (0 : Int) = e ∧ True)) (NB (decide ((0 : Int) ≤ (0 : Int) ∧ (0 : Int) < (↑n : Int))) False))))))) := by
 kernel_rfl
end Go.Proofs.YtamcloifhjafcaaDoor
