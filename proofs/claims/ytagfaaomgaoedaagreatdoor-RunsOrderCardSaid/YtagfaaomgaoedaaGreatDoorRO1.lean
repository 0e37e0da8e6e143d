/- ORDER 2: comparisons: contracts' forms, conditions of the code. -/
import Derived.Test.YtagfaaomgaoedaaGreatDoorPwG5
import Derived.Test.YtagfaaomgaoedaaGreatDoorRK1
/- Comparisons of lists of numbers, and of partial matches: they are orders. -/

set_option autoImplicit false
set_option linter.unusedSimpArgs false
namespace Pw

structure Cm {α : Type} (f : α → α → Int) : Prop where
 val : ∀ a b, f a b = -1 ∨ f a b = 0 ∨ f a b = 1
 anti : ∀ a b, f b a = -f a b
 tr : ∀ a b c, (f a b ≤ 0 → f b c ≤ 0 → f a c ≤ 0) ∧ (f a b ≤ 0 → f b c < 0 → f a c < 0) ∧ (f a b < 0 → f b c ≤ 0 → f a c < 0)

def cmpI (a b : Int) : Int := if a < b then -1 else if b < a then 1 else 0
theorem cmpI_cm : Cm cmpI := by
 refine ⟨fun a b => ?_, fun a b => ?_, fun a b c => ?_⟩
 all_goals (unfold cmpI; repeat' split)
 all_goals omega
theorem cmpI_zero {a b : Int} : cmpI a b = 0 ↔ a = b := by
 unfold cmpI
 split
 ·omega
 ·split <;> omega
theorem Cm.lex {α : Type} {f g : α → α → Int} (hf : Cm f) (hg : Cm g) : Cm fun a b => if f a b ≠ 0 then f a b else g a b := by
 refine ⟨fun a b => ?_, fun a b => ?_, fun a b c => ?_⟩
 ·have := hf.val a b
  have := hg.val a b
  show (if f a b ≠ 0 then f a b else g a b) = -1 ∨ (if f a b ≠ 0 then f a b else g a b) = 0 ∨ (if f a b ≠ 0 then f a b else g a b) = 1
  split <;> assumption
 ·have h1 := hf.anti a b
  have h2 := hg.anti a b
  show (if f b a ≠ 0 then f b a else g b a) = -(if f a b ≠ 0 then f a b else g a b)
  split <;> split <;> omega
 ·obtain ⟨h1, h2, h3⟩ := hf.tr a b c
  obtain ⟨g1, g2, g3⟩ := hg.tr a b c
  have hz : f a b = 0 → f b c = 0 → f a c = 0 := fun e1 e2 => by
   have a1 := hf.anti a b
   have a2 := hf.anti b c
   have a3 := hf.anti a c
   have := h1 (by omega) (by omega)
   have := (hf.tr c b a).1 (by omega) (by omega)
   omega
  have hp := hf.val a b
  have hq := hf.val b c
  show ((if f a b ≠ 0 then f a b else g a b) ≤ 0 → (if f b c ≠ 0 then f b c else g b c) ≤ 0 → (if f a c ≠ 0 then f a c else g a c) ≤ 0) ∧ ((if f a b ≠ 0 then f a b else g a b) ≤ 0 → (if f b c ≠ 0 then f b c else g b c) < 0 → (if f a c ≠ 0 then f a c else g a c) < 0) ∧
   ((if f a b ≠ 0 then f a b else g a b) < 0 → (if f b c ≠ 0 then f b c else g b c) ≤ 0 → (if f a c ≠ 0 then f a c else g a c) < 0)
  clear hf hg
  generalize f a b = p at *
  generalize f b c = q at *
  generalize f a c = r at *
  generalize g a b = p' at *
  generalize g b c = q' at *
  generalize g a c = r' at *
  by_cases h4 : p = 0
  ·by_cases h5 : q = 0
   ·rw [hz h4 h5, h4, h5]
    exact ⟨g1, g2, g3⟩
   ·rw [h4, if_neg (by simp), if_pos h5]
    have h6 : q < 0 → r < 0 := fun h => h2 (by omega) h
    refine ⟨fun u v => ?_, fun u v => ?_, fun u v => ?_⟩ <;> (have := h6 (by omega); rw [if_pos (by omega)]; omega)
  ·rw [if_pos h4]
   have h6 : p < 0 → q ≤ 0 → r < 0 := h3
   by_cases h5 : q = 0
   ·rw [h5, if_neg (by simp)]
    refine ⟨fun u v => ?_, fun u v => ?_, fun u v => ?_⟩ <;> (have := h6 (by omega) (by omega); rw [if_pos (by omega)]; omega)
   ·rw [if_pos h5]
    refine ⟨fun u v => ?_, fun u v => ?_, fun u v => ?_⟩ <;> (have := h6 (by omega) (by omega); rw [if_pos (by omega)]; omega)
theorem Cm.comap {α β : Type} {f : α → α → Int} (hf : Cm f) (k : β → α) : Cm fun a b => f (k a) (k b) :=
 ⟨fun a b => hf.val (k a) (k b), fun a b => hf.anti (k a) (k b), fun a b c => hf.tr (k a) (k b) (k c)⟩

def cmpL : List Int → List Int → Int
 | [], [] => 0
 | [], _ :: _ => -1
 | _ :: _, [] => 1
 | x :: l, y :: m => if cmpI x y ≠ 0 then cmpI x y else cmpL l m
theorem cmpL_cm : Cm cmpL := by
 refine ⟨?_, ?_, ?_⟩
 ·intro l
  induction l with
  | nil => intro m; cases m <;> simp [cmpL]
  | cons x l ih =>
   intro m
   cases m with
   | nil => simp [cmpL]
   | cons y m =>
    simp only [cmpL]
    split
    ·exact cmpI_cm.val x y
    ·exact ih m
 ·intro l
  induction l with
  | nil => intro m; cases m <;> simp [cmpL]
  | cons x l ih =>
   intro m
   cases m with
   | nil => simp [cmpL]
   | cons y m =>
    have h1 := cmpI_cm.anti x y
    have h2 := ih m
    simp only [cmpL]
    split <;> split <;> omega
 ·intro l
  induction l with
  | nil => intro m n; cases m <;> cases n <;> simp [cmpL]
  | cons x l ih =>
   intro m n
   cases m with
   | nil => cases n <;> simp [cmpL]
   | cons y m =>
    cases n with
    | nil => simp [cmpL]
    | cons z n =>
     have h2 := ih m n
     simp only [cmpL]
     unfold cmpI
     refine ⟨fun u v => ?_, fun u v => ?_, fun u v => ?_⟩ <;> (revert u v; repeat' split) <;> intro u v <;> first | omega | (exfalso; simp_all; done) | (exact h2.1 u v) | (exact h2.2.1 u v) | (exact h2.2.2 u v)
theorem cmpL_zero : ∀ {l m : List Int}, cmpL l m = 0 ↔ l = m
 | [], [] => by simp [cmpL]
 | [], _ :: _ => by simp [cmpL]
 | _ :: _, [] => by simp [cmpL]
 | x :: l, y :: m => by
  have h1 := @cmpI_zero x y
  have h2 := @cmpL_zero l m
  simp only [cmpL, List.cons.injEq]
  by_cases h : cmpI x y = 0
  ·rw [if_neg (by simpa using h)]
   simp [h1.1 h, h2]
  ·rw [if_pos h]
   exact ⟨fun e => absurd e h, fun e => absurd (h1.2 e.1) h⟩

/-- What is compared first. -/
def fstI (n m p q : Int) : Int := if n = 0 ∨ m = 0 then cmpI (minI n 1) (minI m 1) else cmpI p q
def lastI (P : List Int) : Int := if P.length = 0 then 0 else P.getD (P.length - 1) 0
def fstP (P Q : List Int) : Int := fstI P.length Q.length (lastI P) (lastI Q)
theorem fstP_lex (P Q : List Int) : fstP P Q = if cmpI (minI P.length 1) (minI Q.length 1) ≠ 0 then cmpI (minI P.length 1) (minI Q.length 1) else cmpI (lastI P) (lastI Q) := by
 unfold fstP fstI lastI minI cmpI
 repeat' split
 all_goals omega
theorem fstP_cm : Cm fstP := by
 have h := Cm.lex (cmpI_cm.comap fun P : List Int => minI P.length 1) (cmpI_cm.comap lastI)
 have e : fstP = fun P Q => if cmpI (minI P.length 1) (minI Q.length 1) ≠ 0 then cmpI (minI P.length 1) (minI Q.length 1) else cmpI (lastI P) (lastI Q) := funext fun P => funext fun Q => fstP_lex P Q
 rw [e]
 exact h
abbrev PartG := List Int × List Int
/-- How two partial matches (atoms, positions) are compared. -/
def cmpP (a b : PartG) : Int := if fstP a.2 b.2 ≠ 0 then fstP a.2 b.2 else if cmpL a.2 b.2 ≠ 0 then cmpL a.2 b.2 else cmpL a.1 b.1
theorem cmpP_cm : Cm cmpP := Cm.lex (fstP_cm.comap Prod.snd) (Cm.lex (cmpL_cm.comap Prod.snd) (cmpL_cm.comap Prod.fst))
theorem fstP_self (P : List Int) : fstP P P = 0 := by have := fstP_cm.anti P P; omega
theorem cmpP_zero {a b : PartG} : cmpP a b = 0 ↔ a = b := by
 obtain ⟨A, P⟩ := a
 obtain ⟨B, Q⟩ := b
 constructor
 ·intro h
  unfold cmpP at h
  split at h
  ·rename_i h1; exact absurd h h1
  ·split at h
   ·rename_i h1; exact absurd h h1
   ·rename_i h1
    have h1 := cmpL_zero.1 (by simpa using h1)
    have h2 := cmpL_zero.1 h
    simp only at h1 h2
    rw [h1, h2]
 ·rintro ⟨⟩
  unfold cmpP
  have h1 := fstP_self P
  have h2 := (@cmpL_zero P P).2 rfl
  have h3 := (@cmpL_zero A A).2 rfl
  simp [h1, h2, h3]
end Pw
namespace Go.Proofs.YtagfaaomgaoedaaGreatDoor
open Pw Go
set_option maxRecDepth 100000
set_option linter.unusedSimpArgs false
abbrev isA (L : List Int) : AV := .rof L.length (fun k => .int .i64 (L.getD k 0)) false
abbrev partA (p : PartG) : AV := .agg [isA p.1, isA p.2]
def intOf : AV → Int
 | .int .i64 n => n
 | _ => 0
def isInt : AV → Bool
 | .int .i64 _ => true
 | _ => false
def isL : AV → Bool
 | .rof n f _ => decide (n ≤ 10) && (List.range n).all fun k => isInt (f k)
 | _ => false
def lsOf : AV → List Int
 | .rof n f _ => (List.range n).map fun k => intOf (f k)
 | _ => []
def isPart : AV → Bool
 | .agg [x, y] => isL x && isL y
 | _ => false
def partOf : AV → PartG
 | .agg [x, y] => (lsOf x, lsOf y)
 | _ => ([], [])
noncomputable def cCmp : Ctr
 | [.int .i64 a, .int .i64 b] => some (true, .int .i64 (cmpI a b))
 | _ => none
noncomputable def cCmpL : Ctr
 | [x, y] => some (isL x && isL y, .int .i64 (cmpL (lsOf x) (lsOf y)))
 | _ => none
noncomputable def cSameI : Ctr
 | [x, y] => some (isL x && isL y, .bool (decide (lsOf x = lsOf y)))
 | _ => none
noncomputable def cOr : Ctr
 | [.rol [.int .i64 a, .int .i64 b] _] => some (true, .int .i64 (if a ≠ 0 then a else b))
 | _ => none
noncomputable def cCmpP : Ctr
 | [p, q] => some (isPart p && isPart q, .int .i64 (cmpP (partOf p) (partOf q)))
 | _ => none
noncomputable def cAwake : Ctr
 | [] => some (true, .bool true)
 | _ => none
noncomputable def invCmpL (l m : List Int) : Inv := ⟨Nat, 50, fun i => ⟨[(0, isA l), (1, isA m), (9, isA l), (10, .int .i64 l.length), (11, .int .i64 i)], []⟩, fun i => i ≤ l.length ∧ i ≤ m.length ∧ cmpL (l.drop i) (m.drop i) = cmpL l m, fun i => l.length - i⟩
noncomputable def invSameI (l m : List Int) : Inv := ⟨Nat, 50, fun i => ⟨[(0, isA l), (1, isA m), (5, .int .i64 i)], []⟩, fun i => i ≤ l.length ∧ l.length = m.length ∧ ∀ j, j < i → l.getD j 0 = m.getD j 0, fun i => l.length - i⟩
noncomputable def tblRC : List (Nat × Ctr) := [(12, cCmp), (14, cCmpL), (13, cOr)]
noncomputable def tblRO : List (Nat × Ctr) := [(5, cCmpP), (6, cSameI), (4, cAwake)]
noncomputable def ERC : Env := { mkG Tryz.prog gN (tblOf tblRC) (fun _ _ => none) 0 with po := true }
noncomputable def ERO : Env := { mkG Tryz.prog gN (tblOf tblRO) (fun _ _ => none) 0 with po := true }
noncomputable def ESI (l m : List Int) : Env := { mkG Tryz.prog gN (tblOf []) (fun f b => if f = 6 ∧ b = 0 then some (invSameI l m) else none) 0 with po := true }
theorem nan_vc (a : Int) : (vcFun (mkG Tryz.prog gN (tblOf []) (fun _ _ => none) 0) 20 24 [.int .i64 a] .nil 0 (retP 3 (.bool false))).sat = ( (a != a) = false) := by
 kernel_rfl
theorem cmp_vc (a b r : Int) : (vcFun (mkG Tryz.prog gN (tblOf [(24, fun a => match a with | [.int .i64 _] => some (true, .bool false) | _ => none)]) (fun _ _ => none) 0) 20 12 [.int .i64 a, .int .i64 b] .nil 0 (retP 3 (.int .i64 r))).sat = ( VB (decide (a < b)) ((-1 : Int) = r) (VB (decide (a > b)) ((1 : Int) = r) ((0 : Int) = r))) := by
 kernel_rfl
theorem cmpL_vc (l m : List Int) (r : Int) : (vcFun (mkG Tryz.prog gN (tblOf [(12, cCmp)]) (fun f b => if f = 14 ∧ b = 0 then some (invCmpL l m) else none) 0) 20 14 [isA l, isA m] .nil 0 (retP 3 (.int .i64 r))).sat = ( (∃ (i : Nat), (i ≤ l.length ∧ i ≤ m.length ∧ cmpL (List.drop i l) (List.drop i m) = cmpL l m) ∧ ((l.length = l.length ∧ (∀ (i : Nat), i < l.length → l.getD i (0 : Int) = l.getD i (0 : Int) ∧ [AV.int IntKind.i64 (l.getD i (0 : Int))].length = [AV.int IntKind.i64 (l.getD i (0 : Int))].length) ∧ (false = true → false = true)) ∧ (m.length = m.length ∧ (∀ (i : Nat), i < m.length → m.getD i (0 : Int) = m.getD i (0 : Int) ∧ [AV.int IntKind.i64 (m.getD i (0 : Int))].length = [AV.int IntKind.i64 (m.getD i (0 : Int))].length) ∧ (false = true → false = true)) ∧ (l.length = l.length ∧ (∀ (i : Nat), i < l.length → l.getD i (0 : Int) = l.getD i (0 : Int) ∧ [AV.int IntKind.i64 (l.getD i (0 : Int))].length = [AV.int IntKind.i64 (l.getD i (0 : Int))].length) ∧ (false = true → false = true)) ∧ (↑l.length : Int) = (↑l.length : Int) ∧ (0 : Int) = (↑i : Int) ∧ True) ∧ True) ∧ ∀ (i : Nat), i ≤ l.length ∧ i ≤ m.length ∧ cmpL (List.drop i l) (List.drop i m) = cmpL l m → VB (decide ((↑i : Int) < (↑l.length : Int))) (NB (decide ((0 : Int) ≤ (↑i : Int) ∧ (↑i : Int) < (↑l.length : Int))) (VB (decide ((↑i : Int) ≥ (↑m.length : Int))) ((1 : Int) = r) (NB (decide ((0 : Int) ≤ (↑i : Int) ∧ (↑i : Int) < (↑m.length : Int))) (VB (cmpI (l.getD (↑i : Int).toNat (0 : Int)) (m.getD (↑i : Int).toNat (0 : Int)) != (0 : Int)) (cmpI (l.getD (↑i : Int).toNat (0 : Int)) (m.getD (↑i : Int).toNat (0 : Int)) = r) (∃ (i' : Nat), (i' ≤ l.length ∧ i' ≤ m.length ∧ cmpL (List.drop i' l) (List.drop i' m) = cmpL l m) ∧ (invCmpL l m).μ i' < (invCmpL l m).μ i ∧ ((l.length = l.length ∧ (∀ (i : Nat), i < l.length → l.getD i (0 : Int) = l.getD i (0 : Int) ∧ [AV.int IntKind.i64 (l.getD i (0 : Int))].length = [AV.int IntKind.i64 (l.getD i (0 : Int))].length) ∧ (false = true → false = true)) ∧ (m.length = m.length ∧ (∀ (i : Nat), i < m.length → m.getD i (0 : Int) = m.getD i (0 : Int) ∧ [AV.int IntKind.i64 (m.getD i (0 : Int))].length = [AV.int IntKind.i64 (m.getD i (0 : Int))].length) ∧ (false = true → false = true)) ∧ (l.length = l.length ∧ (∀ (i : Nat), i < l.length → l.getD i (0 : Int) = l.getD i (0 : Int) ∧ [AV.int IntKind.i64 (l.getD i (0 : Int))].length = [AV.int IntKind.i64 (l.getD i (0 : Int))].length) ∧ (false = true → false = true)) ∧ (↑l.length : Int) = (↑l.length : Int) ∧ IntKind.i64.wrap ((↑i : Int) + (1 : Int)) = (↑i' : Int) ∧ True) ∧ True))))) (VB (decide ((↑l.length : Int) < (↑m.length : Int))) ((-1 : Int) = r) ((0 : Int) = r))) := by
 kernel_rfl
theorem same_vc (l m : List Int) (r : Bool) : (vcFun (ESI l m) 20 6 [isA l, isA m] .nil 0 (retP 3 (.bool r))).sat = ( VB ((↑l.length : Int) != (↑m.length : Int)) (false = r) ((∃ (i : Nat), (i ≤ l.length ∧ l.length = m.length ∧ ∀ (j : Nat), j < i → l.getD j (0 : Int) = m.getD j (0 : Int)) ∧ ((l.length = l.length ∧ (∀ (i : Nat), i < l.length → l.getD i (0 : Int) = l.getD i (0 : Int) ∧ [AV.int IntKind.i64 (l.getD i (0 : Int))].length = [AV.int IntKind.i64 (l.getD i (0 : Int))].length) ∧ (false = true → false = true)) ∧ (m.length = m.length ∧ (∀ (i : Nat), i < m.length → m.getD i (0 : Int) = m.getD i (0 : Int) ∧ [AV.int IntKind.i64 (m.getD i (0 : Int))].length = [AV.int IntKind.i64 (m.getD i (0 : Int))].length) ∧ (false = true → false = true)) ∧ (0 : Int) = (↑i : Int) ∧ True) ∧ True) ∧ ∀ (i : Nat), (i ≤ l.length ∧ l.length = m.length ∧ ∀ (j : Nat), j < i → l.getD j (0 : Int) = m.getD j (0 : Int)) → VB (decide ((↑i : Int) < (↑l.length : Int))) (NB (decide ((0 : Int) ≤ (↑i : Int) ∧ (↑i : Int) < (↑l.length : Int))) (NB (decide ((0 : Int) ≤ (↑i : Int) ∧ (↑i : Int) < (↑m.length : Int))) (VB (l.getD (↑i : Int).toNat (0 : Int) != m.getD (↑i : Int).toNat (0 : Int)) (false = r) (∃ (i' : Nat), (i' ≤ l.length ∧ l.length = m.length ∧ ∀ (j : Nat), j < i' → l.getD j (0 : Int) = m.getD j (0 : Int)) ∧ (invSameI l m).μ i' < (invSameI l m).μ i ∧ ((l.length = l.length ∧ (∀ (i : Nat), i < l.length → l.getD i (0 : Int) = l.getD i (0 : Int) ∧ [AV.int IntKind.i64 (l.getD i (0 : Int))].length = [AV.int IntKind.i64 (l.getD i (0 : Int))].length) ∧ (false = true → false = true)) ∧ (m.length = m.length ∧ (∀ (i : Nat), i < m.length → m.getD i (0 : Int) = m.getD i (0 : Int) ∧ [AV.int IntKind.i64 (m.getD i (0 : Int))].length = [AV.int IntKind.i64 (m.getD i (0 : Int))].length) ∧ (false = true → false = true)) ∧ IntKind.i64.wrap ((↑i : Int) + (1 : Int)) = (↑i' : Int) ∧ True) ∧ True)))) (true = r))) := by
 kernel_rfl
theorem or_vc (a b r : Int) : (vcFun (mkG Tryz.prog gN (tblOf []) (fun _ _ => none) 3) 20 13 [.rol [.int .i64 a, .int .i64 b] false] .nil 0 (retP 3 (.int .i64 r))).sat = ( VB (a != (0 : Int)) (a = r) (VB (b != (0 : Int)) (b = r) ((0 : Int) = r))) := by
 kernel_rfl
theorem cmpP_vc (p q : PartG) (r : Int) : (vcFun ERC 20 5 [partA p, partA q] .nil 0 (retP 3 (.int .i64 r))).sat = ( VB ((↑p.snd.length : Int) == (0 : Int) || (↑q.snd.length : Int) == (0 : Int)) (VB (cmpI (minI (↑p.snd.length : Int) (1 : Int)) (minI (↑q.snd.length : Int) (1 : Int)) != (0 : Int)) (cmpI (minI (↑p.snd.length : Int) (1 : Int)) (minI (↑q.snd.length : Int) (1 : Int)) = r) (NB (isL (AV.rof p.snd.length (fun (k : Nat) => AV.int IntKind.i64 (p.snd.getD k (0 : Int))) false) && isL (AV.rof q.snd.length (fun (k : Nat) => AV.int IntKind.i64 (q.snd.getD k (0 : Int))) false)) (NB (isL (AV.rof p.fst.length (fun (k : Nat) => AV.int IntKind.i64 (p.fst.getD k (0 : Int))) false) && isL (AV.rof q.fst.length (fun (k : Nat) => AV.int IntKind.i64 (q.fst.getD k (0 : Int))) false)) ((if cmpL (lsOf (AV.rof p.snd.length (fun (k : Nat) => AV.int IntKind.i64 (p.snd.getD k (0 : Int))) false)) (lsOf (AV.rof q.snd.length (fun (k : Nat) => AV.int IntKind.i64 (q.snd.getD k (0 : Int))) false)) ≠ (0 : Int) then cmpL (lsOf (AV.rof p.snd.length (fun (k : Nat) => AV.int IntKind.i64 (p.snd.getD k (0 : Int))) false)) (lsOf (AV.rof q.snd.length (fun (k : Nat) => AV.int IntKind.i64 (q.snd.getD k (0 : Int))) false)) else cmpL (lsOf (AV.rof p.fst.length (fun (k : Nat) => AV.int IntKind.i64 (p.fst.getD k (0 : Int))) false)) (lsOf (AV.rof q.fst.length (fun (k : Nat) => AV.int IntKind.i64 (q.fst.getD k (0 : Int))) false))) = r)))) (NB (decide ((0 : Int) ≤ IntKind.i64.wrap ((↑p.snd.length : Int) - (1 : Int)) ∧ IntKind.i64.wrap ((↑p.snd.length : Int) - (1 : Int)) < (↑p.snd.length : Int))) (NB (decide ((0 : Int) ≤ IntKind.i64.wrap ((↑q.snd.length : Int) - (1 : Int)) ∧ IntKind.i64.wrap ((↑q.snd.length : Int) - (1 : Int)) < (↑q.snd.length : Int))) (VB (cmpI (p.snd.getD (IntKind.i64.wrap ((↑p.snd.length : Int) - (1 : Int))).toNat (0 : Int)) (q.snd.getD (IntKind.i64.wrap ((↑q.snd.length : Int) - (1 : Int))).toNat (0 : Int)) != (0 : Int)) (cmpI (p.snd.getD (IntKind.i64.wrap ((↑p.snd.length : Int) - (1 : Int))).toNat (0 : Int)) (q.snd.getD (IntKind.i64.wrap ((↑q.snd.length : Int) - (1 : Int))).toNat (0 : Int)) = r) (NB (isL (AV.rof p.snd.length (fun (k : Nat) => AV.int IntKind.i64 (p.snd.getD k (0 : Int))) false) && isL (AV.rof q.snd.length (fun (k : Nat) => AV.int IntKind.i64 (q.snd.getD k (0 : Int))) false)) (NB (isL (AV.rof p.fst.length (fun (k : Nat) => AV.int IntKind.i64 (p.fst.getD k (0 : Int))) false) && isL (AV.rof q.fst.length (fun (k : Nat) => AV.int IntKind.i64 (q.fst.getD k (0 : Int))) false)) ((if cmpL (lsOf (AV.rof p.snd.length (fun (k : Nat) => AV.int IntKind.i64 (p.snd.getD k (0 : Int))) false)) (lsOf (AV.rof q.snd.length (fun (k : Nat) => AV.int IntKind.i64 (q.snd.getD k (0 : Int))) false)) ≠ (0 : Int) then cmpL (lsOf (AV.rof p.snd.length (fun (k : Nat) => AV.int IntKind.i64 (p.snd.getD k (0 : Int))) false)) (lsOf (AV.rof q.snd.length (fun (k : Nat) => AV.int IntKind.i64 (q.snd.getD k (0 : Int))) false)) else cmpL (lsOf (AV.rof p.fst.length (fun (k : Nat) => AV.int IntKind.i64 (p.fst.getD k (0 : Int))) false)) (lsOf (AV.rof q.fst.length (fun (k : Nat) => AV.int IntKind.i64 (q.fst.getD k (0 : Int))) false))) = r))))))) := by
 kernel_rfl
theorem order_vc (a b c : PartG) : (vcFun ERO 20 3 [partA a, partA b, partA c] .nil 0 (isBool true)).sat = (let c5 := (fun (k : Nat) => AV.int IntKind.i64 (a.fst.getD k (0 : Int)))
 let c7 := (fun (k : Nat) => AV.int IntKind.i64 (a.snd.getD k (0 : Int)))
 let c0 := (AV.agg [AV.rof a.fst.length c5 false, AV.rof a.snd.length c7 false])
 let c6 := (fun (k : Nat) => AV.int IntKind.i64 (b.fst.getD k (0 : Int)))
 let c8 := (fun (k : Nat) => AV.int IntKind.i64 (b.snd.getD k (0 : Int)))
 let c1 := (AV.agg [AV.rof b.fst.length c6 false, AV.rof b.snd.length c8 false])
 let c2 := (AV.agg [AV.rof c.fst.length (fun (k : Nat) => AV.int IntKind.i64 (c.fst.getD k (0 : Int))) false, AV.rof c.snd.length (fun (k : Nat) => AV.int IntKind.i64 (c.snd.getD k (0 : Int))) false])
 let c4 := (lsOf (AV.rof a.fst.length c5 false) = lsOf (AV.rof b.fst.length c6 false))
 let c3 := (decide c4 && decide (lsOf (AV.rof a.snd.length c7 false) = lsOf (AV.rof b.snd.length c8 false)))
 VB (decide ((↑a.fst.length : Int) > (10 : Int)) || decide ((↑a.snd.length : Int) > (10 : Int)) || decide ((↑b.fst.length : Int) > (10 : Int)) || decide ((↑b.snd.length : Int) > (10 : Int)) || decide ((↑c.fst.length : Int) > (10 : Int)) || decide ((↑c.snd.length : Int) > (10 : Int))) (true = true) (NB (isPart c0 && isPart c1) (NB (isPart c1 && isPart c2) (NB (isPart c0 && isPart c2) (NB (isL (AV.rof a.fst.length c5 false) && isL (AV.rof b.fst.length c6 false)) (NB (impB (isW true (decide c4)) (isL (AV.rof a.snd.length c7 false) && isL (AV.rof b.snd.length c8 false))) (NB (impB (isW true ((cmpP (partOf c0) (partOf c1) == (0 : Int)) == c3)) (isPart c1 && isPart c0)) ((((cmpP (partOf c0) (partOf c1) == (0 : Int)) == c3 && cmpP (partOf c1) (partOf c0) == IntKind.i64.wrap ((0 : Int) - cmpP (partOf c0) (partOf c1)) && (decide (cmpP (partOf c0) (partOf c1) > (0 : Int)) || decide (cmpP (partOf c1) (partOf c2) > (0 : Int)) || decide (cmpP (partOf c0) (partOf c2) ≤ (0 : Int))) && (decide (cmpP (partOf c0) (partOf c1) ≥ (0 : Int)) || decide (cmpP (partOf c1) (partOf c2) > (0 : Int)) || decide (cmpP (partOf c0) (partOf c2) < (0 : Int))) && true) == true) = true)))))))) := by
 kernel_rfl
end Go.Proofs.YtagfaaomgaoedaaGreatDoor
