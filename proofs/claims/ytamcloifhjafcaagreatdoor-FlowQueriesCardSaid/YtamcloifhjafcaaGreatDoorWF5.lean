/- WELL-FORMED 5: the checks, conditions. -/
import Derived.Test.YtamcloifhjafcaaGreatDoorWF3
namespace Go.Proofs.YtamcloifhjafcaaGreatDoor
open Pw Go
set_option maxRecDepth 100000
set_option linter.unusedSimpArgs false
def mxS (a : Nat → Int) : Nat → Int
 | 0 => a 0
 | k + 1 => maxI (mxS a k) (a (k + 1))
abbrev dpi (x : NodeG) (i : Nat) : Int := ((elems 8 1 x).getD i (0, treeD)).1
def dpth (x : NodeG) : Int := if sndB x = true then mxS (dpi x) ((elems 8 1 x).length - 1) else 0
def invCD (x : NodeG) : Inv := ⟨Nat × Nat, 80, fun p => ⟨[], [(3, .row 0 1 true (.lst [.fn (.func 114) [] []])), (4, .row 0 1 false (.lst [.sl 60 p.2 0 p.1 none])),
 (60, .row p.2 1 true (.fn p.1 (fun k => .int .i64 (dpi x k))))]⟩, fun p => p.1 ≤ (elems 8 1 x).length, fun p => p.1⟩
def invMx (x : NodeG) : Inv := ⟨Nat × Nat, 90, fun p => ⟨[(0, .sl 60 p.2 0 (elems 8 1 x).length none), (3, .int .i64 (mxS (dpi x) (p.1 - 1))), (4, .int .i64 p.1)], [(60, .row p.2 1 true (.fn (elems 8 1 x).length (fun k => .int .i64 (dpi x k))))]⟩, fun p => 1 ≤ p.1 ∧ p.1 ≤ (elems 8 1 x).length, fun p => (elems 8 1 x).length - p.1⟩
noncomputable def ECD (x : NodeG) : Env := { mkG Tryz.prog gN (tblOf [(67, cSoundE)]) (fun f b => if f = 113 ∧ b = 200008 then some (invCD x) else if f = 99 ∧ b = 0 then some (invMx x) else none) 0 with itr := itV 8 }
noncomputable def cSomeW (x : NodeG) (w : Int) (hs : List HaveG) (es : List AggG) (b1 b2 b3 : Bool) : Ctr
 | [q, .fn (.func g) [] []] => some (atB [q] [qA x w hs es] && (g == 79 || g == 81 || g == 82), .bool (if g = 79 then b1 else if g = 81 then b2 else b3))
 | _ => none
noncomputable def tblFu (x : NodeG) (w : Int) (hs : List HaveG) (es : List AggG) (A : List AtomG) (e : Int) (b1 b2 b3 : Bool) (d : Int) : List (Nat × Ctr) :=
 [(29, cAt [nodeA 16 x] (.tup [.rof A.length (fun k => atomA (A.getD k atomD)) false, .int .i64 e])), (80, cAt [nodeA 16 x] (.tup [.int .i64 d, .int .i64 e])),
  (78, cSomeW x w hs es b1 b2 b3)]
noncomputable def EFu (x : NodeG) (w : Int) (hs : List HaveG) (es : List AggG) (A : List AtomG) (e : Int) (b1 b2 b3 : Bool) (d : Int) : Env := mkG Tryz.prog gN (tblOf (tblFu x w hs es A e b1 b2 b3 d)) (fun _ _ => none) 0
noncomputable def tblCk (x : NodeG) (w : Int) (hs : List HaveG) (es : List AggG) (e1 e2 e3 e4 e5 e6 : Int) : List (Nat × Ctr) :=
 [(58, cAt [qA x w hs es] (.int .i64 e1)), (59, cAt [qA x w hs es] (.int .i64 e2)), (60, cAt [qA x w hs es] (.int .i64 e3)), (61, cAt [qA x w hs es] (.int .i64 e4)),
  (62, cAt [qA x w hs es] (.int .i64 e5)), (63, cAt [qA x w hs es] (.int .i64 e6))]
theorem depth_vc (x : NodeG) (d e : Int) : (vcFun (ECD x) 20 80 [nodeA 9 x] .nil 0 (retP 4 (.tup [.int .i64 d, .int .i64 e]))).sat = ( NB (isNode (8 : Nat) (nodeA (9 : Nat) x)) (VB (sndE (nodeOf (8 : Nat) (nodeA (9 : Nat) x)) != (0 : Int)) (VB (sndE (nodeOf (8 : Nat) (nodeA (9 : Nat) x)) != (0 : Int)) ((0 : Int) = d ∧ sndE (nodeOf (8 : Nat) (nodeA (9 : Nat) x)) = e ∧ True) False) (NB (isNode (8 : Nat) (nodeA (9 : Nat) x) && true && true && true && true && true && true) ((∃ (i : Nat × Nat), i.fst.le (elems (8 : Nat) (1 : Int) x).length ∧ (invCD x).μ i = (0 : Nat) ∧ True ∧ ((0 : Nat) = (0 : Nat) ∧ (true = true → true = true) ∧ ((Fn.func (114 : Nat) = Fn.func (114 : FuncId) ∧ True ∧ True) ∧ [AV.fn (Fn.func (114 : Nat)) [] []].length = [AV.fn (Fn.func (114 : FuncId)) [] []].length) ∧ True) ∧ ((0 : Nat) = (0 : Nat) ∧ (1 : Nat) = (1 : Nat) ∧ i.fst = (0 : Nat) ∧ i.snd = i.snd ∧ i.fst = (0 : Nat)) ∧ i.fst = (0 : Nat) ∧ True) ∧ (∀ (i : Nat × Nat), i.fst.le (elems (8 : Nat) (1 : Int) x).length ∧ (invCD x).μ i < (elems (8 : Nat) (1 : Int) (nodeOf (8 : Nat) (nodeA (9 : Nat) x))).length → NB (true && decide (i.snd = i.snd) && room (i.fst + (1 : Nat)) (8 : Nat)) (∃ (i' : Nat × Nat), i'.fst.le (elems (8 : Nat) (1 : Int) x).length ∧ (invCD x).μ i' = (invCD x).μ i + (1 : Nat) ∧ True ∧ ((0 : Nat) = (0 : Nat) ∧ (true = true → true = true) ∧ ((Fn.func (114 : FuncId) = Fn.func (114 : FuncId) ∧ True ∧ True) ∧ [AV.fn (Fn.func (114 : FuncId)) [] []].length = [AV.fn (Fn.func (114 : FuncId)) [] []].length) ∧ True) ∧ ((0 : Nat) = (0 : Nat) ∧ (false = true → false = true) ∧ ((i.snd + (1 : Nat) = i'.snd ∧ (0 : Nat) = (0 : Nat) ∧ i.fst + (1 : Nat) = i'.fst ∧ (@Eq (Option Nat) none none ∨ @Eq (Option Nat) none none)) ∧ [AV.sl (60 : Nat) (i.snd + (1 : Nat)) (0 : Nat) (i.fst + (1 : Nat)) none].length = [AV.sl (60 : Nat) i'.snd (0 : Nat) i'.fst none].length) ∧ True) ∧ (i.snd + (1 : Nat) = i'.snd ∧ (true = true → true = true) ∧ i.fst + (1 : Nat) = i'.fst ∧ ∀ (i_1 : Nat), i_1 < i.fst + (1 : Nat) → (if i_1 < i.fst then AV.int IntKind.i64 (dpi x ((0 : Nat) + i_1)) else ((Sq.lst [AV.int IntKind.i64 ((elems (8 : Nat) (1 : Int) (nodeOf (8 : Nat) (nodeA (9 : Nat) x))).getD ((invCD x).μ i) ((0 : Int), treeD)).fst]).sub (0 : Nat) (1 : Nat)).get (i_1 - i.fst)).sub (AV.int IntKind.i64 (dpi x i_1)) ∧ (if i_1 < i.fst then AV.int IntKind.i64 (dpi x ((0 : Nat) + i_1)) else ((Sq.lst [AV.int IntKind.i64 ((elems (8 : Nat) (1 : Int) (nodeOf (8 : Nat) (nodeA (9 : Nat) x))).getD ((invCD x).μ i) ((0 : Int), treeD)).fst]).sub (0 : Nat) (1 : Nat)).get (i_1 - i.fst)).cells.length = [AV.int IntKind.i64 (dpi x i_1)].length) ∧ True)) ∧ ∀ (i : Nat × Nat), i.fst.le (elems (8 : Nat) (1 : Int) x).length ∧ (invCD x).μ i = (elems (8 : Nat) (1 : Int) (nodeOf (8 : Nat) (nodeA (9 : Nat) x))).length → VB (decide ((↑i.fst : Int) < (1 : Int))) False (NB (decide (i.snd = i.snd) && decide ((0 : Int) ≤ (0 : Int) ∧ (0 : Int) < (↑i.fst : Int))) (NB (decide (i.snd = i.snd)) ((∃ (i_1 : Nat × Nat), ((1 : Nat) ≤ i_1.fst ∧ i_1.fst ≤ (elems (8 : Nat) (1 : Int) x).length) ∧ ((i.snd = i_1.snd ∧ (0 : Nat) = (0 : Nat) ∧ i.fst = (elems (8 : Nat) (1 : Int) x).length ∧ (@Eq (Option Nat) none none ∨ @Eq (Option Nat) none none)) ∧ dpi x ((0 : Nat) + Int.toNat (0 : Int)) = mxS (dpi x) (i_1.fst - (1 : Nat)) ∧ (1 : Int) = (↑i_1.fst : Int) ∧ True) ∧ (i.snd = i_1.snd ∧ (true = true → true = true) ∧ i.fst = (elems (8 : Nat) (1 : Int) x).length ∧ ∀ (i_2 : Nat), i_2 < i.fst → dpi x i_2 = dpi x i_2 ∧ [AV.int IntKind.i64 (dpi x i_2)].length = [AV.int IntKind.i64 (dpi x i_2)].length) ∧ True) ∧ ∀ (i : Nat × Nat), (1 : Nat) ≤ i.fst ∧ i.fst ≤ (elems (8 : Nat) (1 : Int) x).length → VB (decide ((↑i.fst : Int) < (↑(elems (8 : Nat) (1 : Int) x).length : Int))) (NB (decide (i.snd = i.snd) && decide ((0 : Int) ≤ (↑i.fst : Int) ∧ (↑i.fst : Int) < (↑(elems (8 : Nat) (1 : Int) x).length : Int))) (NB (decide (i.snd = i.snd)) (∃ (i' : Nat × Nat), ((1 : Nat) ≤ i'.fst ∧ i'.fst ≤ (elems (8 : Nat) (1 : Int) x).length) ∧ (invMx x).μ i' < (invMx x).μ i ∧ ((i.snd = i'.snd ∧ (0 : Nat) = (0 : Nat) ∧ (elems (8 : Nat) (1 : Int) x).length = (elems (8 : Nat) (1 : Int) x).length ∧ (@Eq (Option Nat) none none ∨ @Eq (Option Nat) none none)) ∧ maxI (mxS (dpi x) (i.fst - (1 : Nat))) (dpi x ((0 : Nat) + (↑i.fst : Int).toNat)) = mxS (dpi x) (i'.fst - (1 : Nat)) ∧ IntKind.i64.wrap ((↑i.fst : Int) + (1 : Int)) = (↑i'.fst : Int) ∧ True) ∧ (i.snd = i'.snd ∧ (true = true → true = true) ∧ (elems (8 : Nat) (1 : Int) x).length = (elems (8 : Nat) (1 : Int) x).length ∧ ∀ (i : Nat), i < (elems (8 : Nat) (1 : Int) x).length → dpi x i = dpi x i ∧ [AV.int IntKind.i64 (dpi x i)].length = [AV.int IntKind.i64 (dpi x i)].length) ∧ True))) (mxS (dpi x) (i.fst - (1 : Nat)) = d ∧ (0 : Int) = e ∧ True)))))))) := by
 kernel_rfl
theorem sound_vc (x : NodeG) (w : Int) (hs : List HaveG) (es : List AggG) (c r : Int) : (vcFun (mkG Tryz.prog gN (tblOf [(77, cAt [qA x w hs es] (.int .i64 c))]) (fun _ _ => none) 0) 20 58 [qA x w hs es] .nil 0 (retP 3 (.int .i64 r))).sat = ( NB (atB [qA x w hs es] [qA x w hs es]) (c = r)) := by
 kernel_rfl
theorem full_vc (x : NodeG) (w : Int) (hs : List HaveG) (es : List AggG) (A : List AtomG) (e : Int) (b1 b2 b3 : Bool) (d : Int) (r : Int) : (vcFun (EFu x w hs es A e b1 b2 b3 d) 20 59 [qA x w hs es] .nil 0 (retP 3 (.int .i64 r))).sat = ( NB (atB [nodeA (16 : Nat) x] [nodeA (16 : Nat) x]) (NB (impB (isW false (decide ((↑A.length : Int) > (12 : Int)) || decide ((↑hs.length : Int) > (4 : Int)) || decide ((↑es.length : Int) > (4 : Int)))) (atB [qA x w hs es] [qA x w hs es] && true)) (VB (decide ((↑A.length : Int) > (12 : Int)) || decide ((↑hs.length : Int) > (4 : Int)) || decide ((↑es.length : Int) > (4 : Int)) || if (79 : Nat) = (79 : FuncId) then b1 else if (79 : Nat) = (81 : FuncId) then b2 else b3) ((6 : Int) = r) ((0 : Int) = r)))) := by
 kernel_rfl
theorem deep_vc (x : NodeG) (w : Int) (hs : List HaveG) (es : List AggG) (A : List AtomG) (e : Int) (b1 b2 b3 : Bool) (d : Int) (r : Int) : (vcFun (EFu x w hs es A e b1 b2 b3 d) 20 60 [qA x w hs es] .nil 0 (retP 3 (.int .i64 r))).sat = ( NB (atB [nodeA (16 : Nat) x] [nodeA (16 : Nat) x]) (VB (decide (d > (6 : Int))) ((22 : Int) = r) ((0 : Int) = r))) := by
 kernel_rfl
theorem ranged_vc (x : NodeG) (w : Int) (hs : List HaveG) (es : List AggG) (A : List AtomG) (e : Int) (b1 b2 b3 : Bool) (d : Int) (r : Int) : (vcFun (EFu x w hs es A e b1 b2 b3 d) 20 61 [qA x w hs es] .nil 0 (retP 3 (.int .i64 r))).sat = ( NB (impB (isW false (decide (w > (10000 : Int)))) (atB [qA x w hs es] [qA x w hs es] && true)) (VB (decide (w > (10000 : Int)) || if (81 : Nat) = (79 : FuncId) then b1 else if (81 : Nat) = (81 : FuncId) then b2 else b3) ((2 : Int) = r) ((0 : Int) = r))) := by
 kernel_rfl
theorem ordered_vc (x : NodeG) (w : Int) (hs : List HaveG) (es : List AggG) (A : List AtomG) (e : Int) (b1 b2 b3 : Bool) (d : Int) (r : Int) : (vcFun (EFu x w hs es A e b1 b2 b3 d) 20 62 [qA x w hs es] .nil 0 (retP 3 (.int .i64 r))).sat = ( NB (impB (isW false ((TreeG.val x).fst == (2 : Int))) (atB [qA x w hs es] [qA x w hs es] && true)) (VB ((TreeG.val x).fst == (2 : Int) || if (82 : Nat) = (79 : FuncId) then b1 else if (82 : Nat) = (81 : FuncId) then b2 else b3) ((9 : Int) = r) ((0 : Int) = r))) := by
 kernel_rfl
theorem check_vc (x : NodeG) (w : Int) (hs : List HaveG) (es : List AggG) (e1 e2 e3 e4 e5 e6 r : Int) : (vcFun (mkG Tryz.prog gN (tblOf (tblCk x w hs es e1 e2 e3 e4 e5 e6)) (fun _ _ => none) 8) 20 24 [qA x w hs es] .nil 0 (retP 3 (.int .i64 r))).sat = ( NB (atB [qA x w hs es] [qA x w hs es]) (VB (e1 != (0 : Int)) (e1 = r) (NB (atB [qA x w hs es] [qA x w hs es]) (VB (e2 != (0 : Int)) (e2 = r) (NB (atB [qA x w hs es] [qA x w hs es]) (VB (e3 != (0 : Int)) (e3 = r) (NB (atB [qA x w hs es] [qA x w hs es]) (VB (e4 != (0 : Int)) (e4 = r) (NB (atB [qA x w hs es] [qA x w hs es]) (VB (e5 != (0 : Int)) (e5 = r) (NB (atB [qA x w hs es] [qA x w hs es]) (VB (e6 != (0 : Int)) (e6 = r) (e6 = r))))))))))))) := by
 kernel_rfl
end Go.Proofs.YtamcloifhjafcaaGreatDoor
namespace Go.Proofs.YtamcloifhjafcaaGreatDoor
open Pw Go
set_option maxRecDepth 100000
set_option linter.unusedSimpArgs false
def usA (acc : List (List UInt8)) (n : List UInt8) : List (List UInt8) := if n ∈ acc then acc else acc ++ [n]
def usN (l : List (List UInt8)) : List (List UInt8) := l.foldl usA []
def nmsH (hs : List HaveG) : List (List UInt8) := hs.map fun h => h.1.2.1
def nmsE (es : List AggG) : List (List UInt8) := es.map fun a => a.2.1
def usH (hs : List HaveG) (i : Nat) : List (List UInt8) := usN ((nmsH hs).take i)
def usE (hs : List HaveG) (es : List AggG) (i : Nat) : List (List UInt8) := usN (nmsH hs ++ (nmsE es).take i)
abbrev esW (es : List AggG) : AV := .rof es.length (fun i => aggA (es.getD i aggD)) false
abbrev atsW (A : List AtomG) : AV := .rof A.length (fun k => atomA (A.getD k atomD)) false
abbrev bosW (N : List Bool) : AV := .rof N.length (fun k => .bool (N.getD k false)) false
abbrev ssA (l : List (List UInt8)) : AV := .rof l.length (fun k => .str (l.getD k [])) false
abbrev usRows (out : List (List UInt8)) (g : Nat) : List (Nat × Blk) := [(1, .row 0 1 false (.lst [.sl 60 g 0 out.length none])), (2, .loop (.mf fun s => decide (s ∈ out)) noRec), (3, .row 0 1 false (.lst [.map 2])), (60, .row g 1 true (.fn out.length (fun k => .str (out.getD k []))))]
def usFn : AV := .fn (.func 102) [] [.ptr 3 0 0 0, .ptr 1 0 0 0]
def invU1 (x : NodeG) (w : Int) (hs : List HaveG) (es : List AggG) : Inv := ⟨Nat × Nat, 70, fun p => ⟨[(1, .ptr 0 0 0 0), (3, .ptr 1 0 0 0), (5, usFn), (13, havesA hs), (14, .int .i64 hs.length), (15, .int .i64 p.1)], (0, .row 0 12 true (.lst [qA x w hs es])) :: usRows (usH hs p.1) p.2⟩, fun p => p.1 ≤ hs.length, fun p => hs.length - p.1⟩
def invU2 (x : NodeG) (w : Int) (hs : List HaveG) (es : List AggG) : Inv := ⟨Nat × Nat, 80, fun p => ⟨[(1, .ptr 0 0 0 0), (3, .ptr 1 0 0 0), (5, usFn), (25, esW es), (26, .int .i64 es.length), (27, .int .i64 p.1)], (0, .row 0 12 true (.lst [qA x w hs es])) :: usRows (usE hs es p.1) p.2⟩, fun p => p.1 ≤ es.length, fun p => es.length - p.1⟩
noncomputable def EUs (x : NodeG) (w : Int) (hs : List HaveG) (es : List AggG) : Env := mkG Tryz.prog gN (tblOf []) (fun f b => if f = 85 ∧ b = 0 then some (invU1 x w hs es) else if f = 85 ∧ b = 2 then some (invU2 x w hs es) else none) 0
def nmOf (A : List AtomG) (i : Nat) : List UInt8 := an (A.getD i atomD)
def seS (A : List AtomG) : Nat → List UInt8 → Bool
 | 0 => fun _ => false
 | i + 1 => if nmOf A i = [] then seS A i else fun s => if nmOf A i = s then true else seS A i s
def knS (A : List AtomG) (N : List Bool) : Nat → List UInt8 → Bool
 | 0 => fun _ => false
 | i + 1 => if nmOf A i = [] then knS A N i else fun s => if nmOf A i = s then !N.getD i false else knS A N i s
def wrS (A : List AtomG) (N : List Bool) : Nat → Bool
 | 0 => false
 | i + 1 => if nmOf A i = [] then wrS A N i else wrS A N i || N.getD i false
def duP (A : List AtomG) (i : Nat) : Bool := decide (nmOf A i ≠ []) && seS A i (nmOf A i)
def wrU (k : List UInt8 → Bool) (w0 : Bool) (U : List (List UInt8)) : Nat → Bool
 | 0 => w0
 | i + 1 => wrU k w0 U i || !k (U.getD i [])
def invWn1 (x : NodeG) (w : Int) (hs : List HaveG) (es : List AggG) (A : List AtomG) (N : List Bool) : Inv := ⟨Nat, 50, fun i => ⟨[(1, .ptr 0 0 0 0), (5, bosW N), (7, .map 1), (8, .map 2), (9, .bool (wrS A N i)), (28, atsW A), (29, .int .i64 A.length), (30, .int .i64 i)],
 [(0, .row 0 12 true (.lst [qA x w hs es])), (1, .loop (.mf (seS A i)) noRec), (2, .loop (.mf (knS A N i)) noRec)]⟩, fun i => i ≤ A.length ∧ ∀ j, j < i → duP A j = false, fun i => A.length - i⟩
def invWn2 (A : List AtomG) (N : List Bool) (U : List (List UInt8)) : Inv := ⟨Nat, 60, fun i => ⟨[(8, .map 2), (9, .bool (wrU (knS A N A.length) (wrS A N A.length) U i)), (62, ssA U), (63, .int .i64 U.length), (64, .int .i64 i)], [(2, .loop (.mf (knS A N A.length)) noRec)]⟩, fun i => i ≤ U.length, fun i => U.length - i⟩
noncomputable def tblNm (x : NodeG) (w : Int) (hs : List HaveG) (es : List AggG) (A : List AtomG) (N : List Bool) (e1 e2 : Int) (U : List (List UInt8)) : List (Nat × Ctr) :=
 [(29, cAt [nodeA 16 x] (.tup [.rof A.length (fun k => atomA (A.getD k atomD)) false, .int .i64 e1])), (84, cAt [nodeA 16 x] (.tup [.rof N.length (fun k => .bool (N.getD k false)) false, .int .i64 e2])), (85, cAt [qA x w hs es] (ssA U))]
noncomputable def ENm (x : NodeG) (w : Int) (hs : List HaveG) (es : List AggG) (A : List AtomG) (N : List Bool) (e1 e2 : Int) (U : List (List UInt8)) : Env := mkG Tryz.prog gN (tblOf (tblNm x w hs es A N e1 e2 U)) (fun f b => if f = 63 ∧ b = 0 then some (invWn1 x w hs es A N) else if f = 63 ∧ b = 2 then some (invWn2 A N U) else none) 0
theorem uses_vc (x : NodeG) (w : Int) (hs : List HaveG) (es : List AggG) (U : List (List UInt8)) : (vcFun (EUs x w hs es) 20 85 [qA x w hs es] .nil 0 (retP 3 (ssA U))).sat = (let c0 := ((0 : Nat) = (0 : Nat) ∧ (0 : Nat) = (0 : Nat) ∧ (0 : Nat) = (0 : Nat))
 let c8 := (true = true → true = true)
 let c1 := ((0 : Nat) = (0 : Nat) ∧ c8 ∧ ((qA x w hs es).sub (qA x w hs es) ∧ (qA x w hs es).cells.length = (qA x w hs es).cells.length) ∧ True)
 let c7 := (false = true → false = true)
 let c2 := ((0 : Nat) = (0 : Nat) ∧ c7 ∧ ((2 : Nat) = (2 : Nat) ∧ [AV.map (2 : Nat)].length = [AV.map (2 : Nat)].length) ∧ True)
 let c3 := (Fn.func (102 : FuncId) = Fn.func (102 : FuncId) ∧ True ∧ c0 ∧ c0 ∧ True)
 let c4 := (@Eq (Option Nat) none none ∨ @Eq (Option Nat) none none)
 let c5 := fun (i_1 : Nat) (i : Nat × Nat) => (if i_1 < (usE hs es i.fst).length then AV.str ((usE hs es i.fst).getD ((0 : Nat) + i_1) []) else ((Sq.lst [AV.str (es.getD (↑i.fst : Int).toNat aggD).snd.fst]).sub (0 : Nat) (1 : Nat)).get (i_1 - (usE hs es i.fst).length))
 let c6 := fun (i_1 : Nat) (i : Nat × Nat) => (if i_1 < (usH hs i.fst).length then AV.str ((usH hs i.fst).getD ((0 : Nat) + i_1) []) else ((Sq.lst [AV.str (hs.getD (↑i.fst : Int).toNat haveD).fst.snd.fst]).sub (0 : Nat) (1 : Nat)).get (i_1 - (usH hs i.fst).length))
 let c9 := fun (i : Nat × Nat) (i' : Nat × Nat) => (c0 ∧ c0 ∧ c3 ∧ (havesA hs).sub (havesA hs) ∧ (↑hs.length : Int) = (↑hs.length : Int) ∧ IntKind.i64.wrap ((↑i.fst : Int) + (1 : Int)) = (↑i'.fst : Int) ∧ True)
 let c10 := fun (i : Nat × Nat) (i' : Nat × Nat) => (c0 ∧ c0 ∧ c3 ∧ (esW es).sub (esW es) ∧ (↑es.length : Int) = (↑es.length : Int) ∧ IntKind.i64.wrap ((↑i.fst : Int) + (1 : Int)) = (↑i'.fst : Int) ∧ True)
 (∃ (i : Nat × Nat), i.fst.le hs.length ∧ (c0 ∧ c0 ∧ (Fn.func (102 : Nat) = Fn.func (102 : FuncId) ∧ True ∧ c0 ∧ c0 ∧ True) ∧ (havesA hs).sub (havesA hs) ∧ (↑hs.length : Int) = (↑hs.length : Int) ∧ (0 : Int) = (↑i.fst : Int) ∧ True) ∧ c1 ∧ ((0 : Nat) = (0 : Nat) ∧ (1 : Nat) = (1 : Nat) ∧ (usH hs i.fst).length = (0 : Nat) ∧ i.snd = i.snd ∧ (usH hs i.fst).length = (0 : Nat)) ∧ (∀ (s : List UInt8), lookS [] s = decide (s ∈ usH hs i.fst)) ∧ ((0 : Nat) = (0 : Nat) ∧ c7 ∧ (nat_lit 1 + (1 : Nat) = (2 : Nat) ∧ [AV.map (nat_lit 1 + (1 : Nat))].length = [AV.map (2 : Nat)].length) ∧ True) ∧ (usH hs i.fst).length = (0 : Nat) ∧ True) ∧ ∀ (i : Nat × Nat), i.fst.le hs.length → VB (decide ((↑i.fst : Int) < (↑hs.length : Int))) (NB (decide ((0 : Int) ≤ (↑i.fst : Int) ∧ (↑i.fst : Int) < (↑hs.length : Int))) (VB (!decide ((hs.getD (↑i.fst : Int).toNat haveD).fst.snd.fst ∈ usH hs i.fst)) (NB (true && decide (i.snd = i.snd) && room ((usH hs i.fst).length + (1 : Nat)) (16 : Nat)) (∃ (i' : Nat × Nat), i'.fst.le hs.length ∧ (invU1 x w hs es).μ i' < (invU1 x w hs es).μ i ∧ (c9 i i') ∧ c1 ∧ ((0 : Nat) = (0 : Nat) ∧ c7 ∧ ((i.snd + (1 : Nat) = i'.snd ∧ (0 : Nat) = (0 : Nat) ∧ (usH hs i.fst).length + (1 : Nat) = (usH hs i'.fst).length ∧ c4) ∧ [AV.sl (60 : Nat) (i.snd + (1 : Nat)) (0 : Nat) ((usH hs i.fst).length + (1 : Nat)) none].length = [AV.sl (60 : Nat) i'.snd (0 : Nat) (usH hs i'.fst).length none].length) ∧ True) ∧ (∀ (s : List UInt8), (if (hs.getD (↑i.fst : Int).toNat haveD).fst.snd.fst = s then true else decide (s ∈ usH hs i.fst)) = decide (s ∈ usH hs i'.fst)) ∧ c2 ∧ (i.snd + (1 : Nat) = i'.snd ∧ c8 ∧ (usH hs i.fst).length + (1 : Nat) = (usH hs i'.fst).length ∧ ∀ (i_1 : Nat), i_1 < (usH hs i.fst).length + (1 : Nat) → (c6 i_1 i).sub (AV.str ((usH hs i'.fst).getD i_1 [])) ∧ (c6 i_1 i).cells.length = [AV.str ((usH hs i'.fst).getD i_1 [])].length) ∧ True)) (∃ (i' : Nat × Nat), i'.fst.le hs.length ∧ (invU1 x w hs es).μ i' < (invU1 x w hs es).μ i ∧ (c9 i i') ∧ c1 ∧ ((0 : Nat) = (0 : Nat) ∧ c7 ∧ ((i.snd = i'.snd ∧ (0 : Nat) = (0 : Nat) ∧ (usH hs i.fst).length = (usH hs i'.fst).length ∧ c4) ∧ [AV.sl (60 : Nat) i.snd (0 : Nat) (usH hs i.fst).length none].length = [AV.sl (60 : Nat) i'.snd (0 : Nat) (usH hs i'.fst).length none].length) ∧ True) ∧ (∀ (s : List UInt8), decide (s ∈ usH hs i.fst) = decide (s ∈ usH hs i'.fst)) ∧ c2 ∧ (i.snd = i'.snd ∧ c8 ∧ (usH hs i.fst).length = (usH hs i'.fst).length ∧ ∀ (i_1 : Nat), i_1 < (usH hs i.fst).length → (usH hs i.fst).getD i_1 [] = (usH hs i'.fst).getD i_1 [] ∧ [AV.str ((usH hs i.fst).getD i_1 [])].length = [AV.str ((usH hs i'.fst).getD i_1 [])].length) ∧ True))) ((∃ (i_1 : Nat × Nat), i_1.fst.le es.length ∧ (c0 ∧ c0 ∧ c3 ∧ (esW es).sub (esW es) ∧ (↑es.length : Int) = (↑es.length : Int) ∧ (0 : Int) = (↑i_1.fst : Int) ∧ True) ∧ c1 ∧ ((0 : Nat) = (0 : Nat) ∧ c7 ∧ ((i.snd = i_1.snd ∧ (0 : Nat) = (0 : Nat) ∧ (usH hs i.fst).length = (usE hs es i_1.fst).length ∧ c4) ∧ [AV.sl (60 : Nat) i.snd (0 : Nat) (usH hs i.fst).length none].length = [AV.sl (60 : Nat) i_1.snd (0 : Nat) (usE hs es i_1.fst).length none].length) ∧ True) ∧ (∀ (s : List UInt8), decide (s ∈ usH hs i.fst) = decide (s ∈ usE hs es i_1.fst)) ∧ c2 ∧ (i.snd = i_1.snd ∧ c8 ∧ (usH hs i.fst).length = (usE hs es i_1.fst).length ∧ ∀ (i_2 : Nat), i_2 < (usH hs i.fst).length → (usH hs i.fst).getD i_2 [] = (usE hs es i_1.fst).getD i_2 [] ∧ [AV.str ((usH hs i.fst).getD i_2 [])].length = [AV.str ((usE hs es i_1.fst).getD i_2 [])].length) ∧ True) ∧ ∀ (i : Nat × Nat), i.fst.le es.length → VB (decide ((↑i.fst : Int) < (↑es.length : Int))) (NB (decide ((0 : Int) ≤ (↑i.fst : Int) ∧ (↑i.fst : Int) < (↑es.length : Int))) (VB (!decide ((es.getD (↑i.fst : Int).toNat aggD).snd.fst ∈ usE hs es i.fst)) (NB (true && decide (i.snd = i.snd) && room ((usE hs es i.fst).length + (1 : Nat)) (16 : Nat)) (∃ (i' : Nat × Nat), i'.fst.le es.length ∧ (invU2 x w hs es).μ i' < (invU2 x w hs es).μ i ∧ (c10 i i') ∧ c1 ∧ ((0 : Nat) = (0 : Nat) ∧ c7 ∧ ((i.snd + (1 : Nat) = i'.snd ∧ (0 : Nat) = (0 : Nat) ∧ (usE hs es i.fst).length + (1 : Nat) = (usE hs es i'.fst).length ∧ c4) ∧ [AV.sl (60 : Nat) (i.snd + (1 : Nat)) (0 : Nat) ((usE hs es i.fst).length + (1 : Nat)) none].length = [AV.sl (60 : Nat) i'.snd (0 : Nat) (usE hs es i'.fst).length none].length) ∧ True) ∧ (∀ (s : List UInt8), (if (es.getD (↑i.fst : Int).toNat aggD).snd.fst = s then true else decide (s ∈ usE hs es i.fst)) = decide (s ∈ usE hs es i'.fst)) ∧ c2 ∧ (i.snd + (1 : Nat) = i'.snd ∧ c8 ∧ (usE hs es i.fst).length + (1 : Nat) = (usE hs es i'.fst).length ∧ ∀ (i_1 : Nat), i_1 < (usE hs es i.fst).length + (1 : Nat) → (c5 i_1 i).sub (AV.str ((usE hs es i'.fst).getD i_1 [])) ∧ (c5 i_1 i).cells.length = [AV.str ((usE hs es i'.fst).getD i_1 [])].length) ∧ True)) (∃ (i' : Nat × Nat), i'.fst.le es.length ∧ (invU2 x w hs es).μ i' < (invU2 x w hs es).μ i ∧ (c10 i i') ∧ c1 ∧ ((0 : Nat) = (0 : Nat) ∧ c7 ∧ ((i.snd = i'.snd ∧ (0 : Nat) = (0 : Nat) ∧ (usE hs es i.fst).length = (usE hs es i'.fst).length ∧ c4) ∧ [AV.sl (60 : Nat) i.snd (0 : Nat) (usE hs es i.fst).length none].length = [AV.sl (60 : Nat) i'.snd (0 : Nat) (usE hs es i'.fst).length none].length) ∧ True) ∧ (∀ (s : List UInt8), decide (s ∈ usE hs es i.fst) = decide (s ∈ usE hs es i'.fst)) ∧ c2 ∧ (i.snd = i'.snd ∧ c8 ∧ (usE hs es i.fst).length = (usE hs es i'.fst).length ∧ ∀ (i_1 : Nat), i_1 < (usE hs es i.fst).length → (usE hs es i.fst).getD i_1 [] = (usE hs es i'.fst).getD i_1 [] ∧ [AV.str ((usE hs es i.fst).getD i_1 [])].length = [AV.str ((usE hs es i'.fst).getD i_1 [])].length) ∧ True))) (NB (decide (i.snd = i.snd)) ((usE hs es i.fst).length = U.length ∧ (∀ (i_1 : Nat), i_1 < (usE hs es i.fst).length → (usE hs es i.fst).getD ((0 : Nat) + i_1) [] = U.getD i_1 [] ∧ [AV.str ((usE hs es i.fst).getD ((0 : Nat) + i_1) [])].length = [AV.str (U.getD i_1 [])].length) ∧ (false = true → decide (none = some (usE hs es i.fst).length) = true))))) := by
 kernel_rfl
theorem namedW_vc (x : NodeG) (w : Int) (hs : List HaveG) (es : List AggG) (A : List AtomG) (N : List Bool) (e1 e2 : Int) (U : List (List UInt8)) (r : Int) : (vcFun (ENm x w hs es A N e1 e2 U) 20 63 [qA x w hs es] .nil 0 (retP 3 (.int .i64 r))).sat = ( NB (atB [nodeA (16 : Nat) x] [nodeA (16 : Nat) x]) (NB (atB [nodeA (16 : Nat) x] [nodeA (16 : Nat) x]) ((∃ (i : Nat), (i ≤ A.length ∧ ∀ (j : Nat), j < i → duP A j = false) ∧ (((0 : Nat) = (0 : Nat) ∧ (0 : Nat) = (0 : Nat) ∧ (0 : Nat) = (0 : Nat)) ∧ (bosW N).sub (bosW N) ∧ nat_lit 0 + (1 : Nat) = (1 : Nat) ∧ nat_lit 1 + (1 : Nat) = (2 : Nat) ∧ false = wrS A N i ∧ (atsW A).sub (atsW A) ∧ (↑A.length : Int) = (↑A.length : Int) ∧ (0 : Int) = (↑i : Int) ∧ True) ∧ ((0 : Nat) = (0 : Nat) ∧ (true = true → true = true) ∧ ((qA x w hs es).sub (qA x w hs es) ∧ (qA x w hs es).cells.length = (qA x w hs es).cells.length) ∧ True) ∧ (∀ (s : List UInt8), lookS [] s = seS A i s) ∧ (∀ (s : List UInt8), lookS [] s = knS A N i s) ∧ True) ∧ ∀ (i : Nat), (i ≤ A.length ∧ ∀ (j : Nat), j < i → duP A j = false) → VB (decide ((↑i : Int) < (↑A.length : Int))) (NB (decide ((0 : Int) ≤ (↑i : Int) ∧ (↑i : Int) < (↑A.length : Int))) (VB (an (A.getD (↑i : Int).toNat atomD) == []) (∃ (i' : Nat), (i' ≤ A.length ∧ ∀ (j : Nat), j < i' → duP A j = false) ∧ (invWn1 x w hs es A N).μ i' < (invWn1 x w hs es A N).μ i ∧ (((0 : Nat) = (0 : Nat) ∧ (0 : Nat) = (0 : Nat) ∧ (0 : Nat) = (0 : Nat)) ∧ (bosW N).sub (bosW N) ∧ (1 : Nat) = (1 : Nat) ∧ (2 : Nat) = (2 : Nat) ∧ wrS A N i = wrS A N i' ∧ (atsW A).sub (atsW A) ∧ (↑A.length : Int) = (↑A.length : Int) ∧ IntKind.i64.wrap ((↑i : Int) + (1 : Int)) = (↑i' : Int) ∧ True) ∧ ((0 : Nat) = (0 : Nat) ∧ (true = true → true = true) ∧ ((qA x w hs es).sub (qA x w hs es) ∧ (qA x w hs es).cells.length = (qA x w hs es).cells.length) ∧ True) ∧ (∀ (s : List UInt8), seS A i s = seS A i' s) ∧ (∀ (s : List UInt8), knS A N i s = knS A N i' s) ∧ True) (VB (seS A i (an (A.getD (↑i : Int).toNat atomD))) ((8 : Int) = r) (NB (decide ((0 : Int) ≤ (↑i : Int) ∧ (↑i : Int) < (↑N.length : Int))) (NB (impB (isW false (wrS A N i)) (decide ((0 : Int) ≤ (↑i : Int) ∧ (↑i : Int) < (↑N.length : Int)))) (∃ (i' : Nat), (i' ≤ A.length ∧ ∀ (j : Nat), j < i' → duP A j = false) ∧ (invWn1 x w hs es A N).μ i' < (invWn1 x w hs es A N).μ i ∧ (((0 : Nat) = (0 : Nat) ∧ (0 : Nat) = (0 : Nat) ∧ (0 : Nat) = (0 : Nat)) ∧ (bosW N).sub (bosW N) ∧ (1 : Nat) = (1 : Nat) ∧ (2 : Nat) = (2 : Nat) ∧ (wrS A N i || N.getD (↑i : Int).toNat false) = wrS A N i' ∧ (atsW A).sub (atsW A) ∧ (↑A.length : Int) = (↑A.length : Int) ∧ IntKind.i64.wrap ((↑i : Int) + (1 : Int)) = (↑i' : Int) ∧ True) ∧ ((0 : Nat) = (0 : Nat) ∧ (true = true → true = true) ∧ ((qA x w hs es).sub (qA x w hs es) ∧ (qA x w hs es).cells.length = (qA x w hs es).cells.length) ∧ True) ∧ (∀ (s : List UInt8), (if an (A.getD (↑i : Int).toNat atomD) = s then true else seS A i s) = seS A i' s) ∧ (∀ (s : List UInt8), (if an (A.getD (↑i : Int).toNat atomD) = s then !N.getD (↑i : Int).toNat false else knS A N i s) = knS A N i' s) ∧ True)))))) (NB (atB [qA x w hs es] [qA x w hs es]) ((∃ (i_1 : Nat), i_1.le U.length ∧ ((2 : Nat) = (2 : Nat) ∧ wrS A N i = wrU (knS A N A.length) (wrS A N A.length) U i_1 ∧ (ssA U).sub (ssA U) ∧ (↑U.length : Int) = (↑U.length : Int) ∧ (0 : Int) = (↑i_1 : Int) ∧ True) ∧ (∀ (s : List UInt8), knS A N i s = knS A N A.length s) ∧ True) ∧ ∀ (i : Nat), i.le U.length → VB (decide ((↑i : Int) < (↑U.length : Int))) (NB (decide ((0 : Int) ≤ (↑i : Int) ∧ (↑i : Int) < (↑U.length : Int))) (∃ (i' : Nat), i'.le U.length ∧ (invWn2 A N U).μ i' < (invWn2 A N U).μ i ∧ ((2 : Nat) = (2 : Nat) ∧ (wrU (knS A N A.length) (wrS A N A.length) U i || !knS A N A.length (U.getD (↑i : Int).toNat [])) = wrU (knS A N A.length) (wrS A N A.length) U i' ∧ (ssA U).sub (ssA U) ∧ (↑U.length : Int) = (↑U.length : Int) ∧ IntKind.i64.wrap ((↑i : Int) + (1 : Int)) = (↑i' : Int) ∧ True) ∧ (∀ (s : List UInt8), knS A N A.length s = knS A N A.length s) ∧ True)) (VB (wrU (knS A N A.length) (wrS A N A.length) U i) ((12 : Int) = r) ((0 : Int) = r))))))) := by
 kernel_rfl
end Go.Proofs.YtamcloifhjafcaaGreatDoor
namespace Go.Proofs.YtamcloifhjafcaaGreatDoor
open Pw Go
set_option maxRecDepth 100000
set_option linter.unusedSimpArgs false
theorem esWR (es : List AggG) : (esW es).sub (esW es) = True := eq_true ⟨rfl, fun _ _ => ⟨⟨by simp [AV.sub], by simp [AV.sub], trivial⟩, rfl⟩, fun h => h⟩
theorem havesWR (hs : List HaveG) : (havesA hs).sub (havesA hs) = True := eq_true ⟨rfl, fun _ _ => ⟨⟨by simp [AV.sub], by simp [AV.sub], by simp [AV.sub], by simp [AV.sub], trivial⟩, rfl⟩, fun h => h⟩
theorem ssR (l : List (List UInt8)) : (ssA l).sub (ssA l) = True := eq_true ⟨rfl, fun _ _ => ⟨by simp [AV.sub], rfl⟩, fun h => h⟩
theorem atsWR (A : List AtomG) : (atsW A).sub (atsW A) = True := eq_true ⟨rfl, fun _ _ => ⟨atomA_refl _, rfl⟩, fun h => h⟩
theorem bosWR (N : List Bool) : (bosW N).sub (bosW N) = True := eq_true ⟨rfl, fun _ _ => ⟨by simp [AV.sub], rfl⟩, fun h => h⟩
theorem usN_snoc (l : List (List UInt8)) (n : List UInt8) : usN (l ++ [n]) = usA (usN l) n := by simp [usN]
theorem usN_len (l : List (List UInt8)) : (usN l).length ≤ l.length := by
 have key : ∀ (l acc : List (List UInt8)), (l.foldl usA acc).length ≤ acc.length + l.length := by
  intro l
  induction l with
  | nil => intro acc; simp
  | cons a l ih =>
   intro acc
   have h1 := ih (usA acc a)
   have h2 : (usA acc a).length ≤ acc.length + 1 := by unfold usA; split <;> simp
   simp only [List.foldl_cons, List.length_cons]
   omega
 have := key l []
 simpa [usN] using this
theorem usH_succ {hs : List HaveG} {i : Nat} (hi : i < hs.length) : usH hs (i + 1) = usA (usH hs i) (hs.getD i haveD).1.2.1 := by
 have hi' : i < (nmsH hs).length := by simpa [nmsH] using hi
 have := take_getD (nmsH hs) [] hi'
 rw [usH, this, usN_snoc]
 congr 1
 simp [nmsH, List.getD, hi]
theorem usE_succ {hs : List HaveG} {es : List AggG} {i : Nat} (hi : i < es.length) : usE hs es (i + 1) = usA (usE hs es i) (es.getD i aggD).2.1 := by
 have hi' : i < (nmsE es).length := by simpa [nmsE] using hi
 have := take_getD (nmsE es) [] hi'
 rw [usE, this, ← List.append_assoc, usN_snoc]
 congr 1
 simp [nmsE, List.getD, hi]
theorem usH_len {hs : List HaveG} (i : Nat) : (usH hs i).length ≤ hs.length := by
 have := usN_len ((nmsH hs).take i)
 have h2 := List.length_take_le' i (nmsH hs)
 have : (nmsH hs).length = hs.length := by simp [nmsH]
 unfold usH
 omega
theorem usE_len {hs : List HaveG} {es : List AggG} (i : Nat) : (usE hs es i).length ≤ hs.length + es.length := by
 have := usN_len (nmsH hs ++ (nmsE es).take i)
 have h2 := List.length_take_le' i (nmsE es)
 have h3 : (nmsH hs).length = hs.length := by simp [nmsH]
 have h4 : (nmsE es).length = es.length := by simp [nmsE]
 simp only [List.length_append] at this
 unfold usE
 omega
theorem usH_all (hs : List HaveG) (es : List AggG) : usH hs hs.length = usE hs es 0 := by
 unfold usH usE
 rw [List.take_of_length_le (by simp [nmsH])]
 simp
theorem usA_in {acc : List (List UInt8)} {n : List UInt8} (h : n ∈ acc) : usA acc n = acc := if_pos h
theorem usA_out {acc : List (List UInt8)} {n : List UInt8} (h : n ∉ acc) : usA acc n = acc ++ [n] := if_neg h
def usQ (hs : List HaveG) (es : List AggG) : List (List UInt8) := usE hs es es.length
theorem mem_snoc (acc : List (List UInt8)) (n s : List UInt8) : (if n = s then true else decide (s ∈ acc)) = decide (s ∈ acc ++ [n]) := by
 by_cases h : n = s
 ·subst h; simp
 ·have : s ≠ n := fun e => h e.symm
  simp [h, this]
theorem uses_pure (x : NodeG) (w : Int) (hs : List HaveG) (es : List AggG) (h10 : hs.length ≤ 10) (e10 : es.length ≤ 10) : PureC Tryz.prog gN 85 [qA x w hs es] (ssA (usQ hs es)) := by
 refine pure_vcG (d := 3) mix (tblG_nil _ _) ((uses_vc x w hs es _).mpr ?_)
 simp only [qA_refl, havesWR, esWR, EqI, true_and, and_true, imp_self, implies_true, Int.toNat_natCast, Nat.zero_add, or_self, decide_true, NB_t, Bool.true_and, Bool.and_true]
 refine ⟨⟨(0, 0), Nat.zero_le _, rfl, ⟨rfl, rfl⟩, fun s => by simp [lookS, usH, usN], rfl⟩, fun p hp => VB_intro (fun h1 => ?_) (fun h1 => ?_)⟩
 ·obtain ⟨i, g⟩ := p
  have hlt : i < hs.length := by have := of_decide_eq_true h1; simp only at this; omega
  have hsu := usH_succ hlt
  have hle := usH_len (hs := hs) i
  have hw : IntKind.i64.wrap ((i : Int) + 1) = ((i + 1 : Nat) : Int) := by rw [wrap_i64_id (by omega) (by omega)]; rfl
  refine NB_intro (decide_eq_true (by simp only; omega)) (VB_intro (fun h2 => NB_intro (by simp [room]; omega) ?_) (fun h2 => ?_))
  ·have h2 : (hs.getD i haveD).1.2.1 ∉ usH hs i := by simpa using h2
   rw [usA_out h2] at hsu
   have hsl : (usH hs (i + 1)).length = (usH hs i).length + 1 := by rw [hsu]; simp
   refine ⟨(i + 1, g + 1), hlt, by show hs.length - (i + 1) < hs.length - i; omega, hw, ⟨⟨rfl, hsl.symm⟩, rfl⟩, fun s => ?_, rfl, hsl.symm, fun q hq => ?_⟩
   ·simp only [hsu]
    exact mem_snoc _ _ _
   ·simp only [hsu]
    exact app_row (F := AV.str) (L := usH hs i) (a := (hs.getD i haveD).1.2.1) (d := []) hq (fun a => AV.str_sub _)
  ·have h2 : (hs.getD i haveD).1.2.1 ∈ usH hs i := by simpa using h2
   rw [usA_in h2] at hsu
   refine ⟨(i + 1, g), hlt, by show hs.length - (i + 1) < hs.length - i; omega, hw, ?_⟩
   simp only [hsu]
   exact ⟨⟨⟨trivial, trivial⟩, trivial⟩, fun _ => trivial, trivial, trivial, fun _ _ => ⟨trivial, trivial⟩⟩
 ·obtain ⟨i, g⟩ := p
  obtain rfl : i = hs.length := by have := of_decide_eq_false h1; have hp : i ≤ hs.length := hp; simp only at this; omega
  refine ⟨⟨(0, g), Nat.zero_le _, rfl, ?_⟩, fun p hp => VB_intro (fun h5 => ?_) (fun h5 => ?_)⟩
  ·simp only [usH_all hs es]
   exact ⟨⟨⟨trivial, trivial⟩, trivial⟩, fun _ => trivial, trivial, trivial, fun _ _ => ⟨trivial, trivial⟩⟩
  ·obtain ⟨i, g⟩ := p
   have hlt : i < es.length := by have := of_decide_eq_true h5; simp only at this; omega
   have hsu := usE_succ (hs := hs) hlt
   have hle := usE_len (hs := hs) (es := es) i
   have hw : IntKind.i64.wrap ((i : Int) + 1) = ((i + 1 : Nat) : Int) := by rw [wrap_i64_id (by omega) (by omega)]; rfl
   refine NB_intro (decide_eq_true (by simp only; omega)) (VB_intro (fun h2 => NB_intro (by simp [room]; omega) ?_) (fun h2 => ?_))
   ·have h2 : (es.getD i aggD).2.1 ∉ usE hs es i := by simpa using h2
    rw [usA_out h2] at hsu
    have hsl : (usE hs es (i + 1)).length = (usE hs es i).length + 1 := by rw [hsu]; simp
    refine ⟨(i + 1, g + 1), hlt, by show es.length - (i + 1) < es.length - i; omega, hw, ⟨⟨rfl, hsl.symm⟩, rfl⟩, fun s => ?_, rfl, hsl.symm, fun q hq => ?_⟩
    ·simp only [hsu]
     exact mem_snoc _ _ _
    ·simp only [hsu]
     exact app_row (F := AV.str) (L := usE hs es i) (a := (es.getD i aggD).2.1) (d := []) hq (fun a => AV.str_sub _)
   ·have h2 : (es.getD i aggD).2.1 ∈ usE hs es i := by simpa using h2
    rw [usA_in h2] at hsu
    refine ⟨(i + 1, g), hlt, by show es.length - (i + 1) < es.length - i; omega, hw, ?_⟩
    simp only [hsu]
    exact ⟨⟨⟨trivial, trivial⟩, trivial⟩, fun _ => trivial, trivial, trivial, fun _ _ => ⟨trivial, trivial⟩⟩
  ·obtain ⟨i, g⟩ := p
   obtain rfl : i = es.length := by have := of_decide_eq_false h5; have hp : i ≤ es.length := hp; simp only at this; omega
   exact ⟨rfl, fun _ _ => ⟨rfl, rfl⟩, fun h => by cases h⟩
end Go.Proofs.YtamcloifhjafcaaGreatDoor
namespace Go.Proofs.YtamcloifhjafcaaGreatDoor
open Pw Go
set_option maxRecDepth 100000
set_option linter.unusedSimpArgs false
def dupB (A : List AtomG) : Bool := (List.range A.length).any (duP A)
def nmdE (A : List AtomG) (N : List Bool) (U : List (List UInt8)) : Int := if dupB A = true then 8 else if wrU (knS A N A.length) (wrS A N A.length) U U.length = true then 12 else 0
theorem namedX_sat (x : NodeG) (w : Int) (hs : List HaveG) (es : List AggG) (A : List AtomG) (N : List Bool) (e1 e2 : Int) (U : List (List UInt8)) (hAN : A.length = N.length) (hA : A.length ≤ 1000) (hU : U.length ≤ 1000) :
  (vcFun (ENm x w hs es A N e1 e2 U) 20 63 [qA x w hs es] .nil 0 (retP 3 (.int .i64 (nmdE A N U)))).sat := by
 refine (namedW_vc x w hs es A N e1 e2 U _).mpr (NB_intro (atB_self _) (NB_intro (atB_self _) ?_))
 simp only [qA_refl, atsWR, bosWR, ssR, EqI, true_and, and_true, imp_self, implies_true, Int.toNat_natCast, Nat.zero_add, or_self, decide_true, NB_t, Bool.true_and, Bool.and_true]
 refine ⟨⟨0, ⟨Nat.zero_le _, fun j hj => by omega⟩, ⟨rfl, rfl⟩, fun _ => rfl, fun _ => rfl⟩, fun i ⟨hi1, hi2⟩ => VB_intro (fun h1 => ?_) (fun h1 => ?_)⟩
 ·have hlt : i < A.length := by have := of_decide_eq_true h1; omega
  have hw : IntKind.i64.wrap ((i : Int) + 1) = ((i + 1 : Nat) : Int) := by rw [wrap_i64_id (by omega) (by omega)]; rfl
  have hd : decide ((0 : Int) ≤ (i : Int) ∧ (i : Int) < N.length) = true := decide_eq_true (by omega)
  have next : duP A i = false → ∀ j, j < i + 1 → duP A j = false := fun h j hj => by
   rcases Nat.lt_or_ge j i with h' | h'
   ·exact hi2 j h'
   ·obtain rfl : j = i := by omega
    exact h
  refine NB_intro (decide_eq_true (by omega)) (VB_intro (fun h2 => ?_) (fun h2 => VB_intro (fun h3 => ?_) (fun h3 => ?_)))
  ·have h2 : nmOf A i = [] := beq_iff_eq.1 h2
   have hs1 : seS A (i + 1) = seS A i := if_pos h2
   have hk1 : knS A N (i + 1) = knS A N i := if_pos h2
   have hw1 : wrS A N (i + 1) = wrS A N i := if_pos h2
   refine ⟨i + 1, ⟨hlt, next (by simp [duP, h2])⟩, by show A.length - (i + 1) < A.length - i; omega, ⟨hw1.symm, hw⟩, fun s => by rw [hs1], fun s => by rw [hk1]⟩
  ·have h2 : nmOf A i ≠ [] := fun e => by
    have : (nmOf A i == []) = false := h2
    rw [e] at this
    cases this
   have hdup : dupB A = true := List.any_eq_true.2 ⟨i, by simpa using hlt, by simp only [duP, Bool.and_eq_true, decide_eq_true_eq]; exact ⟨h2, h3⟩⟩
   show 8 = nmdE A N U
   rw [nmdE, if_pos hdup]
  ·have h2 : nmOf A i ≠ [] := fun e => by
    have : (nmOf A i == []) = false := h2
    rw [e] at this
    cases this
   have hs1 : seS A (i + 1) = fun s => if nmOf A i = s then true else seS A i s := if_neg h2
   have hk1 : knS A N (i + 1) = fun s => if nmOf A i = s then !N.getD i false else knS A N i s := if_neg h2
   have hw1 : wrS A N (i + 1) = (wrS A N i || N.getD i false) := if_neg h2
   have h3 : seS A i (nmOf A i) = false := h3
   rw [hd]
   refine NB_intro rfl (NB_intro (impB_t.2 fun _ => rfl) ⟨i + 1, ⟨hlt, next (by simp [duP, h3])⟩, by show A.length - (i + 1) < A.length - i; omega, ⟨hw1.symm, hw⟩, fun s => by rw [hs1]; rfl, fun s => by rw [hk1]; rfl⟩)
 ·obtain rfl : i = A.length := by have := of_decide_eq_false h1; omega
  have hnd : dupB A ≠ true := by
   intro h
   obtain ⟨j, hj, h⟩ := List.any_eq_true.1 h
   rw [hi2 j (by simpa using hj)] at h
   cases h
  refine NB_intro (atB_self _) ⟨⟨0, Nat.zero_le _, ⟨rfl, rfl⟩, fun _ => rfl⟩, fun i hi => VB_intro (fun h5 => ?_) (fun h5 => ?_)⟩
  ·have hlt : i < U.length := by have := of_decide_eq_true h5; omega
   exact NB_intro (decide_eq_true (by omega)) ⟨i + 1, hlt, by show U.length - (i + 1) < U.length - i; omega, rfl, by rw [wrap_i64_id (by omega) (by omega)]; rfl⟩
  ·obtain rfl : i = U.length := by have := of_decide_eq_false h5; have hi : i ≤ U.length := hi; omega
   refine VB_intro (fun h6 => ?_) (fun h6 => ?_)
   ·rw [nmdE, if_neg hnd, if_pos h6]
   ·rw [nmdE, if_neg hnd, if_neg (by rw [h6]; decide)]
theorem app_fnW {F : Nat → AV} {a : AV} {j q : Nat} (hq : q < j + 1) (ha : a = F j) (hF : ∀ k, (F k).sub (F k)) :
  (if q < j then F q else ((Sq.lst [a]).sub 0 1).get (q - j)).sub (F q) ∧ (if q < j then F q else ((Sq.lst [a]).sub 0 1).get (q - j)).cells.length = (F q).cells.length := by
 by_cases h : q < j
 ·rw [if_pos h]
  exact ⟨hF _, rfl⟩
 ·obtain rfl : q = j := by omega
  rw [if_neg h, Nat.sub_self]
  show a.sub (F q) ∧ _ = _
  subst ha
  exact ⟨hF _, rfl⟩
theorem depth_pure (x : NodeG) (hx : litB 8 x = true) (hm : (elems 8 1 x).length ≤ 1000) : PureC Tryz.prog gN 80 [nodeA 9 x] (.tup [.int .i64 (dpth x), .int .i64 (sndE x)]) := by
 have hctr : CtrOK (ECD x) := ⟨(mkG_ctr (P := Tryz.prog) (gl := gN) (inv := fun _ _ => none) (n := 0) (tblG_cons sndI_ok (tblG_nil _ _))).1, itV_ok (visit_iter 8)⟩
 refine pure_vcE (E := ECD x) (k := 20) (d := 4) mix hctr ((depth_vc x _ _).mpr ?_)
 have hpos : 1 ≤ (elems 8 1 x).length := by rw [elems_len]; omega
 simp only [isNode_of hx (show 8 < 9 by decide), nodeOf_of hx (show 8 < 9 by decide)]
 simp only [EqI, true_and, and_true, imp_self, implies_true, Int.toNat_natCast, Nat.zero_add, or_self, NB_t, Bool.and_self, decide_true, Bool.true_and, Bool.and_true]
 refine VB_intro (fun h => VB_intro (fun h2 => ?_) (fun h2 => by rw [h] at h2; cases h2)) (fun h => ⟨⟨(0, 0), Nat.zero_le _, rfl, ⟨rfl, rfl⟩, rfl⟩, fun p ⟨hp1, hp2⟩ => ?_, fun p ⟨hp1, hp2⟩ => ?_⟩)
 ·have h : sndE x ≠ 0 := bne_iff_ne.1 h
  have : dpth x = 0 := by rw [dpth, if_neg (by rw [sndE_n h]; decide)]
  exact this.symm
 ·obtain ⟨j, g⟩ := p
  have hp2 : j < (elems 8 1 x).length := hp2
  exact NB_intro (by simp [room]; omega) ⟨(j + 1, g + 1), hp2, rfl, ⟨⟨rfl, rfl⟩, rfl⟩, rfl, rfl, fun q hq => app_fnW (F := fun k => AV.int .i64 (dpi x k)) hq rfl (fun _ => by simp [AV.sub])⟩
 ·obtain ⟨j, g⟩ := p
  obtain rfl : j = (elems 8 1 x).length := hp2
  have h : sndE x = 0 := bne_eq_false_iff_eq.1 h
  refine VB_intro (fun h2 => by have := of_decide_eq_true h2; simp only at this; omega) (fun _ => NB_intro (decide_eq_true (by simp only; omega)) ⟨⟨(1, g), ⟨Nat.le_refl _, hpos⟩, ⟨⟨rfl, rfl⟩, rfl, rfl⟩, rfl, rfl⟩, fun p ⟨hq1, hq2⟩ => VB_intro (fun h3 => ?_) (fun h3 => ?_)⟩)
  ·obtain ⟨i, g⟩ := p
   have hlt : i < (elems 8 1 x).length := by have := of_decide_eq_true h3; simp only at this; omega
   have hq1 : 1 ≤ i := hq1
   have hmx : mxS (dpi x) (i + 1 - 1) = maxI (mxS (dpi x) (i - 1)) (dpi x i) := by
    obtain ⟨k, rfl⟩ : ∃ k, i = k + 1 := ⟨i - 1, by omega⟩
    rfl
   exact NB_intro (decide_eq_true (by simp only; omega)) ⟨(i + 1, g), ⟨by show 1 ≤ i + 1; omega, hlt⟩, by show (elems 8 1 x).length - (i + 1) < (elems 8 1 x).length - i; omega, ⟨rfl, hmx.symm, by rw [wrap_i64_id (by simp only; omega) (by simp only; omega)]; rfl⟩, rfl⟩
  ·obtain ⟨i, g⟩ := p
   obtain rfl : i = (elems 8 1 x).length := by have := of_decide_eq_false h3; simp only at this hq2; omega
   refine ⟨?_, h.symm⟩
   show mxS (dpi x) ((elems 8 1 x).length - 1) = dpth x
   rw [dpth, if_pos (sndE_0 h)]
end Go.Proofs.YtamcloifhjafcaaGreatDoor
namespace Go.Proofs.YtamcloifhjafcaaGreatDoor
open Pw Go
set_option maxRecDepth 100000
set_option linter.unusedSimpArgs false
theorem leaves_leW : ∀ (g : Nat) (d : Int) (x : NodeG), (leavesL g x).length ≤ (elems g d x).length
 | 0, _, _ => Nat.le_refl _
 | g + 1, d, x => by
  rw [elems_len]
  simp only [leavesL]
  split
  ·simp
  ·have key : ∀ n, n ≤ x.kids.length → (lvK g x.kids n).length ≤ cntK g (d + 1) x.kids n := by
    intro n hn
    induction n with
    | zero => exact Nat.le_refl _
    | succ n ih =>
     rw [lvK_succ (by omega), cntK_succ (by omega), List.length_append]
     have := leaves_leW g (d + 1) (x.kids.getD n treeD)
     have := ih (by omega)
     omega
   have h := key _ (Nat.le_refl _)
   have e : (x.kids.map (leavesL g)).flatten = lvK g x.kids x.kids.length := by simp [lvK]
   rw [e]
   omega
theorem AN_lenW (x : NodeG) : (atomsL 8 x).length = (negL 8 x).length := by
 unfold atomsL negL
 split <;> simp
theorem AN_leW (x : NodeG) : (atomsL 8 x).length ≤ (leavesL 8 x).length := by
 unfold atomsL
 split <;> simp
structure LtW (x : NodeG) (hs : List HaveG) (es : List AggG) : Prop where
 lit : litB 8 x = true
 nms : namesB hs es
 few : (elems 8 1 x).length ≤ 1000
theorem LtW.of {x : NodeG} {hs : List HaveG} {es : List AggG} (h : lightQ x hs es = true) : LtW x hs es := by
 obtain ⟨h1, h2⟩ := light_lit h
 refine ⟨h1, h2, ?_⟩
 simp only [lightQ, Bool.and_eq_true, decide_eq_true_eq] at h
 have h3 : weighS 8 x ≤ 40 := of_decide_eq_true h.1.1.1.1
 have := elems_few 8 1 x h3
 omega
theorem LtW.lv {x : NodeG} {hs : List HaveG} {es : List AggG} (h : LtW x hs es) : (leavesL 8 x).length ≤ 1000 := Nat.le_trans (leaves_leW 8 1 x) h.few
theorem at16W {P : Program} {gl : Nat → AV} {f : FuncId} {x : NodeG} {v : AV} (h : PureC P gl f [nodeA 9 x] v) : PureC P gl f [nodeA 16 x] v :=
 PureC.args (args' := [nodeA 9 x]) rfl (fun i hi => by
  cases i with
  | zero => exact nodeA_sub' (by decide) x
  | succ i => simp at hi) h
def fullE (x : NodeG) (hs : List HaveG) (es : List AggG) : Int := if (decide (((atomsL 8 x).length : Int) > 12) || decide ((hs.length : Int) > 4) || decide ((es.length : Int) > 4) || (nds 8 x).any fulP) = true then 6 else 0
def depE (x : NodeG) : Int := if decide (dpth x > 6) = true then 22 else 0
def rngE (x : NodeG) (w : Int) : Int := if (decide (w > 10000) || (nds 8 x).any rngP) = true then 2 else 0
def ordE (x : NodeG) : Int := if (nk x == 2 || (nds 8 x).any stdP) = true then 9 else 0
def nmE (x : NodeG) (hs : List HaveG) (es : List AggG) : Int := nmdE (atomsL 8 x) (negL 8 x) (usQ hs es)
def wfE (x : NodeG) (w : Int) (hs : List HaveG) (es : List AggG) : Int :=
 if chkE x w hs es ≠ 0 then chkE x w hs es else if fullE x hs es ≠ 0 then fullE x hs es else if depE x ≠ 0 then depE x else if rngE x w ≠ 0 then rngE x w else if ordE x ≠ 0 then ordE x else nmE x hs es
section
variable {x : NodeG} (w : Int) {hs : List HaveG} {es : List AggG} (hq : LtW x hs es)
theorem VB_if {b : Bool} {u v r : Int} (h : r = if b = true then u else v) : VB b (u = r) (v = r) := by
 cases b <;> exact h.symm
include hq in
theorem someW_ok : PureG Tryz.prog gN 78 (cSomeW x w hs es ((nds 8 x).any fulP) ((nds 8 x).any rngP) ((nds 8 x).any stdP)) := by
 intro args nd v he hnd
 unfold cSomeW at he
 split at he <;> cases he
 rename_i q g
 simp only [Bool.and_eq_true, Bool.or_eq_true, beq_iff_eq] at hnd
 obtain ⟨h1, h2⟩ := hnd
 have hqa : [q] = [qA x w hs es] := by simpa [atB] using h1
 cases hqa
 rcases h2 with (rfl | rfl) | rfl
 ·exact someF_pure x w hs es hq.lit
 ·exact someR_pure x w hs es hq.lit
 ·exact someO_pure x w hs es hq.lit
include hq in
theorem tblFu_ok : TblOK Tryz.prog gN (tblOf (tblFu x w hs es (atomsL 8 x) (sndE x) ((nds 8 x).any fulP) ((nds 8 x).any rngP) ((nds 8 x).any stdP) (dpth x))) :=
 tblG_cons (cAt_ok (at16W (atomsI_pure x hq.lit hq.few))) (tblG_cons (cAt_ok (at16W (depth_pure x hq.lit hq.few))) (tblG_cons (someW_ok w hq) (tblG_nil _ _)))
include hq in
theorem full_pure : PureC Tryz.prog gN 59 [qA x w hs es] (.int .i64 (fullE x hs es)) :=
 pure_vcG (d := 3) mix (tblFu_ok w hq) ((full_vc x w hs es _ _ _ _ _ _ _).mpr (NB_intro (atB_self _) (NB_intro (impB_t.2 fun _ => by rw [atB_self]; rfl) (VB_if rfl))))
include hq in
theorem deep_pure : PureC Tryz.prog gN 60 [qA x w hs es] (.int .i64 (depE x)) :=
 pure_vcG (d := 3) mix (tblFu_ok w hq) ((deep_vc x w hs es _ _ _ _ _ _ _).mpr (NB_intro (atB_self _) (VB_if rfl)))
include hq in
theorem ranged_pure : PureC Tryz.prog gN 61 [qA x w hs es] (.int .i64 (rngE x w)) :=
 pure_vcG (d := 3) mix (tblFu_ok w hq) ((ranged_vc x w hs es _ _ _ _ _ _ _).mpr (NB_intro (impB_t.2 fun _ => by rw [atB_self]; rfl) (VB_if rfl)))
include hq in
theorem ordered_pure : PureC Tryz.prog gN 62 [qA x w hs es] (.int .i64 (ordE x)) :=
 pure_vcG (d := 3) mix (tblFu_ok w hq) ((ordered_vc x w hs es _ _ _ _ _ _ _).mpr (NB_intro (impB_t.2 fun _ => by rw [atB_self]; rfl) (VB_if rfl)))
include hq in
theorem soundW_pure : PureC Tryz.prog gN 58 [qA x w hs es] (.int .i64 (chkE x w hs es)) :=
 pure_vcG (d := 3) mix (tblG_cons (cAt_ok (chkI_pure x w hs es hq.lit hq.nms)) (tblG_nil _ _)) ((sound_vc x w hs es _ _).mpr (NB_intro (atB_self _) rfl))
include hq in
theorem namedW_pure : PureC Tryz.prog gN 63 [qA x w hs es] (.int .i64 (nmE x hs es)) :=
 pure_vcG (d := 3) mix (tblG_cons (cAt_ok (at16W (atomsI_pure x hq.lit hq.few))) (tblG_cons (cAt_ok (at16W (negI_pure x hq.lit hq.few))) (tblG_cons (cAt_ok (uses_pure x w hs es hq.nms.1 hq.nms.2.1)) (tblG_nil _ _))))
  (namedX_sat x w hs es _ _ (sndE x) (sndE x) _ (AN_lenW x) (Nat.le_trans (AN_leW x) hq.lv) (Nat.le_trans (usE_len _) (by have := hq.nms.1; have := hq.nms.2.1; omega)))
include hq in
theorem wf_pure : PureC Tryz.prog gN 24 [qA x w hs es] (.int .i64 (wfE x w hs es)) := by
 refine pure_vcG (d := 3) mix (tblG_cons (cAt_ok (soundW_pure w hq)) (tblG_cons (cAt_ok (full_pure w hq)) (tblG_cons (cAt_ok (deep_pure w hq)) (tblG_cons (cAt_ok (ranged_pure w hq)) (tblG_cons (cAt_ok (ordered_pure w hq)) (tblG_cons (cAt_ok (namedW_pure w hq)) (tblG_nil _ _))))))) ((check_vc x w hs es _ _ _ _ _ _ _).mpr ?_)
 unfold wfE
 generalize chkE x w hs es = e1
 generalize fullE x hs es = e2
 generalize depE x = e3
 generalize rngE x w = e4
 generalize ordE x = e5
 generalize nmE x hs es = e6
 rw [show atB [qA x w hs es] [qA x w hs es] = true from atB_self _]
 simp only [NB_t]
 refine VB_intro (fun h => (if_pos (bne_iff_ne.1 h)).symm) (fun h => ?_)
 rw [if_neg (not_not_intro (bne_eq_false_iff_eq.1 h))]
 refine VB_intro (fun h => (if_pos (bne_iff_ne.1 h)).symm) (fun h => ?_)
 rw [if_neg (not_not_intro (bne_eq_false_iff_eq.1 h))]
 refine VB_intro (fun h => (if_pos (bne_iff_ne.1 h)).symm) (fun h => ?_)
 rw [if_neg (not_not_intro (bne_eq_false_iff_eq.1 h))]
 refine VB_intro (fun h => (if_pos (bne_iff_ne.1 h)).symm) (fun h => ?_)
 rw [if_neg (not_not_intro (bne_eq_false_iff_eq.1 h))]
 refine VB_intro (fun h => (if_pos (bne_iff_ne.1 h)).symm) (fun h => ?_)
 rw [if_neg (not_not_intro (bne_eq_false_iff_eq.1 h))]
 exact VB_intro (fun _ => rfl) (fun _ => rfl)
end
end Go.Proofs.YtamcloifhjafcaaGreatDoor
