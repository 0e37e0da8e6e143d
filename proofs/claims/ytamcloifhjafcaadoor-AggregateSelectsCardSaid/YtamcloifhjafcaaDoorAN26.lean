/- NODES 26: the values of a name: conditions of both codes. -/
import Derived.Test.YtamcloifhjafcaaDoorAN25
namespace Go.Proofs.YtamcloifhjafcaaDoor
open Pw Go
set_option maxRecDepth 100000
set_option linter.unusedSimpArgs false
def knK (A : List AtomG) (N : List Bool) (nm : List UInt8) (i : Nat) : Bool := (List.range i).any fun k => (an (A.getD k atomD) == nm) && !N.getD k false
def isNm (A : List AtomG) (nm : List UInt8) (p : PlG) : Bool := an (A.getD p.2.1.toNat atomD) == nm
def vlK (ev : List EvG) (A : List AtomG) (ps : List PlG) (nm : List UInt8) (j : Nat) : List Int := ((ps.take j).filter (isNm A nm)).map fun p => (ev.getD p.1.toNat evD).2.2.2.2.1
abbrev isA (L : List Int) : AV := .rof L.length (fun k => .int .i64 (L.getD k 0)) false
def invD1 (ev : List EvG) (ps : List PlG) (A : List AtomG) (N : List Bool) (nm : List UInt8) : Inv := ⟨Nat, 50, fun i => ⟨[(1, evsA ev), (3, .str nm), (6, .ptr 1 0 0 0), (10, atsA A), (11, bosA N), (13, .bool (knK A N nm i)), (30, atsA A), (31, .int .i64 A.length), (32, .int .i64 i)], [(1, .row 0 1 true (.lst [mA ps]))]⟩, fun i => i ≤ A.length, fun i => A.length - i⟩
def invD2 (ev : List EvG) (ps : List PlG) (A : List AtomG) (nm : List UInt8) : Inv := ⟨Nat × Nat, 70, fun p => ⟨[(1, evsA ev), (3, .str nm), (10, atsA A), (16, .sl 60 p.2 0 (vlK ev A ps nm p.1).length none), (55, plsA ps), (56, .int .i64 ps.length), (57, .int .i64 p.1)], [(60, .row p.2 1 true (.fn (vlK ev A ps nm p.1).length (fun k => .int .i64 ((vlK ev A ps nm p.1).getD k 0))))]⟩, fun p => p.1 ≤ ps.length, fun p => ps.length - p.1⟩
def invE1 (ev : List EvG) (ps : List PlG) (A : List AtomG) (N : List Bool) (nm : List UInt8) : Inv := ⟨Nat, 50, fun i => ⟨[(1, evsA ev), (3, .str nm), (6, .ptr 1 0 0 0), (10, atsA A), (12, bosA N), (14, .bool (knK A N nm i)), (15, .int .i64 i)], [(1, .row 0 1 true (.lst [mA ps]))]⟩, fun i => i ≤ A.length, fun i => A.length - i⟩
def invE2 (ev : List EvG) (ps : List PlG) (A : List AtomG) (nm : List UInt8) : Inv := ⟨Nat × Nat, 70, fun p => ⟨[(1, evsA ev), (3, .str nm), (6, .ptr 1 0 0 0), (10, atsA A), (16, .sl 60 p.2 0 (vlK ev A ps nm p.1).length none), (17, .int .i64 p.1)], [(1, .row 0 1 true (.lst [mA ps])), (60, .row p.2 1 true (.fn (vlK ev A ps nm p.1).length (fun k => .int .i64 ((vlK ev A ps nm p.1).getD k 0))))]⟩, fun p => p.1 ≤ ps.length, fun p => ps.length - p.1⟩
noncomputable def tblG1 (x : NodeG) (w : Int) (hs : List HaveG) (es : List AggG) (ev : List EvG) (ps : List PlG) (m : Int) (A : List AtomG) (N : List Bool) : List (Nat × Ctr) :=
 [(47, cAt [qA x w hs es, evsA ev, mA ps] (.tup [atsA A, bosA N, .int .i64 m]))]
noncomputable def tblG2 (x : NodeG) (e1 e2 : Int) (A : List AtomG) (N : List Bool) : List (Nat × Ctr) :=
 [(38, cAt [nodeA 16 x] (.tup [atsA A, .int .i64 e1])), (50, cAt [nodeA 16 x] (.tup [bosA N, .int .i64 e2]))]
theorem named_vc (x : NodeG) (w : Int) (hs : List HaveG) (es : List AggG) (ev : List EvG) (ps : List PlG) (m : Int) (A : List AtomG) (N : List Bool) (nm : List UInt8) (L : List Int) (r : Int) : (vcFun (mkG Tryd.prog gN (tblOf (tblG1 x w hs es ev ps m A N)) (fun f b => if f = 13 ∧ b = 0 then some (invD1 ev ps A N nm) else if f = 13 ∧ b = 2 then some (invD2 ev ps A nm) else none) 0) 20 13 [qA x w hs es, evsA ev, mA ps, .str nm] .nil 0 (retP 4 (.tup [isA L, .int .i64 r]))).sat = (let c5 := fun (i : Nat) (i_1 : Nat) => ((ac (A.getD i atomD)).getD i_1 condD)
 let c7 := (false = true → false = true)
 let c0 := (A.length = A.length ∧ (∀ (i : Nat), i < A.length → ((A.getD i atomD).fst = (A.getD i atomD).fst ∧ (A.getD i atomD).snd.fst = (A.getD i atomD).snd.fst ∧ (A.getD i atomD).snd.snd.fst = (A.getD i atomD).snd.snd.fst ∧ ((ac (A.getD i atomD)).length = (ac (A.getD i atomD)).length ∧ (∀ (i_1 : Nat), i_1 < (ac (A.getD i atomD)).length → ((c5 i i_1).fst = (c5 i i_1).fst ∧ (c5 i i_1).snd.fst = (c5 i i_1).snd.fst ∧ True) ∧ [AV.int IntKind.i64 (c5 i i_1).fst, AV.int IntKind.i64 (c5 i i_1).snd.fst].length = [AV.int IntKind.i64 (c5 i i_1).fst, AV.int IntKind.i64 (c5 i i_1).snd.fst].length) ∧ c7) ∧ an (A.getD i atomD) = an (A.getD i atomD) ∧ True) ∧ [AV.int IntKind.i64 (A.getD i atomD).fst, AV.bool (A.getD i atomD).snd.fst, AV.int IntKind.u64 (A.getD i atomD).snd.snd.fst, condsA (ac (A.getD i atomD)), AV.str (an (A.getD i atomD))].length = [AV.int IntKind.i64 (A.getD i atomD).fst, AV.bool (A.getD i atomD).snd.fst, AV.int IntKind.u64 (A.getD i atomD).snd.snd.fst, condsA (ac (A.getD i atomD)), AV.str (an (A.getD i atomD))].length) ∧ c7)
 let c1 := (ev.length = ev.length ∧ (∀ (i : Nat), i < ev.length → ((ev.getD i evD).fst.fst = (ev.getD i evD).fst.fst ∧ (ev.getD i evD).fst.snd.fst = (ev.getD i evD).fst.snd.fst ∧ (ev.getD i evD).snd.fst = (ev.getD i evD).snd.fst ∧ (ev.getD i evD).snd.snd.fst = (ev.getD i evD).snd.snd.fst ∧ (ev.getD i evD).snd.snd.snd.fst = (ev.getD i evD).snd.snd.snd.fst ∧ (ev.getD i evD).snd.snd.snd.snd.fst = (ev.getD i evD).snd.snd.snd.snd.fst ∧ True) ∧ [AV.int IntKind.u64 (ev.getD i evD).fst.fst, AV.int IntKind.u64 (ev.getD i evD).fst.snd.fst, AV.int IntKind.u64 (ev.getD i evD).snd.fst, AV.int IntKind.u64 (ev.getD i evD).snd.snd.fst, AV.int IntKind.i64 (ev.getD i evD).snd.snd.snd.fst, AV.int IntKind.i64 (ev.getD i evD).snd.snd.snd.snd.fst].length = [AV.int IntKind.u64 (ev.getD i evD).fst.fst, AV.int IntKind.u64 (ev.getD i evD).fst.snd.fst, AV.int IntKind.u64 (ev.getD i evD).snd.fst, AV.int IntKind.u64 (ev.getD i evD).snd.snd.fst, AV.int IntKind.i64 (ev.getD i evD).snd.snd.snd.fst, AV.int IntKind.i64 (ev.getD i evD).snd.snd.snd.snd.fst].length) ∧ c7)
 let c2 := (ps.length = ps.length ∧ (∀ (i : Nat), i < ps.length → ((ps.getD i plD).fst = (ps.getD i plD).fst ∧ (ps.getD i plD).snd.fst = (ps.getD i plD).snd.fst ∧ True) ∧ [AV.int IntKind.i64 (ps.getD i plD).fst, AV.int IntKind.i64 (ps.getD i plD).snd.fst].length = [AV.int IntKind.i64 (ps.getD i plD).fst, AV.int IntKind.i64 (ps.getD i plD).snd.fst].length) ∧ c7)
 let c6 := fun (i : Nat × Nat) => (ps.getD (↑i.fst : Int).toNat plD)
 let c3 := fun (i_1 : Nat) (i : Nat × Nat) => (if i_1 < (vlK ev A ps nm i.fst).length then AV.int IntKind.i64 ((vlK ev A ps nm i.fst).getD ((0 : Nat) + i_1) (0 : Int)) else ((Sq.lst [AV.int IntKind.i64 (ev.getD (c6 i).fst.toNat evD).snd.snd.snd.snd.fst]).sub (0 : Nat) (1 : Nat)).get (i_1 - (vlK ev A ps nm i.fst).length))
 let c4 := (N.length = N.length ∧ (∀ (i : Nat), i < N.length → N.getD i false = N.getD i false ∧ [AV.bool (N.getD i false)].length = [AV.bool (N.getD i false)].length) ∧ c7)
 NB (atB [AV.agg [AV.int IntKind.i64 (TreeG.val x).fst, AV.int IntKind.i64 (TreeG.val x).snd.fst, AV.int IntKind.i64 (TreeG.val x).snd.snd.fst, AV.int IntKind.i64 (nat x).fst, AV.bool (nat x).snd.fst, AV.int IntKind.u64 (nat x).snd.snd.fst, AV.rof (ac (nat x)).length (fun (i : Nat) => condA ((ac (nat x)).getD i condD)) false, AV.str (an (nat x)), AV.rof (TreeG.kids x).length (fun (i : Nat) => nodeA (15 : Nat) ((TreeG.kids x).getD i treeD)) false, AV.int IntKind.u64 w, AV.rof hs.length (fun (i : Nat) => haveA (hs.getD i haveD)) false, AV.rof es.length (fun (i : Nat) => aggA (es.getD i aggD)) false], AV.rof ev.length (fun (k : Nat) => evA (ev.getD k evD)) false, AV.agg [AV.rof ps.length (fun (k : Nat) => plA (ps.getD k plD)) false]] [qA x w hs es, evsA ev, mA ps]) (VB (m != (0 : Int)) (L.length = (0 : Nat) ∧ m = r ∧ True) ((∃ (i : Nat), i.le A.length ∧ (c1 ∧ nm = nm ∧ ((0 : Nat) = (0 : Nat) ∧ (0 : Nat) = (0 : Nat) ∧ (0 : Nat) = (0 : Nat)) ∧ c0 ∧ c4 ∧ false = knK A N nm i ∧ c0 ∧ (↑A.length : Int) = (↑A.length : Int) ∧ (0 : Int) = (↑i : Int) ∧ True) ∧ ((0 : Nat) = (0 : Nat) ∧ (true = true → true = true) ∧ ((c2 ∧ True) ∧ [AV.rof ps.length (fun (k : Nat) => plA (ps.getD k plD)) false].length = [plsA ps].length) ∧ True) ∧ True) ∧ ∀ (i : Nat), i.le A.length → VB (decide ((↑i : Int) < (↑A.length : Int))) (NB (decide ((0 : Int) ≤ (↑i : Int) ∧ (↑i : Int) < (↑A.length : Int))) (NB (impB (isW false (knK A N nm i) && isW true (an (A.getD (↑i : Int).toNat atomD) == nm)) (decide ((0 : Int) ≤ (↑i : Int) ∧ (↑i : Int) < (↑N.length : Int)))) (∃ (i' : Nat), i'.le A.length ∧ (invD1 ev ps A N nm).μ i' < (invD1 ev ps A N nm).μ i ∧ (c1 ∧ nm = nm ∧ ((0 : Nat) = (0 : Nat) ∧ (0 : Nat) = (0 : Nat) ∧ (0 : Nat) = (0 : Nat)) ∧ c0 ∧ c4 ∧ (knK A N nm i || an (A.getD (↑i : Int).toNat atomD) == nm && !N.getD (↑i : Int).toNat false) = knK A N nm i' ∧ c0 ∧ (↑A.length : Int) = (↑A.length : Int) ∧ IntKind.i64.wrap ((↑i : Int) + (1 : Int)) = (↑i' : Int) ∧ True) ∧ ((0 : Nat) = (0 : Nat) ∧ (true = true → true = true) ∧ ((c2 ∧ True) ∧ [plsA ps].length = [plsA ps].length) ∧ True) ∧ True))) (VB (!knK A N nm i) (L.length = (0 : Nat) ∧ (12 : Int) = r ∧ True) ((∃ (i : Nat × Nat), i.fst.le ps.length ∧ (c1 ∧ nm = nm ∧ c0 ∧ ((vlK ev A ps nm i.fst).length = (0 : Nat) ∧ i.snd = i.snd ∧ (vlK ev A ps nm i.fst).length = (0 : Nat)) ∧ c2 ∧ (↑ps.length : Int) = (↑ps.length : Int) ∧ (0 : Int) = (↑i.fst : Int) ∧ True) ∧ (vlK ev A ps nm i.fst).length = (0 : Nat) ∧ True) ∧ ∀ (i : Nat × Nat), i.fst.le ps.length → VB (decide ((↑i.fst : Int) < (↑ps.length : Int))) (NB (decide ((0 : Int) ≤ (↑i.fst : Int) ∧ (↑i.fst : Int) < (↑ps.length : Int))) (NB (decide ((0 : Int) ≤ (c6 i).snd.fst ∧ (c6 i).snd.fst < (↑A.length : Int))) (VB (an (A.getD (c6 i).snd.fst.toNat atomD) == nm) (NB (decide ((0 : Int) ≤ (c6 i).fst ∧ (c6 i).fst < (↑ev.length : Int))) (NB (true && decide (i.snd = i.snd) && room ((vlK ev A ps nm i.fst).length + (1 : Nat)) (8 : Nat)) (∃ (i' : Nat × Nat), i'.fst.le ps.length ∧ (invD2 ev ps A nm).μ i' < (invD2 ev ps A nm).μ i ∧ (c1 ∧ nm = nm ∧ c0 ∧ (i.snd + (1 : Nat) = i'.snd ∧ (0 : Nat) = (0 : Nat) ∧ (vlK ev A ps nm i.fst).length + (1 : Nat) = (vlK ev A ps nm i'.fst).length ∧ (@Eq (Option Nat) none none ∨ @Eq (Option Nat) none none)) ∧ c2 ∧ (↑ps.length : Int) = (↑ps.length : Int) ∧ IntKind.i64.wrap ((↑i.fst : Int) + (1 : Int)) = (↑i'.fst : Int) ∧ True) ∧ (i.snd + (1 : Nat) = i'.snd ∧ (true = true → true = true) ∧ (vlK ev A ps nm i.fst).length + (1 : Nat) = (vlK ev A ps nm i'.fst).length ∧ ∀ (i_1 : Nat), i_1 < (vlK ev A ps nm i.fst).length + (1 : Nat) → (c3 i_1 i).sub (AV.int IntKind.i64 ((vlK ev A ps nm i'.fst).getD i_1 (0 : Int))) ∧ (c3 i_1 i).cells.length = [AV.int IntKind.i64 ((vlK ev A ps nm i'.fst).getD i_1 (0 : Int))].length) ∧ True))) (∃ (i' : Nat × Nat), i'.fst.le ps.length ∧ (invD2 ev ps A nm).μ i' < (invD2 ev ps A nm).μ i ∧ (c1 ∧ nm = nm ∧ c0 ∧ (i.snd = i'.snd ∧ (0 : Nat) = (0 : Nat) ∧ (vlK ev A ps nm i.fst).length = (vlK ev A ps nm i'.fst).length ∧ (@Eq (Option Nat) none none ∨ @Eq (Option Nat) none none)) ∧ c2 ∧ (↑ps.length : Int) = (↑ps.length : Int) ∧ IntKind.i64.wrap ((↑i.fst : Int) + (1 : Int)) = (↑i'.fst : Int) ∧ True) ∧ (i.snd = i'.snd ∧ (true = true → true = true) ∧ (vlK ev A ps nm i.fst).length = (vlK ev A ps nm i'.fst).length ∧ ∀ (i_1 : Nat), i_1 < (vlK ev A ps nm i.fst).length → (vlK ev A ps nm i.fst).getD i_1 (0 : Int) = (vlK ev A ps nm i'.fst).getD i_1 (0 : Int) ∧ [AV.int IntKind.i64 ((vlK ev A ps nm i.fst).getD i_1 (0 : Int))].length = [AV.int IntKind.i64 ((vlK ev A ps nm i'.fst).getD i_1 (0 : Int))].length) ∧ True)))) (NB (decide (i.snd = i.snd) && true) (((vlK ev A ps nm i.fst).length = L.length ∧ (∀ (i_1 : Nat), i_1 < (vlK ev A ps nm i.fst).length → (vlK ev A ps nm i.fst).getD ((0 : Nat) + i_1) (0 : Int) = L.getD i_1 (0 : Int) ∧ [AV.int IntKind.i64 ((vlK ev A ps nm i.fst).getD ((0 : Nat) + i_1) (0 : Int))].length = [AV.int IntKind.i64 (L.getD i_1 (0 : Int))].length) ∧ (false = true → decide (none = some (vlK ev A ps nm i.fst).length) = true)) ∧ (0 : Int) = r ∧ True))))))) := by
 kernel_rfl
theorem refnamed_vc (x : NodeG) (w : Int) (hs : List HaveG) (es : List AggG) (ev : List EvG) (ps : List PlG) (e1 e2 : Int) (A : List AtomG) (N : List Bool) (nm : List UInt8) (L : List Int) (r : Int) : (vcFun (mkG Tryd.prog gN (tblOf (tblG2 x e1 e2 A N)) (fun f b => if f = 48 ∧ b = 0 then some (invE1 ev ps A N nm) else if f = 48 ∧ b = 2 then some (invE2 ev ps A nm) else none) 0) 20 48 [qA x w hs es, evsA ev, mA ps, .str nm] .nil 0 (retP 4 (.tup [isA L, .int .i64 r]))).sat = (let c7 := fun (i : Nat) (i_1 : Nat) => ((ac (A.getD i atomD)).getD i_1 condD)
 let c9 := (false = true → false = true)
 let c0 := (A.length = A.length ∧ (∀ (i : Nat), i < A.length → ((A.getD i atomD).fst = (A.getD i atomD).fst ∧ (A.getD i atomD).snd.fst = (A.getD i atomD).snd.fst ∧ (A.getD i atomD).snd.snd.fst = (A.getD i atomD).snd.snd.fst ∧ ((ac (A.getD i atomD)).length = (ac (A.getD i atomD)).length ∧ (∀ (i_1 : Nat), i_1 < (ac (A.getD i atomD)).length → ((c7 i i_1).fst = (c7 i i_1).fst ∧ (c7 i i_1).snd.fst = (c7 i i_1).snd.fst ∧ True) ∧ [AV.int IntKind.i64 (c7 i i_1).fst, AV.int IntKind.i64 (c7 i i_1).snd.fst].length = [AV.int IntKind.i64 (c7 i i_1).fst, AV.int IntKind.i64 (c7 i i_1).snd.fst].length) ∧ c9) ∧ an (A.getD i atomD) = an (A.getD i atomD) ∧ True) ∧ [AV.int IntKind.i64 (A.getD i atomD).fst, AV.bool (A.getD i atomD).snd.fst, AV.int IntKind.u64 (A.getD i atomD).snd.snd.fst, condsA (ac (A.getD i atomD)), AV.str (an (A.getD i atomD))].length = [AV.int IntKind.i64 (A.getD i atomD).fst, AV.bool (A.getD i atomD).snd.fst, AV.int IntKind.u64 (A.getD i atomD).snd.snd.fst, condsA (ac (A.getD i atomD)), AV.str (an (A.getD i atomD))].length) ∧ c9)
 let c1 := (ev.length = ev.length ∧ (∀ (i : Nat), i < ev.length → ((ev.getD i evD).fst.fst = (ev.getD i evD).fst.fst ∧ (ev.getD i evD).fst.snd.fst = (ev.getD i evD).fst.snd.fst ∧ (ev.getD i evD).snd.fst = (ev.getD i evD).snd.fst ∧ (ev.getD i evD).snd.snd.fst = (ev.getD i evD).snd.snd.fst ∧ (ev.getD i evD).snd.snd.snd.fst = (ev.getD i evD).snd.snd.snd.fst ∧ (ev.getD i evD).snd.snd.snd.snd.fst = (ev.getD i evD).snd.snd.snd.snd.fst ∧ True) ∧ [AV.int IntKind.u64 (ev.getD i evD).fst.fst, AV.int IntKind.u64 (ev.getD i evD).fst.snd.fst, AV.int IntKind.u64 (ev.getD i evD).snd.fst, AV.int IntKind.u64 (ev.getD i evD).snd.snd.fst, AV.int IntKind.i64 (ev.getD i evD).snd.snd.snd.fst, AV.int IntKind.i64 (ev.getD i evD).snd.snd.snd.snd.fst].length = [AV.int IntKind.u64 (ev.getD i evD).fst.fst, AV.int IntKind.u64 (ev.getD i evD).fst.snd.fst, AV.int IntKind.u64 (ev.getD i evD).snd.fst, AV.int IntKind.u64 (ev.getD i evD).snd.snd.fst, AV.int IntKind.i64 (ev.getD i evD).snd.snd.snd.fst, AV.int IntKind.i64 (ev.getD i evD).snd.snd.snd.snd.fst].length) ∧ c9)
 let c2 := ((ps.length = ps.length ∧ (∀ (i : Nat), i < ps.length → ((ps.getD i plD).fst = (ps.getD i plD).fst ∧ (ps.getD i plD).snd.fst = (ps.getD i plD).snd.fst ∧ True) ∧ [AV.int IntKind.i64 (ps.getD i plD).fst, AV.int IntKind.i64 (ps.getD i plD).snd.fst].length = [AV.int IntKind.i64 (ps.getD i plD).fst, AV.int IntKind.i64 (ps.getD i plD).snd.fst].length) ∧ c9) ∧ True)
 let c3 := ((0 : Nat) = (0 : Nat) ∧ (true = true → true = true) ∧ (c2 ∧ [plsA ps].length = [plsA ps].length) ∧ True)
 let c4 := ((0 : Nat) = (0 : Nat) ∧ (0 : Nat) = (0 : Nat) ∧ (0 : Nat) = (0 : Nat))
 let c8 := fun (i : Nat × Nat) => (ps.getD (↑i.fst : Int).toNat plD)
 let c5 := fun (i_1 : Nat) (i : Nat × Nat) => (if i_1 < (vlK ev A ps nm i.fst).length then AV.int IntKind.i64 ((vlK ev A ps nm i.fst).getD ((0 : Nat) + i_1) (0 : Int)) else ((Sq.lst [AV.int IntKind.i64 (ev.getD (c8 i).fst.toNat evD).snd.snd.snd.snd.fst]).sub (0 : Nat) (1 : Nat)).get (i_1 - (vlK ev A ps nm i.fst).length))
 let c6 := (N.length = N.length ∧ (∀ (i : Nat), i < N.length → N.getD i false = N.getD i false ∧ [AV.bool (N.getD i false)].length = [AV.bool (N.getD i false)].length) ∧ c9)
 NB (atB [nodeA (16 : Nat) x] [nodeA (16 : Nat) x]) (NB (atB [nodeA (16 : Nat) x] [nodeA (16 : Nat) x]) ((∃ (i : Nat), i.le A.length ∧ (c1 ∧ nm = nm ∧ c4 ∧ c0 ∧ c6 ∧ false = knK A N nm i ∧ (0 : Int) = (↑i : Int) ∧ True) ∧ ((0 : Nat) = (0 : Nat) ∧ (true = true → true = true) ∧ (c2 ∧ [AV.rof ps.length (fun (k : Nat) => plA (ps.getD k plD)) false].length = [plsA ps].length) ∧ True) ∧ True) ∧ ∀ (i : Nat), i.le A.length → VB (decide ((↑i : Int) < (↑A.length : Int))) (NB (impB (isW false (knK A N nm i)) (decide ((0 : Int) ≤ (↑i : Int) ∧ (↑i : Int) < (↑N.length : Int)))) (NB (impB (isW false (knK A N nm i) && isW true !N.getD (↑i : Int).toNat false) (decide ((0 : Int) ≤ (↑i : Int) ∧ (↑i : Int) < (↑A.length : Int)))) (∃ (i' : Nat), i'.le A.length ∧ (invE1 ev ps A N nm).μ i' < (invE1 ev ps A N nm).μ i ∧ (c1 ∧ nm = nm ∧ c4 ∧ c0 ∧ c6 ∧ (knK A N nm i || !N.getD (↑i : Int).toNat false && an (A.getD (↑i : Int).toNat atomD) == nm) = knK A N nm i' ∧ IntKind.i64.wrap ((↑i : Int) + (1 : Int)) = (↑i' : Int) ∧ True) ∧ c3 ∧ True))) (VB (!knK A N nm i) (L.length = (0 : Nat) ∧ (12 : Int) = r ∧ True) ((∃ (i : Nat × Nat), i.fst.le ps.length ∧ (c1 ∧ nm = nm ∧ c4 ∧ c0 ∧ ((vlK ev A ps nm i.fst).length = (0 : Nat) ∧ i.snd = i.snd ∧ (vlK ev A ps nm i.fst).length = (0 : Nat)) ∧ (0 : Int) = (↑i.fst : Int) ∧ True) ∧ c3 ∧ (vlK ev A ps nm i.fst).length = (0 : Nat) ∧ True) ∧ ∀ (i : Nat × Nat), i.fst.le ps.length → VB (decide ((↑i.fst : Int) < (↑ps.length : Int))) (NB (decide ((0 : Int) ≤ (↑i.fst : Int) ∧ (↑i.fst : Int) < (↑ps.length : Int))) (NB (decide ((0 : Int) ≤ (c8 i).snd.fst ∧ (c8 i).snd.fst < (↑A.length : Int))) (VB (an (A.getD (c8 i).snd.fst.toNat atomD) == nm) (NB (decide ((0 : Int) ≤ (↑i.fst : Int) ∧ (↑i.fst : Int) < (↑ps.length : Int))) (NB (decide ((0 : Int) ≤ (c8 i).fst ∧ (c8 i).fst < (↑ev.length : Int))) (NB (true && decide (i.snd = i.snd) && room ((vlK ev A ps nm i.fst).length + (1 : Nat)) (8 : Nat)) (∃ (i' : Nat × Nat), i'.fst.le ps.length ∧ (invE2 ev ps A nm).μ i' < (invE2 ev ps A nm).μ i ∧ (c1 ∧ nm = nm ∧ c4 ∧ c0 ∧ (i.snd + (1 : Nat) = i'.snd ∧ (0 : Nat) = (0 : Nat) ∧ (vlK ev A ps nm i.fst).length + (1 : Nat) = (vlK ev A ps nm i'.fst).length ∧ (@Eq (Option Nat) none none ∨ @Eq (Option Nat) none none)) ∧ IntKind.i64.wrap ((↑i.fst : Int) + (1 : Int)) = (↑i'.fst : Int) ∧ True) ∧ c3 ∧ (i.snd + (1 : Nat) = i'.snd ∧ (true = true → true = true) ∧ (vlK ev A ps nm i.fst).length + (1 : Nat) = (vlK ev A ps nm i'.fst).length ∧ ∀ (i_1 : Nat), i_1 < (vlK ev A ps nm i.fst).length + (1 : Nat) → (c5 i_1 i).sub (AV.int IntKind.i64 ((vlK ev A ps nm i'.fst).getD i_1 (0 : Int))) ∧ (c5 i_1 i).cells.length = [AV.int IntKind.i64 ((vlK ev A ps nm i'.fst).getD i_1 (0 : Int))].length) ∧ True)))) (∃ (i' : Nat × Nat), i'.fst.le ps.length ∧ (invE2 ev ps A nm).μ i' < (invE2 ev ps A nm).μ i ∧ (c1 ∧ nm = nm ∧ c4 ∧ c0 ∧ (i.snd = i'.snd ∧ (0 : Nat) = (0 : Nat) ∧ (vlK ev A ps nm i.fst).length = (vlK ev A ps nm i'.fst).length ∧ (@Eq (Option Nat) none none ∨ @Eq (Option Nat) none none)) ∧ IntKind.i64.wrap ((↑i.fst : Int) + (1 : Int)) = (↑i'.fst : Int) ∧ True) ∧ c3 ∧ (i.snd = i'.snd ∧ (true = true → true = true) ∧ (vlK ev A ps nm i.fst).length = (vlK ev A ps nm i'.fst).length ∧ ∀ (i_1 : Nat), i_1 < (vlK ev A ps nm i.fst).length → (vlK ev A ps nm i.fst).getD i_1 (0 : Int) = (vlK ev A ps nm i'.fst).getD i_1 (0 : Int) ∧ [AV.int IntKind.i64 ((vlK ev A ps nm i.fst).getD i_1 (0 : Int))].length = [AV.int IntKind.i64 ((vlK ev A ps nm i'.fst).getD i_1 (0 : Int))].length) ∧ True)))) (NB (decide (i.snd = i.snd) && true) (((vlK ev A ps nm i.fst).length = L.length ∧ (∀ (i_1 : Nat), i_1 < (vlK ev A ps nm i.fst).length → (vlK ev A ps nm i.fst).getD ((0 : Nat) + i_1) (0 : Int) = L.getD i_1 (0 : Int) ∧ [AV.int IntKind.i64 ((vlK ev A ps nm i.fst).getD ((0 : Nat) + i_1) (0 : Int))].length = [AV.int IntKind.i64 (L.getD i_1 (0 : Int))].length) ∧ (false = true → decide (none = some (vlK ev A ps nm i.fst).length) = true)) ∧ (0 : Int) = r ∧ True))))))) := by
 kernel_rfl
end Go.Proofs.YtamcloifhjafcaaDoor
namespace Go.Proofs.YtamcloifhjafcaaDoor
open Pw Go
set_option maxRecDepth 100000
set_option linter.unusedSimpArgs false
def nmErr (m : Int) (A : List AtomG) (N : List Bool) (nm : List UInt8) : Int := if m ≠ 0 then m else if knK A N nm A.length = false then 12 else 0
def nmVal (m : Int) (ev : List EvG) (A : List AtomG) (N : List Bool) (ps : List PlG) (nm : List UInt8) : List Int := if nmErr m A N nm = 0 then vlK ev A ps nm ps.length else []
theorem knK_succ (A : List AtomG) (N : List Bool) (nm : List UInt8) (i : Nat) : knK A N nm (i + 1) = (knK A N nm i || (an (A.getD i atomD) == nm && !N.getD i false)) := by
 simp [knK, List.range_succ, List.any_append]
theorem vlK_succ {ev : List EvG} {A : List AtomG} {ps : List PlG} {nm : List UInt8} {j : Nat} (hj : j < ps.length) : vlK ev A ps nm (j + 1) = if isNm A nm (ps.getD j plD) = true then vlK ev A ps nm j ++ [(ev.getD (ps.getD j plD).1.toNat evD).2.2.2.2.1] else vlK ev A ps nm j := by
 have := take_getD ps plD hj
 simp only [vlK, this, List.filter_append, List.map_append]
 generalize ps.getD j plD = p
 cases h : isNm A nm p <;> simp [List.filter_cons, h]
theorem vlK_len (ev : List EvG) (A : List AtomG) (ps : List PlG) (nm : List UInt8) (j : Nat) : (vlK ev A ps nm j).length ≤ ps.length := by
 simp only [vlK, List.length_map]
 have h1 := List.length_filter_le (isNm A nm) (ps.take j)
 have h2 := List.length_take_le' j ps
 omega
theorem int_app {L : List Int} {a : Int} {q : Nat} (hq : q < L.length + 1) :
  (if q < L.length then AV.int IntKind.i64 (L.getD q 0) else ((Sq.lst [AV.int IntKind.i64 a]).sub 0 1).get (q - L.length)).sub (AV.int IntKind.i64 ((L ++ [a]).getD q 0)) ∧ (if q < L.length then AV.int IntKind.i64 (L.getD q 0) else ((Sq.lst [AV.int IntKind.i64 a]).sub 0 1).get (q - L.length)).cells.length = [AV.int IntKind.i64 ((L ++ [a]).getD q 0)].length :=
 app_row (F := AV.int IntKind.i64) hq (fun a => by simp [AV.sub])
theorem named_sat (x : NodeG) (w : Int) (hs : List HaveG) (es : List AggG) (ev : List EvG) (ps : List PlG) (m : Int) (A : List AtomG) (N : List Bool) (nm : List UInt8) (hAN : A.length = N.length) (hA : A.length ≤ 1000) (hp : ps.length ≤ 60) (hr : m = 0 → ∀ j, j < ps.length → outB ev.length N.length (ps.getD j plD) = false) :
  (vcFun (mkG Tryd.prog gN (tblOf (tblG1 x w hs es ev ps m A N)) (fun f b => if f = 13 ∧ b = 0 then some (invD1 ev ps A N nm) else if f = 13 ∧ b = 2 then some (invD2 ev ps A nm) else none) 0) 20 13 [qA x w hs es, evsA ev, mA ps, .str nm] .nil 0 (retP 4 (.tup [isA (nmVal m ev A N ps nm), .int .i64 (nmErr m A N nm)]))).sat := by
 refine (named_vc x w hs es ev ps m A N nm _ _).mpr ?_
 simp only [EqI, true_and, and_true, imp_self, implies_true, Int.toNat_natCast, Nat.zero_add, or_self]
 refine NB_intro (atB_self _) ?_
 refine VB_intro (fun h => ?_) (fun h => ?_)
 ·have hm : m ≠ 0 := by simpa using h
  have hE : nmErr m A N nm = m := if_pos hm
  rw [hE]
  exact ⟨by simp [nmVal, hE, hm], rfl⟩
 have hm : m = 0 := by simpa using h
 replace hr := hr hm
 refine ⟨⟨0, Nat.zero_le _, rfl, rfl⟩, fun i hi => VB_intro (fun h1 => ?_) (fun h1 => ?_)⟩
 ·have hlt : i < A.length := by have := of_decide_eq_true h1; omega
  refine NB_intro (decide_eq_true (by omega)) (NB_intro (by rw [decide_eq_true (show (0 : Int) ≤ (i : Int) ∧ (i : Int) < N.length by omega)]; exact impB_t.2 fun _ => rfl) ⟨i + 1, hlt, by simp only [invD1]; omega, ?_, by rw [wrap_i64_id (by omega) (by omega)]; omega⟩)
  rw [knK_succ]
 have hi : i ≤ A.length := hi
 have hie : i = A.length := by have := of_decide_eq_false h1; omega
 subst hie
 refine VB_intro (fun h2 => ?_) (fun h2 => ?_)
 ·have h2 : knK A N nm A.length = false := by simpa using h2
  have hE : nmErr m A N nm = 12 := by simp [nmErr, hm, h2]
  rw [hE]
  exact ⟨by simp [nmVal, hE], rfl⟩
 have h2 : knK A N nm A.length = true := by simpa using h2
 have hE : nmErr m A N nm = 0 := by simp [nmErr, hm, h2]
 have hV : nmVal m ev A N ps nm = vlK ev A ps nm ps.length := by simp [nmVal, hE]
 rw [hE, hV]
 refine ⟨⟨(0, 0), Nat.zero_le _, ⟨⟨rfl, rfl⟩, rfl⟩, rfl⟩, fun p hp2 => VB_intro (fun h3 => ?_) (fun h3 => ?_)⟩
 ·obtain ⟨j, gen⟩ := p
  have hj : j < ps.length := by have := of_decide_eq_true h3; simp only at this; omega
  obtain ⟨o1, o2, o3, o4⟩ := out_in (hr j hj)
  have hle := vlK_len ev A ps nm j
  have hs := vlK_succ (ev := ev) (A := A) (nm := nm) hj
  refine NB_intro (decide_eq_true (by simp only; omega)) (NB_intro (decide_eq_true (by simp only; omega)) (VB_intro (fun h4 => ?_) (fun h4 => ?_)))
  ·have h4 : isNm A nm (ps.getD j plD) = true := h4
   rw [if_pos h4] at hs
   have hsl : (vlK ev A ps nm (j + 1)).length = (vlK ev A ps nm j).length + 1 := by rw [hs]; simp
   refine (NB_intro (decide_eq_true (by simp only; omega)) (NB_intro (by simp only [Bool.true_and, decide_true, room]; exact decide_eq_true (by show ((vlK ev A ps nm j).length + 1) * 8 ≤ _ ∧ (vlK ev A ps nm j).length + 1 ≤ _; omega)) ⟨(j + 1, gen + 1), hj, by simp only [invD2]; omega, ⟨⟨rfl, hsl.symm⟩, by simp only; rw [wrap_i64_id (by omega) (by omega)]; omega⟩, rfl, hsl.symm, fun q hq => ?_⟩))
   simp only [hs]
   exact int_app hq
  ·have h4 : isNm A nm (ps.getD j plD) = false := h4
   rw [h4] at hs
   simp only [Bool.false_eq_true, if_false] at hs
   refine ⟨(j + 1, gen), hj, by simp only [invD2]; omega, ⟨⟨rfl, by simp only [hs]⟩, by simp only; rw [wrap_i64_id (by omega) (by omega)]; omega⟩, rfl, by simp only [hs], fun q hq => ?_⟩
   simp only [hs]
   exact ⟨trivial, trivial⟩
 ·obtain ⟨j, gen⟩ := p
  have hp2 : j ≤ ps.length := hp2
  have hj : j = ps.length := by have := of_decide_eq_false h3; simp only at this; omega
  subst hj
  exact NB_intro (by simp) ⟨⟨rfl, fun q hq => ⟨rfl, rfl⟩, fun h => by cases h⟩, rfl⟩
theorem refnamed_sat (x : NodeG) (w : Int) (hs : List HaveG) (es : List AggG) (ev : List EvG) (ps : List PlG) (e1 e2 : Int) (A : List AtomG) (N : List Bool) (nm : List UInt8) (hAN : A.length = N.length) (hA : A.length ≤ 1000) (hp : ps.length ≤ 60) (hr : ∀ j, j < ps.length → outB ev.length N.length (ps.getD j plD) = false) :
  (vcFun (mkG Tryd.prog gN (tblOf (tblG2 x e1 e2 A N)) (fun f b => if f = 48 ∧ b = 0 then some (invE1 ev ps A N nm) else if f = 48 ∧ b = 2 then some (invE2 ev ps A nm) else none) 0) 20 48 [qA x w hs es, evsA ev, mA ps, .str nm] .nil 0 (retP 4 (.tup [isA (nmVal 0 ev A N ps nm), .int .i64 (nmErr 0 A N nm)]))).sat := by
 refine (refnamed_vc x w hs es ev ps e1 e2 A N nm _ _).mpr ?_
 simp only [EqI, true_and, and_true, imp_self, implies_true, Int.toNat_natCast, Nat.zero_add, or_self]
 simp only [atB_self, NB_t]
 refine ⟨⟨0, Nat.zero_le _, rfl, rfl⟩, fun i hi => VB_intro (fun h1 => ?_) (fun h1 => ?_)⟩
 ·have hlt : i < A.length := by have := of_decide_eq_true h1; omega
  refine NB_intro (by rw [decide_eq_true (show (0 : Int) ≤ (i : Int) ∧ (i : Int) < N.length by omega)]; exact impB_t.2 fun _ => rfl) (NB_intro (by rw [decide_eq_true (show (0 : Int) ≤ (i : Int) ∧ (i : Int) < A.length by omega)]; exact impB_t.2 fun _ => rfl) ⟨i + 1, hlt, by simp only [invE1]; omega, ?_, by rw [wrap_i64_id (by omega) (by omega)]; omega⟩)
  rw [knK_succ]
  rw [Bool.and_comm]
 have hi : i ≤ A.length := hi
 have hie : i = A.length := by have := of_decide_eq_false h1; omega
 subst hie
 refine VB_intro (fun h2 => ?_) (fun h2 => ?_)
 ·have h2 : knK A N nm A.length = false := by simpa using h2
  have hE : nmErr 0 A N nm = 12 := by simp [nmErr, h2]
  rw [hE]
  exact ⟨by simp [nmVal, hE], rfl⟩
 have h2 : knK A N nm A.length = true := by simpa using h2
 have hE : nmErr 0 A N nm = 0 := by simp [nmErr, h2]
 have hV : nmVal 0 ev A N ps nm = vlK ev A ps nm ps.length := by simp [nmVal, hE]
 rw [hE, hV]
 refine ⟨⟨(0, 0), Nat.zero_le _, ⟨⟨rfl, rfl⟩, rfl⟩, rfl⟩, fun p hp2 => VB_intro (fun h3 => ?_) (fun h3 => ?_)⟩
 ·obtain ⟨j, gen⟩ := p
  have hj : j < ps.length := by have := of_decide_eq_true h3; simp only at this; omega
  obtain ⟨o1, o2, o3, o4⟩ := out_in (hr j hj)
  have hle := vlK_len ev A ps nm j
  have hs := vlK_succ (ev := ev) (A := A) (nm := nm) hj
  refine NB_intro (decide_eq_true (by simp only; omega)) (NB_intro (decide_eq_true (by simp only; omega)) (VB_intro (fun h4 => ?_) (fun h4 => ?_)))
  ·have h4 : isNm A nm (ps.getD j plD) = true := h4
   rw [if_pos h4] at hs
   have hsl : (vlK ev A ps nm (j + 1)).length = (vlK ev A ps nm j).length + 1 := by rw [hs]; simp
   refine NB_intro (decide_eq_true (by simp only; omega)) (NB_intro (decide_eq_true (by simp only; omega)) (NB_intro (by simp only [Bool.true_and, decide_true, room]; exact decide_eq_true (by show ((vlK ev A ps nm j).length + 1) * 8 ≤ _ ∧ (vlK ev A ps nm j).length + 1 ≤ _; omega)) ⟨(j + 1, gen + 1), hj, by simp only [invE2]; omega, ⟨⟨rfl, hsl.symm⟩, by simp only; rw [wrap_i64_id (by omega) (by omega)]; omega⟩, rfl, hsl.symm, fun q hq => ?_⟩))
   simp only [hs]
   exact int_app hq
  ·have h4 : isNm A nm (ps.getD j plD) = false := h4
   rw [h4] at hs
   simp only [Bool.false_eq_true, if_false] at hs
   refine ⟨(j + 1, gen), hj, by simp only [invE2]; omega, ⟨⟨rfl, by simp only [hs]⟩, by simp only; rw [wrap_i64_id (by omega) (by omega)]; omega⟩, rfl, by simp only [hs], fun q hq => ?_⟩
   simp only [hs]
   exact ⟨trivial, trivial⟩
 ·obtain ⟨j, gen⟩ := p
  have hp2 : j ≤ ps.length := hp2
  have hj : j = ps.length := by have := of_decide_eq_false h3; simp only at this; omega
  subst hj
  exact NB_intro (by simp) ⟨⟨rfl, fun q hq => ⟨rfl, rfl⟩, fun h => by cases h⟩, rfl⟩
end Go.Proofs.YtamcloifhjafcaaDoor
