/- NODES 26: the values of a name: conditions of both codes. -/
import Derived.Test.YtamcloifhjafcaaDoorAN25
namespace Go.Proofs.YtamcloifhjafcaaDoor
open Pw Go
set_option maxRecDepth 100000
set_option linter.unusedSimpArgs false

/-- Whether one of the first so many atoms that are not negated has the name. -/
def knK (A : List AtomG) (N : List Bool) (nm : List UInt8) (i : Nat) : Bool := (List.range i).any fun k => (an (A.getD k atomD) == nm) && !N.getD k false
def isNm (A : List AtomG) (nm : List UInt8) (p : PlG) : Bool := an (A.getD p.2.1.toNat atomD) == nm
/-- The values of the first so many places with the name. -/
def vlK (ev : List EvG) (A : List AtomG) (ps : List PlG) (nm : List UInt8) (j : Nat) : List Int := ((ps.take j).filter (isNm A nm)).map fun p => (ev.getD p.1.toNat evD).2.2.2.2.1
abbrev isA (L : List Int) : AV := .rof L.length (fun k => .int .i64 (L.getD k 0)) false
def invD1 (ev : List EvG) (ps : List PlG) (A : List AtomG) (N : List Bool) (nm : List UInt8) : Inv := ⟨Nat, 50, fun i => ⟨[(1, evsA ev), (3, .str nm), (6, .ptr 1 0 0 0), (10, atsA A), (11, bosA N), (13, .bool (knK A N nm i)), (30, atsA A), (31, .int .i64 A.length), (32, .int .i64 i)], [(1, .row 0 1 true (.lst [mA ps]))]⟩, fun i => i ≤ A.length, fun i => A.length - i⟩
def invD2 (ev : List EvG) (ps : List PlG) (A : List AtomG) (nm : List UInt8) : Inv := ⟨Nat × Nat, 70, fun p => ⟨[(1, evsA ev), (3, .str nm), (10, atsA A), (16, .sl 60 p.2 0 (vlK ev A ps nm p.1).length none), (55, plsA ps), (56, .int .i64 ps.length), (57, .int .i64 p.1)], [(60, .row p.2 1 true (.fn (vlK ev A ps nm p.1).length (fun k => .int .i64 ((vlK ev A ps nm p.1).getD k 0))))]⟩, fun p => p.1 ≤ ps.length, fun p => ps.length - p.1⟩
def invE1 (ev : List EvG) (ps : List PlG) (A : List AtomG) (N : List Bool) (nm : List UInt8) : Inv := ⟨Nat, 50, fun i => ⟨[(1, evsA ev), (3, .str nm), (6, .ptr 1 0 0 0), (10, atsA A), (12, bosA N), (14, .bool (knK A N nm i)), (15, .int .i64 i)], [(1, .row 0 1 true (.lst [mA ps]))]⟩, fun i => i ≤ A.length, fun i => A.length - i⟩
def invE2 (ev : List EvG) (ps : List PlG) (A : List AtomG) (nm : List UInt8) : Inv := ⟨Nat × Nat, 70, fun p => ⟨[(1, evsA ev), (3, .str nm), (6, .ptr 1 0 0 0), (10, atsA A), (16, .sl 60 p.2 0 (vlK ev A ps nm p.1).length none), (17, .int .i64 p.1)], [(1, .row 0 1 true (.lst [mA ps])), (60, .row p.2 1 true (.fn (vlK ev A ps nm p.1).length (fun k => .int .i64 ((vlK ev A ps nm p.1).getD k 0))))]⟩, fun p => p.1 ≤ ps.length, fun p => ps.length - p.1⟩
noncomputable def tblG1 (x : NodeG) (w : Int) (hs : List HaveG) (es : List AggG) (ev : List EvG) (ps : List PlG) (m : Int) (A : List AtomG) (N : List Bool) : List (Nat × Ctr) :=
  [(47, cAt [qA x w hs es, evsA ev, mA ps] (.tup [atsA A, bosA N, .int .i64 m]))]
noncomputable def tblG2 (x : NodeG) (e1 e2 : Int) (A : List AtomG) (N : List Bool) : List (Nat × Ctr) :=
  [(38, cAt [nodeA 16 x] (.tup [atsA A, .int .i64 e1])), (50, cAt [nodeA 16 x] (.tup [bosA N, .int .i64 e2]))]

theorem named_vc (x : NodeG) (w : Int) (hs : List HaveG) (es : List AggG) (ev : List EvG) (ps : List PlG) (m : Int) (A : List AtomG) (N : List Bool) (nm : List UInt8) (L : List Int) (r : Int) : (vcFun (mkG Tryd.prog gN (tblOf (tblG1 x w hs es ev ps m A N)) (fun f b => if f = 13 ∧ b = 0 then some (invD1 ev ps A N nm) else if f = 13 ∧ b = 2 then some (invD2 ev ps A nm) else none) 0) 20 13 [qA x w hs es, evsA ev, mA ps, .str nm] .nil 0 (retP 4 (.tup [isA L, .int .i64 r]))).sat = (
  NB
    (atB
      [AV.agg
        [AV.int IntKind.i64 (TreeG.val x).fst, AV.int IntKind.i64 (TreeG.val x).snd.fst, AV.int IntKind.i64 (TreeG.val x).snd.snd.fst, AV.int IntKind.i64 (nat x).fst, AV.bool (nat x).snd.fst,
        AV.int IntKind.u64 (nat x).snd.snd.fst, AV.rof (ac (nat x)).length (fun (i : Nat) => condA ((ac (nat x)).getD i condD)) false, AV.str (an (nat x)),
        AV.rof (TreeG.kids x).length (fun (i : Nat) => nodeA (15 : Nat) ((TreeG.kids x).getD i treeD)) false, AV.int IntKind.u64 w, AV.rof hs.length (fun (i : Nat) => haveA (hs.getD i haveD)) false,
        AV.rof es.length (fun (i : Nat) => aggA (es.getD i aggD)) false],
        AV.rof ev.length (fun (k : Nat) => evA (ev.getD k evD)) false, AV.agg [AV.rof ps.length (fun (k : Nat) => plA (ps.getD k plD)) false]]
      [qA x w hs es, evsA ev, mA ps])
    (VB (m != (0 : Int)) (L.length = (0 : Nat) ∧ m = r ∧ True)
      ((∃ (i : Nat),
        i.le A.length ∧
        ((ev.length = ev.length ∧
        (∀ (i : Nat),
        i < ev.length →
        ((ev.getD i evD).fst.fst = (ev.getD i evD).fst.fst ∧
        (ev.getD i evD).fst.snd.fst = (ev.getD i evD).fst.snd.fst ∧
        (ev.getD i evD).snd.fst = (ev.getD i evD).snd.fst ∧
        (ev.getD i evD).snd.snd.fst = (ev.getD i evD).snd.snd.fst ∧
        (ev.getD i evD).snd.snd.snd.fst = (ev.getD i evD).snd.snd.snd.fst ∧ (ev.getD i evD).snd.snd.snd.snd.fst = (ev.getD i evD).snd.snd.snd.snd.fst ∧ True) ∧
        [AV.int IntKind.u64 (ev.getD i evD).fst.fst, AV.int IntKind.u64 (ev.getD i evD).fst.snd.fst, AV.int IntKind.u64 (ev.getD i evD).snd.fst, AV.int IntKind.u64 (ev.getD i evD).snd.snd.fst,
        AV.int IntKind.i64 (ev.getD i evD).snd.snd.snd.fst, AV.int IntKind.i64 (ev.getD i evD).snd.snd.snd.snd.fst].length =
        [AV.int IntKind.u64 (ev.getD i evD).fst.fst, AV.int IntKind.u64 (ev.getD i evD).fst.snd.fst, AV.int IntKind.u64 (ev.getD i evD).snd.fst, AV.int IntKind.u64 (ev.getD i evD).snd.snd.fst,
        AV.int IntKind.i64 (ev.getD i evD).snd.snd.snd.fst, AV.int IntKind.i64 (ev.getD i evD).snd.snd.snd.snd.fst].length) ∧
        (false = true → false = true)) ∧
        nm = nm ∧
        ((0 : Nat) = (0 : Nat) ∧ (0 : Nat) = (0 : Nat) ∧ (0 : Nat) = (0 : Nat)) ∧
        (A.length = A.length ∧
        (∀ (i : Nat),
        i < A.length →
        ((A.getD i atomD).fst = (A.getD i atomD).fst ∧
        (A.getD i atomD).snd.fst = (A.getD i atomD).snd.fst ∧
        (A.getD i atomD).snd.snd.fst = (A.getD i atomD).snd.snd.fst ∧
        ((ac (A.getD i atomD)).length = (ac (A.getD i atomD)).length ∧
        (∀ (i_1 : Nat),
        i_1 < (ac (A.getD i atomD)).length →
        (((ac (A.getD i atomD)).getD i_1 condD).fst = ((ac (A.getD i atomD)).getD i_1 condD).fst ∧
        ((ac (A.getD i atomD)).getD i_1 condD).snd.fst = ((ac (A.getD i atomD)).getD i_1 condD).snd.fst ∧ True) ∧
        [AV.int IntKind.i64 ((ac (A.getD i atomD)).getD i_1 condD).fst, AV.int IntKind.i64 ((ac (A.getD i atomD)).getD i_1 condD).snd.fst].length =
        [AV.int IntKind.i64 ((ac (A.getD i atomD)).getD i_1 condD).fst, AV.int IntKind.i64 ((ac (A.getD i atomD)).getD i_1 condD).snd.fst].length) ∧
        (false = true → false = true)) ∧
        an (A.getD i atomD) = an (A.getD i atomD) ∧ True) ∧
        [AV.int IntKind.i64 (A.getD i atomD).fst, AV.bool (A.getD i atomD).snd.fst, AV.int IntKind.u64 (A.getD i atomD).snd.snd.fst, condsA (ac (A.getD i atomD)),
        AV.str (an (A.getD i atomD))].length =
        [AV.int IntKind.i64 (A.getD i atomD).fst, AV.bool (A.getD i atomD).snd.fst, AV.int IntKind.u64 (A.getD i atomD).snd.snd.fst, condsA (ac (A.getD i atomD)),
        AV.str (an (A.getD i atomD))].length) ∧
        (false = true → false = true)) ∧
        (N.length = N.length ∧ (∀ (i : Nat), i < N.length → N.getD i false = N.getD i false ∧ [AV.bool (N.getD i false)].length = [AV.bool (N.getD i false)].length) ∧ (false = true → false = true)) ∧
        false = knK A N nm i ∧
        (A.length = A.length ∧
        (∀ (i : Nat),
        i < A.length →
        ((A.getD i atomD).fst = (A.getD i atomD).fst ∧
        (A.getD i atomD).snd.fst = (A.getD i atomD).snd.fst ∧
        (A.getD i atomD).snd.snd.fst = (A.getD i atomD).snd.snd.fst ∧
        ((ac (A.getD i atomD)).length = (ac (A.getD i atomD)).length ∧
        (∀ (i_1 : Nat),
        i_1 < (ac (A.getD i atomD)).length →
        (((ac (A.getD i atomD)).getD i_1 condD).fst = ((ac (A.getD i atomD)).getD i_1 condD).fst ∧
        ((ac (A.getD i atomD)).getD i_1 condD).snd.fst = ((ac (A.getD i atomD)).getD i_1 condD).snd.fst ∧ True) ∧
        [AV.int IntKind.i64 ((ac (A.getD i atomD)).getD i_1 condD).fst, AV.int IntKind.i64 ((ac (A.getD i atomD)).getD i_1 condD).snd.fst].length =
        [AV.int IntKind.i64 ((ac (A.getD i atomD)).getD i_1 condD).fst, AV.int IntKind.i64 ((ac (A.getD i atomD)).getD i_1 condD).snd.fst].length) ∧
        (false = true → false = true)) ∧
        an (A.getD i atomD) = an (A.getD i atomD) ∧ True) ∧
        [AV.int IntKind.i64 (A.getD i atomD).fst, AV.bool (A.getD i atomD).snd.fst, AV.int IntKind.u64 (A.getD i atomD).snd.snd.fst, condsA (ac (A.getD i atomD)),
        AV.str (an (A.getD i atomD))].length =
        [AV.int IntKind.i64 (A.getD i atomD).fst, AV.bool (A.getD i atomD).snd.fst, AV.int IntKind.u64 (A.getD i atomD).snd.snd.fst, condsA (ac (A.getD i atomD)),
        AV.str (an (A.getD i atomD))].length) ∧
        (false = true → false = true)) ∧
        (↑A.length : Int) = (↑A.length : Int) ∧ (0 : Int) = (↑i : Int) ∧ True) ∧
        ((0 : Nat) = (0 : Nat) ∧
        (true = true → true = true) ∧
        (((ps.length = ps.length ∧
        (∀ (i : Nat),
        i < ps.length →
        ((ps.getD i plD).fst = (ps.getD i plD).fst ∧ (ps.getD i plD).snd.fst = (ps.getD i plD).snd.fst ∧ True) ∧
        [AV.int IntKind.i64 (ps.getD i plD).fst, AV.int IntKind.i64 (ps.getD i plD).snd.fst].length =
        [AV.int IntKind.i64 (ps.getD i plD).fst, AV.int IntKind.i64 (ps.getD i plD).snd.fst].length) ∧
        (false = true → false = true)) ∧
        True) ∧
        [AV.rof ps.length (fun (k : Nat) => plA (ps.getD k plD)) false].length = [plsA ps].length) ∧
        True) ∧
        True) ∧
        ∀ (i : Nat),
        i.le A.length →
        VB (decide ((↑i : Int) < (↑A.length : Int)))
        (NB (decide ((0 : Int) ≤ (↑i : Int) ∧ (↑i : Int) < (↑A.length : Int)))
        (NB (impB (isW false (knK A N nm i) && isW true (an (A.getD (↑i : Int).toNat atomD) == nm)) (decide ((0 : Int) ≤ (↑i : Int) ∧ (↑i : Int) < (↑N.length : Int))))
        (∃ (i' : Nat),
        i'.le A.length ∧
        (invD1 ev ps A N nm).μ i' < (invD1 ev ps A N nm).μ i ∧
        ((ev.length = ev.length ∧
        (∀ (i : Nat),
        i < ev.length →
        ((ev.getD i evD).fst.fst = (ev.getD i evD).fst.fst ∧
        (ev.getD i evD).fst.snd.fst = (ev.getD i evD).fst.snd.fst ∧
        (ev.getD i evD).snd.fst = (ev.getD i evD).snd.fst ∧
        (ev.getD i evD).snd.snd.fst = (ev.getD i evD).snd.snd.fst ∧
        (ev.getD i evD).snd.snd.snd.fst = (ev.getD i evD).snd.snd.snd.fst ∧ (ev.getD i evD).snd.snd.snd.snd.fst = (ev.getD i evD).snd.snd.snd.snd.fst ∧ True) ∧
        [AV.int IntKind.u64 (ev.getD i evD).fst.fst, AV.int IntKind.u64 (ev.getD i evD).fst.snd.fst, AV.int IntKind.u64 (ev.getD i evD).snd.fst, AV.int IntKind.u64 (ev.getD i evD).snd.snd.fst,
        AV.int IntKind.i64 (ev.getD i evD).snd.snd.snd.fst, AV.int IntKind.i64 (ev.getD i evD).snd.snd.snd.snd.fst].length =
        [AV.int IntKind.u64 (ev.getD i evD).fst.fst, AV.int IntKind.u64 (ev.getD i evD).fst.snd.fst, AV.int IntKind.u64 (ev.getD i evD).snd.fst,
        AV.int IntKind.u64 (ev.getD i evD).snd.snd.fst, AV.int IntKind.i64 (ev.getD i evD).snd.snd.snd.fst, AV.int IntKind.i64 (ev.getD i evD).snd.snd.snd.snd.fst].length) ∧
        (false = true → false = true)) ∧
        nm = nm ∧
        ((0 : Nat) = (0 : Nat) ∧ (0 : Nat) = (0 : Nat) ∧ (0 : Nat) = (0 : Nat)) ∧
        (A.length = A.length ∧
        (∀ (i : Nat),
        i < A.length →
        ((A.getD i atomD).fst = (A.getD i atomD).fst ∧
        (A.getD i atomD).snd.fst = (A.getD i atomD).snd.fst ∧
        (A.getD i atomD).snd.snd.fst = (A.getD i atomD).snd.snd.fst ∧
        ((ac (A.getD i atomD)).length = (ac (A.getD i atomD)).length ∧
        (∀ (i_1 : Nat),
        i_1 < (ac (A.getD i atomD)).length →
        (((ac (A.getD i atomD)).getD i_1 condD).fst = ((ac (A.getD i atomD)).getD i_1 condD).fst ∧
        ((ac (A.getD i atomD)).getD i_1 condD).snd.fst = ((ac (A.getD i atomD)).getD i_1 condD).snd.fst ∧ True) ∧
        [AV.int IntKind.i64 ((ac (A.getD i atomD)).getD i_1 condD).fst, AV.int IntKind.i64 ((ac (A.getD i atomD)).getD i_1 condD).snd.fst].length =
        [AV.int IntKind.i64 ((ac (A.getD i atomD)).getD i_1 condD).fst, AV.int IntKind.i64 ((ac (A.getD i atomD)).getD i_1 condD).snd.fst].length) ∧
        (false = true → false = true)) ∧
        an (A.getD i atomD) = an (A.getD i atomD) ∧ True) ∧
        [AV.int IntKind.i64 (A.getD i atomD).fst, AV.bool (A.getD i atomD).snd.fst, AV.int IntKind.u64 (A.getD i atomD).snd.snd.fst, condsA (ac (A.getD i atomD)),
        AV.str (an (A.getD i atomD))].length =
        [AV.int IntKind.i64 (A.getD i atomD).fst, AV.bool (A.getD i atomD).snd.fst, AV.int IntKind.u64 (A.getD i atomD).snd.snd.fst, condsA (ac (A.getD i atomD)),
        AV.str (an (A.getD i atomD))].length) ∧
        (false = true → false = true)) ∧
        (N.length = N.length ∧
        (∀ (i : Nat), i < N.length → N.getD i false = N.getD i false ∧ [AV.bool (N.getD i false)].length = [AV.bool (N.getD i false)].length) ∧ (false = true → false = true)) ∧
        (knK A N nm i || an (A.getD (↑i : Int).toNat atomD) == nm && !N.getD (↑i : Int).toNat false) = knK A N nm i' ∧
        (A.length = A.length ∧
        (∀ (i : Nat),
        i < A.length →
        ((A.getD i atomD).fst = (A.getD i atomD).fst ∧
        (A.getD i atomD).snd.fst = (A.getD i atomD).snd.fst ∧
        (A.getD i atomD).snd.snd.fst = (A.getD i atomD).snd.snd.fst ∧
        ((ac (A.getD i atomD)).length = (ac (A.getD i atomD)).length ∧
        (∀ (i_1 : Nat),
        i_1 < (ac (A.getD i atomD)).length →
        (((ac (A.getD i atomD)).getD i_1 condD).fst = ((ac (A.getD i atomD)).getD i_1 condD).fst ∧
        ((ac (A.getD i atomD)).getD i_1 condD).snd.fst = ((ac (A.getD i atomD)).getD i_1 condD).snd.fst ∧ True) ∧
        [AV.int IntKind.i64 ((ac (A.getD i atomD)).getD i_1 condD).fst, AV.int IntKind.i64 ((ac (A.getD i atomD)).getD i_1 condD).snd.fst].length =
        [AV.int IntKind.i64 ((ac (A.getD i atomD)).getD i_1 condD).fst, AV.int IntKind.i64 ((ac (A.getD i atomD)).getD i_1 condD).snd.fst].length) ∧
        (false = true → false = true)) ∧
        an (A.getD i atomD) = an (A.getD i atomD) ∧ True) ∧
        [AV.int IntKind.i64 (A.getD i atomD).fst, AV.bool (A.getD i atomD).snd.fst, AV.int IntKind.u64 (A.getD i atomD).snd.snd.fst, condsA (ac (A.getD i atomD)),
        AV.str (an (A.getD i atomD))].length =
        [AV.int IntKind.i64 (A.getD i atomD).fst, AV.bool (A.getD i atomD).snd.fst, AV.int IntKind.u64 (A.getD i atomD).snd.snd.fst, condsA (ac (A.getD i atomD)),
        AV.str (an (A.getD i atomD))].length) ∧
        (false = true → false = true)) ∧
        (↑A.length : Int) = (↑A.length : Int) ∧ IntKind.i64.wrap ((↑i : Int) + (1 : Int)) = (↑i' : Int) ∧ True) ∧
        ((0 : Nat) = (0 : Nat) ∧
        (true = true → true = true) ∧
        (((ps.length = ps.length ∧
        (∀ (i : Nat),
        i < ps.length →
        ((ps.getD i plD).fst = (ps.getD i plD).fst ∧ (ps.getD i plD).snd.fst = (ps.getD i plD).snd.fst ∧ True) ∧
        [AV.int IntKind.i64 (ps.getD i plD).fst, AV.int IntKind.i64 (ps.getD i plD).snd.fst].length =
        [AV.int IntKind.i64 (ps.getD i plD).fst, AV.int IntKind.i64 (ps.getD i plD).snd.fst].length) ∧
        (false = true → false = true)) ∧
        True) ∧
        [plsA ps].length = [plsA ps].length) ∧
        True) ∧
        True)))
        (VB (!knK A N nm i) (L.length = (0 : Nat) ∧ (12 : Int) = r ∧ True)
        ((∃ (i : Nat × Nat),
        i.fst.le ps.length ∧
        ((ev.length = ev.length ∧
        (∀ (i : Nat),
        i < ev.length →
        ((ev.getD i evD).fst.fst = (ev.getD i evD).fst.fst ∧
        (ev.getD i evD).fst.snd.fst = (ev.getD i evD).fst.snd.fst ∧
        (ev.getD i evD).snd.fst = (ev.getD i evD).snd.fst ∧
        (ev.getD i evD).snd.snd.fst = (ev.getD i evD).snd.snd.fst ∧
        (ev.getD i evD).snd.snd.snd.fst = (ev.getD i evD).snd.snd.snd.fst ∧ (ev.getD i evD).snd.snd.snd.snd.fst = (ev.getD i evD).snd.snd.snd.snd.fst ∧ True) ∧
        [AV.int IntKind.u64 (ev.getD i evD).fst.fst, AV.int IntKind.u64 (ev.getD i evD).fst.snd.fst, AV.int IntKind.u64 (ev.getD i evD).snd.fst, AV.int IntKind.u64 (ev.getD i evD).snd.snd.fst,
        AV.int IntKind.i64 (ev.getD i evD).snd.snd.snd.fst, AV.int IntKind.i64 (ev.getD i evD).snd.snd.snd.snd.fst].length =
        [AV.int IntKind.u64 (ev.getD i evD).fst.fst, AV.int IntKind.u64 (ev.getD i evD).fst.snd.fst, AV.int IntKind.u64 (ev.getD i evD).snd.fst, AV.int IntKind.u64 (ev.getD i evD).snd.snd.fst,
        AV.int IntKind.i64 (ev.getD i evD).snd.snd.snd.fst, AV.int IntKind.i64 (ev.getD i evD).snd.snd.snd.snd.fst].length) ∧
        (false = true → false = true)) ∧
        nm = nm ∧
        (A.length = A.length ∧
        (∀ (i : Nat),
        i < A.length →
        ((A.getD i atomD).fst = (A.getD i atomD).fst ∧
        (A.getD i atomD).snd.fst = (A.getD i atomD).snd.fst ∧
        (A.getD i atomD).snd.snd.fst = (A.getD i atomD).snd.snd.fst ∧
        ((ac (A.getD i atomD)).length = (ac (A.getD i atomD)).length ∧
        (∀ (i_1 : Nat),
        i_1 < (ac (A.getD i atomD)).length →
        (((ac (A.getD i atomD)).getD i_1 condD).fst = ((ac (A.getD i atomD)).getD i_1 condD).fst ∧
        ((ac (A.getD i atomD)).getD i_1 condD).snd.fst = ((ac (A.getD i atomD)).getD i_1 condD).snd.fst ∧ True) ∧
        [AV.int IntKind.i64 ((ac (A.getD i atomD)).getD i_1 condD).fst, AV.int IntKind.i64 ((ac (A.getD i atomD)).getD i_1 condD).snd.fst].length =
        [AV.int IntKind.i64 ((ac (A.getD i atomD)).getD i_1 condD).fst, AV.int IntKind.i64 ((ac (A.getD i atomD)).getD i_1 condD).snd.fst].length) ∧
        (false = true → false = true)) ∧
        an (A.getD i atomD) = an (A.getD i atomD) ∧ True) ∧
        [AV.int IntKind.i64 (A.getD i atomD).fst, AV.bool (A.getD i atomD).snd.fst, AV.int IntKind.u64 (A.getD i atomD).snd.snd.fst, condsA (ac (A.getD i atomD)),
        AV.str (an (A.getD i atomD))].length =
        [AV.int IntKind.i64 (A.getD i atomD).fst, AV.bool (A.getD i atomD).snd.fst, AV.int IntKind.u64 (A.getD i atomD).snd.snd.fst, condsA (ac (A.getD i atomD)),
        AV.str (an (A.getD i atomD))].length) ∧
        (false = true → false = true)) ∧
        ((vlK ev A ps nm i.fst).length = (0 : Nat) ∧ i.snd = i.snd ∧ (vlK ev A ps nm i.fst).length = (0 : Nat)) ∧
        (ps.length = ps.length ∧
        (∀ (i : Nat),
        i < ps.length →
        ((ps.getD i plD).fst = (ps.getD i plD).fst ∧ (ps.getD i plD).snd.fst = (ps.getD i plD).snd.fst ∧ True) ∧
        [AV.int IntKind.i64 (ps.getD i plD).fst, AV.int IntKind.i64 (ps.getD i plD).snd.fst].length =
        [AV.int IntKind.i64 (ps.getD i plD).fst, AV.int IntKind.i64 (ps.getD i plD).snd.fst].length) ∧
        (false = true → false = true)) ∧
        (↑ps.length : Int) = (↑ps.length : Int) ∧ (0 : Int) = (↑i.fst : Int) ∧ True) ∧
        (vlK ev A ps nm i.fst).length = (0 : Nat) ∧ True) ∧
        ∀ (i : Nat × Nat),
        i.fst.le ps.length →
        VB (decide ((↑i.fst : Int) < (↑ps.length : Int)))
        (NB (decide ((0 : Int) ≤ (↑i.fst : Int) ∧ (↑i.fst : Int) < (↑ps.length : Int)))
        (NB (decide ((0 : Int) ≤ (ps.getD (↑i.fst : Int).toNat plD).snd.fst ∧ (ps.getD (↑i.fst : Int).toNat plD).snd.fst < (↑A.length : Int)))
        (VB (an (A.getD (ps.getD (↑i.fst : Int).toNat plD).snd.fst.toNat atomD) == nm)
        (NB (decide ((0 : Int) ≤ (ps.getD (↑i.fst : Int).toNat plD).fst ∧ (ps.getD (↑i.fst : Int).toNat plD).fst < (↑ev.length : Int)))
        (NB (true && decide (i.snd = i.snd) && room ((vlK ev A ps nm i.fst).length + (1 : Nat)) (8 : Nat))
        (∃ (i' : Nat × Nat),
        i'.fst.le ps.length ∧
        (invD2 ev ps A nm).μ i' < (invD2 ev ps A nm).μ i ∧
        ((ev.length = ev.length ∧
        (∀ (i : Nat),
        i < ev.length →
        ((ev.getD i evD).fst.fst = (ev.getD i evD).fst.fst ∧
        (ev.getD i evD).fst.snd.fst = (ev.getD i evD).fst.snd.fst ∧
        (ev.getD i evD).snd.fst = (ev.getD i evD).snd.fst ∧
        (ev.getD i evD).snd.snd.fst = (ev.getD i evD).snd.snd.fst ∧
        (ev.getD i evD).snd.snd.snd.fst = (ev.getD i evD).snd.snd.snd.fst ∧ (ev.getD i evD).snd.snd.snd.snd.fst = (ev.getD i evD).snd.snd.snd.snd.fst ∧ True) ∧
        [AV.int IntKind.u64 (ev.getD i evD).fst.fst, AV.int IntKind.u64 (ev.getD i evD).fst.snd.fst, AV.int IntKind.u64 (ev.getD i evD).snd.fst,
        AV.int IntKind.u64 (ev.getD i evD).snd.snd.fst, AV.int IntKind.i64 (ev.getD i evD).snd.snd.snd.fst,
        AV.int IntKind.i64 (ev.getD i evD).snd.snd.snd.snd.fst].length =
        [AV.int IntKind.u64 (ev.getD i evD).fst.fst, AV.int IntKind.u64 (ev.getD i evD).fst.snd.fst, AV.int IntKind.u64 (ev.getD i evD).snd.fst,
        AV.int IntKind.u64 (ev.getD i evD).snd.snd.fst, AV.int IntKind.i64 (ev.getD i evD).snd.snd.snd.fst,
        AV.int IntKind.i64 (ev.getD i evD).snd.snd.snd.snd.fst].length) ∧
        (false = true → false = true)) ∧
        nm = nm ∧
        (A.length = A.length ∧
        (∀ (i : Nat),
        i < A.length →
        ((A.getD i atomD).fst = (A.getD i atomD).fst ∧
        (A.getD i atomD).snd.fst = (A.getD i atomD).snd.fst ∧
        (A.getD i atomD).snd.snd.fst = (A.getD i atomD).snd.snd.fst ∧
        ((ac (A.getD i atomD)).length = (ac (A.getD i atomD)).length ∧
        (∀ (i_1 : Nat),
        i_1 < (ac (A.getD i atomD)).length →
        (((ac (A.getD i atomD)).getD i_1 condD).fst = ((ac (A.getD i atomD)).getD i_1 condD).fst ∧
        ((ac (A.getD i atomD)).getD i_1 condD).snd.fst = ((ac (A.getD i atomD)).getD i_1 condD).snd.fst ∧ True) ∧
        [AV.int IntKind.i64 ((ac (A.getD i atomD)).getD i_1 condD).fst, AV.int IntKind.i64 ((ac (A.getD i atomD)).getD i_1 condD).snd.fst].length =
        [AV.int IntKind.i64 ((ac (A.getD i atomD)).getD i_1 condD).fst, AV.int IntKind.i64 ((ac (A.getD i atomD)).getD i_1 condD).snd.fst].length) ∧
        (false = true → false = true)) ∧
        an (A.getD i atomD) = an (A.getD i atomD) ∧ True) ∧
        [AV.int IntKind.i64 (A.getD i atomD).fst, AV.bool (A.getD i atomD).snd.fst, AV.int IntKind.u64 (A.getD i atomD).snd.snd.fst, condsA (ac (A.getD i atomD)),
        AV.str (an (A.getD i atomD))].length =
        [AV.int IntKind.i64 (A.getD i atomD).fst, AV.bool (A.getD i atomD).snd.fst, AV.int IntKind.u64 (A.getD i atomD).snd.snd.fst, condsA (ac (A.getD i atomD)),
        AV.str (an (A.getD i atomD))].length) ∧
        (false = true → false = true)) ∧
        (i.snd + (1 : Nat) = i'.snd ∧
        (0 : Nat) = (0 : Nat) ∧ (vlK ev A ps nm i.fst).length + (1 : Nat) = (vlK ev A ps nm i'.fst).length ∧ (@Eq (Option Nat) none none ∨ @Eq (Option Nat) none none)) ∧
        (ps.length = ps.length ∧
        (∀ (i : Nat),
        i < ps.length →
        ((ps.getD i plD).fst = (ps.getD i plD).fst ∧ (ps.getD i plD).snd.fst = (ps.getD i plD).snd.fst ∧ True) ∧
        [AV.int IntKind.i64 (ps.getD i plD).fst, AV.int IntKind.i64 (ps.getD i plD).snd.fst].length =
        [AV.int IntKind.i64 (ps.getD i plD).fst, AV.int IntKind.i64 (ps.getD i plD).snd.fst].length) ∧
        (false = true → false = true)) ∧
        (↑ps.length : Int) = (↑ps.length : Int) ∧ IntKind.i64.wrap ((↑i.fst : Int) + (1 : Int)) = (↑i'.fst : Int) ∧ True) ∧
        (i.snd + (1 : Nat) = i'.snd ∧
        (true = true → true = true) ∧
        (vlK ev A ps nm i.fst).length + (1 : Nat) = (vlK ev A ps nm i'.fst).length ∧
        ∀ (i_1 : Nat),
        i_1 < (vlK ev A ps nm i.fst).length + (1 : Nat) →
        (if i_1 < (vlK ev A ps nm i.fst).length then AV.int IntKind.i64 ((vlK ev A ps nm i.fst).getD ((0 : Nat) + i_1) (0 : Int))
        else
        ((Sq.lst [AV.int IntKind.i64 (ev.getD (ps.getD (↑i.fst : Int).toNat plD).fst.toNat evD).snd.snd.snd.snd.fst]).sub (0 : Nat) (1 : Nat)).get
        (i_1 - (vlK ev A ps nm i.fst).length)).sub
        (AV.int IntKind.i64 ((vlK ev A ps nm i'.fst).getD i_1 (0 : Int))) ∧
        (if i_1 < (vlK ev A ps nm i.fst).length then AV.int IntKind.i64 ((vlK ev A ps nm i.fst).getD ((0 : Nat) + i_1) (0 : Int))
        else
        ((Sq.lst [AV.int IntKind.i64 (ev.getD (ps.getD (↑i.fst : Int).toNat plD).fst.toNat evD).snd.snd.snd.snd.fst]).sub (0 : Nat) (1 : Nat)).get
        (i_1 - (vlK ev A ps nm i.fst).length)).cells.length =
        [AV.int IntKind.i64 ((vlK ev A ps nm i'.fst).getD i_1 (0 : Int))].length) ∧
        True)))
        (∃ (i' : Nat × Nat),
        i'.fst.le ps.length ∧
        (invD2 ev ps A nm).μ i' < (invD2 ev ps A nm).μ i ∧
        ((ev.length = ev.length ∧
        (∀ (i : Nat),
        i < ev.length →
        ((ev.getD i evD).fst.fst = (ev.getD i evD).fst.fst ∧
        (ev.getD i evD).fst.snd.fst = (ev.getD i evD).fst.snd.fst ∧
        (ev.getD i evD).snd.fst = (ev.getD i evD).snd.fst ∧
        (ev.getD i evD).snd.snd.fst = (ev.getD i evD).snd.snd.fst ∧
        (ev.getD i evD).snd.snd.snd.fst = (ev.getD i evD).snd.snd.snd.fst ∧ (ev.getD i evD).snd.snd.snd.snd.fst = (ev.getD i evD).snd.snd.snd.snd.fst ∧ True) ∧
        [AV.int IntKind.u64 (ev.getD i evD).fst.fst, AV.int IntKind.u64 (ev.getD i evD).fst.snd.fst, AV.int IntKind.u64 (ev.getD i evD).snd.fst,
        AV.int IntKind.u64 (ev.getD i evD).snd.snd.fst, AV.int IntKind.i64 (ev.getD i evD).snd.snd.snd.fst, AV.int IntKind.i64 (ev.getD i evD).snd.snd.snd.snd.fst].length =
        [AV.int IntKind.u64 (ev.getD i evD).fst.fst, AV.int IntKind.u64 (ev.getD i evD).fst.snd.fst, AV.int IntKind.u64 (ev.getD i evD).snd.fst,
        AV.int IntKind.u64 (ev.getD i evD).snd.snd.fst, AV.int IntKind.i64 (ev.getD i evD).snd.snd.snd.fst, AV.int IntKind.i64 (ev.getD i evD).snd.snd.snd.snd.fst].length) ∧
        (false = true → false = true)) ∧
        nm = nm ∧
        (A.length = A.length ∧
        (∀ (i : Nat),
        i < A.length →
        ((A.getD i atomD).fst = (A.getD i atomD).fst ∧
        (A.getD i atomD).snd.fst = (A.getD i atomD).snd.fst ∧
        (A.getD i atomD).snd.snd.fst = (A.getD i atomD).snd.snd.fst ∧
        ((ac (A.getD i atomD)).length = (ac (A.getD i atomD)).length ∧
        (∀ (i_1 : Nat),
        i_1 < (ac (A.getD i atomD)).length →
        (((ac (A.getD i atomD)).getD i_1 condD).fst = ((ac (A.getD i atomD)).getD i_1 condD).fst ∧
        ((ac (A.getD i atomD)).getD i_1 condD).snd.fst = ((ac (A.getD i atomD)).getD i_1 condD).snd.fst ∧ True) ∧
        [AV.int IntKind.i64 ((ac (A.getD i atomD)).getD i_1 condD).fst, AV.int IntKind.i64 ((ac (A.getD i atomD)).getD i_1 condD).snd.fst].length =
        [AV.int IntKind.i64 ((ac (A.getD i atomD)).getD i_1 condD).fst, AV.int IntKind.i64 ((ac (A.getD i atomD)).getD i_1 condD).snd.fst].length) ∧
        (false = true → false = true)) ∧
        an (A.getD i atomD) = an (A.getD i atomD) ∧ True) ∧
        [AV.int IntKind.i64 (A.getD i atomD).fst, AV.bool (A.getD i atomD).snd.fst, AV.int IntKind.u64 (A.getD i atomD).snd.snd.fst, condsA (ac (A.getD i atomD)),
        AV.str (an (A.getD i atomD))].length =
        [AV.int IntKind.i64 (A.getD i atomD).fst, AV.bool (A.getD i atomD).snd.fst, AV.int IntKind.u64 (A.getD i atomD).snd.snd.fst, condsA (ac (A.getD i atomD)),
        AV.str (an (A.getD i atomD))].length) ∧
        (false = true → false = true)) ∧
        (i.snd = i'.snd ∧ (0 : Nat) = (0 : Nat) ∧ (vlK ev A ps nm i.fst).length = (vlK ev A ps nm i'.fst).length ∧ (@Eq (Option Nat) none none ∨ @Eq (Option Nat) none none)) ∧
        (ps.length = ps.length ∧
        (∀ (i : Nat),
        i < ps.length →
        ((ps.getD i plD).fst = (ps.getD i plD).fst ∧ (ps.getD i plD).snd.fst = (ps.getD i plD).snd.fst ∧ True) ∧
        [AV.int IntKind.i64 (ps.getD i plD).fst, AV.int IntKind.i64 (ps.getD i plD).snd.fst].length =
        [AV.int IntKind.i64 (ps.getD i plD).fst, AV.int IntKind.i64 (ps.getD i plD).snd.fst].length) ∧
        (false = true → false = true)) ∧
        (↑ps.length : Int) = (↑ps.length : Int) ∧ IntKind.i64.wrap ((↑i.fst : Int) + (1 : Int)) = (↑i'.fst : Int) ∧ True) ∧
        (i.snd = i'.snd ∧
        (true = true → true = true) ∧
        (vlK ev A ps nm i.fst).length = (vlK ev A ps nm i'.fst).length ∧
        ∀ (i_1 : Nat),
        i_1 < (vlK ev A ps nm i.fst).length →
        (vlK ev A ps nm i.fst).getD i_1 (0 : Int) = (vlK ev A ps nm i'.fst).getD i_1 (0 : Int) ∧
        [AV.int IntKind.i64 ((vlK ev A ps nm i.fst).getD i_1 (0 : Int))].length = [AV.int IntKind.i64 ((vlK ev A ps nm i'.fst).getD i_1 (0 : Int))].length) ∧
        True))))
        (NB (decide (i.snd = i.snd) && true)
        (((vlK ev A ps nm i.fst).length = L.length ∧
        (∀ (i_1 : Nat),
        i_1 < (vlK ev A ps nm i.fst).length →
        (vlK ev A ps nm i.fst).getD ((0 : Nat) + i_1) (0 : Int) = L.getD i_1 (0 : Int) ∧
        [AV.int IntKind.i64 ((vlK ev A ps nm i.fst).getD ((0 : Nat) + i_1) (0 : Int))].length = [AV.int IntKind.i64 (L.getD i_1 (0 : Int))].length) ∧
        (false = true → decide (none = some (vlK ev A ps nm i.fst).length) = true)) ∧
        (0 : Int) = r ∧ True))))))) := by
  kernel_rfl

theorem refnamed_vc (x : NodeG) (w : Int) (hs : List HaveG) (es : List AggG) (ev : List EvG) (ps : List PlG) (e1 e2 : Int) (A : List AtomG) (N : List Bool) (nm : List UInt8) (L : List Int) (r : Int) : (vcFun (mkG Tryd.prog gN (tblOf (tblG2 x e1 e2 A N)) (fun f b => if f = 48 ∧ b = 0 then some (invE1 ev ps A N nm) else if f = 48 ∧ b = 2 then some (invE2 ev ps A nm) else none) 0) 20 48 [qA x w hs es, evsA ev, mA ps, .str nm] .nil 0 (retP 4 (.tup [isA L, .int .i64 r]))).sat = (
  NB (atB [nodeA (16 : Nat) x] [nodeA (16 : Nat) x])
    (NB (atB [nodeA (16 : Nat) x] [nodeA (16 : Nat) x])
      ((∃ (i : Nat),
        i.le A.length ∧
        ((ev.length = ev.length ∧
        (∀ (i : Nat),
        i < ev.length →
        ((ev.getD i evD).fst.fst = (ev.getD i evD).fst.fst ∧
        (ev.getD i evD).fst.snd.fst = (ev.getD i evD).fst.snd.fst ∧
        (ev.getD i evD).snd.fst = (ev.getD i evD).snd.fst ∧
        (ev.getD i evD).snd.snd.fst = (ev.getD i evD).snd.snd.fst ∧
        (ev.getD i evD).snd.snd.snd.fst = (ev.getD i evD).snd.snd.snd.fst ∧ (ev.getD i evD).snd.snd.snd.snd.fst = (ev.getD i evD).snd.snd.snd.snd.fst ∧ True) ∧
        [AV.int IntKind.u64 (ev.getD i evD).fst.fst, AV.int IntKind.u64 (ev.getD i evD).fst.snd.fst, AV.int IntKind.u64 (ev.getD i evD).snd.fst, AV.int IntKind.u64 (ev.getD i evD).snd.snd.fst,
        AV.int IntKind.i64 (ev.getD i evD).snd.snd.snd.fst, AV.int IntKind.i64 (ev.getD i evD).snd.snd.snd.snd.fst].length =
        [AV.int IntKind.u64 (ev.getD i evD).fst.fst, AV.int IntKind.u64 (ev.getD i evD).fst.snd.fst, AV.int IntKind.u64 (ev.getD i evD).snd.fst, AV.int IntKind.u64 (ev.getD i evD).snd.snd.fst,
        AV.int IntKind.i64 (ev.getD i evD).snd.snd.snd.fst, AV.int IntKind.i64 (ev.getD i evD).snd.snd.snd.snd.fst].length) ∧
        (false = true → false = true)) ∧
        nm = nm ∧
        ((0 : Nat) = (0 : Nat) ∧ (0 : Nat) = (0 : Nat) ∧ (0 : Nat) = (0 : Nat)) ∧
        (A.length = A.length ∧
        (∀ (i : Nat),
        i < A.length →
        ((A.getD i atomD).fst = (A.getD i atomD).fst ∧
        (A.getD i atomD).snd.fst = (A.getD i atomD).snd.fst ∧
        (A.getD i atomD).snd.snd.fst = (A.getD i atomD).snd.snd.fst ∧
        ((ac (A.getD i atomD)).length = (ac (A.getD i atomD)).length ∧
        (∀ (i_1 : Nat),
        i_1 < (ac (A.getD i atomD)).length →
        (((ac (A.getD i atomD)).getD i_1 condD).fst = ((ac (A.getD i atomD)).getD i_1 condD).fst ∧
        ((ac (A.getD i atomD)).getD i_1 condD).snd.fst = ((ac (A.getD i atomD)).getD i_1 condD).snd.fst ∧ True) ∧
        [AV.int IntKind.i64 ((ac (A.getD i atomD)).getD i_1 condD).fst, AV.int IntKind.i64 ((ac (A.getD i atomD)).getD i_1 condD).snd.fst].length =
        [AV.int IntKind.i64 ((ac (A.getD i atomD)).getD i_1 condD).fst, AV.int IntKind.i64 ((ac (A.getD i atomD)).getD i_1 condD).snd.fst].length) ∧
        (false = true → false = true)) ∧
        an (A.getD i atomD) = an (A.getD i atomD) ∧ True) ∧
        [AV.int IntKind.i64 (A.getD i atomD).fst, AV.bool (A.getD i atomD).snd.fst, AV.int IntKind.u64 (A.getD i atomD).snd.snd.fst, condsA (ac (A.getD i atomD)),
        AV.str (an (A.getD i atomD))].length =
        [AV.int IntKind.i64 (A.getD i atomD).fst, AV.bool (A.getD i atomD).snd.fst, AV.int IntKind.u64 (A.getD i atomD).snd.snd.fst, condsA (ac (A.getD i atomD)),
        AV.str (an (A.getD i atomD))].length) ∧
        (false = true → false = true)) ∧
        (N.length = N.length ∧ (∀ (i : Nat), i < N.length → N.getD i false = N.getD i false ∧ [AV.bool (N.getD i false)].length = [AV.bool (N.getD i false)].length) ∧ (false = true → false = true)) ∧
        false = knK A N nm i ∧ (0 : Int) = (↑i : Int) ∧ True) ∧
        ((0 : Nat) = (0 : Nat) ∧
        (true = true → true = true) ∧
        (((ps.length = ps.length ∧
        (∀ (i : Nat),
        i < ps.length →
        ((ps.getD i plD).fst = (ps.getD i plD).fst ∧ (ps.getD i plD).snd.fst = (ps.getD i plD).snd.fst ∧ True) ∧
        [AV.int IntKind.i64 (ps.getD i plD).fst, AV.int IntKind.i64 (ps.getD i plD).snd.fst].length =
        [AV.int IntKind.i64 (ps.getD i plD).fst, AV.int IntKind.i64 (ps.getD i plD).snd.fst].length) ∧
        (false = true → false = true)) ∧
        True) ∧
        [AV.rof ps.length (fun (k : Nat) => plA (ps.getD k plD)) false].length = [plsA ps].length) ∧
        True) ∧
        True) ∧
        ∀ (i : Nat),
        i.le A.length →
        VB (decide ((↑i : Int) < (↑A.length : Int)))
        (NB (impB (isW false (knK A N nm i)) (decide ((0 : Int) ≤ (↑i : Int) ∧ (↑i : Int) < (↑N.length : Int))))
        (NB (impB (isW false (knK A N nm i) && isW true !N.getD (↑i : Int).toNat false) (decide ((0 : Int) ≤ (↑i : Int) ∧ (↑i : Int) < (↑A.length : Int))))
        (∃ (i' : Nat),
        i'.le A.length ∧
        (invE1 ev ps A N nm).μ i' < (invE1 ev ps A N nm).μ i ∧
        ((ev.length = ev.length ∧
        (∀ (i : Nat),
        i < ev.length →
        ((ev.getD i evD).fst.fst = (ev.getD i evD).fst.fst ∧
        (ev.getD i evD).fst.snd.fst = (ev.getD i evD).fst.snd.fst ∧
        (ev.getD i evD).snd.fst = (ev.getD i evD).snd.fst ∧
        (ev.getD i evD).snd.snd.fst = (ev.getD i evD).snd.snd.fst ∧
        (ev.getD i evD).snd.snd.snd.fst = (ev.getD i evD).snd.snd.snd.fst ∧ (ev.getD i evD).snd.snd.snd.snd.fst = (ev.getD i evD).snd.snd.snd.snd.fst ∧ True) ∧
        [AV.int IntKind.u64 (ev.getD i evD).fst.fst, AV.int IntKind.u64 (ev.getD i evD).fst.snd.fst, AV.int IntKind.u64 (ev.getD i evD).snd.fst, AV.int IntKind.u64 (ev.getD i evD).snd.snd.fst,
        AV.int IntKind.i64 (ev.getD i evD).snd.snd.snd.fst, AV.int IntKind.i64 (ev.getD i evD).snd.snd.snd.snd.fst].length =
        [AV.int IntKind.u64 (ev.getD i evD).fst.fst, AV.int IntKind.u64 (ev.getD i evD).fst.snd.fst, AV.int IntKind.u64 (ev.getD i evD).snd.fst,
        AV.int IntKind.u64 (ev.getD i evD).snd.snd.fst, AV.int IntKind.i64 (ev.getD i evD).snd.snd.snd.fst, AV.int IntKind.i64 (ev.getD i evD).snd.snd.snd.snd.fst].length) ∧
        (false = true → false = true)) ∧
        nm = nm ∧
        ((0 : Nat) = (0 : Nat) ∧ (0 : Nat) = (0 : Nat) ∧ (0 : Nat) = (0 : Nat)) ∧
        (A.length = A.length ∧
        (∀ (i : Nat),
        i < A.length →
        ((A.getD i atomD).fst = (A.getD i atomD).fst ∧
        (A.getD i atomD).snd.fst = (A.getD i atomD).snd.fst ∧
        (A.getD i atomD).snd.snd.fst = (A.getD i atomD).snd.snd.fst ∧
        ((ac (A.getD i atomD)).length = (ac (A.getD i atomD)).length ∧
        (∀ (i_1 : Nat),
        i_1 < (ac (A.getD i atomD)).length →
        (((ac (A.getD i atomD)).getD i_1 condD).fst = ((ac (A.getD i atomD)).getD i_1 condD).fst ∧
        ((ac (A.getD i atomD)).getD i_1 condD).snd.fst = ((ac (A.getD i atomD)).getD i_1 condD).snd.fst ∧ True) ∧
        [AV.int IntKind.i64 ((ac (A.getD i atomD)).getD i_1 condD).fst, AV.int IntKind.i64 ((ac (A.getD i atomD)).getD i_1 condD).snd.fst].length =
        [AV.int IntKind.i64 ((ac (A.getD i atomD)).getD i_1 condD).fst, AV.int IntKind.i64 ((ac (A.getD i atomD)).getD i_1 condD).snd.fst].length) ∧
        (false = true → false = true)) ∧
        an (A.getD i atomD) = an (A.getD i atomD) ∧ True) ∧
        [AV.int IntKind.i64 (A.getD i atomD).fst, AV.bool (A.getD i atomD).snd.fst, AV.int IntKind.u64 (A.getD i atomD).snd.snd.fst, condsA (ac (A.getD i atomD)),
        AV.str (an (A.getD i atomD))].length =
        [AV.int IntKind.i64 (A.getD i atomD).fst, AV.bool (A.getD i atomD).snd.fst, AV.int IntKind.u64 (A.getD i atomD).snd.snd.fst, condsA (ac (A.getD i atomD)),
        AV.str (an (A.getD i atomD))].length) ∧
        (false = true → false = true)) ∧
        (N.length = N.length ∧
        (∀ (i : Nat), i < N.length → N.getD i false = N.getD i false ∧ [AV.bool (N.getD i false)].length = [AV.bool (N.getD i false)].length) ∧ (false = true → false = true)) ∧
        (knK A N nm i || !N.getD (↑i : Int).toNat false && an (A.getD (↑i : Int).toNat atomD) == nm) = knK A N nm i' ∧ IntKind.i64.wrap ((↑i : Int) + (1 : Int)) = (↑i' : Int) ∧ True) ∧
        ((0 : Nat) = (0 : Nat) ∧
        (true = true → true = true) ∧
        (((ps.length = ps.length ∧
        (∀ (i : Nat),
        i < ps.length →
        ((ps.getD i plD).fst = (ps.getD i plD).fst ∧ (ps.getD i plD).snd.fst = (ps.getD i plD).snd.fst ∧ True) ∧
        [AV.int IntKind.i64 (ps.getD i plD).fst, AV.int IntKind.i64 (ps.getD i plD).snd.fst].length =
        [AV.int IntKind.i64 (ps.getD i plD).fst, AV.int IntKind.i64 (ps.getD i plD).snd.fst].length) ∧
        (false = true → false = true)) ∧
        True) ∧
        [plsA ps].length = [plsA ps].length) ∧
        True) ∧
        True)))
        (VB (!knK A N nm i) (L.length = (0 : Nat) ∧ (12 : Int) = r ∧ True)
        ((∃ (i : Nat × Nat),
        i.fst.le ps.length ∧
        ((ev.length = ev.length ∧
        (∀ (i : Nat),
        i < ev.length →
        ((ev.getD i evD).fst.fst = (ev.getD i evD).fst.fst ∧
        (ev.getD i evD).fst.snd.fst = (ev.getD i evD).fst.snd.fst ∧
        (ev.getD i evD).snd.fst = (ev.getD i evD).snd.fst ∧
        (ev.getD i evD).snd.snd.fst = (ev.getD i evD).snd.snd.fst ∧
        (ev.getD i evD).snd.snd.snd.fst = (ev.getD i evD).snd.snd.snd.fst ∧ (ev.getD i evD).snd.snd.snd.snd.fst = (ev.getD i evD).snd.snd.snd.snd.fst ∧ True) ∧
        [AV.int IntKind.u64 (ev.getD i evD).fst.fst, AV.int IntKind.u64 (ev.getD i evD).fst.snd.fst, AV.int IntKind.u64 (ev.getD i evD).snd.fst, AV.int IntKind.u64 (ev.getD i evD).snd.snd.fst,
        AV.int IntKind.i64 (ev.getD i evD).snd.snd.snd.fst, AV.int IntKind.i64 (ev.getD i evD).snd.snd.snd.snd.fst].length =
        [AV.int IntKind.u64 (ev.getD i evD).fst.fst, AV.int IntKind.u64 (ev.getD i evD).fst.snd.fst, AV.int IntKind.u64 (ev.getD i evD).snd.fst, AV.int IntKind.u64 (ev.getD i evD).snd.snd.fst,
        AV.int IntKind.i64 (ev.getD i evD).snd.snd.snd.fst, AV.int IntKind.i64 (ev.getD i evD).snd.snd.snd.snd.fst].length) ∧
        (false = true → false = true)) ∧
        nm = nm ∧
        ((0 : Nat) = (0 : Nat) ∧ (0 : Nat) = (0 : Nat) ∧ (0 : Nat) = (0 : Nat)) ∧
        (A.length = A.length ∧
        (∀ (i : Nat),
        i < A.length →
        ((A.getD i atomD).fst = (A.getD i atomD).fst ∧
        (A.getD i atomD).snd.fst = (A.getD i atomD).snd.fst ∧
        (A.getD i atomD).snd.snd.fst = (A.getD i atomD).snd.snd.fst ∧
        ((ac (A.getD i atomD)).length = (ac (A.getD i atomD)).length ∧
        (∀ (i_1 : Nat),
        i_1 < (ac (A.getD i atomD)).length →
        (((ac (A.getD i atomD)).getD i_1 condD).fst = ((ac (A.getD i atomD)).getD i_1 condD).fst ∧
        ((ac (A.getD i atomD)).getD i_1 condD).snd.fst = ((ac (A.getD i atomD)).getD i_1 condD).snd.fst ∧ True) ∧
        [AV.int IntKind.i64 ((ac (A.getD i atomD)).getD i_1 condD).fst, AV.int IntKind.i64 ((ac (A.getD i atomD)).getD i_1 condD).snd.fst].length =
        [AV.int IntKind.i64 ((ac (A.getD i atomD)).getD i_1 condD).fst, AV.int IntKind.i64 ((ac (A.getD i atomD)).getD i_1 condD).snd.fst].length) ∧
        (false = true → false = true)) ∧
        an (A.getD i atomD) = an (A.getD i atomD) ∧ True) ∧
        [AV.int IntKind.i64 (A.getD i atomD).fst, AV.bool (A.getD i atomD).snd.fst, AV.int IntKind.u64 (A.getD i atomD).snd.snd.fst, condsA (ac (A.getD i atomD)),
        AV.str (an (A.getD i atomD))].length =
        [AV.int IntKind.i64 (A.getD i atomD).fst, AV.bool (A.getD i atomD).snd.fst, AV.int IntKind.u64 (A.getD i atomD).snd.snd.fst, condsA (ac (A.getD i atomD)),
        AV.str (an (A.getD i atomD))].length) ∧
        (false = true → false = true)) ∧
        ((vlK ev A ps nm i.fst).length = (0 : Nat) ∧ i.snd = i.snd ∧ (vlK ev A ps nm i.fst).length = (0 : Nat)) ∧ (0 : Int) = (↑i.fst : Int) ∧ True) ∧
        ((0 : Nat) = (0 : Nat) ∧
        (true = true → true = true) ∧
        (((ps.length = ps.length ∧
        (∀ (i : Nat),
        i < ps.length →
        ((ps.getD i plD).fst = (ps.getD i plD).fst ∧ (ps.getD i plD).snd.fst = (ps.getD i plD).snd.fst ∧ True) ∧
        [AV.int IntKind.i64 (ps.getD i plD).fst, AV.int IntKind.i64 (ps.getD i plD).snd.fst].length =
        [AV.int IntKind.i64 (ps.getD i plD).fst, AV.int IntKind.i64 (ps.getD i plD).snd.fst].length) ∧
        (false = true → false = true)) ∧
        True) ∧
        [plsA ps].length = [plsA ps].length) ∧
        True) ∧
        (vlK ev A ps nm i.fst).length = (0 : Nat) ∧ True) ∧
        ∀ (i : Nat × Nat),
        i.fst.le ps.length →
        VB (decide ((↑i.fst : Int) < (↑ps.length : Int)))
        (NB (decide ((0 : Int) ≤ (↑i.fst : Int) ∧ (↑i.fst : Int) < (↑ps.length : Int)))
        (NB (decide ((0 : Int) ≤ (ps.getD (↑i.fst : Int).toNat plD).snd.fst ∧ (ps.getD (↑i.fst : Int).toNat plD).snd.fst < (↑A.length : Int)))
        (VB (an (A.getD (ps.getD (↑i.fst : Int).toNat plD).snd.fst.toNat atomD) == nm)
        (NB (decide ((0 : Int) ≤ (↑i.fst : Int) ∧ (↑i.fst : Int) < (↑ps.length : Int)))
        (NB (decide ((0 : Int) ≤ (ps.getD (↑i.fst : Int).toNat plD).fst ∧ (ps.getD (↑i.fst : Int).toNat plD).fst < (↑ev.length : Int)))
        (NB (true && decide (i.snd = i.snd) && room ((vlK ev A ps nm i.fst).length + (1 : Nat)) (8 : Nat))
        (∃ (i' : Nat × Nat),
        i'.fst.le ps.length ∧
        (invE2 ev ps A nm).μ i' < (invE2 ev ps A nm).μ i ∧
        ((ev.length = ev.length ∧
        (∀ (i : Nat),
        i < ev.length →
        ((ev.getD i evD).fst.fst = (ev.getD i evD).fst.fst ∧
        (ev.getD i evD).fst.snd.fst = (ev.getD i evD).fst.snd.fst ∧
        (ev.getD i evD).snd.fst = (ev.getD i evD).snd.fst ∧
        (ev.getD i evD).snd.snd.fst = (ev.getD i evD).snd.snd.fst ∧
        (ev.getD i evD).snd.snd.snd.fst = (ev.getD i evD).snd.snd.snd.fst ∧ (ev.getD i evD).snd.snd.snd.snd.fst = (ev.getD i evD).snd.snd.snd.snd.fst ∧ True) ∧
        [AV.int IntKind.u64 (ev.getD i evD).fst.fst, AV.int IntKind.u64 (ev.getD i evD).fst.snd.fst, AV.int IntKind.u64 (ev.getD i evD).snd.fst,
        AV.int IntKind.u64 (ev.getD i evD).snd.snd.fst, AV.int IntKind.i64 (ev.getD i evD).snd.snd.snd.fst,
        AV.int IntKind.i64 (ev.getD i evD).snd.snd.snd.snd.fst].length =
        [AV.int IntKind.u64 (ev.getD i evD).fst.fst, AV.int IntKind.u64 (ev.getD i evD).fst.snd.fst, AV.int IntKind.u64 (ev.getD i evD).snd.fst,
        AV.int IntKind.u64 (ev.getD i evD).snd.snd.fst, AV.int IntKind.i64 (ev.getD i evD).snd.snd.snd.fst,
        AV.int IntKind.i64 (ev.getD i evD).snd.snd.snd.snd.fst].length) ∧
        (false = true → false = true)) ∧
        nm = nm ∧
        ((0 : Nat) = (0 : Nat) ∧ (0 : Nat) = (0 : Nat) ∧ (0 : Nat) = (0 : Nat)) ∧
        (A.length = A.length ∧
        (∀ (i : Nat),
        i < A.length →
        ((A.getD i atomD).fst = (A.getD i atomD).fst ∧
        (A.getD i atomD).snd.fst = (A.getD i atomD).snd.fst ∧
        (A.getD i atomD).snd.snd.fst = (A.getD i atomD).snd.snd.fst ∧
        ((ac (A.getD i atomD)).length = (ac (A.getD i atomD)).length ∧
        (∀ (i_1 : Nat),
        i_1 < (ac (A.getD i atomD)).length →
        (((ac (A.getD i atomD)).getD i_1 condD).fst = ((ac (A.getD i atomD)).getD i_1 condD).fst ∧
        ((ac (A.getD i atomD)).getD i_1 condD).snd.fst = ((ac (A.getD i atomD)).getD i_1 condD).snd.fst ∧ True) ∧
        [AV.int IntKind.i64 ((ac (A.getD i atomD)).getD i_1 condD).fst, AV.int IntKind.i64 ((ac (A.getD i atomD)).getD i_1 condD).snd.fst].length =
        [AV.int IntKind.i64 ((ac (A.getD i atomD)).getD i_1 condD).fst, AV.int IntKind.i64 ((ac (A.getD i atomD)).getD i_1 condD).snd.fst].length) ∧
        (false = true → false = true)) ∧
        an (A.getD i atomD) = an (A.getD i atomD) ∧ True) ∧
        [AV.int IntKind.i64 (A.getD i atomD).fst, AV.bool (A.getD i atomD).snd.fst, AV.int IntKind.u64 (A.getD i atomD).snd.snd.fst, condsA (ac (A.getD i atomD)),
        AV.str (an (A.getD i atomD))].length =
        [AV.int IntKind.i64 (A.getD i atomD).fst, AV.bool (A.getD i atomD).snd.fst, AV.int IntKind.u64 (A.getD i atomD).snd.snd.fst, condsA (ac (A.getD i atomD)),
        AV.str (an (A.getD i atomD))].length) ∧
        (false = true → false = true)) ∧
        (i.snd + (1 : Nat) = i'.snd ∧
        (0 : Nat) = (0 : Nat) ∧ (vlK ev A ps nm i.fst).length + (1 : Nat) = (vlK ev A ps nm i'.fst).length ∧ (@Eq (Option Nat) none none ∨ @Eq (Option Nat) none none)) ∧
        IntKind.i64.wrap ((↑i.fst : Int) + (1 : Int)) = (↑i'.fst : Int) ∧ True) ∧
        ((0 : Nat) = (0 : Nat) ∧
        (true = true → true = true) ∧
        (((ps.length = ps.length ∧
        (∀ (i : Nat),
        i < ps.length →
        ((ps.getD i plD).fst = (ps.getD i plD).fst ∧ (ps.getD i plD).snd.fst = (ps.getD i plD).snd.fst ∧ True) ∧
        [AV.int IntKind.i64 (ps.getD i plD).fst, AV.int IntKind.i64 (ps.getD i plD).snd.fst].length =
        [AV.int IntKind.i64 (ps.getD i plD).fst, AV.int IntKind.i64 (ps.getD i plD).snd.fst].length) ∧
        (false = true → false = true)) ∧
        True) ∧
        [plsA ps].length = [plsA ps].length) ∧
        True) ∧
        (i.snd + (1 : Nat) = i'.snd ∧
        (true = true → true = true) ∧
        (vlK ev A ps nm i.fst).length + (1 : Nat) = (vlK ev A ps nm i'.fst).length ∧
        ∀ (i_1 : Nat),
        i_1 < (vlK ev A ps nm i.fst).length + (1 : Nat) →
        (if i_1 < (vlK ev A ps nm i.fst).length then AV.int IntKind.i64 ((vlK ev A ps nm i.fst).getD ((0 : Nat) + i_1) (0 : Int))
        else
        ((Sq.lst [AV.int IntKind.i64 (ev.getD (ps.getD (↑i.fst : Int).toNat plD).fst.toNat evD).snd.snd.snd.snd.fst]).sub (0 : Nat) (1 : Nat)).get
        (i_1 - (vlK ev A ps nm i.fst).length)).sub
        (AV.int IntKind.i64 ((vlK ev A ps nm i'.fst).getD i_1 (0 : Int))) ∧
        (if i_1 < (vlK ev A ps nm i.fst).length then AV.int IntKind.i64 ((vlK ev A ps nm i.fst).getD ((0 : Nat) + i_1) (0 : Int))
        else
        ((Sq.lst [AV.int IntKind.i64 (ev.getD (ps.getD (↑i.fst : Int).toNat plD).fst.toNat evD).snd.snd.snd.snd.fst]).sub (0 : Nat) (1 : Nat)).get
        (i_1 - (vlK ev A ps nm i.fst).length)).cells.length =
        [AV.int IntKind.i64 ((vlK ev A ps nm i'.fst).getD i_1 (0 : Int))].length) ∧
        True))))
        (∃ (i' : Nat × Nat),
        i'.fst.le ps.length ∧
        (invE2 ev ps A nm).μ i' < (invE2 ev ps A nm).μ i ∧
        ((ev.length = ev.length ∧
        (∀ (i : Nat),
        i < ev.length →
        ((ev.getD i evD).fst.fst = (ev.getD i evD).fst.fst ∧
        (ev.getD i evD).fst.snd.fst = (ev.getD i evD).fst.snd.fst ∧
        (ev.getD i evD).snd.fst = (ev.getD i evD).snd.fst ∧
        (ev.getD i evD).snd.snd.fst = (ev.getD i evD).snd.snd.fst ∧
        (ev.getD i evD).snd.snd.snd.fst = (ev.getD i evD).snd.snd.snd.fst ∧ (ev.getD i evD).snd.snd.snd.snd.fst = (ev.getD i evD).snd.snd.snd.snd.fst ∧ True) ∧
        [AV.int IntKind.u64 (ev.getD i evD).fst.fst, AV.int IntKind.u64 (ev.getD i evD).fst.snd.fst, AV.int IntKind.u64 (ev.getD i evD).snd.fst,
        AV.int IntKind.u64 (ev.getD i evD).snd.snd.fst, AV.int IntKind.i64 (ev.getD i evD).snd.snd.snd.fst, AV.int IntKind.i64 (ev.getD i evD).snd.snd.snd.snd.fst].length =
        [AV.int IntKind.u64 (ev.getD i evD).fst.fst, AV.int IntKind.u64 (ev.getD i evD).fst.snd.fst, AV.int IntKind.u64 (ev.getD i evD).snd.fst,
        AV.int IntKind.u64 (ev.getD i evD).snd.snd.fst, AV.int IntKind.i64 (ev.getD i evD).snd.snd.snd.fst, AV.int IntKind.i64 (ev.getD i evD).snd.snd.snd.snd.fst].length) ∧
        (false = true → false = true)) ∧
        nm = nm ∧
        ((0 : Nat) = (0 : Nat) ∧ (0 : Nat) = (0 : Nat) ∧ (0 : Nat) = (0 : Nat)) ∧
        (A.length = A.length ∧
        (∀ (i : Nat),
        i < A.length →
        ((A.getD i atomD).fst = (A.getD i atomD).fst ∧
        (A.getD i atomD).snd.fst = (A.getD i atomD).snd.fst ∧
        (A.getD i atomD).snd.snd.fst = (A.getD i atomD).snd.snd.fst ∧
        ((ac (A.getD i atomD)).length = (ac (A.getD i atomD)).length ∧
        (∀ (i_1 : Nat),
        i_1 < (ac (A.getD i atomD)).length →
        (((ac (A.getD i atomD)).getD i_1 condD).fst = ((ac (A.getD i atomD)).getD i_1 condD).fst ∧
        ((ac (A.getD i atomD)).getD i_1 condD).snd.fst = ((ac (A.getD i atomD)).getD i_1 condD).snd.fst ∧ True) ∧
        [AV.int IntKind.i64 ((ac (A.getD i atomD)).getD i_1 condD).fst, AV.int IntKind.i64 ((ac (A.getD i atomD)).getD i_1 condD).snd.fst].length =
        [AV.int IntKind.i64 ((ac (A.getD i atomD)).getD i_1 condD).fst, AV.int IntKind.i64 ((ac (A.getD i atomD)).getD i_1 condD).snd.fst].length) ∧
        (false = true → false = true)) ∧
        an (A.getD i atomD) = an (A.getD i atomD) ∧ True) ∧
        [AV.int IntKind.i64 (A.getD i atomD).fst, AV.bool (A.getD i atomD).snd.fst, AV.int IntKind.u64 (A.getD i atomD).snd.snd.fst, condsA (ac (A.getD i atomD)),
        AV.str (an (A.getD i atomD))].length =
        [AV.int IntKind.i64 (A.getD i atomD).fst, AV.bool (A.getD i atomD).snd.fst, AV.int IntKind.u64 (A.getD i atomD).snd.snd.fst, condsA (ac (A.getD i atomD)),
        AV.str (an (A.getD i atomD))].length) ∧
        (false = true → false = true)) ∧
        (i.snd = i'.snd ∧ (0 : Nat) = (0 : Nat) ∧ (vlK ev A ps nm i.fst).length = (vlK ev A ps nm i'.fst).length ∧ (@Eq (Option Nat) none none ∨ @Eq (Option Nat) none none)) ∧
        IntKind.i64.wrap ((↑i.fst : Int) + (1 : Int)) = (↑i'.fst : Int) ∧ True) ∧
        ((0 : Nat) = (0 : Nat) ∧
        (true = true → true = true) ∧
        (((ps.length = ps.length ∧
        (∀ (i : Nat),
        i < ps.length →
        ((ps.getD i plD).fst = (ps.getD i plD).fst ∧ (ps.getD i plD).snd.fst = (ps.getD i plD).snd.fst ∧ True) ∧
        [AV.int IntKind.i64 (ps.getD i plD).fst, AV.int IntKind.i64 (ps.getD i plD).snd.fst].length =
        [AV.int IntKind.i64 (ps.getD i plD).fst, AV.int IntKind.i64 (ps.getD i plD).snd.fst].length) ∧
        (false = true → false = true)) ∧
        True) ∧
        [plsA ps].length = [plsA ps].length) ∧
        True) ∧
        (i.snd = i'.snd ∧
        (true = true → true = true) ∧
        (vlK ev A ps nm i.fst).length = (vlK ev A ps nm i'.fst).length ∧
        ∀ (i_1 : Nat),
        i_1 < (vlK ev A ps nm i.fst).length →
        (vlK ev A ps nm i.fst).getD i_1 (0 : Int) = (vlK ev A ps nm i'.fst).getD i_1 (0 : Int) ∧
        [AV.int IntKind.i64 ((vlK ev A ps nm i.fst).getD i_1 (0 : Int))].length = [AV.int IntKind.i64 ((vlK ev A ps nm i'.fst).getD i_1 (0 : Int))].length) ∧
        True))))
        (NB (decide (i.snd = i.snd) && true)
        (((vlK ev A ps nm i.fst).length = L.length ∧
        (∀ (i_1 : Nat),
        i_1 < (vlK ev A ps nm i.fst).length →
        (vlK ev A ps nm i.fst).getD ((0 : Nat) + i_1) (0 : Int) = L.getD i_1 (0 : Int) ∧
        [AV.int IntKind.i64 ((vlK ev A ps nm i.fst).getD ((0 : Nat) + i_1) (0 : Int))].length = [AV.int IntKind.i64 (L.getD i_1 (0 : Int))].length) ∧
        (false = true → decide (none = some (vlK ev A ps nm i.fst).length) = true)) ∧
        (0 : Int) = r ∧ True))))))) := by
  kernel_rfl

end Go.Proofs.YtamcloifhjafcaaDoor
