/- NODES 24: which matches are right: conditions of both codes. -/
import Derived.Test.YtamcloifhjafcaaDoorAN23
namespace Go.Proofs.YtamcloifhjafcaaDoor
open Pw Go
set_option maxRecDepth 100000
set_option linter.unusedSimpArgs false

abbrev EvG := (Int × Int × Unit) × Int × Int × Int × Int × Unit
abbrev PlG := Int × Int × Unit
abbrev evD : EvG := ((0, 0, ()), 0, 0, 0, 0, ())
abbrev plD : PlG := (0, 0, ())
abbrev evA (e : EvG) : AV := .agg [.int .u64 e.1.1, .int .u64 e.1.2.1, .int .u64 e.2.1, .int .u64 e.2.2.1, .int .i64 e.2.2.2.1, .int .i64 e.2.2.2.2.1]
abbrev plA (p : PlG) : AV := .agg [.int .i64 p.1, .int .i64 p.2.1]
abbrev evsA (ev : List EvG) : AV := .rof ev.length (fun k => evA (ev.getD k evD)) false
abbrev plsA (ps : List PlG) : AV := .rof ps.length (fun k => plA (ps.getD k plD)) false
abbrev mA (ps : List PlG) : AV := .agg [plsA ps]
abbrev atsA (A : List AtomG) : AV := .rof A.length (fun k => atomA (A.getD k atomD)) false
abbrev bosA (N : List Bool) : AV := .rof N.length (fun k => .bool (N.getD k false)) false

/-- A place of no event or atom. -/
def outB (nE nN : Nat) (p : PlG) : Bool := decide (p.1 < 0) || decide (p.1 ≥ nE) || decide (p.2.1 < 0) || decide (p.2.1 ≥ nN)
/-- A place of a negated atom, or not behind the one before it. -/
def badB (N : List Bool) (ps : List PlG) (i : Nat) : Bool := N.getD (ps.getD i plD).2.1.toNat false || (decide (0 < i) && decide ((ps.getD i plD).1 ≤ (ps.getD (i - 1) plD).1))
def allOut (nE nN : Nat) (ps : List PlG) : Bool := (List.range ps.length).all fun i => !outB nE nN (ps.getD i plD)
def allBad (N : List Bool) (ps : List PlG) : Bool := (List.range ps.length).all fun i => !badB N ps i
/-- The error of a match. -/
def mErr (c : Int) (nE : Nat) (N : List Bool) (ps : List PlG) : Int :=
  if c ≠ 0 then c else if allOut nE N.length ps = false then 2 else if allBad N ps = false then 3 else if ps.length = 0 then 3 else 0

noncomputable def tblGv (x : NodeG) (w : Int) (hs : List HaveG) (es : List AggG) (c e1 e2 : Int) (A : List AtomG) (N : List Bool) : List (Nat × Ctr) :=
  [(65, cAt [qA x w hs es] (.int .i64 c)), (71, cAt [nodeA 16 x] (.tup [atsA A, .int .i64 e1])), (80, cAt [nodeA 16 x] (.tup [bosA N, .int .i64 e2])),
   (49, cAt [qA x w hs es] (.int .i64 c)), (38, cAt [nodeA 16 x] (.tup [atsA A, .int .i64 e1])), (50, cAt [nodeA 16 x] (.tup [bosA N, .int .i64 e2]))]
def invG1 (ev : List EvG) (ps : List PlG) (A : List AtomG) (N : List Bool) : Inv := ⟨Nat, 50, fun i => ⟨[(1, evsA ev), (5, .ptr 1 0 0 0), (10, atsA A), (12, bosA N), (36, plsA ps), (37, .int .i64 ps.length), (38, .int .i64 i)], [(1, .row 0 1 true (.lst [mA ps]))]⟩,
  fun i => i ≤ ps.length ∧ ∀ j, j < i → outB ev.length A.length (ps.getD j plD) = false, fun i => ps.length - i⟩
def invG2 (ev : List EvG) (ps : List PlG) (A : List AtomG) (N : List Bool) : Inv := ⟨Nat, 60, fun i => ⟨[(5, .ptr 1 0 0 0), (10, atsA A), (12, bosA N), (66, plsA ps), (67, .int .i64 ps.length), (68, .int .i64 i)], [(1, .row 0 1 true (.lst [mA ps]))]⟩,
  fun i => i ≤ ps.length ∧ (∀ j, j < ps.length → outB ev.length A.length (ps.getD j plD) = false) ∧ ∀ j, j < i → badB N ps j = false, fun i => ps.length - i⟩
def invK1 (ev : List EvG) (ps : List PlG) (N : List Bool) : Inv := ⟨Nat, 50, fun i => ⟨[(1, evsA ev), (5, .ptr 1 0 0 0), (8, bosA N), (10, .int .i64 i)], [(1, .row 0 1 true (.lst [mA ps]))]⟩,
  fun i => i ≤ ps.length ∧ ∀ j, j < i → outB ev.length N.length (ps.getD j plD) = false, fun i => ps.length - i⟩
def invK2 (ev : List EvG) (ps : List PlG) (N : List Bool) : Inv := ⟨Nat, 60, fun i => ⟨[(5, .ptr 1 0 0 0), (8, bosA N), (12, .int .i64 i)], [(1, .row 0 1 true (.lst [mA ps]))]⟩,
  fun i => i ≤ ps.length ∧ (∀ j, j < ps.length → outB ev.length N.length (ps.getD j plD) = false) ∧ ∀ j, j < i → badB N ps j = false, fun i => ps.length - i⟩

theorem given_vc (x : NodeG) (w : Int) (hs : List HaveG) (es : List AggG) (ev : List EvG) (ps : List PlG) (c e1 e2 : Int) (A : List AtomG) (N : List Bool) (nA nN : Nat) (r : Int) : (vcFun (mkG Tryd.prog gN (tblOf (tblGv x w hs es c e1 e2 A N)) (fun f b => if f = 47 ∧ b = 0 then some (invG1 ev ps A N) else if f = 47 ∧ b = 2 then some (invG2 ev ps A N) else none) 0) 20 47 [qA x w hs es, evsA ev, mA ps] .nil 0 (retP 4 (.tup [.rof nA (fun k => atomA (A.getD k atomD)) false, .rof nN (fun k => .bool (N.getD k false)) false, .int .i64 r]))).sat = (
  NB
    (atB
      [AV.agg
        [AV.int IntKind.i64 (TreeG.val x).fst, AV.int IntKind.i64 (TreeG.val x).snd.fst, AV.int IntKind.i64 (TreeG.val x).snd.snd.fst, AV.int IntKind.i64 (nat x).fst, AV.bool (nat x).snd.fst,
        AV.int IntKind.u64 (nat x).snd.snd.fst, AV.rof (ac (nat x)).length (fun (i : Nat) => condA ((ac (nat x)).getD i condD)) false, AV.str (an (nat x)),
        AV.rof (TreeG.kids x).length (fun (i : Nat) => nodeA (15 : Nat) ((TreeG.kids x).getD i treeD)) false, AV.int IntKind.u64 w, AV.rof hs.length (fun (i : Nat) => haveA (hs.getD i haveD)) false,
        AV.rof es.length (fun (i : Nat) => aggA (es.getD i aggD)) false]]
      [qA x w hs es])
    (VB (c != (0 : Int)) (nA = (0 : Nat) ∧ nN = (0 : Nat) ∧ c = r ∧ True)
      (NB (atB [nodeA (16 : Nat) x] [nodeA (16 : Nat) x])
        (NB (atB [nodeA (16 : Nat) x] [nodeA (16 : Nat) x])
        ((∃ (i : Nat),
        (i ≤ ps.length ∧ ∀ (j : Nat), j < i → outB ev.length A.length (ps.getD j plD) = false) ∧
        ((ev.length = ev.length ∧
        (∀ (i : Nat),
        i < ev.length →
        ((ev.getD i evD).fst.fst = (ev.getD i evD).fst.fst ∧
        (ev.getD i evD).fst.snd.fst = (ev.getD i evD).fst.snd.fst ∧
        (ev.getD i evD).snd.fst = (ev.getD i evD).snd.fst ∧
        (ev.getD i evD).snd.snd.fst = (ev.getD i evD).snd.snd.fst ∧
        (ev.getD i evD).snd.snd.snd.fst = (ev.getD i evD).snd.snd.snd.fst ∧ (ev.getD i evD).snd.snd.snd.snd.fst = (ev.getD i evD).snd.snd.snd.snd.fst ∧ True) ∧
        [AV.int IntKind.u64 (ev.getD i evD).fst.fst, AV.int IntKind.u64 (ev.getD i evD).fst.snd.fst, AV.int IntKind.u64 (ev.getD i evD).snd.fst, AV.int IntKind.u64 (ev.getD i evD).snd.snd.fst,
        AV.int IntKind.i64 (ev.getD i evD).snd.snd.snd.fst, AV.int IntKind.i64 (ev.getD i evD).snd.snd.snd.snd.fst].length =
        [AV.int IntKind.u64 (ev.getD i evD).fst.fst, AV.int IntKind.u64 (ev.getD i evD).fst.snd.fst, AV.int IntKind.u64 (ev.getD i evD).snd.fst, AV.int IntKind.u64 (ev.getD i evD).snd.snd.fst,
        AV.int IntKind.i64 (ev.getD i evD).snd.snd.snd.fst, AV.int IntKind.i64 (ev.getD i evD).snd.snd.snd.snd.fst].length) ∧
        (false = true → false = true)) ∧
        ((0 : Nat) = (0 : Nat) ∧ (0 : Nat) = (0 : Nat) ∧ (0 : Nat) = (0 : Nat)) ∧
        (A.length = A.length ∧
        (∀ (i : Nat),
        i < A.length →
        ((A.getD i atomD).fst = (A.getD i atomD).fst ∧
        (A.getD i atomD).snd.fst = (A.getD i atomD).snd.fst ∧
        (A.getD i atomD).snd.snd.fst = (A.getD i atomD).snd.snd.fst ∧
        ((ac (A.getD i atomD)).length = (ac (A.getD i atomD)).length ∧
        (∀ (i_1 : Nat),
        i_1 < (ac (A.getD i atomD)).length →
        (((ac (A.getD i atomD)).getD i_1 condD).fst = ((ac (A.getD i atomD)).getD i_1 condD).fst ∧
        ((ac (A.getD i atomD)).getD i_1 condD).snd.fst = ((ac (A.getD i atomD)).getD i_1 condD).snd.fst ∧ True) ∧
        [AV.int IntKind.i64 ((ac (A.getD i atomD)).getD i_1 condD).fst, AV.int IntKind.i64 ((ac (A.getD i atomD)).getD i_1 condD).snd.fst].length =
        [AV.int IntKind.i64 ((ac (A.getD i atomD)).getD i_1 condD).fst, AV.int IntKind.i64 ((ac (A.getD i atomD)).getD i_1 condD).snd.fst].length) ∧
        (false = true → false = true)) ∧
        an (A.getD i atomD) = an (A.getD i atomD) ∧ True) ∧
        [AV.int IntKind.i64 (A.getD i atomD).fst, AV.bool (A.getD i atomD).snd.fst, AV.int IntKind.u64 (A.getD i atomD).snd.snd.fst, condsA (ac (A.getD i atomD)),
        AV.str (an (A.getD i atomD))].length =
        [AV.int IntKind.i64 (A.getD i atomD).fst, AV.bool (A.getD i atomD).snd.fst, AV.int IntKind.u64 (A.getD i atomD).snd.snd.fst, condsA (ac (A.getD i atomD)),
        AV.str (an (A.getD i atomD))].length) ∧
        (false = true → false = true)) ∧
        (N.length = N.length ∧ (∀ (i : Nat), i < N.length → N.getD i false = N.getD i false ∧ [AV.bool (N.getD i false)].length = [AV.bool (N.getD i false)].length) ∧ (false = true → false = true)) ∧
        (ps.length = ps.length ∧
        (∀ (i : Nat),
        i < ps.length →
        ((ps.getD i plD).fst = (ps.getD i plD).fst ∧ (ps.getD i plD).snd.fst = (ps.getD i plD).snd.fst ∧ True) ∧
        [AV.int IntKind.i64 (ps.getD i plD).fst, AV.int IntKind.i64 (ps.getD i plD).snd.fst].length =
        [AV.int IntKind.i64 (ps.getD i plD).fst, AV.int IntKind.i64 (ps.getD i plD).snd.fst].length) ∧
        (false = true → false = true)) ∧
        (↑ps.length : Int) = (↑ps.length : Int) ∧ (0 : Int) = (↑i : Int) ∧ True) ∧
        ((0 : Nat) = (0 : Nat) ∧
        (true = true → true = true) ∧
        (((ps.length = ps.length ∧
        (∀ (i : Nat),
        i < ps.length →
        ((ps.getD i plD).fst = (ps.getD i plD).fst ∧ (ps.getD i plD).snd.fst = (ps.getD i plD).snd.fst ∧ True) ∧
        [AV.int IntKind.i64 (ps.getD i plD).fst, AV.int IntKind.i64 (ps.getD i plD).snd.fst].length =
        [AV.int IntKind.i64 (ps.getD i plD).fst, AV.int IntKind.i64 (ps.getD i plD).snd.fst].length) ∧
        (false = true → false = true)) ∧
        True) ∧
        [AV.rof ps.length (fun (k : Nat) => plA (ps.getD k plD)) false].length = [plsA ps].length) ∧
        True) ∧
        True) ∧
        ∀ (i : Nat),
        (i ≤ ps.length ∧ ∀ (j : Nat), j < i → outB ev.length A.length (ps.getD j plD) = false) →
        VB (decide ((↑i : Int) < (↑ps.length : Int)))
        (NB (decide ((0 : Int) ≤ (↑i : Int) ∧ (↑i : Int) < (↑ps.length : Int)))
        (VB
        (decide ((ps.getD (↑i : Int).toNat plD).fst < (0 : Int)) || decide ((ps.getD (↑i : Int).toNat plD).fst ≥ (↑ev.length : Int)) || decide ((ps.getD (↑i : Int).toNat plD).snd.fst < (0 : Int)) ||
        decide ((ps.getD (↑i : Int).toNat plD).snd.fst ≥ (↑A.length : Int)))
        (nA = (0 : Nat) ∧ nN = (0 : Nat) ∧ (2 : Int) = r ∧ True)
        (∃ (i' : Nat),
        (i' ≤ ps.length ∧ ∀ (j : Nat), j < i' → outB ev.length A.length (ps.getD j plD) = false) ∧
        (invG1 ev ps A N).μ i' < (invG1 ev ps A N).μ i ∧
        ((ev.length = ev.length ∧
        (∀ (i : Nat),
        i < ev.length →
        ((ev.getD i evD).fst.fst = (ev.getD i evD).fst.fst ∧
        (ev.getD i evD).fst.snd.fst = (ev.getD i evD).fst.snd.fst ∧
        (ev.getD i evD).snd.fst = (ev.getD i evD).snd.fst ∧
        (ev.getD i evD).snd.snd.fst = (ev.getD i evD).snd.snd.fst ∧
        (ev.getD i evD).snd.snd.snd.fst = (ev.getD i evD).snd.snd.snd.fst ∧ (ev.getD i evD).snd.snd.snd.snd.fst = (ev.getD i evD).snd.snd.snd.snd.fst ∧ True) ∧
        [AV.int IntKind.u64 (ev.getD i evD).fst.fst, AV.int IntKind.u64 (ev.getD i evD).fst.snd.fst, AV.int IntKind.u64 (ev.getD i evD).snd.fst,
        AV.int IntKind.u64 (ev.getD i evD).snd.snd.fst, AV.int IntKind.i64 (ev.getD i evD).snd.snd.snd.fst, AV.int IntKind.i64 (ev.getD i evD).snd.snd.snd.snd.fst].length =
        [AV.int IntKind.u64 (ev.getD i evD).fst.fst, AV.int IntKind.u64 (ev.getD i evD).fst.snd.fst, AV.int IntKind.u64 (ev.getD i evD).snd.fst,
        AV.int IntKind.u64 (ev.getD i evD).snd.snd.fst, AV.int IntKind.i64 (ev.getD i evD).snd.snd.snd.fst, AV.int IntKind.i64 (ev.getD i evD).snd.snd.snd.snd.fst].length) ∧
        (false = true → false = true)) ∧
        ((0 : Nat) = (0 : Nat) ∧ (0 : Nat) = (0 : Nat) ∧ (0 : Nat) = (0 : Nat)) ∧
        (A.length = A.length ∧
        (∀ (i : Nat),
        i < A.length →
        ((A.getD i atomD).fst = (A.getD i atomD).fst ∧
        (A.getD i atomD).snd.fst = (A.getD i atomD).snd.fst ∧
        (A.getD i atomD).snd.snd.fst = (A.getD i atomD).snd.snd.fst ∧
        ((ac (A.getD i atomD)).length = (ac (A.getD i atomD)).length ∧
        (∀ (i_1 : Nat),
        i_1 < (ac (A.getD i atomD)).length →
        (((ac (A.getD i atomD)).getD i_1 condD).fst = ((ac (A.getD i atomD)).getD i_1 condD).fst ∧
        ((ac (A.getD i atomD)).getD i_1 condD).snd.fst = ((ac (A.getD i atomD)).getD i_1 condD).snd.fst ∧ True) ∧
        [AV.int IntKind.i64 ((ac (A.getD i atomD)).getD i_1 condD).fst, AV.int IntKind.i64 ((ac (A.getD i atomD)).getD i_1 condD).snd.fst].length =
        [AV.int IntKind.i64 ((ac (A.getD i atomD)).getD i_1 condD).fst, AV.int IntKind.i64 ((ac (A.getD i atomD)).getD i_1 condD).snd.fst].length) ∧
        (false = true → false = true)) ∧
        an (A.getD i atomD) = an (A.getD i atomD) ∧ True) ∧
        [AV.int IntKind.i64 (A.getD i atomD).fst, AV.bool (A.getD i atomD).snd.fst, AV.int IntKind.u64 (A.getD i atomD).snd.snd.fst, condsA (ac (A.getD i atomD)),
        AV.str (an (A.getD i atomD))].length =
        [AV.int IntKind.i64 (A.getD i atomD).fst, AV.bool (A.getD i atomD).snd.fst, AV.int IntKind.u64 (A.getD i atomD).snd.snd.fst, condsA (ac (A.getD i atomD)),
        AV.str (an (A.getD i atomD))].length) ∧
        (false = true → false = true)) ∧
        (N.length = N.length ∧
        (∀ (i : Nat), i < N.length → N.getD i false = N.getD i false ∧ [AV.bool (N.getD i false)].length = [AV.bool (N.getD i false)].length) ∧ (false = true → false = true)) ∧
        (ps.length = ps.length ∧
        (∀ (i : Nat),
        i < ps.length →
        ((ps.getD i plD).fst = (ps.getD i plD).fst ∧ (ps.getD i plD).snd.fst = (ps.getD i plD).snd.fst ∧ True) ∧
        [AV.int IntKind.i64 (ps.getD i plD).fst, AV.int IntKind.i64 (ps.getD i plD).snd.fst].length =
        [AV.int IntKind.i64 (ps.getD i plD).fst, AV.int IntKind.i64 (ps.getD i plD).snd.fst].length) ∧
        (false = true → false = true)) ∧
        (↑ps.length : Int) = (↑ps.length : Int) ∧ IntKind.i64.wrap ((↑i : Int) + (1 : Int)) = (↑i' : Int) ∧ True) ∧
        ((0 : Nat) = (0 : Nat) ∧
        (true = true → true = true) ∧
        (((ps.length = ps.length ∧
        (∀ (i : Nat),
        i < ps.length →
        ((ps.getD i plD).fst = (ps.getD i plD).fst ∧ (ps.getD i plD).snd.fst = (ps.getD i plD).snd.fst ∧ True) ∧
        [AV.int IntKind.i64 (ps.getD i plD).fst, AV.int IntKind.i64 (ps.getD i plD).snd.fst].length =
        [AV.int IntKind.i64 (ps.getD i plD).fst, AV.int IntKind.i64 (ps.getD i plD).snd.fst].length) ∧
        (false = true → false = true)) ∧
        True) ∧
        [plsA ps].length = [plsA ps].length) ∧
        True) ∧
        True)))
        ((∃ (i : Nat),
        (i ≤ ps.length ∧ (∀ (j : Nat), j < ps.length → outB ev.length A.length (ps.getD j plD) = false) ∧ ∀ (j : Nat), j < i → badB N ps j = false) ∧
        (((0 : Nat) = (0 : Nat) ∧ (0 : Nat) = (0 : Nat) ∧ (0 : Nat) = (0 : Nat)) ∧
        (A.length = A.length ∧
        (∀ (i : Nat),
        i < A.length →
        ((A.getD i atomD).fst = (A.getD i atomD).fst ∧
        (A.getD i atomD).snd.fst = (A.getD i atomD).snd.fst ∧
        (A.getD i atomD).snd.snd.fst = (A.getD i atomD).snd.snd.fst ∧
        ((ac (A.getD i atomD)).length = (ac (A.getD i atomD)).length ∧
        (∀ (i_1 : Nat),
        i_1 < (ac (A.getD i atomD)).length →
        (((ac (A.getD i atomD)).getD i_1 condD).fst = ((ac (A.getD i atomD)).getD i_1 condD).fst ∧
        ((ac (A.getD i atomD)).getD i_1 condD).snd.fst = ((ac (A.getD i atomD)).getD i_1 condD).snd.fst ∧ True) ∧
        [AV.int IntKind.i64 ((ac (A.getD i atomD)).getD i_1 condD).fst, AV.int IntKind.i64 ((ac (A.getD i atomD)).getD i_1 condD).snd.fst].length =
        [AV.int IntKind.i64 ((ac (A.getD i atomD)).getD i_1 condD).fst, AV.int IntKind.i64 ((ac (A.getD i atomD)).getD i_1 condD).snd.fst].length) ∧
        (false = true → false = true)) ∧
        an (A.getD i atomD) = an (A.getD i atomD) ∧ True) ∧
        [AV.int IntKind.i64 (A.getD i atomD).fst, AV.bool (A.getD i atomD).snd.fst, AV.int IntKind.u64 (A.getD i atomD).snd.snd.fst, condsA (ac (A.getD i atomD)),
        AV.str (an (A.getD i atomD))].length =
        [AV.int IntKind.i64 (A.getD i atomD).fst, AV.bool (A.getD i atomD).snd.fst, AV.int IntKind.u64 (A.getD i atomD).snd.snd.fst, condsA (ac (A.getD i atomD)),
        AV.str (an (A.getD i atomD))].length) ∧
        (false = true → false = true)) ∧
        (N.length = N.length ∧ (∀ (i : Nat), i < N.length → N.getD i false = N.getD i false ∧ [AV.bool (N.getD i false)].length = [AV.bool (N.getD i false)].length) ∧ (false = true → false = true)) ∧
        (ps.length = ps.length ∧
        (∀ (i : Nat),
        i < ps.length →
        ((ps.getD i plD).fst = (ps.getD i plD).fst ∧ (ps.getD i plD).snd.fst = (ps.getD i plD).snd.fst ∧ True) ∧
        [AV.int IntKind.i64 (ps.getD i plD).fst, AV.int IntKind.i64 (ps.getD i plD).snd.fst].length =
        [AV.int IntKind.i64 (ps.getD i plD).fst, AV.int IntKind.i64 (ps.getD i plD).snd.fst].length) ∧
        (false = true → false = true)) ∧
        (↑ps.length : Int) = (↑ps.length : Int) ∧ (0 : Int) = (↑i : Int) ∧ True) ∧
        ((0 : Nat) = (0 : Nat) ∧
        (true = true → true = true) ∧
        (((ps.length = ps.length ∧
        (∀ (i : Nat),
        i < ps.length →
        ((ps.getD i plD).fst = (ps.getD i plD).fst ∧ (ps.getD i plD).snd.fst = (ps.getD i plD).snd.fst ∧ True) ∧
        [AV.int IntKind.i64 (ps.getD i plD).fst, AV.int IntKind.i64 (ps.getD i plD).snd.fst].length =
        [AV.int IntKind.i64 (ps.getD i plD).fst, AV.int IntKind.i64 (ps.getD i plD).snd.fst].length) ∧
        (false = true → false = true)) ∧
        True) ∧
        [plsA ps].length = [plsA ps].length) ∧
        True) ∧
        True) ∧
        ∀ (i : Nat),
        (i ≤ ps.length ∧ (∀ (j : Nat), j < ps.length → outB ev.length A.length (ps.getD j plD) = false) ∧ ∀ (j : Nat), j < i → badB N ps j = false) →
        VB (decide ((↑i : Int) < (↑ps.length : Int)))
        (NB (decide ((0 : Int) ≤ (↑i : Int) ∧ (↑i : Int) < (↑ps.length : Int)))
        (NB (decide ((0 : Int) ≤ (ps.getD (↑i : Int).toNat plD).snd.fst ∧ (ps.getD (↑i : Int).toNat plD).snd.fst < (↑N.length : Int)))
        (NB
        (impB (isW false (N.getD (ps.getD (↑i : Int).toNat plD).snd.fst.toNat false) && isW true (decide ((↑i : Int) > (0 : Int))))
        (decide ((0 : Int) ≤ IntKind.i64.wrap ((↑i : Int) - (1 : Int)) ∧ IntKind.i64.wrap ((↑i : Int) - (1 : Int)) < (↑ps.length : Int))))
        (VB
        (N.getD (ps.getD (↑i : Int).toNat plD).snd.fst.toNat false ||
        decide ((↑i : Int) > (0 : Int)) && decide ((ps.getD (↑i : Int).toNat plD).fst ≤ (ps.getD (IntKind.i64.wrap ((↑i : Int) - (1 : Int))).toNat plD).fst))
        (nA = (0 : Nat) ∧ nN = (0 : Nat) ∧ (3 : Int) = r ∧ True)
        (∃ (i' : Nat),
        (i' ≤ ps.length ∧ (∀ (j : Nat), j < ps.length → outB ev.length A.length (ps.getD j plD) = false) ∧ ∀ (j : Nat), j < i' → badB N ps j = false) ∧
        (invG2 ev ps A N).μ i' < (invG2 ev ps A N).μ i ∧
        (((0 : Nat) = (0 : Nat) ∧ (0 : Nat) = (0 : Nat) ∧ (0 : Nat) = (0 : Nat)) ∧
        (A.length = A.length ∧
        (∀ (i : Nat),
        i < A.length →
        ((A.getD i atomD).fst = (A.getD i atomD).fst ∧
        (A.getD i atomD).snd.fst = (A.getD i atomD).snd.fst ∧
        (A.getD i atomD).snd.snd.fst = (A.getD i atomD).snd.snd.fst ∧
        ((ac (A.getD i atomD)).length = (ac (A.getD i atomD)).length ∧
        (∀ (i_1 : Nat),
        i_1 < (ac (A.getD i atomD)).length →
        (((ac (A.getD i atomD)).getD i_1 condD).fst = ((ac (A.getD i atomD)).getD i_1 condD).fst ∧
        ((ac (A.getD i atomD)).getD i_1 condD).snd.fst = ((ac (A.getD i atomD)).getD i_1 condD).snd.fst ∧ True) ∧
        [AV.int IntKind.i64 ((ac (A.getD i atomD)).getD i_1 condD).fst, AV.int IntKind.i64 ((ac (A.getD i atomD)).getD i_1 condD).snd.fst].length =
        [AV.int IntKind.i64 ((ac (A.getD i atomD)).getD i_1 condD).fst, AV.int IntKind.i64 ((ac (A.getD i atomD)).getD i_1 condD).snd.fst].length) ∧
        (false = true → false = true)) ∧
        an (A.getD i atomD) = an (A.getD i atomD) ∧ True) ∧
        [AV.int IntKind.i64 (A.getD i atomD).fst, AV.bool (A.getD i atomD).snd.fst, AV.int IntKind.u64 (A.getD i atomD).snd.snd.fst, condsA (ac (A.getD i atomD)),
        AV.str (an (A.getD i atomD))].length =
        [AV.int IntKind.i64 (A.getD i atomD).fst, AV.bool (A.getD i atomD).snd.fst, AV.int IntKind.u64 (A.getD i atomD).snd.snd.fst, condsA (ac (A.getD i atomD)),
        AV.str (an (A.getD i atomD))].length) ∧
        (false = true → false = true)) ∧
        (N.length = N.length ∧
        (∀ (i : Nat), i < N.length → N.getD i false = N.getD i false ∧ [AV.bool (N.getD i false)].length = [AV.bool (N.getD i false)].length) ∧ (false = true → false = true)) ∧
        (ps.length = ps.length ∧
        (∀ (i : Nat),
        i < ps.length →
        ((ps.getD i plD).fst = (ps.getD i plD).fst ∧ (ps.getD i plD).snd.fst = (ps.getD i plD).snd.fst ∧ True) ∧
        [AV.int IntKind.i64 (ps.getD i plD).fst, AV.int IntKind.i64 (ps.getD i plD).snd.fst].length =
        [AV.int IntKind.i64 (ps.getD i plD).fst, AV.int IntKind.i64 (ps.getD i plD).snd.fst].length) ∧
        (false = true → false = true)) ∧
        (↑ps.length : Int) = (↑ps.length : Int) ∧ IntKind.i64.wrap ((↑i : Int) + (1 : Int)) = (↑i' : Int) ∧ True) ∧
        ((0 : Nat) = (0 : Nat) ∧
        (true = true → true = true) ∧
        (((ps.length = ps.length ∧
        (∀ (i : Nat),
        i < ps.length →
        ((ps.getD i plD).fst = (ps.getD i plD).fst ∧ (ps.getD i plD).snd.fst = (ps.getD i plD).snd.fst ∧ True) ∧
        [AV.int IntKind.i64 (ps.getD i plD).fst, AV.int IntKind.i64 (ps.getD i plD).snd.fst].length =
        [AV.int IntKind.i64 (ps.getD i plD).fst, AV.int IntKind.i64 (ps.getD i plD).snd.fst].length) ∧
        (false = true → false = true)) ∧
        True) ∧
        [plsA ps].length = [plsA ps].length) ∧
        True) ∧
        True)))))
        (VB ((↑ps.length : Int) == (0 : Int)) (nA = (0 : Nat) ∧ nN = (0 : Nat) ∧ (3 : Int) = r ∧ True)
        ((A.length = nA ∧
        (∀ (i : Nat), i < A.length → (atomA (A.getD i atomD)).sub (atomA (A.getD i atomD)) ∧ (atomA (A.getD i atomD)).cells.length = (atomA (A.getD i atomD)).cells.length) ∧
        (false = true → false = true)) ∧
        (N.length = nN ∧ (∀ (i : Nat), i < N.length → N.getD i false = N.getD i false ∧ [AV.bool (N.getD i false)].length = [AV.bool (N.getD i false)].length) ∧ (false = true → false = true)) ∧
        (0 : Int) = r ∧ True)))))))) := by
  kernel_rfl

theorem refchk_vc (x : NodeG) (w : Int) (hs : List HaveG) (es : List AggG) (ev : List EvG) (ps : List PlG) (c e1 e2 : Int) (A : List AtomG) (N : List Bool) (r : Int) : (vcFun (mkG Tryd.prog gN (tblOf (tblGv x w hs es c e1 e2 A N)) (fun f b => if f = 17 ∧ b = 0 then some (invK1 ev ps N) else if f = 17 ∧ b = 2 then some (invK2 ev ps N) else none) 0) 20 17 [qA x w hs es, evsA ev, mA ps] .nil 0 (retP 4 (.int .i64 r))).sat = (
  NB
    (atB
      [AV.agg
        [AV.int IntKind.i64 (TreeG.val x).fst, AV.int IntKind.i64 (TreeG.val x).snd.fst, AV.int IntKind.i64 (TreeG.val x).snd.snd.fst, AV.int IntKind.i64 (nat x).fst, AV.bool (nat x).snd.fst,
        AV.int IntKind.u64 (nat x).snd.snd.fst, AV.rof (ac (nat x)).length (fun (i : Nat) => condA ((ac (nat x)).getD i condD)) false, AV.str (an (nat x)),
        AV.rof (TreeG.kids x).length (fun (i : Nat) => nodeA (15 : Nat) ((TreeG.kids x).getD i treeD)) false, AV.int IntKind.u64 w, AV.rof hs.length (fun (i : Nat) => haveA (hs.getD i haveD)) false,
        AV.rof es.length (fun (i : Nat) => aggA (es.getD i aggD)) false]]
      [qA x w hs es])
    (VB (c != (0 : Int)) (c = r)
      (NB (atB [nodeA (16 : Nat) x] [nodeA (16 : Nat) x])
        ((∃ (i : Nat),
        (i ≤ ps.length ∧ ∀ (j : Nat), j < i → outB ev.length N.length (ps.getD j plD) = false) ∧
        ((ev.length = ev.length ∧
        (∀ (i : Nat),
        i < ev.length →
        ((ev.getD i evD).fst.fst = (ev.getD i evD).fst.fst ∧
        (ev.getD i evD).fst.snd.fst = (ev.getD i evD).fst.snd.fst ∧
        (ev.getD i evD).snd.fst = (ev.getD i evD).snd.fst ∧
        (ev.getD i evD).snd.snd.fst = (ev.getD i evD).snd.snd.fst ∧
        (ev.getD i evD).snd.snd.snd.fst = (ev.getD i evD).snd.snd.snd.fst ∧ (ev.getD i evD).snd.snd.snd.snd.fst = (ev.getD i evD).snd.snd.snd.snd.fst ∧ True) ∧
        [AV.int IntKind.u64 (ev.getD i evD).fst.fst, AV.int IntKind.u64 (ev.getD i evD).fst.snd.fst, AV.int IntKind.u64 (ev.getD i evD).snd.fst, AV.int IntKind.u64 (ev.getD i evD).snd.snd.fst,
        AV.int IntKind.i64 (ev.getD i evD).snd.snd.snd.fst, AV.int IntKind.i64 (ev.getD i evD).snd.snd.snd.snd.fst].length =
        [AV.int IntKind.u64 (ev.getD i evD).fst.fst, AV.int IntKind.u64 (ev.getD i evD).fst.snd.fst, AV.int IntKind.u64 (ev.getD i evD).snd.fst, AV.int IntKind.u64 (ev.getD i evD).snd.snd.fst,
        AV.int IntKind.i64 (ev.getD i evD).snd.snd.snd.fst, AV.int IntKind.i64 (ev.getD i evD).snd.snd.snd.snd.fst].length) ∧
        (false = true → false = true)) ∧
        ((0 : Nat) = (0 : Nat) ∧ (0 : Nat) = (0 : Nat) ∧ (0 : Nat) = (0 : Nat)) ∧
        (N.length = N.length ∧ (∀ (i : Nat), i < N.length → N.getD i false = N.getD i false ∧ [AV.bool (N.getD i false)].length = [AV.bool (N.getD i false)].length) ∧ (false = true → false = true)) ∧
        (0 : Int) = (↑i : Int) ∧ True) ∧
        ((0 : Nat) = (0 : Nat) ∧
        (true = true → true = true) ∧
        (((ps.length = ps.length ∧
        (∀ (i : Nat),
        i < ps.length →
        ((ps.getD i plD).fst = (ps.getD i plD).fst ∧ (ps.getD i plD).snd.fst = (ps.getD i plD).snd.fst ∧ True) ∧
        [AV.int IntKind.i64 (ps.getD i plD).fst, AV.int IntKind.i64 (ps.getD i plD).snd.fst].length =
        [AV.int IntKind.i64 (ps.getD i plD).fst, AV.int IntKind.i64 (ps.getD i plD).snd.fst].length) ∧
        (false = true → false = true)) ∧
        True) ∧
        [AV.rof ps.length (fun (k : Nat) => plA (ps.getD k plD)) false].length = [plsA ps].length) ∧
        True) ∧
        True) ∧
        ∀ (i : Nat),
        (i ≤ ps.length ∧ ∀ (j : Nat), j < i → outB ev.length N.length (ps.getD j plD) = false) →
        VB (decide ((↑i : Int) < (↑ps.length : Int)))
        (NB (decide ((0 : Int) ≤ (↑i : Int) ∧ (↑i : Int) < (↑ps.length : Int)))
        (VB
        (decide ((ps.getD (↑i : Int).toNat plD).fst < (0 : Int)) || decide ((ps.getD (↑i : Int).toNat plD).fst ≥ (↑ev.length : Int)) || decide ((ps.getD (↑i : Int).toNat plD).snd.fst < (0 : Int)) ||
        decide ((ps.getD (↑i : Int).toNat plD).snd.fst ≥ (↑N.length : Int)))
        ((2 : Int) = r)
        (∃ (i' : Nat),
        (i' ≤ ps.length ∧ ∀ (j : Nat), j < i' → outB ev.length N.length (ps.getD j plD) = false) ∧
        (invK1 ev ps N).μ i' < (invK1 ev ps N).μ i ∧
        ((ev.length = ev.length ∧
        (∀ (i : Nat),
        i < ev.length →
        ((ev.getD i evD).fst.fst = (ev.getD i evD).fst.fst ∧
        (ev.getD i evD).fst.snd.fst = (ev.getD i evD).fst.snd.fst ∧
        (ev.getD i evD).snd.fst = (ev.getD i evD).snd.fst ∧
        (ev.getD i evD).snd.snd.fst = (ev.getD i evD).snd.snd.fst ∧
        (ev.getD i evD).snd.snd.snd.fst = (ev.getD i evD).snd.snd.snd.fst ∧ (ev.getD i evD).snd.snd.snd.snd.fst = (ev.getD i evD).snd.snd.snd.snd.fst ∧ True) ∧
        [AV.int IntKind.u64 (ev.getD i evD).fst.fst, AV.int IntKind.u64 (ev.getD i evD).fst.snd.fst, AV.int IntKind.u64 (ev.getD i evD).snd.fst,
        AV.int IntKind.u64 (ev.getD i evD).snd.snd.fst, AV.int IntKind.i64 (ev.getD i evD).snd.snd.snd.fst, AV.int IntKind.i64 (ev.getD i evD).snd.snd.snd.snd.fst].length =
        [AV.int IntKind.u64 (ev.getD i evD).fst.fst, AV.int IntKind.u64 (ev.getD i evD).fst.snd.fst, AV.int IntKind.u64 (ev.getD i evD).snd.fst,
        AV.int IntKind.u64 (ev.getD i evD).snd.snd.fst, AV.int IntKind.i64 (ev.getD i evD).snd.snd.snd.fst, AV.int IntKind.i64 (ev.getD i evD).snd.snd.snd.snd.fst].length) ∧
        (false = true → false = true)) ∧
        ((0 : Nat) = (0 : Nat) ∧ (0 : Nat) = (0 : Nat) ∧ (0 : Nat) = (0 : Nat)) ∧
        (N.length = N.length ∧
        (∀ (i : Nat), i < N.length → N.getD i false = N.getD i false ∧ [AV.bool (N.getD i false)].length = [AV.bool (N.getD i false)].length) ∧ (false = true → false = true)) ∧
        IntKind.i64.wrap ((↑i : Int) + (1 : Int)) = (↑i' : Int) ∧ True) ∧
        ((0 : Nat) = (0 : Nat) ∧
        (true = true → true = true) ∧
        (((ps.length = ps.length ∧
        (∀ (i : Nat),
        i < ps.length →
        ((ps.getD i plD).fst = (ps.getD i plD).fst ∧ (ps.getD i plD).snd.fst = (ps.getD i plD).snd.fst ∧ True) ∧
        [AV.int IntKind.i64 (ps.getD i plD).fst, AV.int IntKind.i64 (ps.getD i plD).snd.fst].length =
        [AV.int IntKind.i64 (ps.getD i plD).fst, AV.int IntKind.i64 (ps.getD i plD).snd.fst].length) ∧
        (false = true → false = true)) ∧
        True) ∧
        [plsA ps].length = [plsA ps].length) ∧
        True) ∧
        True)))
        ((∃ (i : Nat),
        (i ≤ ps.length ∧ (∀ (j : Nat), j < ps.length → outB ev.length N.length (ps.getD j plD) = false) ∧ ∀ (j : Nat), j < i → badB N ps j = false) ∧
        (((0 : Nat) = (0 : Nat) ∧ (0 : Nat) = (0 : Nat) ∧ (0 : Nat) = (0 : Nat)) ∧
        (N.length = N.length ∧ (∀ (i : Nat), i < N.length → N.getD i false = N.getD i false ∧ [AV.bool (N.getD i false)].length = [AV.bool (N.getD i false)].length) ∧ (false = true → false = true)) ∧
        (0 : Int) = (↑i : Int) ∧ True) ∧
        ((0 : Nat) = (0 : Nat) ∧
        (true = true → true = true) ∧
        (((ps.length = ps.length ∧
        (∀ (i : Nat),
        i < ps.length →
        ((ps.getD i plD).fst = (ps.getD i plD).fst ∧ (ps.getD i plD).snd.fst = (ps.getD i plD).snd.fst ∧ True) ∧
        [AV.int IntKind.i64 (ps.getD i plD).fst, AV.int IntKind.i64 (ps.getD i plD).snd.fst].length =
        [AV.int IntKind.i64 (ps.getD i plD).fst, AV.int IntKind.i64 (ps.getD i plD).snd.fst].length) ∧
        (false = true → false = true)) ∧
        True) ∧
        [plsA ps].length = [plsA ps].length) ∧
        True) ∧
        True) ∧
        ∀ (i : Nat),
        (i ≤ ps.length ∧ (∀ (j : Nat), j < ps.length → outB ev.length N.length (ps.getD j plD) = false) ∧ ∀ (j : Nat), j < i → badB N ps j = false) →
        VB (decide ((↑i : Int) < (↑ps.length : Int)))
        (NB (decide ((0 : Int) ≤ (↑i : Int) ∧ (↑i : Int) < (↑ps.length : Int)))
        (NB (decide ((0 : Int) ≤ (ps.getD (↑i : Int).toNat plD).snd.fst ∧ (ps.getD (↑i : Int).toNat plD).snd.fst < (↑N.length : Int)))
        (NB
        (impB (isW false (N.getD (ps.getD (↑i : Int).toNat plD).snd.fst.toNat false) && isW true (decide ((↑i : Int) > (0 : Int)))) (decide ((0 : Int) ≤ (↑i : Int) ∧ (↑i : Int) < (↑ps.length : Int))))
        (NB
        (impB (isW false (N.getD (ps.getD (↑i : Int).toNat plD).snd.fst.toNat false) && isW true (decide ((↑i : Int) > (0 : Int))))
        (decide ((0 : Int) ≤ IntKind.i64.wrap ((↑i : Int) - (1 : Int)) ∧ IntKind.i64.wrap ((↑i : Int) - (1 : Int)) < (↑ps.length : Int))))
        (VB
        (N.getD (ps.getD (↑i : Int).toNat plD).snd.fst.toNat false ||
        decide ((↑i : Int) > (0 : Int)) && decide ((ps.getD (↑i : Int).toNat plD).fst ≤ (ps.getD (IntKind.i64.wrap ((↑i : Int) - (1 : Int))).toNat plD).fst))
        ((3 : Int) = r)
        (∃ (i' : Nat),
        (i' ≤ ps.length ∧ (∀ (j : Nat), j < ps.length → outB ev.length N.length (ps.getD j plD) = false) ∧ ∀ (j : Nat), j < i' → badB N ps j = false) ∧
        (invK2 ev ps N).μ i' < (invK2 ev ps N).μ i ∧
        (((0 : Nat) = (0 : Nat) ∧ (0 : Nat) = (0 : Nat) ∧ (0 : Nat) = (0 : Nat)) ∧
        (N.length = N.length ∧
        (∀ (i : Nat), i < N.length → N.getD i false = N.getD i false ∧ [AV.bool (N.getD i false)].length = [AV.bool (N.getD i false)].length) ∧ (false = true → false = true)) ∧
        IntKind.i64.wrap ((↑i : Int) + (1 : Int)) = (↑i' : Int) ∧ True) ∧
        ((0 : Nat) = (0 : Nat) ∧
        (true = true → true = true) ∧
        (((ps.length = ps.length ∧
        (∀ (i : Nat),
        i < ps.length →
        ((ps.getD i plD).fst = (ps.getD i plD).fst ∧ (ps.getD i plD).snd.fst = (ps.getD i plD).snd.fst ∧ True) ∧
        [AV.int IntKind.i64 (ps.getD i plD).fst, AV.int IntKind.i64 (ps.getD i plD).snd.fst].length =
        [AV.int IntKind.i64 (ps.getD i plD).fst, AV.int IntKind.i64 (ps.getD i plD).snd.fst].length) ∧
        (false = true → false = true)) ∧
        True) ∧
        [plsA ps].length = [plsA ps].length) ∧
        True) ∧
        True))))))
        (VB ((↑ps.length : Int) == (0 : Int)) ((3 : Int) = r) ((0 : Int) = r))))))) := by
  kernel_rfl

end Go.Proofs.YtamcloifhjafcaaDoor
