/- NODES 28: haves: conditions of both codes. -/
import Derived.Test.YtamcloifhjafcaaDoorAA10
namespace Go.Proofs.YtamcloifhjafcaaDoor
open Pw Go
set_option maxRecDepth 100000
set_option linter.unusedSimpArgs false

/-- .. if the match is right. -/
noncomputable def cIf (m : Int) (canon : List AV) (v : AV) : Ctr := fun args => some (decide (m = 0) && atB args canon, v)
theorem cIf_ok {g : Nat} {m : Int} {canon : List AV} {v : AV} (h : m = 0 → PureC Tryd.prog gN g canon v) : PureG Tryd.prog gN g (cIf m canon v) := by
  intro args nd u he hnd
  cases he
  rw [Bool.and_eq_true, decide_eq_true_eq] at hnd
  have : args = canon := by simpa [atB] using hnd.2
  rw [this]
  exact h hnd.1
abbrev argsQ (x : NodeG) (w : Int) (hs : List HaveG) (es : List AggG) (ev : List EvG) (ps : List PlG) : List AV := [qA x w hs es, evsA ev, mA ps]
noncomputable def tblHI (x : NodeG) (w : Int) (hs : List HaveG) (es : List AggG) (ev : List EvG) (ps : List PlG) (nm : List UInt8) (L : List Int) (e : Int) : List (Nat × Ctr) :=
  [(13, cAt [qA x w hs es, evsA ev, mA ps, .str nm] (.tup [isA L, .int .i64 e])), (51, cSat), (52, cOf)]
noncomputable def tblHR (x : NodeG) (w : Int) (hs : List HaveG) (es : List AggG) (ev : List EvG) (ps : List PlG) (nm : List UInt8) (L : List Int) (e : Int) : List (Nat × Ctr) :=
  [(48, cAt [qA x w hs es, evsA ev, mA ps, .str nm] (.tup [isA L, .int .i64 e])), (93, cSat), (64, cOf)]
noncomputable def tblP (x : NodeG) (w : Int) (hs : List HaveG) (es : List AggG) (ev : List EvG) (ps : List PlG) (h : HaveG) (m : Int) (A : List AtomG) (N : List Bool) (L : List Int) (e : Int) (b : Bool) (eb : Int) : List (Nat × Ctr) :=
  [(17, cAt [qA x w hs es, evsA ev, mA ps] (.int .i64 m)), (48, cIf m [qA x w hs es, evsA ev, mA ps, .str h.1.2.1] (.tup [isA L, .int .i64 e])),
   (53, cIf m [qA x w hs es, evsA ev, mA ps, haveA h] (.tup [.bool b, .int .i64 eb])), (47, cAt [qA x w hs es, evsA ev, mA ps] (.tup [atsA A, bosA N, .int .i64 m]))]

theorem holdsI_vc (x : NodeG) (w : Int) (hs : List HaveG) (es : List AggG) (ev : List EvG) (ps : List PlG) (h : HaveG) (L : List Int) (e : Int) (b : Bool) (r : Int) : (vcFun (mkG Tryd.prog gN (tblOf (tblHI x w hs es ev ps h.1.2.1 L e)) (fun _ _ => none) 0) 20 18 [qA x w hs es, evsA ev, mA ps, haveA h] .nil 0 (retP 4 (.tup [.bool b, .int .i64 r]))).sat = (
  NB
    (atB
      [AV.agg
        [AV.int IntKind.i64 (TreeG.val x).fst, AV.int IntKind.i64 (TreeG.val x).snd.fst, AV.int IntKind.i64 (TreeG.val x).snd.snd.fst, AV.int IntKind.i64 (nat x).fst, AV.bool (nat x).snd.fst,
        AV.int IntKind.u64 (nat x).snd.snd.fst, AV.rof (ac (nat x)).length (fun (i : Nat) => condA ((ac (nat x)).getD i condD)) false, AV.str (an (nat x)),
        AV.rof (TreeG.kids x).length (fun (i : Nat) => nodeA (15 : Nat) ((TreeG.kids x).getD i treeD)) false, AV.int IntKind.u64 w, AV.rof hs.length (fun (i : Nat) => haveA (hs.getD i haveD)) false,
        AV.rof es.length (fun (i : Nat) => aggA (es.getD i aggD)) false],
        AV.rof ev.length (fun (k : Nat) => evA (ev.getD k evD)) false, AV.agg [AV.rof ps.length (fun (k : Nat) => plA (ps.getD k plD)) false], AV.str h.fst.snd.fst]
      [qA x w hs es, evsA ev, mA ps, AV.str h.fst.snd.fst])
    (VB (e != (0 : Int)) (false = b ∧ e = r ∧ True)
      (VB (decide (h.fst.fst < (1 : Int)) || decide (h.fst.fst > (6 : Int))) (false = b ∧ (11 : Int) = r ∧ True)
        (VB (satE h.snd.fst.fst != (0 : Int)) (false = b ∧ satE h.snd.fst.fst = r ∧ True)
        (NB (inR h.fst.fst && decide (L.length ≤ (1000000 : Nat)) && intsB L.length fun (k : Nat) => AV.int IntKind.i64 (L.getD k (0 : Int)))
        (VB ((ofE h.fst.fst L.length fun (i : Nat) => L.getD i (0 : Int)) != (0 : Int)) (false = b ∧ (0 : Int) = r ∧ True)
        (satV h.snd.fst.fst h.snd.fst.snd.fst (ofV h.fst.fst L.length fun (i : Nat) => L.getD i (0 : Int)) = b ∧ satE h.snd.fst.fst = r ∧ True))))))) := by
  kernel_rfl

theorem holdsR_vc (x : NodeG) (w : Int) (hs : List HaveG) (es : List AggG) (ev : List EvG) (ps : List PlG) (h : HaveG) (L : List Int) (e : Int) (b : Bool) (r : Int) : (vcFun (mkG Tryd.prog gN (tblOf (tblHR x w hs es ev ps h.1.2.1 L e)) (fun _ _ => none) 0) 20 53 [qA x w hs es, evsA ev, mA ps, haveA h] .nil 0 (retP 4 (.tup [.bool b, .int .i64 r]))).sat = (
  NB
    (atB
      [AV.agg
        [AV.int IntKind.i64 (TreeG.val x).fst, AV.int IntKind.i64 (TreeG.val x).snd.fst, AV.int IntKind.i64 (TreeG.val x).snd.snd.fst, AV.int IntKind.i64 (nat x).fst, AV.bool (nat x).snd.fst,
        AV.int IntKind.u64 (nat x).snd.snd.fst, AV.rof (ac (nat x)).length (fun (i : Nat) => condA ((ac (nat x)).getD i condD)) false, AV.str (an (nat x)),
        AV.rof (TreeG.kids x).length (fun (i : Nat) => nodeA (15 : Nat) ((TreeG.kids x).getD i treeD)) false, AV.int IntKind.u64 w, AV.rof hs.length (fun (i : Nat) => haveA (hs.getD i haveD)) false,
        AV.rof es.length (fun (i : Nat) => aggA (es.getD i aggD)) false],
        AV.rof ev.length (fun (k : Nat) => evA (ev.getD k evD)) false, AV.agg [AV.rof ps.length (fun (k : Nat) => plA (ps.getD k plD)) false], AV.str h.fst.snd.fst]
      [qA x w hs es, evsA ev, mA ps, AV.str h.fst.snd.fst])
    (VB (e != (0 : Int)) (false = b ∧ e = r ∧ True)
      (NB (inR h.fst.fst && decide (L.length ≤ (1000000 : Nat)) && intsB L.length fun (k : Nat) => AV.int IntKind.i64 (L.getD k (0 : Int)))
        (VB ((ofE h.fst.fst L.length fun (i : Nat) => L.getD i (0 : Int)) == (11 : Int)) (false = b ∧ (ofE h.fst.fst L.length fun (i : Nat) => L.getD i (0 : Int)) = r ∧ True)
        (VB (satE h.snd.fst.fst != (0 : Int)) (false = b ∧ satE h.snd.fst.fst = r ∧ True)
        ((satV h.snd.fst.fst h.snd.fst.snd.fst (ofV h.fst.fst L.length fun (i : Nat) => L.getD i (0 : Int)) && (ofE h.fst.fst L.length fun (i : Nat) => L.getD i (0 : Int)) == (0 : Int)) = b ∧ (0 : Int) = r ∧ True)))))) := by
  kernel_rfl

theorem holdsP_vc (x : NodeG) (w : Int) (hs : List HaveG) (es : List AggG) (ev : List EvG) (ps : List PlG) (h : HaveG) (m : Int) (A : List AtomG) (N : List Bool) (L : List Int) (e : Int) (b' : Bool) (eb : Int) (b : Bool) (r : Int) : (vcFun (mkG Tryd.prog gN (tblOf (tblP x w hs es ev ps h m A N L e b' eb)) (fun _ _ => none) 0) 20 19 [qA x w hs es, evsA ev, mA ps, haveA h] .nil 0 (retP 4 (.tup [.bool b, .int .i64 r]))).sat = (
  NB
    (atB
      [AV.agg
        [AV.int IntKind.i64 (TreeG.val x).fst, AV.int IntKind.i64 (TreeG.val x).snd.fst, AV.int IntKind.i64 (TreeG.val x).snd.snd.fst, AV.int IntKind.i64 (nat x).fst, AV.bool (nat x).snd.fst,
        AV.int IntKind.u64 (nat x).snd.snd.fst, AV.rof (ac (nat x)).length (fun (i : Nat) => condA ((ac (nat x)).getD i condD)) false, AV.str (an (nat x)),
        AV.rof (TreeG.kids x).length (fun (i : Nat) => nodeA (15 : Nat) ((TreeG.kids x).getD i treeD)) false, AV.int IntKind.u64 w, AV.rof hs.length (fun (i : Nat) => haveA (hs.getD i haveD)) false,
        AV.rof es.length (fun (i : Nat) => aggA (es.getD i aggD)) false],
        AV.rof ev.length (fun (k : Nat) => evA (ev.getD k evD)) false, AV.agg [AV.rof ps.length (fun (k : Nat) => plA (ps.getD k plD)) false]]
      [qA x w hs es, evsA ev, mA ps])
    (VB (m != (0 : Int)) (false = b ∧ m = r ∧ True)
      (NB
        (decide (m = (0 : Int)) &&
        atB
        [AV.agg
        [AV.int IntKind.i64 (TreeG.val x).fst, AV.int IntKind.i64 (TreeG.val x).snd.fst, AV.int IntKind.i64 (TreeG.val x).snd.snd.fst, AV.int IntKind.i64 (nat x).fst, AV.bool (nat x).snd.fst,
        AV.int IntKind.u64 (nat x).snd.snd.fst, AV.rof (ac (nat x)).length (fun (i : Nat) => condA ((ac (nat x)).getD i condD)) false, AV.str (an (nat x)),
        AV.rof (TreeG.kids x).length (fun (i : Nat) => nodeA (15 : Nat) ((TreeG.kids x).getD i treeD)) false, AV.int IntKind.u64 w, AV.rof hs.length (fun (i : Nat) => haveA (hs.getD i haveD)) false,
        AV.rof es.length (fun (i : Nat) => aggA (es.getD i aggD)) false],
        AV.rof ev.length (fun (k : Nat) => evA (ev.getD k evD)) false, AV.agg [AV.rof ps.length (fun (k : Nat) => plA (ps.getD k plD)) false],
        AV.agg [AV.int IntKind.i64 h.fst.fst, AV.str h.fst.snd.fst, AV.int IntKind.i64 h.snd.fst.fst, AV.int IntKind.i64 h.snd.fst.snd.fst]]
        [qA x w hs es, evsA ev, mA ps, haveA h])
        (b' = b ∧ eb = r ∧ True)))) := by
  kernel_rfl

theorem namedP_vc (x : NodeG) (w : Int) (hs : List HaveG) (es : List AggG) (ev : List EvG) (ps : List PlG) (h : HaveG) (m : Int) (A : List AtomG) (N : List Bool) (L : List Int) (e : Int) (b' : Bool) (eb : Int) (L' : List Int) (r : Int) : (vcFun (mkG Tryd.prog gN (tblOf (tblP x w hs es ev ps h m A N L e b' eb)) (fun _ _ => none) 0) 20 14 [qA x w hs es, evsA ev, mA ps, .str h.1.2.1] .nil 0 (retP 4 (.tup [isA L', .int .i64 r]))).sat = (
  NB
    (atB
      [AV.agg
        [AV.int IntKind.i64 (TreeG.val x).fst, AV.int IntKind.i64 (TreeG.val x).snd.fst, AV.int IntKind.i64 (TreeG.val x).snd.snd.fst, AV.int IntKind.i64 (nat x).fst, AV.bool (nat x).snd.fst,
        AV.int IntKind.u64 (nat x).snd.snd.fst, AV.rof (ac (nat x)).length (fun (i : Nat) => condA ((ac (nat x)).getD i condD)) false, AV.str (an (nat x)),
        AV.rof (TreeG.kids x).length (fun (i : Nat) => nodeA (15 : Nat) ((TreeG.kids x).getD i treeD)) false, AV.int IntKind.u64 w, AV.rof hs.length (fun (i : Nat) => haveA (hs.getD i haveD)) false,
        AV.rof es.length (fun (i : Nat) => aggA (es.getD i aggD)) false],
        AV.rof ev.length (fun (k : Nat) => evA (ev.getD k evD)) false, AV.agg [AV.rof ps.length (fun (k : Nat) => plA (ps.getD k plD)) false]]
      [qA x w hs es, evsA ev, mA ps])
    (VB (m != (0 : Int)) (L'.length = (0 : Nat) ∧ m = r ∧ True)
      (NB
        (decide (m = (0 : Int)) &&
        atB
        [AV.agg
        [AV.int IntKind.i64 (TreeG.val x).fst, AV.int IntKind.i64 (TreeG.val x).snd.fst, AV.int IntKind.i64 (TreeG.val x).snd.snd.fst, AV.int IntKind.i64 (nat x).fst, AV.bool (nat x).snd.fst,
        AV.int IntKind.u64 (nat x).snd.snd.fst, AV.rof (ac (nat x)).length (fun (i : Nat) => condA ((ac (nat x)).getD i condD)) false, AV.str (an (nat x)),
        AV.rof (TreeG.kids x).length (fun (i : Nat) => nodeA (15 : Nat) ((TreeG.kids x).getD i treeD)) false, AV.int IntKind.u64 w, AV.rof hs.length (fun (i : Nat) => haveA (hs.getD i haveD)) false,
        AV.rof es.length (fun (i : Nat) => aggA (es.getD i aggD)) false],
        AV.rof ev.length (fun (k : Nat) => evA (ev.getD k evD)) false, AV.agg [AV.rof ps.length (fun (k : Nat) => plA (ps.getD k plD)) false], AV.str h.fst.snd.fst]
        [qA x w hs es, evsA ev, mA ps, AV.str h.fst.snd.fst])
        ((L.length = L'.length ∧
        (∀ (i : Nat), i < L.length → L.getD i (0 : Int) = L'.getD i (0 : Int) ∧ [AV.int IntKind.i64 (L.getD i (0 : Int))].length = [AV.int IntKind.i64 (L'.getD i (0 : Int))].length) ∧ (false = true → false = true)) ∧
        e = r ∧ True)))) := by
  kernel_rfl

theorem checkP_vc (x : NodeG) (w : Int) (hs : List HaveG) (es : List AggG) (ev : List EvG) (ps : List PlG) (h : HaveG) (m : Int) (A : List AtomG) (N : List Bool) (L : List Int) (e : Int) (b' : Bool) (eb : Int) (r : Int) : (vcFun (mkG Tryd.prog gN (tblOf (tblP x w hs es ev ps h m A N L e b' eb)) (fun _ _ => none) 0) 20 16 [qA x w hs es, evsA ev, mA ps] .nil 0 (retP 4 (.int .i64 r))).sat = (
  NB
    (atB
      [AV.agg
        [AV.int IntKind.i64 (TreeG.val x).fst, AV.int IntKind.i64 (TreeG.val x).snd.fst, AV.int IntKind.i64 (TreeG.val x).snd.snd.fst, AV.int IntKind.i64 (nat x).fst, AV.bool (nat x).snd.fst,
        AV.int IntKind.u64 (nat x).snd.snd.fst, AV.rof (ac (nat x)).length (fun (i : Nat) => condA ((ac (nat x)).getD i condD)) false, AV.str (an (nat x)),
        AV.rof (TreeG.kids x).length (fun (i : Nat) => nodeA (15 : Nat) ((TreeG.kids x).getD i treeD)) false, AV.int IntKind.u64 w, AV.rof hs.length (fun (i : Nat) => haveA (hs.getD i haveD)) false,
        AV.rof es.length (fun (i : Nat) => aggA (es.getD i aggD)) false],
        AV.rof ev.length (fun (k : Nat) => evA (ev.getD k evD)) false, AV.agg [AV.rof ps.length (fun (k : Nat) => plA (ps.getD k plD)) false]]
      [qA x w hs es, evsA ev, mA ps])
    (m = r)) := by
  kernel_rfl

end Go.Proofs.YtamcloifhjafcaaDoor
