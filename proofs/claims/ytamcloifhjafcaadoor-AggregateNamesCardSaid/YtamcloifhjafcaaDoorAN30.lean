/- NODES 30: the law AggregateNames, conditions. -/
import Derived.Test.YtamcloifhjafcaaDoorAN29
namespace Go.Proofs.YtamcloifhjafcaaDoor
open Pw Go
set_option maxRecDepth 100000
set_option linter.unusedSimpArgs false

/-- .. where something holds. -/
noncomputable def cWh (b : Bool) (canon : List AV) (v : AV) : Ctr := fun args => some (b && atB args canon, v)
theorem cWh_ok {g : Nat} {b : Bool} {canon : List AV} {v : AV} (h : b = true → PureC Tryd.prog gN g canon v) : PureG Tryd.prog gN g (cWh b canon v) := by
  intro args nd u he hnd
  cases he
  rw [Bool.and_eq_true] at hnd
  have : args = canon := by simpa [atB] using hnd.2
  rw [this]
  exact h hnd.1
def invSM (ps : List PlG) : Inv := ⟨Nat, 50, fun i => ⟨[(2, .ptr 0 0 0 0), (3, .ptr 1 0 0 0), (5, .int .i64 i)], [(0, .row 0 1 true (.lst [mA ps])), (1, .row 0 1 true (.lst [mA ps]))]⟩, fun i => i ≤ ps.length, fun i => ps.length - i⟩
noncomputable def tblL (x : NodeG) (w : Int) (hs : List HaveG) (es : List AggG) (ev : List EvG) (ps : List PlG) (h : HaveG) (b lq : Bool) (m : Int) (L : List Int) (e : Int) (hb : Bool) (eh : Int) : List (Nat × Ctr) :=
  [(45, cAt [qA x w hs es] (.bool lq)), (11, cAwake), (12, cWh b [mA ps] (mA ps)), (20, cWh b [mA ps, mA ps] (.bool true)),
   (13, cWh b [qA x w hs es, evsA ev, mA ps, .str h.1.2.1] (.tup [isA L, .int .i64 e])), (14, cWh b [qA x w hs es, evsA ev, mA ps, .str h.1.2.1] (.tup [isA L, .int .i64 e])),
   (15, cWh b [isA L, isA L] (.bool true)),
   (16, cWh b [qA x w hs es, evsA ev, mA ps] (.int .i64 m)), (17, cWh b [qA x w hs es, evsA ev, mA ps] (.int .i64 m)),
   (18, cWh b [qA x w hs es, evsA ev, mA ps, haveA h] (.tup [.bool hb, .int .i64 eh])), (19, cWh b [qA x w hs es, evsA ev, mA ps, haveA h] (.tup [.bool hb, .int .i64 eh]))]
noncomputable def EL (x : NodeG) (w : Int) (hs : List HaveG) (es : List AggG) (ev : List EvG) (ps : List PlG) (h : HaveG) (b lq : Bool) (m : Int) (L : List Int) (e : Int) (hb : Bool) (eh : Int) : Env := mkG Tryd.prog gN (tblOf (tblL x w hs es ev ps h b lq m L e hb eh)) (fun _ _ => none) 0

theorem ownM_vc (ps : List PlG) : (vcFun (mkG Tryd.prog gN (tblOf []) (fun _ _ => none) 0) 20 12 [mA ps] .nil 0 (retP 4 (mA ps))).sat = (
  NB (true && room ((0 : Nat) + ps.length) (16 : Nat) && true && (ps.length != (0 : Nat) || true))
    (((0 : Nat) + ps.length = ps.length ∧
        (∀ (i : Nat), i < (0 : Nat) + ps.length → (plA (ps.getD ((0 : Nat) + i) plD)).sub (plA (ps.getD i plD)) ∧ (plA (ps.getD ((0 : Nat) + i) plD)).cells.length = (plA (ps.getD i plD)).cells.length) ∧
          (false = true → decide (none = some ((0 : Nat) + ps.length)) = true)) ∧
      True)) := by
  kernel_rfl

theorem sameM_vc (ps : List PlG) : (vcFun (mkG Tryd.prog gN (tblOf []) (fun f b => if f = 20 ∧ b = 0 then some (invSM ps) else none) 0) 20 20 [mA ps, mA ps] .nil 0 (retP 4 (.bool true))).sat = (
  VB ((↑ps.length : Int) != (↑ps.length : Int)) (false = true)
    ((∃ (i : Nat),
        i.le ps.length ∧
          (((0 : Nat) = (0 : Nat) ∧ (0 : Nat) = (0 : Nat) ∧ (0 : Nat) = (0 : Nat)) ∧ ((0 : Nat) = (0 : Nat) ∧ (0 : Nat) = (0 : Nat) ∧ (0 : Nat) = (0 : Nat)) ∧ (0 : Int) = (↑i : Int) ∧ True) ∧
            ((0 : Nat) = (0 : Nat) ∧
                (true = true → true = true) ∧
                  (((ps.length = ps.length ∧
                          (∀ (i : Nat),
                              i < ps.length →
                                ((ps.getD i plD).fst = (ps.getD i plD).fst ∧ (ps.getD i plD).snd.fst = (ps.getD i plD).snd.fst ∧ True) ∧
                                  [AV.int IntKind.i64 (ps.getD i plD).fst, AV.int IntKind.i64 (ps.getD i plD).snd.fst].length = [AV.int IntKind.i64 (ps.getD i plD).fst, AV.int IntKind.i64 (ps.getD i plD).snd.fst].length) ∧
                            (false = true → false = true)) ∧
                        True) ∧
                      [AV.rof ps.length (fun (k : Nat) => plA (ps.getD k plD)) false].length = [plsA ps].length) ∧
                    True) ∧
              ((0 : Nat) = (0 : Nat) ∧
                  (true = true → true = true) ∧
                    (((ps.length = ps.length ∧
                            (∀ (i : Nat),
                                i < ps.length →
                                  ((ps.getD i plD).fst = (ps.getD i plD).fst ∧ (ps.getD i plD).snd.fst = (ps.getD i plD).snd.fst ∧ True) ∧
                                    [AV.int IntKind.i64 (ps.getD i plD).fst, AV.int IntKind.i64 (ps.getD i plD).snd.fst].length =
                                      [AV.int IntKind.i64 (ps.getD i plD).fst, AV.int IntKind.i64 (ps.getD i plD).snd.fst].length) ∧
                              (false = true → false = true)) ∧
                          True) ∧
                        [AV.rof ps.length (fun (k : Nat) => plA (ps.getD k plD)) false].length = [plsA ps].length) ∧
                      True) ∧
                True) ∧
      ∀ (i : Nat),
        i.le ps.length →
          VB (decide ((↑i : Int) < (↑ps.length : Int)))
            (NB (decide ((0 : Int) ≤ (↑i : Int) ∧ (↑i : Int) < (↑ps.length : Int)))
              (NB (decide ((0 : Int) ≤ (↑i : Int) ∧ (↑i : Int) < (↑ps.length : Int)))
                (VB (!((ps.getD (↑i : Int).toNat plD).fst == (ps.getD (↑i : Int).toNat plD).fst && ((ps.getD (↑i : Int).toNat plD).snd.fst == (ps.getD (↑i : Int).toNat plD).snd.fst && true))) (false = true)
                  (∃ (i' : Nat),
                    i'.le ps.length ∧
                      (invSM ps).μ i' < (invSM ps).μ i ∧
                        (((0 : Nat) = (0 : Nat) ∧ (0 : Nat) = (0 : Nat) ∧ (0 : Nat) = (0 : Nat)) ∧
                            ((0 : Nat) = (0 : Nat) ∧ (0 : Nat) = (0 : Nat) ∧ (0 : Nat) = (0 : Nat)) ∧ IntKind.i64.wrap ((↑i : Int) + (1 : Int)) = (↑i' : Int) ∧ True) ∧
                          ((0 : Nat) = (0 : Nat) ∧
                              (true = true → true = true) ∧
                                (((ps.length = ps.length ∧
                                        (∀ (i : Nat),
                                            i < ps.length →
                                              ((ps.getD i plD).fst = (ps.getD i plD).fst ∧ (ps.getD i plD).snd.fst = (ps.getD i plD).snd.fst ∧ True) ∧
                                                [AV.int IntKind.i64 (ps.getD i plD).fst, AV.int IntKind.i64 (ps.getD i plD).snd.fst].length =
                                                  [AV.int IntKind.i64 (ps.getD i plD).fst, AV.int IntKind.i64 (ps.getD i plD).snd.fst].length) ∧
                                          (false = true → false = true)) ∧
                                      True) ∧
                                    [plsA ps].length = [plsA ps].length) ∧
                                  True) ∧
                            ((0 : Nat) = (0 : Nat) ∧
                                (true = true → true = true) ∧
                                  (((ps.length = ps.length ∧
                                          (∀ (i : Nat),
                                              i < ps.length →
                                                ((ps.getD i plD).fst = (ps.getD i plD).fst ∧ (ps.getD i plD).snd.fst = (ps.getD i plD).snd.fst ∧ True) ∧
                                                  [AV.int IntKind.i64 (ps.getD i plD).fst, AV.int IntKind.i64 (ps.getD i plD).snd.fst].length =
                                                    [AV.int IntKind.i64 (ps.getD i plD).fst, AV.int IntKind.i64 (ps.getD i plD).snd.fst].length) ∧
                                            (false = true → false = true)) ∧
                                        True) ∧
                                      [plsA ps].length = [plsA ps].length) ∧
                                    True) ∧
                              True))))
            (true = true))) := by
  kernel_rfl

theorem names_vc (x : NodeG) (w : Int) (hs : List HaveG) (es : List AggG) (ev : List EvG) (ps : List PlG) (h : HaveG) (b lq : Bool) (m : Int) (L : List Int) (e : Int) (hb : Bool) (eh : Int) : (vcFun (EL x w hs es ev ps h b lq m L e hb eh) 40 3 [qA x w hs es, evsA ev, mA ps, haveA h] .nil 0 (isBool true)).sat = (
  NB
    (atB
      [AV.agg
          [AV.int IntKind.i64 (TreeG.val x).fst, AV.int IntKind.i64 (TreeG.val x).snd.fst, AV.int IntKind.i64 (TreeG.val x).snd.snd.fst, AV.int IntKind.i64 (nat x).fst, AV.bool (nat x).snd.fst,
            AV.int IntKind.u64 (nat x).snd.snd.fst, AV.rof (ac (nat x)).length (fun (i : Nat) => condA ((ac (nat x)).getD i condD)) false, AV.str (an (nat x)),
            AV.rof (TreeG.kids x).length (fun (i : Nat) => nodeA (15 : Nat) ((TreeG.kids x).getD i treeD)) false, AV.int IntKind.u64 w, AV.rof hs.length (fun (i : Nat) => haveA (hs.getD i haveD)) false,
            AV.rof es.length (fun (i : Nat) => aggA (es.getD i aggD)) false]]
      [qA x w hs es])
    (VB (!(lq && decide ((↑ev.length : Int) ≤ (60 : Int)) && decide ((↑ps.length : Int) ≤ (40 : Int))) || decide ((↑h.fst.snd.fst.length : Int) > (30 : Int))) (true = true)
      (NB (b && atB [AV.agg [AV.rof ps.length (fun (k : Nat) => plA (ps.getD k plD)) false]] [mA ps])
        (NB
          (b &&
            atB
              [AV.agg
                  [AV.int IntKind.i64 (TreeG.val x).fst, AV.int IntKind.i64 (TreeG.val x).snd.fst, AV.int IntKind.i64 (TreeG.val x).snd.snd.fst, AV.int IntKind.i64 (nat x).fst, AV.bool (nat x).snd.fst,
                    AV.int IntKind.u64 (nat x).snd.snd.fst, AV.rof (ac (nat x)).length (fun (i : Nat) => condA ((ac (nat x)).getD i condD)) false, AV.str (an (nat x)),
                    AV.rof (TreeG.kids x).length (fun (i : Nat) => nodeA (15 : Nat) ((TreeG.kids x).getD i treeD)) false, AV.int IntKind.u64 w, AV.rof hs.length (fun (i : Nat) => haveA (hs.getD i haveD)) false,
                    AV.rof es.length (fun (i : Nat) => aggA (es.getD i aggD)) false],
                AV.rof ev.length (fun (k : Nat) => evA (ev.getD k evD)) false, AV.agg [AV.rof ps.length (fun (k : Nat) => plA (ps.getD k plD)) false], AV.str h.fst.snd.fst]
              [qA x w hs es, evsA ev, mA ps, AV.str h.fst.snd.fst])
          (NB
            (b &&
              atB
                [AV.agg
                    [AV.int IntKind.i64 (TreeG.val x).fst, AV.int IntKind.i64 (TreeG.val x).snd.fst, AV.int IntKind.i64 (TreeG.val x).snd.snd.fst, AV.int IntKind.i64 (nat x).fst, AV.bool (nat x).snd.fst,
                      AV.int IntKind.u64 (nat x).snd.snd.fst, AV.rof (ac (nat x)).length (fun (i : Nat) => condA ((ac (nat x)).getD i condD)) false, AV.str (an (nat x)),
                      AV.rof (TreeG.kids x).length (fun (i : Nat) => nodeA (15 : Nat) ((TreeG.kids x).getD i treeD)) false, AV.int IntKind.u64 w, AV.rof hs.length (fun (i : Nat) => haveA (hs.getD i haveD)) false,
                      AV.rof es.length (fun (i : Nat) => aggA (es.getD i aggD)) false],
                  AV.rof ev.length (fun (k : Nat) => evA (ev.getD k evD)) false, AV.agg [AV.rof ps.length (fun (k : Nat) => plA (ps.getD k plD)) false], AV.str h.fst.snd.fst]
                [qA x w hs es, evsA ev, mA ps, AV.str h.fst.snd.fst])
            (NB (b && atB [AV.rof L.length (fun (k : Nat) => AV.int IntKind.i64 (L.getD k (0 : Int))) false, AV.rof L.length (fun (k : Nat) => AV.int IntKind.i64 (L.getD k (0 : Int))) false] [isA L, isA L])
              (NB
                (impB (isW false (false || e != e))
                  (b &&
                    atB
                      [AV.agg
                          [AV.int IntKind.i64 (TreeG.val x).fst, AV.int IntKind.i64 (TreeG.val x).snd.fst, AV.int IntKind.i64 (TreeG.val x).snd.snd.fst, AV.int IntKind.i64 (nat x).fst, AV.bool (nat x).snd.fst,
                            AV.int IntKind.u64 (nat x).snd.snd.fst, AV.rof (ac (nat x)).length (fun (i : Nat) => condA ((ac (nat x)).getD i condD)) false, AV.str (an (nat x)),
                            AV.rof (TreeG.kids x).length (fun (i : Nat) => nodeA (15 : Nat) ((TreeG.kids x).getD i treeD)) false, AV.int IntKind.u64 w, AV.rof hs.length (fun (i : Nat) => haveA (hs.getD i haveD)) false,
                            AV.rof es.length (fun (i : Nat) => aggA (es.getD i aggD)) false],
                        AV.rof ev.length (fun (k : Nat) => evA (ev.getD k evD)) false, AV.agg [AV.rof ps.length (fun (k : Nat) => plA (ps.getD k plD)) false]]
                      [qA x w hs es, evsA ev, mA ps]))
                (NB
                  (impB (isW false (false || e != e))
                    (b &&
                      atB
                        [AV.agg
                            [AV.int IntKind.i64 (TreeG.val x).fst, AV.int IntKind.i64 (TreeG.val x).snd.fst, AV.int IntKind.i64 (TreeG.val x).snd.snd.fst, AV.int IntKind.i64 (nat x).fst, AV.bool (nat x).snd.fst,
                              AV.int IntKind.u64 (nat x).snd.snd.fst, AV.rof (ac (nat x)).length (fun (i : Nat) => condA ((ac (nat x)).getD i condD)) false, AV.str (an (nat x)),
                              AV.rof (TreeG.kids x).length (fun (i : Nat) => nodeA (15 : Nat) ((TreeG.kids x).getD i treeD)) false, AV.int IntKind.u64 w, AV.rof hs.length (fun (i : Nat) => haveA (hs.getD i haveD)) false,
                              AV.rof es.length (fun (i : Nat) => aggA (es.getD i aggD)) false],
                          AV.rof ev.length (fun (k : Nat) => evA (ev.getD k evD)) false, AV.agg [AV.rof ps.length (fun (k : Nat) => plA (ps.getD k plD)) false]]
                        [qA x w hs es, evsA ev, mA ps]))
                  (VB (false || e != e || m != m) (false = true)
                    (NB
                      (b &&
                        atB
                          [AV.agg
                              [AV.int IntKind.i64 (TreeG.val x).fst, AV.int IntKind.i64 (TreeG.val x).snd.fst, AV.int IntKind.i64 (TreeG.val x).snd.snd.fst, AV.int IntKind.i64 (nat x).fst, AV.bool (nat x).snd.fst,
                                AV.int IntKind.u64 (nat x).snd.snd.fst, AV.rof (ac (nat x)).length (fun (i : Nat) => condA ((ac (nat x)).getD i condD)) false, AV.str (an (nat x)),
                                AV.rof (TreeG.kids x).length (fun (i : Nat) => nodeA (15 : Nat) ((TreeG.kids x).getD i treeD)) false, AV.int IntKind.u64 w, AV.rof hs.length (fun (i : Nat) => haveA (hs.getD i haveD)) false,
                                AV.rof es.length (fun (i : Nat) => aggA (es.getD i aggD)) false],
                            AV.rof ev.length (fun (k : Nat) => evA (ev.getD k evD)) false, AV.agg [AV.rof ps.length (fun (k : Nat) => plA (ps.getD k plD)) false],
                            AV.agg [AV.int IntKind.i64 h.fst.fst, AV.str h.fst.snd.fst, AV.int IntKind.i64 h.snd.fst.fst, AV.int IntKind.i64 h.snd.fst.snd.fst]]
                          [qA x w hs es, evsA ev, mA ps, haveA h])
                      (NB
                        (b &&
                          atB
                            [AV.agg
                                [AV.int IntKind.i64 (TreeG.val x).fst, AV.int IntKind.i64 (TreeG.val x).snd.fst, AV.int IntKind.i64 (TreeG.val x).snd.snd.fst, AV.int IntKind.i64 (nat x).fst, AV.bool (nat x).snd.fst,
                                  AV.int IntKind.u64 (nat x).snd.snd.fst, AV.rof (ac (nat x)).length (fun (i : Nat) => condA ((ac (nat x)).getD i condD)) false, AV.str (an (nat x)),
                                  AV.rof (TreeG.kids x).length (fun (i : Nat) => nodeA (15 : Nat) ((TreeG.kids x).getD i treeD)) false, AV.int IntKind.u64 w,
                                  AV.rof hs.length (fun (i : Nat) => haveA (hs.getD i haveD)) false, AV.rof es.length (fun (i : Nat) => aggA (es.getD i aggD)) false],
                              AV.rof ev.length (fun (k : Nat) => evA (ev.getD k evD)) false, AV.agg [AV.rof ps.length (fun (k : Nat) => plA (ps.getD k plD)) false],
                              AV.agg [AV.int IntKind.i64 h.fst.fst, AV.str h.fst.snd.fst, AV.int IntKind.i64 h.snd.fst.fst, AV.int IntKind.i64 h.snd.fst.snd.fst]]
                            [qA x w hs es, evsA ev, mA ps, haveA h])
                        (NB
                          (impB (isW true (hb == hb && eh == eh))
                            (b && atB [AV.agg [AV.rof ps.length (fun (k : Nat) => plA (ps.getD k plD)) false], AV.agg [AV.rof ps.length (fun (k : Nat) => plA (ps.getD k plD)) false]] [mA ps, mA ps]))
                          (((hb == hb && eh == eh && true && true) == true) = true))))))))))))) := by
  kernel_rfl

end Go.Proofs.YtamcloifhjafcaaDoor
