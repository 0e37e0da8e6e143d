/- NODES 30: the law AggregateNames, conditions. -/
import Derived.Test.YtamcloifhjafcaaDoorAN29
namespace Go.Proofs.YtamcloifhjafcaaDoor
open Pw Go
set_option maxRecDepth 100000
set_option linter.unusedSimpArgs false

/-- .. where something holds. -/
noncomputable def cWh (b : Bool) (canon : List AV) (v : AV) : Ctr := fun args => some (b && atB args canon, v)
theorem cWh_ok {g : Nat} {b : Bool} {canon : List AV} {v : AV} (h : b = true → PureC Tryd.prog gN g canon v) : PureG Tryd.prog gN g (cWh b canon v) := by
  intro args nd u he hnd
  cases he
  rw [Bool.and_eq_true] at hnd
  have : args = canon := by simpa [atB] using hnd.2
  rw [this]
  exact h hnd.1
def invSM (ps : List PlG) : Inv := ⟨Nat, 50, fun i => ⟨[(2, .ptr 0 0 0 0), (3, .ptr 1 0 0 0), (5, .int .i64 i)], [(0, .row 0 1 true (.lst [mA ps])), (1, .row 0 1 true (.lst [mA ps]))]⟩, fun i => i ≤ ps.length, fun i => ps.length - i⟩
noncomputable def tblL (x : NodeG) (w : Int) (hs : List HaveG) (es : List AggG) (ev : List EvG) (ps : List PlG) (h : HaveG) (b lq : Bool) (m : Int) (L : List Int) (e : Int) (hb : Bool) (eh : Int) : List (Nat × Ctr) :=
  [(45, cAt [qA x w hs es] (.bool lq)), (11, cAwake), (12, cWh b [mA ps] (mA ps)), (20, cWh b [mA ps, mA ps] (.bool true)),
   (13, cWh b [qA x w hs es, evsA ev, mA ps, .str h.1.2.1] (.tup [isA L, .int .i64 e])), (14, cWh b [qA x w hs es, evsA ev, mA ps, .str h.1.2.1] (.tup [isA L, .int .i64 e])),
   (15, cWh b [isA L, isA L] (.bool true)),
   (16, cWh b [qA x w hs es, evsA ev, mA ps] (.int .i64 m)), (17, cWh b [qA x w hs es, evsA ev, mA ps] (.int .i64 m)),
   (18, cWh b [qA x w hs es, evsA ev, mA ps, haveA h] (.tup [.bool hb, .int .i64 eh])), (19, cWh b [qA x w hs es, evsA ev, mA ps, haveA h] (.tup [.bool hb, .int .i64 eh]))]
noncomputable def EL (x : NodeG) (w : Int) (hs : List HaveG) (es : List AggG) (ev : List EvG) (ps : List PlG) (h : HaveG) (b lq : Bool) (m : Int) (L : List Int) (e : Int) (hb : Bool) (eh : Int) : Env := mkG Tryd.prog gN (tblOf (tblL x w hs es ev ps h b lq m L e hb eh)) (fun _ _ => none) 0

theorem ownM_vc (ps : List PlG) : (vcFun (mkG Tryd.prog gN (tblOf []) (fun _ _ => none) 0) 20 12 [mA ps] .nil 0 (retP 4 (mA ps))).sat = (
  NB (true && room ((0 : Nat) + ps.length) (16 : Nat) && true && (ps.length != (0 : Nat) || true))
    (((0 : Nat) + ps.length = ps.length ∧
        (∀ (i : Nat), i < (0 : Nat) + ps.length → (plA (ps.getD ((0 : Nat) + i) plD)).sub (plA (ps.getD i plD)) ∧ (plA (ps.getD ((0 : Nat) + i) plD)).cells.length = (plA (ps.getD i plD)).cells.length) ∧
        (false = true → decide (none = some ((0 : Nat) + ps.length)) = true)) ∧
      True)) := by
  kernel_rfl

theorem sameM_vc (ps : List PlG) : (vcFun (mkG Tryd.prog gN (tblOf []) (fun f b => if f = 20 ∧ b = 0 then some (invSM ps) else none) 0) 20 20 [mA ps, mA ps] .nil 0 (retP 4 (.bool true))).sat = (
  VB ((↑ps.length : Int) != (↑ps.length : Int)) (false = true)
    ((∃ (i : Nat),
        i.le ps.length ∧
        (((0 : Nat) = (0 : Nat) ∧ (0 : Nat) = (0 : Nat) ∧ (0 : Nat) = (0 : Nat)) ∧ ((0 : Nat) = (0 : Nat) ∧ (0 : Nat) = (0 : Nat) ∧ (0 : Nat) = (0 : Nat)) ∧ (0 : Int) = (↑i : Int) ∧ True) ∧
        ((0 : Nat) = (0 : Nat) ∧
        (true = true → true = true) ∧
        (((ps.length = ps.length ∧
        (∀ (i : Nat),
        i < ps.length →
        ((ps.getD i plD).fst = (ps.getD i plD).fst ∧ (ps.getD i plD).snd.fst = (ps.getD i plD).snd.fst ∧ True) ∧
        [AV.int IntKind.i64 (ps.getD i plD).fst, AV.int IntKind.i64 (ps.getD i plD).snd.fst].length = [AV.int IntKind.i64 (ps.getD i plD).fst, AV.int IntKind.i64 (ps.getD i plD).snd.fst].length) ∧
        (false = true → false = true)) ∧
        True) ∧
        [AV.rof ps.length (fun (k : Nat) => plA (ps.getD k plD)) false].length = [plsA ps].length) ∧
        True) ∧
        ((0 : Nat) = (0 : Nat) ∧
        (true = true → true = true) ∧
        (((ps.length = ps.length ∧
        (∀ (i : Nat),
        i < ps.length →
        ((ps.getD i plD).fst = (ps.getD i plD).fst ∧ (ps.getD i plD).snd.fst = (ps.getD i plD).snd.fst ∧ True) ∧
        [AV.int IntKind.i64 (ps.getD i plD).fst, AV.int IntKind.i64 (ps.getD i plD).snd.fst].length =
        [AV.int IntKind.i64 (ps.getD i plD).fst, AV.int IntKind.i64 (ps.getD i plD).snd.fst].length) ∧
        (false = true → false = true)) ∧
        True) ∧
        [AV.rof ps.length (fun (k : Nat) => plA (ps.getD k plD)) false].length = [plsA ps].length) ∧
        True) ∧
        True) ∧
      ∀ (i : Nat),
        i.le ps.length →
        VB (decide ((↑i : Int) < (↑ps.length : Int)))
        (NB (decide ((0 : Int) ≤ (↑i : Int) ∧ (↑i : Int) < (↑ps.length : Int)))
        (NB (decide ((0 : Int) ≤ (↑i : Int) ∧ (↑i : Int) < (↑ps.length : Int)))
        (VB (!((ps.getD (↑i : Int).toNat plD).fst == (ps.getD (↑i : Int).toNat plD).fst && ((ps.getD (↑i : Int).toNat plD).snd.fst == (ps.getD (↑i : Int).toNat plD).snd.fst && true))) (false = true)
        (∃ (i' : Nat),
        i'.le ps.length ∧
        (invSM ps).μ i' < (invSM ps).μ i ∧
        (((0 : Nat) = (0 : Nat) ∧ (0 : Nat) = (0 : Nat) ∧ (0 : Nat) = (0 : Nat)) ∧
        ((0 : Nat) = (0 : Nat) ∧ (0 : Nat) = (0 : Nat) ∧ (0 : Nat) = (0 : Nat)) ∧ IntKind.i64.wrap ((↑i : Int) + (1 : Int)) = (↑i' : Int) ∧ True) ∧
        ((0 : Nat) = (0 : Nat) ∧
        (true = true → true = true) ∧
        (((ps.length = ps.length ∧
        (∀ (i : Nat),
        i < ps.length →
        ((ps.getD i plD).fst = (ps.getD i plD).fst ∧ (ps.getD i plD).snd.fst = (ps.getD i plD).snd.fst ∧ True) ∧
        [AV.int IntKind.i64 (ps.getD i plD).fst, AV.int IntKind.i64 (ps.getD i plD).snd.fst].length =
        [AV.int IntKind.i64 (ps.getD i plD).fst, AV.int IntKind.i64 (ps.getD i plD).snd.fst].length) ∧
        (false = true → false = true)) ∧
        True) ∧
        [plsA ps].length = [plsA ps].length) ∧
        True) ∧
        ((0 : Nat) = (0 : Nat) ∧
        (true = true → true = true) ∧
        (((ps.length = ps.length ∧
        (∀ (i : Nat),
        i < ps.length →
        ((ps.getD i plD).fst = (ps.getD i plD).fst ∧ (ps.getD i plD).snd.fst = (ps.getD i plD).snd.fst ∧ True) ∧
        [AV.int IntKind.i64 (ps.getD i plD).fst, AV.int IntKind.i64 (ps.getD i plD).snd.fst].length =
        [AV.int IntKind.i64 (ps.getD i plD).fst, AV.int IntKind.i64 (ps.getD i plD).snd.fst].length) ∧
        (false = true → false = true)) ∧
        True) ∧
        [plsA ps].length = [plsA ps].length) ∧
        True) ∧
        True))))
        (true = true))) := by
  kernel_rfl

theorem names_vc (x : NodeG) (w : Int) (hs : List HaveG) (es : List AggG) (ev : List EvG) (ps : List PlG) (h : HaveG) (b lq : Bool) (m : Int) (L : List Int) (e : Int) (hb : Bool) (eh : Int) : (vcFun (EL x w hs es ev ps h b lq m L e hb eh) 40 3 [qA x w hs es, evsA ev, mA ps, haveA h] .nil 0 (isBool true)).sat = (
  NB
    (atB
      [AV.agg
        [AV.int IntKind.i64 (TreeG.val x).fst, AV.int IntKind.i64 (TreeG.val x).snd.fst, AV.int IntKind.i64 (TreeG.val x).snd.snd.fst, AV.int IntKind.i64 (nat x).fst, AV.bool (nat x).snd.fst,
        AV.int IntKind.u64 (nat x).snd.snd.fst, AV.rof (ac (nat x)).length (fun (i : Nat) => condA ((ac (nat x)).getD i condD)) false, AV.str (an (nat x)),
        AV.rof (TreeG.kids x).length (fun (i : Nat) => nodeA (15 : Nat) ((TreeG.kids x).getD i treeD)) false, AV.int IntKind.u64 w, AV.rof hs.length (fun (i : Nat) => haveA (hs.getD i haveD)) false,
        AV.rof es.length (fun (i : Nat) => aggA (es.getD i aggD)) false]]
      [qA x w hs es])
    (VB (!(lq && decide ((↑ev.length : Int) ≤ (60 : Int)) && decide ((↑ps.length : Int) ≤ (40 : Int))) || decide ((↑h.fst.snd.fst.length : Int) > (30 : Int))) (true = true)
      (NB (b && atB [AV.agg [AV.rof ps.length (fun (k : Nat) => plA (ps.getD k plD)) false]] [mA ps])
        (NB
        (b &&
        atB
        [AV.agg
        [AV.int IntKind.i64 (TreeG.val x).fst, AV.int IntKind.i64 (TreeG.val x).snd.fst, AV.int IntKind.i64 (TreeG.val x).snd.snd.fst, AV.int IntKind.i64 (nat x).fst, AV.bool (nat x).snd.fst,
        AV.int IntKind.u64 (nat x).snd.snd.fst, AV.rof (ac (nat x)).length (fun (i : Nat) => condA ((ac (nat x)).getD i condD)) false, AV.str (an (nat x)),
        AV.rof (TreeG.kids x).length (fun (i : Nat) => nodeA (15 : Nat) ((TreeG.kids x).getD i treeD)) false, AV.int IntKind.u64 w, AV.rof hs.length (fun (i : Nat) => haveA (hs.getD i haveD)) false,
        AV.rof es.length (fun (i : Nat) => aggA (es.getD i aggD)) false],
        AV.rof ev.length (fun (k : Nat) => evA (ev.getD k evD)) false, AV.agg [AV.rof ps.length (fun (k : Nat) => plA (ps.getD k plD)) false], AV.str h.fst.snd.fst]
        [qA x w hs es, evsA ev, mA ps, AV.str h.fst.snd.fst])
        (NB
        (b &&
        atB
        [AV.agg
        [AV.int IntKind.i64 (TreeG.val x).fst, AV.int IntKind.i64 (TreeG.val x).snd.fst, AV.int IntKind.i64 (TreeG.val x).snd.snd.fst, AV.int IntKind.i64 (nat x).fst, AV.bool (nat x).snd.fst,
        AV.int IntKind.u64 (nat x).snd.snd.fst, AV.rof (ac (nat x)).length (fun (i : Nat) => condA ((ac (nat x)).getD i condD)) false, AV.str (an (nat x)),
        AV.rof (TreeG.kids x).length (fun (i : Nat) => nodeA (15 : Nat) ((TreeG.kids x).getD i treeD)) false, AV.int IntKind.u64 w, AV.rof hs.length (fun (i : Nat) => haveA (hs.getD i haveD)) false,
        AV.rof es.length (fun (i : Nat) => aggA (es.getD i aggD)) false],
        AV.rof ev.length (fun (k : Nat) => evA (ev.getD k evD)) false, AV.agg [AV.rof ps.length (fun (k : Nat) => plA (ps.getD k plD)) false], AV.str h.fst.snd.fst]
        [qA x w hs es, evsA ev, mA ps, AV.str h.fst.snd.fst])
        (NB (b && atB [AV.rof L.length (fun (k : Nat) => AV.int IntKind.i64 (L.getD k (0 : Int))) false, AV.rof L.length (fun (k : Nat) => AV.int IntKind.i64 (L.getD k (0 : Int))) false] [isA L, isA L])
        (NB
        (impB (isW false (false || e != e))
        (b &&
        atB
        [AV.agg
        [AV.int IntKind.i64 (TreeG.val x).fst, AV.int IntKind.i64 (TreeG.val x).snd.fst, AV.int IntKind.i64 (TreeG.val x).snd.snd.fst, AV.int IntKind.i64 (nat x).fst, AV.bool (nat x).snd.fst,
        AV.int IntKind.u64 (nat x).snd.snd.fst, AV.rof (ac (nat x)).length (fun (i : Nat) => condA ((ac (nat x)).getD i condD)) false, AV.str (an (nat x)),
        AV.rof (TreeG.kids x).length (fun (i : Nat) => nodeA (15 : Nat) ((TreeG.kids x).getD i treeD)) false, AV.int IntKind.u64 w, AV.rof hs.length (fun (i : Nat) => haveA (hs.getD i haveD)) false,
        AV.rof es.length (fun (i : Nat) => aggA (es.getD i aggD)) false],
        AV.rof ev.length (fun (k : Nat) => evA (ev.getD k evD)) false, AV.agg [AV.rof ps.length (fun (k : Nat) => plA (ps.getD k plD)) false]]
        [qA x w hs es, evsA ev, mA ps]))
        (NB
        (impB (isW false (false || e != e))
        (b &&
        atB
        [AV.agg
        [AV.int IntKind.i64 (TreeG.val x).fst, AV.int IntKind.i64 (TreeG.val x).snd.fst, AV.int IntKind.i64 (TreeG.val x).snd.snd.fst, AV.int IntKind.i64 (nat x).fst, AV.bool (nat x).snd.fst,
        AV.int IntKind.u64 (nat x).snd.snd.fst, AV.rof (ac (nat x)).length (fun (i : Nat) => condA ((ac (nat x)).getD i condD)) false, AV.str (an (nat x)),
        AV.rof (TreeG.kids x).length (fun (i : Nat) => nodeA (15 : Nat) ((TreeG.kids x).getD i treeD)) false, AV.int IntKind.u64 w, AV.rof hs.length (fun (i : Nat) => haveA (hs.getD i haveD)) false,
        AV.rof es.length (fun (i : Nat) => aggA (es.getD i aggD)) false],
        AV.rof ev.length (fun (k : Nat) => evA (ev.getD k evD)) false, AV.agg [AV.rof ps.length (fun (k : Nat) => plA (ps.getD k plD)) false]]
        [qA x w hs es, evsA ev, mA ps]))
        (VB (false || e != e || m != m) (false = true)
        (NB
        (b &&
        atB
        [AV.agg
        [AV.int IntKind.i64 (TreeG.val x).fst, AV.int IntKind.i64 (TreeG.val x).snd.fst, AV.int IntKind.i64 (TreeG.val x).snd.snd.fst, AV.int IntKind.i64 (nat x).fst, AV.bool (nat x).snd.fst,
        AV.int IntKind.u64 (nat x).snd.snd.fst, AV.rof (ac (nat x)).length (fun (i : Nat) => condA ((ac (nat x)).getD i condD)) false, AV.str (an (nat x)),
        AV.rof (TreeG.kids x).length (fun (i : Nat) => nodeA (15 : Nat) ((TreeG.kids x).getD i treeD)) false, AV.int IntKind.u64 w, AV.rof hs.length (fun (i : Nat) => haveA (hs.getD i haveD)) false,
        AV.rof es.length (fun (i : Nat) => aggA (es.getD i aggD)) false],
        AV.rof ev.length (fun (k : Nat) => evA (ev.getD k evD)) false, AV.agg [AV.rof ps.length (fun (k : Nat) => plA (ps.getD k plD)) false],
        AV.agg [AV.int IntKind.i64 h.fst.fst, AV.str h.fst.snd.fst, AV.int IntKind.i64 h.snd.fst.fst, AV.int IntKind.i64 h.snd.fst.snd.fst]]
        [qA x w hs es, evsA ev, mA ps, haveA h])
        (NB
        (b &&
        atB
        [AV.agg
        [AV.int IntKind.i64 (TreeG.val x).fst, AV.int IntKind.i64 (TreeG.val x).snd.fst, AV.int IntKind.i64 (TreeG.val x).snd.snd.fst, AV.int IntKind.i64 (nat x).fst, AV.bool (nat x).snd.fst,
        AV.int IntKind.u64 (nat x).snd.snd.fst, AV.rof (ac (nat x)).length (fun (i : Nat) => condA ((ac (nat x)).getD i condD)) false, AV.str (an (nat x)),
        AV.rof (TreeG.kids x).length (fun (i : Nat) => nodeA (15 : Nat) ((TreeG.kids x).getD i treeD)) false, AV.int IntKind.u64 w,
        AV.rof hs.length (fun (i : Nat) => haveA (hs.getD i haveD)) false, AV.rof es.length (fun (i : Nat) => aggA (es.getD i aggD)) false],
        AV.rof ev.length (fun (k : Nat) => evA (ev.getD k evD)) false, AV.agg [AV.rof ps.length (fun (k : Nat) => plA (ps.getD k plD)) false],
        AV.agg [AV.int IntKind.i64 h.fst.fst, AV.str h.fst.snd.fst, AV.int IntKind.i64 h.snd.fst.fst, AV.int IntKind.i64 h.snd.fst.snd.fst]]
        [qA x w hs es, evsA ev, mA ps, haveA h])
        (NB
        (impB (isW true (hb == hb && eh == eh))
        (b && atB [AV.agg [AV.rof ps.length (fun (k : Nat) => plA (ps.getD k plD)) false], AV.agg [AV.rof ps.length (fun (k : Nat) => plA (ps.getD k plD)) false]] [mA ps, mA ps]))
        (((hb == hb && eh == eh && true && true) == true) = true))))))))))))) := by
  kernel_rfl

end Go.Proofs.YtamcloifhjafcaaDoor
namespace Go.Proofs.YtamcloifhjafcaaDoor
open Pw Go
set_option maxRecDepth 100000
set_option linter.unusedSimpArgs false

theorem plA_refl (p : PlG) : (plA p).sub (plA p) := ⟨by simp [AV.sub], by simp [AV.sub], trivial⟩
theorem ownM_pure (ps : List PlG) (hp : ps.length ≤ 40) : PureC Tryd.prog gN 12 [mA ps] (mA ps) := by
  refine pure_vcG (d := 4) mix (tblG_nil _ _) ((ownM_vc ps).mpr ?_)
  simp only [EqI, true_and, and_true, imp_self, implies_true, Int.toNat_natCast, Nat.zero_add, or_self]
  refine NB_intro (by simp [room]; omega) ?_
  simp only [Bool.false_eq_true, false_implies, and_true]
  exact fun i _ => plA_refl _
theorem sameM_pure (ps : List PlG) (hp : ps.length ≤ 40) : PureC Tryd.prog gN 20 [mA ps, mA ps] (.bool true) := by
  refine pure_vcG (d := 4) mix (tblG_nil _ _) ((sameM_vc ps).mpr ?_)
  simp only [EqI, true_and, and_true, imp_self, implies_true, Int.toNat_natCast, Nat.zero_add, or_self]
  refine VB_intro (fun h => by simp at h) (fun _ => ⟨⟨0, Nat.zero_le _, rfl⟩, fun i hi => VB_intro (fun h => ?_) (fun _ => trivial)⟩)
  have hlt : i < ps.length := by have := of_decide_eq_true h; omega
  refine NB_intro (decide_eq_true (by omega)) (NB_intro (decide_eq_true (by omega)) (VB_intro (fun h => by simp at h) (fun _ => ⟨i + 1, hlt, by simp only [invSM]; omega, by rw [wrap_i64_id (by omega) (by omega)]; omega⟩)))
theorem sameL_pure (L : List Int) (h : L.length ≤ 1000) (hv : ∀ i, i < L.length → rng64 (L.getD i 0)) : PureC Tryd.prog gN 15 [isA L, isA L] (.bool true) :=
  (same_ok.up) [isA L, isA L] _ _ rfl (by
    simp only [Bool.and_eq_true, decide_eq_true_eq]
    have hb : intsB L.length (fun k => AV.int .i64 (L.getD k 0)) = true := List.all_eq_true.2 fun i hi => inR_iff.2 (hv i (by simpa using hi))
    exact ⟨⟨⟨⟨by omega, trivial⟩, hb⟩, hb⟩, List.all_eq_true.2 fun i _ => decide_eq_true rfl⟩)
/-- The events' values are numbers of 64 bits. -/
def evR (ev : List EvG) : Prop := ∀ k, k < ev.length → rng64 (ev.getD k evD).2.2.2.2.1
theorem evR_all {ev : List EvG} (h : evR ev) (k : Nat) : rng64 (ev.getD k evD).2.2.2.2.1 := by
  by_cases hk : k < ev.length
  · exact h k hk
  · rw [List.getD_eq_getElem?_getD, List.getElem?_eq_none (by omega)]
    show rng64 0
    simp [rng64]
theorem nV_ok {x : NodeG} {w : Int} {hs : List HaveG} {es : List AggG} {ev : List EvG} {ps : List PlG} (nm : List UInt8) (hp : ps.length ≤ 40) (he : evR ev) : (nV x w hs es ev ps nm).length ≤ 40 ∧ ∀ i, i < (nV x w hs es ev ps nm).length → rng64 ((nV x w hs es ev ps nm).getD i 0) := by
  show (nmVal _ _ _ _ _ _).length ≤ 40 ∧ _
  unfold nV nmVal
  split
  · refine ⟨Nat.le_trans (vlK_len _ _ _ _ _) hp, fun i hi => ?_⟩
    have hm : (vlK ev (atomsL 8 x) ps nm ps.length).getD i 0 ∈ vlK ev (atomsL 8 x) ps nm ps.length := by
      rw [List.getD_eq_getElem?_getD, List.getElem?_eq_getElem hi]
      exact List.getElem_mem hi
    obtain ⟨p, _, e⟩ := List.mem_map.1 hm
    rw [← e]
    exact evR_all he _
  · exact ⟨Nat.zero_le _, fun i hi => by simp at hi⟩
def okAll' (x : NodeG) (hs : List HaveG) (es : List AggG) (ev : List EvG) (ps : List PlG) : Bool := lightQ x hs es && decide (ev.length ≤ 60) && decide (ps.length ≤ 40)
theorem EL_ok (x : NodeG) (w : Int) (hs : List HaveG) (es : List AggG) (ev : List EvG) (ps : List PlG) (h : HaveG) (he : evR ev) (hf : rng64 h.1.1) :
    TblOK Tryd.prog gN (tblOf (tblL x w hs es ev ps h (okAll' x hs es ev ps) (lightQ x hs es) (mE x w hs es ev ps) (nV x w hs es ev ps h.1.2.1) (nE x w hs es ev ps h.1.2.1) (hB x w hs es ev ps h) (hE x w hs es ev ps h))) := by
  have k : okAll' x hs es ev ps = true → Lt x hs es ∧ ps.length ≤ 40 := fun hb => by
    simp only [okAll', Bool.and_eq_true, decide_eq_true_eq] at hb
    exact ⟨Lt.of hb.1.1, hb.2⟩
  have kn : okAll' x hs es ev ps = true → ofNeed h.1.1 (nV x w hs es ev ps h.1.2.1) := fun hb => by
    have := nV_ok (x := x) (w := w) (hs := hs) (es := es) h.1.2.1 (k hb).2 he
    exact ⟨hf, by omega, this.2⟩
  refine tblG_cons (cAt_ok (lightQ_pure x w hs es)) (tblG_cons awake_ok (tblG_cons (cWh_ok fun hb => ownM_pure ps (k hb).2) (tblG_cons (cWh_ok fun hb => sameM_pure ps (k hb).2) (tblG_cons (cWh_ok fun hb => namedI_pure (k hb).1 (k hb).2 _) (tblG_cons (cWh_ok fun hb => namedP_pure (k hb).1 (k hb).2 h (kn hb))
    (tblG_cons (cWh_ok fun hb => ?_) (tblG_cons (cWh_ok fun hb => checkI_pure (k hb).1 (k hb).2 h (kn hb)) (tblG_cons (cWh_ok fun hb => refchk_pure (k hb).1 (k hb).2) (tblG_cons (cWh_ok fun hb => holdsI_pure (k hb).1 (k hb).2 h (kn hb)) (tblG_cons (cWh_ok fun hb => holdsP_pure (k hb).1 (k hb).2 h (kn hb)) (tblG_nil _ _)))))))))))
  have := nV_ok (x := x) (w := w) (hs := hs) (es := es) h.1.2.1 (k hb).2 he
  exact sameL_pure _ (by omega) this.2
noncomputable def ELx (x : NodeG) (w : Int) (hs : List HaveG) (es : List AggG) (ev : List EvG) (ps : List PlG) (h : HaveG) : Env := EL x w hs es ev ps h (okAll' x hs es ev ps) (lightQ x hs es) (mE x w hs es ev ps) (nV x w hs es ev ps h.1.2.1) (nE x w hs es ev ps h.1.2.1) (hB x w hs es ev ps h) (hE x w hs es ev ps h)
theorem names_sat (x : NodeG) (w : Int) (hs : List HaveG) (es : List AggG) (ev : List EvG) (ps : List PlG) (h : HaveG) :
    (vcFun (ELx x w hs es ev ps h) 40 3 [qA x w hs es, evsA ev, mA ps, haveA h] .nil 0 (isBool true)).sat := by
  refine (names_vc x w hs es ev ps h _ _ _ _ _ _ _).mpr (NB_intro (atB_self _) (VB_intro (fun _ => ?_) (fun h1 => ?_)))
  · first | rfl | trivial | simp
  simp only [Bool.or_eq_false_iff, Bool.not_eq_false', Bool.and_eq_true, decide_eq_true_eq, decide_eq_false_iff_not] at h1
  have hb : okAll' x hs es ev ps = true := by
    simp only [okAll', Bool.and_eq_true, decide_eq_true_eq]
    exact ⟨⟨h1.1.1.1, by omega⟩, by omega⟩
  rw [hb]
  have at' : ∀ l : List AV, (true && atB l l) = true := fun l => by rw [Bool.true_and]; exact atB_self l
  refine NB_intro (at' _) (NB_intro (at' _) (NB_intro (at' _) (NB_intro (at' _) (NB_intro (impB_t.2 fun _ => at' _) (NB_intro (impB_t.2 fun _ => at' _) ?_)))))
  simp only [bne_self_eq_false, Bool.or_self, VB_f]
  refine NB_intro (at' _) (NB_intro (at' _) (NB_intro (impB_t.2 fun _ => at' _) ?_))
  simp
end Go.Proofs.YtamcloifhjafcaaDoor
