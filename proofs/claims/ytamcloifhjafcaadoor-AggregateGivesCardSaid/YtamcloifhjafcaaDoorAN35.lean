/- NODES 35: emitted values: conditions of both codes. -/
import Derived.Test.YtamcloifhjafcaaDoorAN32
namespace Go.Proofs.YtamcloifhjafcaaDoor
open Pw Go
set_option maxRecDepth 100000
set_option linter.unusedSimpArgs false

def foldOn : Unit := ()
section
variable (x : NodeG) (w : Int) (hs : List HaveG) (es : List AggG) (ev : List EvG) (ps : List PlG)
abbrev esA (es : List AggG) : AV := .rof es.length (fun i => aggA (es.getD i aggD)) false
/-- The values of the i-th name, their error, its aggregate and its error. -/
abbrev emL (i : Nat) : List Int := nV x w hs es ev ps (es.getD i aggD).2.1
abbrev emEi (i : Nat) : Int := nE x w hs es ev ps (es.getD i aggD).2.1
abbrev emVi (i : Nat) : Int := ofV (es.getD i aggD).1 (emL x w hs es ev ps i).length (fun k => (emL x w hs es ev ps i).getD k 0)
abbrev emSi (i : Nat) : Int := ofE (es.getD i aggD).1 (emL x w hs es ev ps i).length (fun k => (emL x w hs es ev ps i).getD k 0)
def emE : Int := if mE x w hs es ev ps ≠ 0 then mE x w hs es ev ps else firE (emEi x w hs es ev ps) es.length
def emS : Int := if emE x w hs es ev ps ≠ 0 then 0 else firE (emSi x w hs es ev ps) es.length
def emV : List Int := if emE x w hs es ev ps ≠ 0 ∨ emS x w hs es ev ps ≠ 0 then [] else (List.range es.length).map (emVi x w hs es ev ps)
def invM1 : Inv := ⟨Nat × Nat, 70, fun p => ⟨[(1, evsA ev), (3, .ptr 0 0 0 0), (5, .ptr 1 0 0 0), (6, .nils), (10, .sl 60 p.2 0 p.1 none), (27, esA es), (28, .int .i64 es.length), (29, .int .i64 p.1)], [(0, .row 0 12 true (.lst [qA x w hs es])), (1, .row 0 1 true (.lst [mA ps])), (60, .row p.2 1 true (.fn p.1 (fun k => isA (emL x w hs es ev ps k))))]⟩,
  fun p => p.1 ≤ es.length ∧ firE (emEi x w hs es ev ps) p.1 = 0, fun p => es.length - p.1⟩
def invM2 : Inv := ⟨Nat × Nat × Nat, 90, fun p => ⟨[(6, .sl 80 p.2.2 0 p.1 none), (10, .sl 60 p.2.1 0 es.length none), (51, esA es), (52, .int .i64 es.length), (53, .int .i64 p.1)], [(60, .row p.2.1 1 true (.fn es.length (fun k => isA (emL x w hs es ev ps k)))), (80, .row p.2.2 1 true (.fn p.1 (fun k => .int .i64 (emVi x w hs es ev ps k))))]⟩,
  fun p => p.1 ≤ es.length ∧ firE (emSi x w hs es ev ps) p.1 = 0, fun p => es.length - p.1⟩
def invM3 : Inv := ⟨Nat × Nat, 70, fun p => ⟨[(1, evsA ev), (3, .ptr 0 0 0 0), (5, .ptr 1 0 0 0), (10, .sl 60 p.2 0 p.1 none), (11, .int .i64 (firE (emSi x w hs es ev ps) p.1)), (12, .int .i64 p.1)], [(0, .row 0 12 true (.lst [qA x w hs es])), (1, .row 0 1 true (.lst [mA ps])), (60, .row p.2 1 true (.fn p.1 (fun k => .int .i64 (emVi x w hs es ev ps k))))]⟩,
  fun p => p.1 ≤ es.length ∧ firE (emEi x w hs es ev ps) p.1 = 0, fun p => es.length - p.1⟩
noncomputable def tblEm : List (Nat × Ctr) :=
  [(16, cChk x w hs es ev true), (17, cChk x w hs es ev true), (13, cNam x w hs es ev true), (48, cNamR x w hs es ev true), (52, cOf), (64, cOf)]
noncomputable def EEm : Env := mkG Tryd.prog gN (tblOf (tblEm x w hs es ev)) (fun f b => if f = 34 ∧ b = 0 then some (invM1 x w hs es ev ps) else if f = 34 ∧ b = 2 then some (invM2 x w hs es ev ps) else if f = 35 ∧ b = 0 then some (invM3 x w hs es ev ps) else none) 0
end

theorem emI_vc (x : NodeG) (w : Int) (hs : List HaveG) (es : List AggG) (ev : List EvG) (ps : List PlG) (L : List Int) (s r : Int) : (vcFun (EEm x w hs es ev ps) 20 34 [qA x w hs es, evsA ev, mA ps] .nil 0 (retP 4 (.tup [isA L, .int .i64 s, .int .i64 r]))).sat = (
  NB (gd x w hs es ev true (qA x w hs es) (evsA ev) (mA ps))
    (VB (mE x w hs es ev (psOf (mA ps)) != (0 : Int)) (L.length = (0 : Nat) ∧ (0 : Int) = s ∧ mE x w hs es ev (psOf (mA ps)) = r ∧ True)
      ((∃ (i : Nat × Nat),
        (i.fst ≤ es.length ∧ firE (emEi x w hs es ev ps) i.fst = (0 : Int)) ∧
        ((evsA ev).sub (evsA ev) ∧
        ((0 : Nat) = (0 : Nat) ∧ (0 : Nat) = (0 : Nat) ∧ (0 : Nat) = (0 : Nat)) ∧
        ((0 : Nat) = (0 : Nat) ∧ (0 : Nat) = (0 : Nat) ∧ (0 : Nat) = (0 : Nat)) ∧
        True ∧ (i.fst = (0 : Nat) ∧ i.snd = i.snd ∧ i.fst = (0 : Nat)) ∧ (esA es).sub (esA es) ∧ (↑es.length : Int) = (↑es.length : Int) ∧ (0 : Int) = (↑i.fst : Int) ∧ True) ∧
        ((0 : Nat) = (0 : Nat) ∧ (true = true → true = true) ∧ ((qA x w hs es).sub (qA x w hs es) ∧ (qA x w hs es).cells.length = (qA x w hs es).cells.length) ∧ True) ∧
        ((0 : Nat) = (0 : Nat) ∧ (true = true → true = true) ∧ ((mA ps).sub (mA ps) ∧ (mA ps).cells.length = (mA ps).cells.length) ∧ True) ∧ i.fst = (0 : Nat) ∧ True) ∧
        ∀ (i : Nat × Nat),
        i.fst ≤ es.length ∧ firE (emEi x w hs es ev ps) i.fst = (0 : Int) →
        VB (decide ((↑i.fst : Int) < (↑es.length : Int)))
        (NB (decide ((0 : Int) ≤ (↑i.fst : Int) ∧ (↑i.fst : Int) < (↑es.length : Int)))
        (NB (gd x w hs es ev true (qA x w hs es) (evsA ev) (mA ps))
        (VB (nE x w hs es ev (psOf (mA ps)) (es.getD (↑i.fst : Int).toNat aggD).snd.fst != (0 : Int))
        (L.length = (0 : Nat) ∧ (0 : Int) = s ∧ nE x w hs es ev (psOf (mA ps)) (es.getD (↑i.fst : Int).toNat aggD).snd.fst = r ∧ True)
        (NB (true && decide (i.snd = i.snd) && room (i.fst + (1 : Nat)) (24 : Nat))
        (∃ (i' : Nat × Nat),
        (i'.fst ≤ es.length ∧ firE (emEi x w hs es ev ps) i'.fst = (0 : Int)) ∧
        (invM1 x w hs es ev ps).μ i' < (invM1 x w hs es ev ps).μ i ∧
        ((evsA ev).sub (evsA ev) ∧
        ((0 : Nat) = (0 : Nat) ∧ (0 : Nat) = (0 : Nat) ∧ (0 : Nat) = (0 : Nat)) ∧
        ((0 : Nat) = (0 : Nat) ∧ (0 : Nat) = (0 : Nat) ∧ (0 : Nat) = (0 : Nat)) ∧
        True ∧
        (i.snd + (1 : Nat) = i'.snd ∧ (0 : Nat) = (0 : Nat) ∧ i.fst + (1 : Nat) = i'.fst ∧ (@Eq (Option Nat) none none ∨ @Eq (Option Nat) none none)) ∧
        (esA es).sub (esA es) ∧ (↑es.length : Int) = (↑es.length : Int) ∧ IntKind.i64.wrap ((↑i.fst : Int) + (1 : Int)) = (↑i'.fst : Int) ∧ True) ∧
        ((0 : Nat) = (0 : Nat) ∧ (true = true → true = true) ∧ ((qA x w hs es).sub (qA x w hs es) ∧ (qA x w hs es).cells.length = (qA x w hs es).cells.length) ∧ True) ∧
        ((0 : Nat) = (0 : Nat) ∧ (true = true → true = true) ∧ ((mA ps).sub (mA ps) ∧ (mA ps).cells.length = (mA ps).cells.length) ∧ True) ∧
        (i.snd + (1 : Nat) = i'.snd ∧
        (true = true → true = true) ∧
        i.fst + (1 : Nat) = i'.fst ∧
        ∀ (i_1 : Nat),
        i_1 < i.fst + (1 : Nat) →
        (if i_1 < i.fst then isA (emL x w hs es ev ps ((0 : Nat) + i_1))
        else
        ((Sq.lst [isA (nV x w hs es ev (psOf (AV.agg [AV.rof ps.length (fun (k : Nat) => plA (ps.getD k plD)) false])) (es.getD (↑i.fst : Int).toNat aggD).snd.fst)]).sub
        (0 : Nat) (1 : Nat)).get
        (i_1 - i.fst)).sub
        (AV.rof (emL x w hs es ev ps i_1).length (fun (k : Nat) => AV.int IntKind.i64 ((emL x w hs es ev ps i_1).getD k (0 : Int))) false) ∧
        (if i_1 < i.fst then isA (emL x w hs es ev ps ((0 : Nat) + i_1))
        else
        ((Sq.lst [isA (nV x w hs es ev (psOf (AV.agg [AV.rof ps.length (fun (k : Nat) => plA (ps.getD k plD)) false])) (es.getD (↑i.fst : Int).toNat aggD).snd.fst)]).sub
        (0 : Nat) (1 : Nat)).get
        (i_1 - i.fst)).cells.length =
        [isA (emL x w hs es ev ps i_1)].length) ∧
        True)))))
        ((∃ (i_1 : Nat × Nat × Nat),
        (i_1.fst ≤ es.length ∧ firE (emSi x w hs es ev ps) i_1.fst = (0 : Int)) ∧
        ((i_1.fst = (0 : Nat) ∧ i_1.snd.snd = i_1.snd.snd ∧ i_1.fst = (0 : Nat)) ∧
        (i.snd = i_1.snd.fst ∧ (0 : Nat) = (0 : Nat) ∧ i.fst = es.length ∧ (@Eq (Option Nat) none none ∨ @Eq (Option Nat) none none)) ∧
        (esA es).sub (esA es) ∧ (↑es.length : Int) = (↑es.length : Int) ∧ (0 : Int) = (↑i_1.fst : Int) ∧ True) ∧
        (i.snd = i_1.snd.fst ∧
        (true = true → true = true) ∧
        i.fst = es.length ∧
        ∀ (i_2 : Nat), i_2 < i.fst → (isA (emL x w hs es ev ps i_2)).sub (isA (emL x w hs es ev ps i_2)) ∧ [isA (emL x w hs es ev ps i_2)].length = [isA (emL x w hs es ev ps i_2)].length) ∧
        i_1.fst = (0 : Nat) ∧ True) ∧
        ∀ (i : Nat × Nat × Nat),
        i.fst ≤ es.length ∧ firE (emSi x w hs es ev ps) i.fst = (0 : Int) →
        VB (decide ((↑i.fst : Int) < (↑es.length : Int)))
        (NB (decide ((0 : Int) ≤ (↑i.fst : Int) ∧ (↑i.fst : Int) < (↑es.length : Int)))
        (NB (decide (i.snd.fst = i.snd.fst) && decide ((0 : Int) ≤ (↑i.fst : Int) ∧ (↑i.fst : Int) < (↑es.length : Int)))
        (NB (decide (i.snd.fst = i.snd.fst))
        (NB
        (inR (es.getD (↑i.fst : Int).toNat aggD).fst && decide ((emL x w hs es ev ps ((0 : Nat) + (↑i.fst : Int).toNat)).length ≤ (1000000 : Nat)) &&
        intsB (emL x w hs es ev ps ((0 : Nat) + (↑i.fst : Int).toNat)).length fun (k : Nat) => AV.int IntKind.i64 ((emL x w hs es ev ps ((0 : Nat) + (↑i.fst : Int).toNat)).getD k (0 : Int)))
        (VB
        ((ofE (es.getD (↑i.fst : Int).toNat aggD).fst (emL x w hs es ev ps ((0 : Nat) + (↑i.fst : Int).toNat)).length fun (i_1 : Nat) =>
        (emL x w hs es ev ps ((0 : Nat) + (↑i.fst : Int).toNat)).getD i_1 (0 : Int)) !=
        (0 : Int))
        (L.length = (0 : Nat) ∧
        (ofE (es.getD (↑i.fst : Int).toNat aggD).fst (emL x w hs es ev ps ((0 : Nat) + (↑i.fst : Int).toNat)).length fun (i_1 : Nat) =>
        (emL x w hs es ev ps ((0 : Nat) + (↑i.fst : Int).toNat)).getD i_1 (0 : Int)) =
        s ∧
        (0 : Int) = r ∧ True)
        (NB (true && decide (i.snd.snd = i.snd.snd) && room (i.fst + (1 : Nat)) (8 : Nat))
        (∃ (i' : Nat × Nat × Nat),
        (i'.fst ≤ es.length ∧ firE (emSi x w hs es ev ps) i'.fst = (0 : Int)) ∧
        (invM2 x w hs es ev ps).μ i' < (invM2 x w hs es ev ps).μ i ∧
        ((i.snd.snd + (1 : Nat) = i'.snd.snd ∧ (0 : Nat) = (0 : Nat) ∧ i.fst + (1 : Nat) = i'.fst ∧ (@Eq (Option Nat) none none ∨ @Eq (Option Nat) none none)) ∧
        (i.snd.fst = i'.snd.fst ∧ (0 : Nat) = (0 : Nat) ∧ es.length = es.length ∧ (@Eq (Option Nat) none none ∨ @Eq (Option Nat) none none)) ∧
        (esA es).sub (esA es) ∧ (↑es.length : Int) = (↑es.length : Int) ∧ IntKind.i64.wrap ((↑i.fst : Int) + (1 : Int)) = (↑i'.fst : Int) ∧ True) ∧
        (i.snd.fst = i'.snd.fst ∧
        (true = true → true = true) ∧
        es.length = es.length ∧
        ∀ (i : Nat),
        i < es.length → (isA (emL x w hs es ev ps i)).sub (isA (emL x w hs es ev ps i)) ∧ [isA (emL x w hs es ev ps i)].length = [isA (emL x w hs es ev ps i)].length) ∧
        (i.snd.snd + (1 : Nat) = i'.snd.snd ∧
        (true = true → true = true) ∧
        i.fst + (1 : Nat) = i'.fst ∧
        ∀ (i_1 : Nat),
        i_1 < i.fst + (1 : Nat) →
        (if i_1 < i.fst then AV.int IntKind.i64 (emVi x w hs es ev ps ((0 : Nat) + i_1))
        else
        ((Sq.lst
        [AV.int IntKind.i64
        (ofV (es.getD (↑i.fst : Int).toNat aggD).fst (emL x w hs es ev ps ((0 : Nat) + (↑i.fst : Int).toNat)).length fun (i_2 : Nat) =>
        (emL x w hs es ev ps ((0 : Nat) + (↑i.fst : Int).toNat)).getD i_2 (0 : Int))]).sub
        (0 : Nat) (1 : Nat)).get
        (i_1 - i.fst)).sub
        (AV.int IntKind.i64 (emVi x w hs es ev ps i_1)) ∧
        (if i_1 < i.fst then AV.int IntKind.i64 (emVi x w hs es ev ps ((0 : Nat) + i_1))
        else
        ((Sq.lst
        [AV.int IntKind.i64
        (ofV (es.getD (↑i.fst : Int).toNat aggD).fst (emL x w hs es ev ps ((0 : Nat) + (↑i.fst : Int).toNat)).length fun (i_2 : Nat) =>
        (emL x w hs es ev ps ((0 : Nat) + (↑i.fst : Int).toNat)).getD i_2 (0 : Int))]).sub
        (0 : Nat) (1 : Nat)).get
        (i_1 - i.fst)).cells.length =
        [AV.int IntKind.i64 (emVi x w hs es ev ps i_1)].length) ∧
        True)))))))
        (NB (decide (i.snd.snd = i.snd.snd) && true)
        ((i.fst = L.length ∧
        (∀ (i_1 : Nat),
        i_1 < i.fst →
        emVi x w hs es ev ps ((0 : Nat) + i_1) = L.getD i_1 (0 : Int) ∧ [AV.int IntKind.i64 (emVi x w hs es ev ps ((0 : Nat) + i_1))].length = [AV.int IntKind.i64 (L.getD i_1 (0 : Int))].length) ∧
        (false = true → decide (none = some i.fst) = true)) ∧
        (0 : Int) = s ∧ (0 : Int) = r ∧ True)))))) := by
  kernel_rfl

theorem emR_vc (x : NodeG) (w : Int) (hs : List HaveG) (es : List AggG) (ev : List EvG) (ps : List PlG) (L : List Int) (s r : Int) : (vcFun (EEm x w hs es ev ps) 20 35 [qA x w hs es, evsA ev, mA ps] .nil 0 (retP 4 (.tup [isA L, .int .i64 s, .int .i64 r]))).sat = (
  NB (gd x w hs es ev true (qA x w hs es) (evsA ev) (mA ps))
    (VB (mE x w hs es ev (psOf (mA ps)) != (0 : Int)) (L.length = (0 : Nat) ∧ (0 : Int) = s ∧ mE x w hs es ev (psOf (mA ps)) = r ∧ True)
      ((∃ (i : Nat × Nat),
        (i.fst ≤ es.length ∧ firE (emEi x w hs es ev ps) i.fst = (0 : Int)) ∧
        ((evsA ev).sub (evsA ev) ∧
        ((0 : Nat) = (0 : Nat) ∧ (0 : Nat) = (0 : Nat) ∧ (0 : Nat) = (0 : Nat)) ∧
        ((0 : Nat) = (0 : Nat) ∧ (0 : Nat) = (0 : Nat) ∧ (0 : Nat) = (0 : Nat)) ∧
        (i.fst = (0 : Nat) ∧ i.snd = i.snd ∧ i.fst = (0 : Nat)) ∧ (0 : Int) = firE (emSi x w hs es ev ps) i.fst ∧ (0 : Int) = (↑i.fst : Int) ∧ True) ∧
        ((0 : Nat) = (0 : Nat) ∧ (true = true → true = true) ∧ ((qA x w hs es).sub (qA x w hs es) ∧ (qA x w hs es).cells.length = (qA x w hs es).cells.length) ∧ True) ∧
        ((0 : Nat) = (0 : Nat) ∧ (true = true → true = true) ∧ ((mA ps).sub (mA ps) ∧ (mA ps).cells.length = (mA ps).cells.length) ∧ True) ∧ i.fst = (0 : Nat) ∧ True) ∧
        ∀ (i : Nat × Nat),
        i.fst ≤ es.length ∧ firE (emEi x w hs es ev ps) i.fst = (0 : Int) →
        VB (decide ((↑i.fst : Int) < (↑es.length : Int)))
        (NB (decide ((0 : Int) ≤ (↑i.fst : Int) ∧ (↑i.fst : Int) < (↑es.length : Int)))
        (NB (gd x w hs es ev true (qA x w hs es) (evsA ev) (mA ps) && decide (mE x w hs es ev (psOf (mA ps)) = (0 : Int)))
        (VB (nE x w hs es ev (psOf (mA ps)) (es.getD (↑i.fst : Int).toNat aggD).snd.fst != (0 : Int))
        (L.length = (0 : Nat) ∧ (0 : Int) = s ∧ nE x w hs es ev (psOf (mA ps)) (es.getD (↑i.fst : Int).toNat aggD).snd.fst = r ∧ True)
        (NB (decide ((0 : Int) ≤ (↑i.fst : Int) ∧ (↑i.fst : Int) < (↑es.length : Int)))
        (NB
        (inR (es.getD (↑i.fst : Int).toNat aggD).fst && decide ((nV x w hs es ev (psOf (mA ps)) (es.getD (↑i.fst : Int).toNat aggD).snd.fst).length ≤ (1000000 : Nat)) &&
        intsB (nV x w hs es ev (psOf (mA ps)) (es.getD (↑i.fst : Int).toNat aggD).snd.fst).length fun (k : Nat) =>
        AV.int IntKind.i64 ((nV x w hs es ev (psOf (mA ps)) (es.getD (↑i.fst : Int).toNat aggD).snd.fst).getD k (0 : Int)))
        (VB (firE (emSi x w hs es ev ps) i.fst == (0 : Int))
        (NB (true && decide (i.snd = i.snd) && room (i.fst + (1 : Nat)) (8 : Nat))
        (∃ (i' : Nat × Nat),
        (i'.fst ≤ es.length ∧ firE (emEi x w hs es ev ps) i'.fst = (0 : Int)) ∧
        (invM3 x w hs es ev ps).μ i' < (invM3 x w hs es ev ps).μ i ∧
        ((evsA ev).sub (evsA ev) ∧
        ((0 : Nat) = (0 : Nat) ∧ (0 : Nat) = (0 : Nat) ∧ (0 : Nat) = (0 : Nat)) ∧
        ((0 : Nat) = (0 : Nat) ∧ (0 : Nat) = (0 : Nat) ∧ (0 : Nat) = (0 : Nat)) ∧
        (i.snd + (1 : Nat) = i'.snd ∧ (0 : Nat) = (0 : Nat) ∧ i.fst + (1 : Nat) = i'.fst ∧ (@Eq (Option Nat) none none ∨ @Eq (Option Nat) none none)) ∧
        (ofE (es.getD (↑i.fst : Int).toNat aggD).fst (nV x w hs es ev (psOf (mA ps)) (es.getD (↑i.fst : Int).toNat aggD).snd.fst).length fun (i_1 : Nat) =>
        (nV x w hs es ev (psOf (mA ps)) (es.getD (↑i.fst : Int).toNat aggD).snd.fst).getD i_1 (0 : Int)) =
        firE (emSi x w hs es ev ps) i'.fst ∧
        IntKind.i64.wrap ((↑i.fst : Int) + (1 : Int)) = (↑i'.fst : Int) ∧ True) ∧
        ((0 : Nat) = (0 : Nat) ∧ (true = true → true = true) ∧ ((qA x w hs es).sub (qA x w hs es) ∧ (qA x w hs es).cells.length = (qA x w hs es).cells.length) ∧ True) ∧
        ((0 : Nat) = (0 : Nat) ∧ (true = true → true = true) ∧ ((mA ps).sub (mA ps) ∧ (mA ps).cells.length = (mA ps).cells.length) ∧ True) ∧
        (i.snd + (1 : Nat) = i'.snd ∧
        (true = true → true = true) ∧
        i.fst + (1 : Nat) = i'.fst ∧
        ∀ (i_1 : Nat),
        i_1 < i.fst + (1 : Nat) →
        (if i_1 < i.fst then AV.int IntKind.i64 (emVi x w hs es ev ps ((0 : Nat) + i_1))
        else
        ((Sq.lst
        [AV.int IntKind.i64
        (ofV (es.getD (↑i.fst : Int).toNat aggD).fst (nV x w hs es ev (psOf (mA ps)) (es.getD (↑i.fst : Int).toNat aggD).snd.fst).length fun (i_2 : Nat) =>
        (nV x w hs es ev (psOf (mA ps)) (es.getD (↑i.fst : Int).toNat aggD).snd.fst).getD i_2 (0 : Int))]).sub
        (0 : Nat) (1 : Nat)).get
        (i_1 - i.fst)).sub
        (AV.int IntKind.i64 (emVi x w hs es ev ps i_1)) ∧
        (if i_1 < i.fst then AV.int IntKind.i64 (emVi x w hs es ev ps ((0 : Nat) + i_1))
        else
        ((Sq.lst
        [AV.int IntKind.i64
        (ofV (es.getD (↑i.fst : Int).toNat aggD).fst (nV x w hs es ev (psOf (mA ps)) (es.getD (↑i.fst : Int).toNat aggD).snd.fst).length
        fun (i_2 : Nat) => (nV x w hs es ev (psOf (mA ps)) (es.getD (↑i.fst : Int).toNat aggD).snd.fst).getD i_2 (0 : Int))]).sub
        (0 : Nat) (1 : Nat)).get
        (i_1 - i.fst)).cells.length =
        [AV.int IntKind.i64 (emVi x w hs es ev ps i_1)].length) ∧
        True))
        (NB (true && decide (i.snd = i.snd) && room (i.fst + (1 : Nat)) (8 : Nat))
        (∃ (i' : Nat × Nat),
        (i'.fst ≤ es.length ∧ firE (emEi x w hs es ev ps) i'.fst = (0 : Int)) ∧
        (invM3 x w hs es ev ps).μ i' < (invM3 x w hs es ev ps).μ i ∧
        ((evsA ev).sub (evsA ev) ∧
        ((0 : Nat) = (0 : Nat) ∧ (0 : Nat) = (0 : Nat) ∧ (0 : Nat) = (0 : Nat)) ∧
        ((0 : Nat) = (0 : Nat) ∧ (0 : Nat) = (0 : Nat) ∧ (0 : Nat) = (0 : Nat)) ∧
        (i.snd + (1 : Nat) = i'.snd ∧ (0 : Nat) = (0 : Nat) ∧ i.fst + (1 : Nat) = i'.fst ∧ (@Eq (Option Nat) none none ∨ @Eq (Option Nat) none none)) ∧
        firE (emSi x w hs es ev ps) i.fst = firE (emSi x w hs es ev ps) i'.fst ∧ IntKind.i64.wrap ((↑i.fst : Int) + (1 : Int)) = (↑i'.fst : Int) ∧ True) ∧
        ((0 : Nat) = (0 : Nat) ∧ (true = true → true = true) ∧ ((qA x w hs es).sub (qA x w hs es) ∧ (qA x w hs es).cells.length = (qA x w hs es).cells.length) ∧ True) ∧
        ((0 : Nat) = (0 : Nat) ∧ (true = true → true = true) ∧ ((mA ps).sub (mA ps) ∧ (mA ps).cells.length = (mA ps).cells.length) ∧ True) ∧
        (i.snd + (1 : Nat) = i'.snd ∧
        (true = true → true = true) ∧
        i.fst + (1 : Nat) = i'.fst ∧
        ∀ (i_1 : Nat),
        i_1 < i.fst + (1 : Nat) →
        (if i_1 < i.fst then AV.int IntKind.i64 (emVi x w hs es ev ps ((0 : Nat) + i_1))
        else
        ((Sq.lst
        [AV.int IntKind.i64
        (ofV (es.getD (↑i.fst : Int).toNat aggD).fst (nV x w hs es ev (psOf (mA ps)) (es.getD (↑i.fst : Int).toNat aggD).snd.fst).length fun (i_2 : Nat) =>
        (nV x w hs es ev (psOf (mA ps)) (es.getD (↑i.fst : Int).toNat aggD).snd.fst).getD i_2 (0 : Int))]).sub
        (0 : Nat) (1 : Nat)).get
        (i_1 - i.fst)).sub
        (AV.int IntKind.i64 (emVi x w hs es ev ps i_1)) ∧
        (if i_1 < i.fst then AV.int IntKind.i64 (emVi x w hs es ev ps ((0 : Nat) + i_1))
        else
        ((Sq.lst
        [AV.int IntKind.i64
        (ofV (es.getD (↑i.fst : Int).toNat aggD).fst (nV x w hs es ev (psOf (mA ps)) (es.getD (↑i.fst : Int).toNat aggD).snd.fst).length
        fun (i_2 : Nat) => (nV x w hs es ev (psOf (mA ps)) (es.getD (↑i.fst : Int).toNat aggD).snd.fst).getD i_2 (0 : Int))]).sub
        (0 : Nat) (1 : Nat)).get
        (i_1 - i.fst)).cells.length =
        [AV.int IntKind.i64 (emVi x w hs es ev ps i_1)].length) ∧
        True))))))))
        (VB (firE (emSi x w hs es ev ps) i.fst != (0 : Int)) (L.length = (0 : Nat) ∧ firE (emSi x w hs es ev ps) i.fst = s ∧ (0 : Int) = r ∧ True)
        (NB (decide (i.snd = i.snd) && true)
        ((i.fst = L.length ∧
        (∀ (i_1 : Nat),
        i_1 < i.fst →
        emVi x w hs es ev ps ((0 : Nat) + i_1) = L.getD i_1 (0 : Int) ∧ [AV.int IntKind.i64 (emVi x w hs es ev ps ((0 : Nat) + i_1))].length = [AV.int IntKind.i64 (L.getD i_1 (0 : Int))].length) ∧
        (false = true → decide (none = some i.fst) = true)) ∧
        (0 : Int) = s ∧ (0 : Int) = r ∧ True)))))) := by
  kernel_rfl

end Go.Proofs.YtamcloifhjafcaaDoor
