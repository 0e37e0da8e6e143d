/- NODES 37: selected matches: conditions of both codes. -/
import Derived.Test.YtamcloifhjafcaaDoorAN36
namespace Go.Proofs.YtamcloifhjafcaaDoor
open Pw Go
set_option maxRecDepth 100000
set_option linter.unusedSimpArgs false

abbrev MatG := List PlG × Unit
abbrev mtD : MatG := ([], ())
abbrev msA (l : List MatG) : AV := .rof l.length (fun i => mA (l.getD i mtD).1) false
def cCloneP : Ctr
  | [.rof n f _] => some (decide (n ≤ 1000) && (List.range n).all (fun i => isCond (f i)), .rof n (fun i => plA (plOf (f i))) false)
  | _ => none
section
variable (x : NodeG) (w : Int) (hs : List HaveG) (es : List AggG) (ev : List EvG)
noncomputable def cWan (b : Bool) : Ctr
  | [q, e, m] => some (gd x w hs es ev b q e m, .tup [.bool (wnB x w hs es ev (psOf m)), .int .i64 (wnE x w hs es ev (psOf m))])
  | _ => none
noncomputable def cEm (b : Bool) : Ctr
  | [q, e, m] => some (gd x w hs es ev b q e m, .tup [isA (emV x w hs es ev (psOf m)), .int .i64 (emS x w hs es ev (psOf m)), .int .i64 (emE x w hs es ev (psOf m))])
  | _ => none
variable (l : List MatG)
abbrev mEi (i : Nat) : Int := mE x w hs es ev (l.getD i mtD).1
abbrev wnEi (i : Nat) : Int := wnE x w hs es ev (l.getD i mtD).1
def selE : Int := if chkE x w hs es ≠ 0 then chkE x w hs es else if firE (mEi x w hs es ev l) l.length ≠ 0 then firE (mEi x w hs es ev l) l.length else firE (wnEi x w hs es ev l) l.length
def kpt (j : Nat) : List MatG := (l.take j).filter fun m => wnB x w hs es ev m.1
def selV : List MatG := if selE x w hs es ev l ≠ 0 then [] else kpt x w hs es ev l l.length
abbrev kptR (p : Nat × Nat) : Nat × Blk := (60, .row p.2 1 true (.fn (kpt x w hs es ev l p.1).length (fun k => mA ((kpt x w hs es ev l p.1).getD k mtD).1)))
def invSI1 : Inv := ⟨Nat, 50, fun i => ⟨[(1, evsA ev), (2, msA l), (3, .ptr 0 0 0 0), (22, msA l), (23, .int .i64 l.length), (24, .int .i64 i)], [(0, .row 0 12 true (.lst [qA x w hs es]))]⟩, fun i => i ≤ l.length ∧ firE (mEi x w hs es ev l) i = 0, fun i => l.length - i⟩
def invSI2 : Inv := ⟨Nat × Nat, 80, fun p => ⟨[(1, evsA ev), (3, .ptr 0 0 0 0), (12, .sl 60 p.2 0 (kpt x w hs es ev l p.1).length none), (36, msA l), (37, .int .i64 l.length), (38, .int .i64 p.1)], [(0, .row 0 12 true (.lst [qA x w hs es])), kptR x w hs es ev l p]⟩, fun p => p.1 ≤ l.length ∧ firE (wnEi x w hs es ev l) p.1 = 0, fun p => l.length - p.1⟩
def invSR1 : Inv := ⟨Nat, 50, fun i => ⟨[(1, evsA ev), (2, msA l), (3, .ptr 0 0 0 0), (9, .int .i64 i)], [(0, .row 0 12 true (.lst [qA x w hs es]))]⟩, fun i => i ≤ l.length ∧ firE (mEi x w hs es ev l) i = 0, fun i => l.length - i⟩
def invSR2 : Inv := ⟨Nat × Nat, 80, fun p => ⟨[(1, evsA ev), (2, msA l), (3, .ptr 0 0 0 0), (11, .sl 60 p.2 0 (kpt x w hs es ev l p.1).length none), (12, .int .i64 p.1)], [(0, .row 0 12 true (.lst [qA x w hs es])), kptR x w hs es ev l p]⟩, fun p => p.1 ≤ l.length ∧ firE (wnEi x w hs es ev l) p.1 = 0, fun p => l.length - p.1⟩
noncomputable def tblSl : List (Nat × Ctr) :=
  [(65, cAt [qA x w hs es] (.int .i64 (chkE x w hs es))), (49, cAt [qA x w hs es] (.int .i64 (chkE x w hs es))), (16, cChk x w hs es ev true), (17, cChk x w hs es ev true),
   (32, cWan x w hs es ev true), (33, cWan x w hs es ev true), (66, cCloneP)]
noncomputable def ESl : Env := { mkG Tryd.prog gN (tblOf (tblSl x w hs es ev)) (fun f b => if f = 36 ∧ b = 0 then some (invSI1 x w hs es ev l) else if f = 36 ∧ b = 2 then some (invSI2 x w hs es ev l) else if f = 37 ∧ b = 0 then some (invSR1 x w hs es ev l) else if f = 37 ∧ b = 2 then some (invSR2 x w hs es ev l) else none) 0 with fzs := fun f => if f = 37 then [63] else [] }
end

theorem cloneP_vc (l : List PlG) : (vcFun EQ 20 66 [plsA l] .nil 0 (retP 3 (plsA l))).sat = (
  ∀ (i : Bool),
    (i = true → l.length = (0 : Nat)) →
      VB (false ^^ i) (l.length = (0 : Nat))
        (NB (true && room ((0 : Nat) + l.length) (16 : Nat) && true && (l.length != (0 : Nat) || true))
        ((0 : Nat) + l.length = l.length ∧
        (∀ (i : Nat), i < (0 : Nat) + l.length → (plA (l.getD ((0 : Nat) + i) plD)).sub (plA (l.getD i plD)) ∧ (plA (l.getD ((0 : Nat) + i) plD)).cells.length = (plA (l.getD i plD)).cells.length) ∧
        (false = true → decide (none = some ((0 : Nat) + l.length)) = true)))) := by
  kernel_rfl

theorem selI_vc (x : NodeG) (w : Int) (hs : List HaveG) (es : List AggG) (ev : List EvG) (l L : List MatG) (r : Int) : (vcFun (ESl x w hs es ev l) 20 36 [qA x w hs es, evsA ev, msA l] .nil 0 (retP 5 (.tup [msA L, .int .i64 r]))).sat = (
  NB (atB [qA x w hs es] [qA x w hs es])
    (VB (chkE x w hs es != (0 : Int)) (L.length = (0 : Nat) ∧ chkE x w hs es = r ∧ True)
      ((∃ (i : Nat),
        (i ≤ l.length ∧ firE (mEi x w hs es ev l) i = (0 : Int)) ∧
        ((evsA ev).sub (evsA ev) ∧
        (msA l).sub (msA l) ∧ ((0 : Nat) = (0 : Nat) ∧ (0 : Nat) = (0 : Nat) ∧ (0 : Nat) = (0 : Nat)) ∧ (msA l).sub (msA l) ∧ (↑l.length : Int) = (↑l.length : Int) ∧ (0 : Int) = (↑i : Int) ∧ True) ∧
        ((0 : Nat) = (0 : Nat) ∧ (true = true → true = true) ∧ ((qA x w hs es).sub (qA x w hs es) ∧ (qA x w hs es).cells.length = (qA x w hs es).cells.length) ∧ True) ∧ True) ∧
        ∀ (i : Nat),
        i ≤ l.length ∧ firE (mEi x w hs es ev l) i = (0 : Int) →
        VB (decide ((↑i : Int) < (↑l.length : Int)))
        (NB (decide ((0 : Int) ≤ (↑i : Int) ∧ (↑i : Int) < (↑l.length : Int)))
        (NB (gd x w hs es ev true (qA x w hs es) (evsA ev) (mA (l.getD (↑i : Int).toNat mtD).fst))
        (VB (mE x w hs es ev (psOf (mA (l.getD (↑i : Int).toNat mtD).fst)) != (0 : Int)) (L.length = (0 : Nat) ∧ mE x w hs es ev (psOf (mA (l.getD (↑i : Int).toNat mtD).fst)) = r ∧ True)
        (∃ (i' : Nat),
        (i' ≤ l.length ∧ firE (mEi x w hs es ev l) i' = (0 : Int)) ∧
        (invSI1 x w hs es ev l).μ i' < (invSI1 x w hs es ev l).μ i ∧
        ((evsA ev).sub (evsA ev) ∧
        (msA l).sub (msA l) ∧
        ((0 : Nat) = (0 : Nat) ∧ (0 : Nat) = (0 : Nat) ∧ (0 : Nat) = (0 : Nat)) ∧
        (msA l).sub (msA l) ∧ (↑l.length : Int) = (↑l.length : Int) ∧ IntKind.i64.wrap ((↑i : Int) + (1 : Int)) = (↑i' : Int) ∧ True) ∧
        ((0 : Nat) = (0 : Nat) ∧ (true = true → true = true) ∧ ((qA x w hs es).sub (qA x w hs es) ∧ (qA x w hs es).cells.length = (qA x w hs es).cells.length) ∧ True) ∧ True))))
        ((∃ (i : Nat × Nat),
        (i.fst ≤ l.length ∧ firE (wnEi x w hs es ev l) i.fst = (0 : Int)) ∧
        ((evsA ev).sub (evsA ev) ∧
        ((0 : Nat) = (0 : Nat) ∧ (0 : Nat) = (0 : Nat) ∧ (0 : Nat) = (0 : Nat)) ∧
        ((kpt x w hs es ev l i.fst).length = (0 : Nat) ∧ i.snd = i.snd ∧ (kpt x w hs es ev l i.fst).length = (0 : Nat)) ∧
        (msA l).sub (msA l) ∧ (↑l.length : Int) = (↑l.length : Int) ∧ (0 : Int) = (↑i.fst : Int) ∧ True) ∧
        ((0 : Nat) = (0 : Nat) ∧ (true = true → true = true) ∧ ((qA x w hs es).sub (qA x w hs es) ∧ (qA x w hs es).cells.length = (qA x w hs es).cells.length) ∧ True) ∧
        (kpt x w hs es ev l i.fst).length = (0 : Nat) ∧ True) ∧
        ∀ (i : Nat × Nat),
        i.fst ≤ l.length ∧ firE (wnEi x w hs es ev l) i.fst = (0 : Int) →
        VB (decide ((↑i.fst : Int) < (↑l.length : Int)))
        (NB (decide ((0 : Int) ≤ (↑i.fst : Int) ∧ (↑i.fst : Int) < (↑l.length : Int)))
        (NB (gd x w hs es ev true (qA x w hs es) (evsA ev) (mA (l.getD (↑i.fst : Int).toNat mtD).fst))
        (VB (wnE x w hs es ev (psOf (mA (l.getD (↑i.fst : Int).toNat mtD).fst)) != (0 : Int)) (L.length = (0 : Nat) ∧ wnE x w hs es ev (psOf (mA (l.getD (↑i.fst : Int).toNat mtD).fst)) = r ∧ True)
        (VB (wnB x w hs es ev (psOf (mA (l.getD (↑i.fst : Int).toNat mtD).fst)))
        (NB
        (decide ((l.getD (↑i.fst : Int).toNat mtD).fst.length ≤ (1000 : Nat)) &&
        (List.range (l.getD (↑i.fst : Int).toNat mtD).fst.length).all fun (i_1 : Nat) => isCond (plA ((l.getD (↑i.fst : Int).toNat mtD).fst.getD i_1 plD)))
        (NB (true && decide (i.snd = i.snd) && room ((kpt x w hs es ev l i.fst).length + (1 : Nat)) (24 : Nat))
        (∃ (i' : Nat × Nat),
        (i'.fst ≤ l.length ∧ firE (wnEi x w hs es ev l) i'.fst = (0 : Int)) ∧
        (invSI2 x w hs es ev l).μ i' < (invSI2 x w hs es ev l).μ i ∧
        ((evsA ev).sub (evsA ev) ∧
        ((0 : Nat) = (0 : Nat) ∧ (0 : Nat) = (0 : Nat) ∧ (0 : Nat) = (0 : Nat)) ∧
        (i.snd + (1 : Nat) = i'.snd ∧
        (0 : Nat) = (0 : Nat) ∧ (kpt x w hs es ev l i.fst).length + (1 : Nat) = (kpt x w hs es ev l i'.fst).length ∧ (@Eq (Option Nat) none none ∨ @Eq (Option Nat) none none)) ∧
        (msA l).sub (msA l) ∧ (↑l.length : Int) = (↑l.length : Int) ∧ IntKind.i64.wrap ((↑i.fst : Int) + (1 : Int)) = (↑i'.fst : Int) ∧ True) ∧
        ((0 : Nat) = (0 : Nat) ∧ (true = true → true = true) ∧ ((qA x w hs es).sub (qA x w hs es) ∧ (qA x w hs es).cells.length = (qA x w hs es).cells.length) ∧ True) ∧
        (i.snd + (1 : Nat) = i'.snd ∧
        (true = true → true = true) ∧
        (kpt x w hs es ev l i.fst).length + (1 : Nat) = (kpt x w hs es ev l i'.fst).length ∧
        ∀ (i_1 : Nat),
        i_1 < (kpt x w hs es ev l i.fst).length + (1 : Nat) →
        (if i_1 < (kpt x w hs es ev l i.fst).length then mA ((kpt x w hs es ev l i.fst).getD ((0 : Nat) + i_1) mtD).fst
        else ((Sq.lst [mA (l.getD (↑i.fst : Int).toNat mtD).fst]).sub (0 : Nat) (1 : Nat)).get (i_1 - (kpt x w hs es ev l i.fst).length)).sub
        (AV.agg [plsA ((kpt x w hs es ev l i'.fst).getD i_1 mtD).fst]) ∧
        (if i_1 < (kpt x w hs es ev l i.fst).length then mA ((kpt x w hs es ev l i.fst).getD ((0 : Nat) + i_1) mtD).fst
        else ((Sq.lst [mA (l.getD (↑i.fst : Int).toNat mtD).fst]).sub (0 : Nat) (1 : Nat)).get (i_1 - (kpt x w hs es ev l i.fst).length)).cells.length =
        [plsA ((kpt x w hs es ev l i'.fst).getD i_1 mtD).fst].length) ∧
        True)))
        (∃ (i' : Nat × Nat),
        (i'.fst ≤ l.length ∧ firE (wnEi x w hs es ev l) i'.fst = (0 : Int)) ∧
        (invSI2 x w hs es ev l).μ i' < (invSI2 x w hs es ev l).μ i ∧
        ((evsA ev).sub (evsA ev) ∧
        ((0 : Nat) = (0 : Nat) ∧ (0 : Nat) = (0 : Nat) ∧ (0 : Nat) = (0 : Nat)) ∧
        (i.snd = i'.snd ∧ (0 : Nat) = (0 : Nat) ∧ (kpt x w hs es ev l i.fst).length = (kpt x w hs es ev l i'.fst).length ∧ (@Eq (Option Nat) none none ∨ @Eq (Option Nat) none none)) ∧
        (msA l).sub (msA l) ∧ (↑l.length : Int) = (↑l.length : Int) ∧ IntKind.i64.wrap ((↑i.fst : Int) + (1 : Int)) = (↑i'.fst : Int) ∧ True) ∧
        ((0 : Nat) = (0 : Nat) ∧ (true = true → true = true) ∧ ((qA x w hs es).sub (qA x w hs es) ∧ (qA x w hs es).cells.length = (qA x w hs es).cells.length) ∧ True) ∧
        (i.snd = i'.snd ∧
        (true = true → true = true) ∧
        (kpt x w hs es ev l i.fst).length = (kpt x w hs es ev l i'.fst).length ∧
        ∀ (i_1 : Nat),
        i_1 < (kpt x w hs es ev l i.fst).length →
        ((((kpt x w hs es ev l i.fst).getD i_1 mtD).fst.length = ((kpt x w hs es ev l i'.fst).getD i_1 mtD).fst.length ∧
        (∀ (i_2 : Nat),
        i_2 < ((kpt x w hs es ev l i.fst).getD i_1 mtD).fst.length →
        (plA (((kpt x w hs es ev l i.fst).getD i_1 mtD).fst.getD i_2 plD)).sub (plA (((kpt x w hs es ev l i'.fst).getD i_1 mtD).fst.getD i_2 plD)) ∧
        (plA (((kpt x w hs es ev l i.fst).getD i_1 mtD).fst.getD i_2 plD)).cells.length =
        (plA (((kpt x w hs es ev l i'.fst).getD i_1 mtD).fst.getD i_2 plD)).cells.length) ∧
        (false = true → false = true)) ∧
        True) ∧
        [plsA ((kpt x w hs es ev l i.fst).getD i_1 mtD).fst].length = [plsA ((kpt x w hs es ev l i'.fst).getD i_1 mtD).fst].length) ∧
        True)))))
        (NB (decide (i.snd = i.snd) && true)
        (((kpt x w hs es ev l i.fst).length = L.length ∧
        (∀ (i_1 : Nat),
        i_1 < (kpt x w hs es ev l i.fst).length →
        ((((kpt x w hs es ev l i.fst).getD ((0 : Nat) + i_1) mtD).fst.length = (L.getD i_1 mtD).fst.length ∧
        (∀ (i_2 : Nat),
        i_2 < ((kpt x w hs es ev l i.fst).getD ((0 : Nat) + i_1) mtD).fst.length →
        (plA (((kpt x w hs es ev l i.fst).getD ((0 : Nat) + i_1) mtD).fst.getD i_2 plD)).sub (plA ((L.getD i_1 mtD).fst.getD i_2 plD)) ∧
        (plA (((kpt x w hs es ev l i.fst).getD ((0 : Nat) + i_1) mtD).fst.getD i_2 plD)).cells.length = (plA ((L.getD i_1 mtD).fst.getD i_2 plD)).cells.length) ∧
        (false = true → false = true)) ∧
        True) ∧
        [plsA ((kpt x w hs es ev l i.fst).getD ((0 : Nat) + i_1) mtD).fst].length = [plsA (L.getD i_1 mtD).fst].length) ∧
        (false = true → decide (none = some (kpt x w hs es ev l i.fst).length) = true)) ∧
        (0 : Int) = r ∧ True)))))) := by
  kernel_rfl

theorem selR_vc (x : NodeG) (w : Int) (hs : List HaveG) (es : List AggG) (ev : List EvG) (l L : List MatG) (r : Int) : (vcFun (ESl x w hs es ev l) 20 37 [qA x w hs es, evsA ev, msA l] .nil 0 (retP 5 (.tup [msA L, .int .i64 r]))).sat = (
  NB (atB [qA x w hs es] [qA x w hs es])
    (VB (chkE x w hs es != (0 : Int)) (L.length = (0 : Nat) ∧ chkE x w hs es = r ∧ True)
      ((∃ (i : Nat),
        (i ≤ l.length ∧ firE (mEi x w hs es ev l) i = (0 : Int)) ∧
        ((evsA ev).sub (evsA ev) ∧ (msA l).sub (msA l) ∧ ((0 : Nat) = (0 : Nat) ∧ (0 : Nat) = (0 : Nat) ∧ (0 : Nat) = (0 : Nat)) ∧ (0 : Int) = (↑i : Int) ∧ True) ∧
        ((0 : Nat) = (0 : Nat) ∧ (true = true → true = true) ∧ ((qA x w hs es).sub (qA x w hs es) ∧ (qA x w hs es).cells.length = (qA x w hs es).cells.length) ∧ True) ∧ True) ∧
        ∀ (i : Nat),
        i ≤ l.length ∧ firE (mEi x w hs es ev l) i = (0 : Int) →
        VB (decide ((↑i : Int) < (↑l.length : Int)))
        (NB (decide ((0 : Int) ≤ (↑i : Int) ∧ (↑i : Int) < (↑l.length : Int)))
        (NB (gd x w hs es ev true (qA x w hs es) (evsA ev) (mA (l.getD (↑i : Int).toNat mtD).fst))
        (VB (mE x w hs es ev (psOf (mA (l.getD (↑i : Int).toNat mtD).fst)) != (0 : Int)) (L.length = (0 : Nat) ∧ mE x w hs es ev (psOf (mA (l.getD (↑i : Int).toNat mtD).fst)) = r ∧ True)
        (∃ (i' : Nat),
        (i' ≤ l.length ∧ firE (mEi x w hs es ev l) i' = (0 : Int)) ∧
        (invSR1 x w hs es ev l).μ i' < (invSR1 x w hs es ev l).μ i ∧
        ((evsA ev).sub (evsA ev) ∧ (msA l).sub (msA l) ∧ ((0 : Nat) = (0 : Nat) ∧ (0 : Nat) = (0 : Nat) ∧ (0 : Nat) = (0 : Nat)) ∧ IntKind.i64.wrap ((↑i : Int) + (1 : Int)) = (↑i' : Int) ∧ True) ∧
        ((0 : Nat) = (0 : Nat) ∧ (true = true → true = true) ∧ ((qA x w hs es).sub (qA x w hs es) ∧ (qA x w hs es).cells.length = (qA x w hs es).cells.length) ∧ True) ∧ True))))
        ((∃ (i : Nat × Nat),
        (i.fst ≤ l.length ∧ firE (wnEi x w hs es ev l) i.fst = (0 : Int)) ∧
        ((evsA ev).sub (evsA ev) ∧
        (msA l).sub (msA l) ∧
        ((0 : Nat) = (0 : Nat) ∧ (0 : Nat) = (0 : Nat) ∧ (0 : Nat) = (0 : Nat)) ∧
        ((kpt x w hs es ev l i.fst).length = (0 : Nat) ∧ i.snd = i.snd ∧ (kpt x w hs es ev l i.fst).length = (0 : Nat)) ∧ (0 : Int) = (↑i.fst : Int) ∧ True) ∧
        ((0 : Nat) = (0 : Nat) ∧ (true = true → true = true) ∧ ((qA x w hs es).sub (qA x w hs es) ∧ (qA x w hs es).cells.length = (qA x w hs es).cells.length) ∧ True) ∧
        (kpt x w hs es ev l i.fst).length = (0 : Nat) ∧ True) ∧
        ∀ (i : Nat × Nat),
        i.fst ≤ l.length ∧ firE (wnEi x w hs es ev l) i.fst = (0 : Int) →
        VB (decide ((↑i.fst : Int) < (↑l.length : Int)))
        (NB (decide ((0 : Int) ≤ (↑i.fst : Int) ∧ (↑i.fst : Int) < (↑l.length : Int)))
        (NB (gd x w hs es ev true (qA x w hs es) (evsA ev) (mA (l.getD (↑i.fst : Int).toNat mtD).fst))
        (VB (wnE x w hs es ev (psOf (mA (l.getD (↑i.fst : Int).toNat mtD).fst)) != (0 : Int)) (L.length = (0 : Nat) ∧ wnE x w hs es ev (psOf (mA (l.getD (↑i.fst : Int).toNat mtD).fst)) = r ∧ True)
        (VB (wnB x w hs es ev (psOf (mA (l.getD (↑i.fst : Int).toNat mtD).fst)))
        (NB (decide ((0 : Int) ≤ (↑i.fst : Int) ∧ (↑i.fst : Int) < (↑l.length : Int)))
        (NB (true && room ((0 : Nat) + (l.getD (↑i.fst : Int).toNat mtD).fst.length) (16 : Nat) && true && ((l.getD (↑i.fst : Int).toNat mtD).fst.length != (0 : Nat) || true))
        (NB (true && decide (i.snd = i.snd) && room ((kpt x w hs es ev l i.fst).length + (1 : Nat)) (24 : Nat))
        (∃ (i' : Nat × Nat),
        (i'.fst ≤ l.length ∧ firE (wnEi x w hs es ev l) i'.fst = (0 : Int)) ∧
        (invSR2 x w hs es ev l).μ i' < (invSR2 x w hs es ev l).μ i ∧
        ((evsA ev).sub (evsA ev) ∧
        (msA l).sub (msA l) ∧
        ((0 : Nat) = (0 : Nat) ∧ (0 : Nat) = (0 : Nat) ∧ (0 : Nat) = (0 : Nat)) ∧
        (i.snd + (1 : Nat) = i'.snd ∧
        (0 : Nat) = (0 : Nat) ∧
        (kpt x w hs es ev l i.fst).length + (1 : Nat) = (kpt x w hs es ev l i'.fst).length ∧ (@Eq (Option Nat) none none ∨ @Eq (Option Nat) none none)) ∧
        IntKind.i64.wrap ((↑i.fst : Int) + (1 : Int)) = (↑i'.fst : Int) ∧ True) ∧
        ((0 : Nat) = (0 : Nat) ∧ (true = true → true = true) ∧ ((qA x w hs es).sub (qA x w hs es) ∧ (qA x w hs es).cells.length = (qA x w hs es).cells.length) ∧ True) ∧
        (i.snd + (1 : Nat) = i'.snd ∧
        (true = true → true = true) ∧
        (kpt x w hs es ev l i.fst).length + (1 : Nat) = (kpt x w hs es ev l i'.fst).length ∧
        ∀ (i_1 : Nat),
        i_1 < (kpt x w hs es ev l i.fst).length + (1 : Nat) →
        (if i_1 < (kpt x w hs es ev l i.fst).length then mA ((kpt x w hs es ev l i.fst).getD ((0 : Nat) + i_1) mtD).fst
        else
        ((Sq.lst
        [AV.agg
        [AV.rof ((0 : Nat) + (l.getD (↑i.fst : Int).toNat mtD).fst.length)
        (fun (k : Nat) => plA ((l.getD (↑i.fst : Int).toNat mtD).fst.getD ((0 : Nat) + k) plD)) false]]).sub
        (0 : Nat) (1 : Nat)).get
        (i_1 - (kpt x w hs es ev l i.fst).length)).sub
        (AV.agg [plsA ((kpt x w hs es ev l i'.fst).getD i_1 mtD).fst]) ∧
        (if i_1 < (kpt x w hs es ev l i.fst).length then mA ((kpt x w hs es ev l i.fst).getD ((0 : Nat) + i_1) mtD).fst
        else
        ((Sq.lst
        [AV.agg
        [AV.rof ((0 : Nat) + (l.getD (↑i.fst : Int).toNat mtD).fst.length)
        (fun (k : Nat) => plA ((l.getD (↑i.fst : Int).toNat mtD).fst.getD ((0 : Nat) + k) plD)) false]]).sub
        (0 : Nat) (1 : Nat)).get
        (i_1 - (kpt x w hs es ev l i.fst).length)).cells.length =
        [plsA ((kpt x w hs es ev l i'.fst).getD i_1 mtD).fst].length) ∧
        True))))
        (∃ (i' : Nat × Nat),
        (i'.fst ≤ l.length ∧ firE (wnEi x w hs es ev l) i'.fst = (0 : Int)) ∧
        (invSR2 x w hs es ev l).μ i' < (invSR2 x w hs es ev l).μ i ∧
        ((evsA ev).sub (evsA ev) ∧
        (msA l).sub (msA l) ∧
        ((0 : Nat) = (0 : Nat) ∧ (0 : Nat) = (0 : Nat) ∧ (0 : Nat) = (0 : Nat)) ∧
        (i.snd = i'.snd ∧ (0 : Nat) = (0 : Nat) ∧ (kpt x w hs es ev l i.fst).length = (kpt x w hs es ev l i'.fst).length ∧ (@Eq (Option Nat) none none ∨ @Eq (Option Nat) none none)) ∧
        IntKind.i64.wrap ((↑i.fst : Int) + (1 : Int)) = (↑i'.fst : Int) ∧ True) ∧
        ((0 : Nat) = (0 : Nat) ∧ (true = true → true = true) ∧ ((qA x w hs es).sub (qA x w hs es) ∧ (qA x w hs es).cells.length = (qA x w hs es).cells.length) ∧ True) ∧
        (i.snd = i'.snd ∧
        (true = true → true = true) ∧
        (kpt x w hs es ev l i.fst).length = (kpt x w hs es ev l i'.fst).length ∧
        ∀ (i_1 : Nat),
        i_1 < (kpt x w hs es ev l i.fst).length →
        ((((kpt x w hs es ev l i.fst).getD i_1 mtD).fst.length = ((kpt x w hs es ev l i'.fst).getD i_1 mtD).fst.length ∧
        (∀ (i_2 : Nat),
        i_2 < ((kpt x w hs es ev l i.fst).getD i_1 mtD).fst.length →
        (plA (((kpt x w hs es ev l i.fst).getD i_1 mtD).fst.getD i_2 plD)).sub (plA (((kpt x w hs es ev l i'.fst).getD i_1 mtD).fst.getD i_2 plD)) ∧
        (plA (((kpt x w hs es ev l i.fst).getD i_1 mtD).fst.getD i_2 plD)).cells.length =
        (plA (((kpt x w hs es ev l i'.fst).getD i_1 mtD).fst.getD i_2 plD)).cells.length) ∧
        (false = true → false = true)) ∧
        True) ∧
        [plsA ((kpt x w hs es ev l i.fst).getD i_1 mtD).fst].length = [plsA ((kpt x w hs es ev l i'.fst).getD i_1 mtD).fst].length) ∧
        True)))))
        (NB (decide (i.snd = i.snd) && true)
        (((kpt x w hs es ev l i.fst).length = L.length ∧
        (∀ (i_1 : Nat),
        i_1 < (kpt x w hs es ev l i.fst).length →
        ((((kpt x w hs es ev l i.fst).getD ((0 : Nat) + i_1) mtD).fst.length = (L.getD i_1 mtD).fst.length ∧
        (∀ (i_2 : Nat),
        i_2 < ((kpt x w hs es ev l i.fst).getD ((0 : Nat) + i_1) mtD).fst.length →
        (plA (((kpt x w hs es ev l i.fst).getD ((0 : Nat) + i_1) mtD).fst.getD i_2 plD)).sub (plA ((L.getD i_1 mtD).fst.getD i_2 plD)) ∧
        (plA (((kpt x w hs es ev l i.fst).getD ((0 : Nat) + i_1) mtD).fst.getD i_2 plD)).cells.length = (plA ((L.getD i_1 mtD).fst.getD i_2 plD)).cells.length) ∧
        (false = true → false = true)) ∧
        True) ∧
        [plsA ((kpt x w hs es ev l i.fst).getD ((0 : Nat) + i_1) mtD).fst].length = [plsA (L.getD i_1 mtD).fst].length) ∧
        (false = true → decide (none = some (kpt x w hs es ev l i.fst).length) = true)) ∧
        (0 : Int) = r ∧ True)))))) := by
  kernel_rfl

end Go.Proofs.YtamcloifhjafcaaDoor
