/- NODES 37: selected matches: conditions of both codes. -/
import Derived.Test.YtamcloifhjafcaaDoorAN35
namespace Go.Proofs.YtamcloifhjafcaaDoor
open Pw Go
set_option maxRecDepth 100000
set_option linter.unusedSimpArgs false
abbrev MatG := List PlG × Unit
abbrev mtD : MatG := ([], ())
abbrev msA (l : List MatG) : AV := .rof l.length (fun i => mA (l.getD i mtD).1) false
def cCloneP : Ctr
 | [.rof n f _] => some (decide (n ≤ 1000) && (List.range n).all (fun i => isCond (f i)), .rof n (fun i => plA (plOf (f i))) false)
 | _ => none
section
variable (x : NodeG) (w : Int) (hs : List HaveG) (es : List AggG) (ev : List EvG)
noncomputable def cWan (b : Bool) : Ctr
 | [q, e, m] => some (gd x w hs es ev b q e m, .tup [.bool (wnB x w hs es ev (psOf m)), .int .i64 (wnE x w hs es ev (psOf m))])
 | _ => none
variable (l : List MatG)
abbrev mEi (i : Nat) : Int := mE x w hs es ev (l.getD i mtD).1
abbrev wnEi (i : Nat) : Int := wnE x w hs es ev (l.getD i mtD).1
def selE : Int := if chkE x w hs es ≠ 0 then chkE x w hs es else if firE (mEi x w hs es ev l) l.length ≠ 0 then firE (mEi x w hs es ev l) l.length else firE (wnEi x w hs es ev l) l.length
def kpt (j : Nat) : List MatG := (l.take j).filter fun m => wnB x w hs es ev m.1
def selV : List MatG := if selE x w hs es ev l ≠ 0 then [] else kpt x w hs es ev l l.length
abbrev kptR (p : Nat × Nat) : Nat × Blk := (60, .row p.2 1 true (.fn (kpt x w hs es ev l p.1).length (fun k => mA ((kpt x w hs es ev l p.1).getD k mtD).1)))
def invSI1 : Inv := ⟨Nat, 50, fun i => ⟨[(1, evsA ev), (2, msA l), (3, .ptr 0 0 0 0), (22, msA l), (23, .int .i64 l.length), (24, .int .i64 i)], [(0, .row 0 12 true (.lst [qA x w hs es]))]⟩, fun i => i ≤ l.length ∧ firE (mEi x w hs es ev l) i = 0, fun i => l.length - i⟩
def invSI2 : Inv := ⟨Nat × Nat, 80, fun p => ⟨[(1, evsA ev), (3, .ptr 0 0 0 0), (12, .sl 60 p.2 0 (kpt x w hs es ev l p.1).length none), (36, msA l), (37, .int .i64 l.length), (38, .int .i64 p.1)], [(0, .row 0 12 true (.lst [qA x w hs es])), kptR x w hs es ev l p]⟩, fun p => p.1 ≤ l.length ∧ firE (wnEi x w hs es ev l) p.1 = 0, fun p => l.length - p.1⟩
end
theorem cloneP_vc (l : List PlG) : (vcFun EQ 20 66 [plsA l] .nil 0 (retP 3 (plsA l))).sat = ( ∀ (i : Bool), (i = true → l.length = (0 : Nat)) → VB (false ^^ i) (l.length = (0 : Nat)) (NB (true && room ((0 : Nat) + l.length) (16 : Nat) && true && (l.length != (0 : Nat) || true)) ((0 : Nat) + l.length = l.length ∧ (∀ (i : Nat), i < (0 : Nat) + l.length → (plA (l.getD ((0 : Nat) + i) plD)).sub (plA (l.getD i plD)) ∧ (plA (l.getD ((0 : Nat) + i) plD)).cells.length = (plA (l.getD i plD)).cells.length) ∧ (false = true → decide (none = some ((0 : Nat) + l.length)) = true)))) := by
 kernel_rfl
end Go.Proofs.YtamcloifhjafcaaDoor
