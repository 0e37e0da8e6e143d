/- WELL-FORMED 1: the iterator of nodes, conditions. -/
import Derived.Test.YtamcloifhjafcaaDoorAN23
namespace Go.Proofs.YtamcloifhjafcaaDoor
open Pw Go
set_option maxRecDepth 100000
set_option linter.unusedSimpArgs false
def nds : Nat → NodeG → List NodeG
 | 0, _ => []
 | g + 1, x => x :: (x.kids.map (nds g)).flatten
end Go.Proofs.YtamcloifhjafcaaDoor
namespace Go.Proofs.YtamcloifhjafcaaDoor
open Pw Go
set_option maxRecDepth 100000
set_option linter.unusedSimpArgs false
end Go.Proofs.YtamcloifhjafcaaDoor
namespace Go.Proofs.YtamcloifhjafcaaDoor
open Pw Go
set_option maxRecDepth 100000
set_option linter.unusedSimpArgs false
def fulP (x : NodeG) : Bool := decide ((x.kids.length : Int) > 8) || decide (((ac (nat x)).length : Int) > 4)
def rngP (x : NodeG) : Bool := nk x == 1 && (decide (x.val.2.1 < 1) || decide (x.val.2.1 > x.val.2.2.1) || decide (x.val.2.2.1 > 6))
def badN (x : NodeG) (i : Nat) : Bool := nk (x.kids.getD i treeD) == 2 && (nk x != 3 || (i : Int) == 0 || (i : Int) == IntKind.i64.wrap ((x.kids.length : Int) - 1))
def stdP (x : NodeG) : Bool := (List.range x.kids.length).any fun i => badN x i
end Go.Proofs.YtamcloifhjafcaaDoor
namespace Go.Proofs.YtamcloifhjafcaaDoor
open Pw Go
set_option maxRecDepth 100000
set_option linter.unusedSimpArgs false
end Go.Proofs.YtamcloifhjafcaaDoor
namespace Go.Proofs.YtamcloifhjafcaaDoor
open Pw Go
set_option maxRecDepth 100000
set_option linter.unusedSimpArgs false
def mxS (a : Nat → Int) : Nat → Int
 | 0 => a 0
 | k + 1 => maxI (mxS a k) (a (k + 1))
abbrev dpi (x : NodeG) (i : Nat) : Int := ((elems 8 1 x).getD i (0, treeD)).1
def dpth (x : NodeG) : Int := if sndB x = true then mxS (dpi x) ((elems 8 1 x).length - 1) else 0
end Go.Proofs.YtamcloifhjafcaaDoor
namespace Go.Proofs.YtamcloifhjafcaaDoor
open Pw Go
set_option maxRecDepth 100000
set_option linter.unusedSimpArgs false
def usA (acc : List (List UInt8)) (n : List UInt8) : List (List UInt8) := if n ∈ acc then acc else acc ++ [n]
def usN (l : List (List UInt8)) : List (List UInt8) := l.foldl usA []
def nmsH (hs : List HaveG) : List (List UInt8) := hs.map fun h => h.1.2.1
def nmsE (es : List AggG) : List (List UInt8) := es.map fun a => a.2.1
def usE (hs : List HaveG) (es : List AggG) (i : Nat) : List (List UInt8) := usN (nmsH hs ++ (nmsE es).take i)
abbrev atsW (A : List AtomG) : AV := .rof A.length (fun k => atomA (A.getD k atomD)) false
def nmOf (A : List AtomG) (i : Nat) : List UInt8 := an (A.getD i atomD)
def seS (A : List AtomG) : Nat → List UInt8 → Bool
 | 0 => fun _ => false
 | i + 1 => if nmOf A i = [] then seS A i else fun s => if nmOf A i = s then true else seS A i s
def knS (A : List AtomG) (N : List Bool) : Nat → List UInt8 → Bool
 | 0 => fun _ => false
 | i + 1 => if nmOf A i = [] then knS A N i else fun s => if nmOf A i = s then !N.getD i false else knS A N i s
def wrS (A : List AtomG) (N : List Bool) : Nat → Bool
 | 0 => false
 | i + 1 => if nmOf A i = [] then wrS A N i else wrS A N i || N.getD i false
def duP (A : List AtomG) (i : Nat) : Bool := decide (nmOf A i ≠ []) && seS A i (nmOf A i)
def wrU (k : List UInt8 → Bool) (w0 : Bool) (U : List (List UInt8)) : Nat → Bool
 | 0 => w0
 | i + 1 => wrU k w0 U i || !k (U.getD i [])
end Go.Proofs.YtamcloifhjafcaaDoor
