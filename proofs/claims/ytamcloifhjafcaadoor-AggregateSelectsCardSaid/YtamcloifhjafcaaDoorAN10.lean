/- NODES 10: light nodes and queries. -/
import Derived.Test.YtamcloifhjafcaaDoorAN9
namespace Go.Proofs.YtamcloifhjafcaaDoor
open Pw Go
set_option maxRecDepth 100000
set_option linter.unusedSimpArgs false
abbrev AggG := Int × List UInt8 × Unit
abbrev HaveG := AggG × CondG × Unit
abbrev aggD : AggG := (0, [], ())
abbrev haveD : HaveG := (aggD, condD, ())
abbrev aggA (a : AggG) : AV := .agg [.int .i64 a.1, .str a.2.1]
abbrev haveA (h : HaveG) : AV := .agg [.int .i64 h.1.1, .str h.1.2.1, .int .i64 h.2.1.1, .int .i64 h.2.1.2.1]
abbrev qA (x : NodeG) (w : Int) (hs : List HaveG) (es : List AggG) : AV :=
 .agg [.int .i64 x.val.1, .int .i64 x.val.2.1, .int .i64 x.val.2.2.1, .int .i64 (nat x).1, .bool (nat x).2.1, .int .u64 (nat x).2.2.1, condsA (ac (nat x)), .str (an (nat x)), .rof x.kids.length (fun i => nodeA 15 (x.kids.getD i treeD)) false,
  .int .u64 w, .rof hs.length (fun i => haveA (hs.getD i haveD)) false, .rof es.length (fun i => aggA (es.getD i aggD)) false]
def lightN (x : NodeG) : Bool := decide (weighS 8 x ≤ 40)
end Go.Proofs.YtamcloifhjafcaaDoor
namespace Go.Proofs.YtamcloifhjafcaaDoor
open Pw Go
set_option maxRecDepth 100000
set_option linter.unusedSimpArgs false
def lightQ (x : NodeG) (hs : List HaveG) (es : List AggG) : Bool := lightN x && decide (hs.length ≤ 10) && decide (es.length ≤ 10) && hs.all (fun h => decide (h.1.2.1.length ≤ 20)) && es.all (fun a => decide (a.2.1.length ≤ 20))
end Go.Proofs.YtamcloifhjafcaaDoor
