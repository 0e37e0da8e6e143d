/- PRED 48: the law of atoms made of numbers, its code, for so many values. -/
import Derived.Test.YtjkkkldkimdajaaDoorP46
namespace Go.Proofs.YtjkkkldkimdajaaDoor
open Pw Go
set_option maxRecDepth 100000
set_option linter.unusedSimpArgs false

def nmX : List UInt8 := [120]
def kS (n : Int) : Int := n % 1073741824
def kindS (n : Int) : Int := (kS n).tmod 26
def bdS (n : Int) : Bool := (IntKind.i64.wrap ((kS n).tdiv 26)).tmod 2 == 1
def boS (n : Int) : Int := if bdS n = true then labS (IntKind.i64.wrap ((kS n).tdiv 52)) else 0
def opA (n i : Int) : Int := 1 + (IntKind.i64.wrap (IntKind.i64.wrap ((kS n).tdiv 52) + i)) % 6
def cAt (n : Int) (vs : Nat → Int) (i : Nat) (j : Int) : AV := .agg [.int .i64 (1 + (IntKind.i64.wrap (IntKind.i64.wrap ((kS n).tdiv 52) + j)) % 6), .int .i64 (vs i)]
def cMore (more x : Int) : AV := .agg [.int .i64 (1 + more % 6), .int .i64 x]
def bo2S (n more : Int) : Int := if bdS n = true then andI .u64 (boS n) (labS more) else boS n
def atA (n : Int) (cs : List AV) : AtomA := ⟨kindS n, bdS n, boS n, cs.length, fun i => cs.getD i .undef, nmX⟩
def atL (n more : Int) (cs : List AV) : AtomA := ⟨kindS n, bdS n, bo2S n more, cs.length, fun i => cs.getD i .undef, nmX⟩
def AtomA.mB (a : AtomA) (l ek x : Int) : Bool := MatB a.k a.bd a.bo a.n a.o a.v a.nm l ek x
def AtomA.mE (a : AtomA) (ek : Int) : Int := MatE a.k a.bd a.bo a.n a.o a.nm ek
def rolA (a : AtomA) (cs : List AV) : AV := .agg [.int .i64 a.k, .bool a.bd, .int .u64 a.bo, .rol cs false, .str nmX]
def rolN (a : AtomA) : AV := .agg [.int .i64 a.k, .bool a.bd, .int .u64 a.bo, .nils, .str nmX]
def atsT (x y : AV) : Ats := atsOf fun j => nrmA ([x, y, x].getD j .undef)
def w1S (a : Bool) : List Int := if a = true then [0] else []
def w2S (a b : Bool) : List Int := if b = true then w1S a ++ [1] else w1S a
def w3S (a b : Bool) : List Int := if a = true then w2S a b ++ [2] else w2S a b
def evRow' (l k x : Int) : Blk := .row 0 3 true (.lst [.agg [.int .u64 l, .int .i64 k, .int .i64 x]])
def wRow (g : Nat) (w : List Int) : Blk := .row g 1 true (.fn w.length (fun k => .int .i64 (w.getD k 0)))
def unitI (nx : Nat) (s : Pw.Spec) : Inv := ⟨Unit, nx, fun _ => s, fun _ => True, fun _ => 0⟩
def j6 (m : Nat) (vs : Nat → Int) (n more l ek x : Int) : Inv := unitI 10 ⟨[(1, .rof m (fun i => .int .i64 (vs i)) false), (3, .int .i64 more), (6, .ptr 0 0 0 0), (9, .bool true), (10, .int .i64 (kS n)), (11, .ptr 1 0 0 0)],
  [(0, evRow' l ek x), (1, .row 0 5 true (.lst [.agg [.int .i64 (kindS n), .bool (bdS n), .int .u64 (boS n), .nils, .str [120]]]))]⟩
def jEnd (nx : Nat) (w : List Int) (isB was : Bool) (i : Int) (A : Ats) (l ek x : Int) : Inv := ⟨Nat, nx, fun g => ⟨[(9, .bool true), (13, .bool isB), (20, .bool was), (21, .int .i64 i), (22, .rof (if allE A 3 ek = 0 then whN A l ek x 3 else 0) (fun k => .int .i64 (whV A l ek x 3 k)) false), (23, .int .i64 (allE A 3 ek)), (24, .sl 91 g 0 w.length none)], [(91, wRow g w)]⟩, fun _ => True, fun _ => 0⟩
def j24 (isB was : Bool) (i : Int) (A : Ats) (l ek x : Int) : Inv := unitI 90 ⟨[(9, .bool true), (13, .bool isB), (20, .bool was), (21, .int .i64 i), (22, .rof (if allE A 3 ek = 0 then whN A l ek x 3 else 0) (fun k => .int .i64 (whV A l ek x 3 k)) false), (23, .int .i64 (allE A 3 ek))], []⟩
def isS0 (_vs : Nat → Int) (n _more l _ek x : Int) : Bool := AtomA.mB (atA n []) l (kindS n) x
def wasS0 (_vs : Nat → Int) (n more l _ek x : Int) : Bool := AtomA.mB (atL n more [cMore more x]) l (kindS n) x
def ats0 (_vs : Nat → Int) (n more x : Int) : Ats := atsT (rolN (atA n [])) (rolA (atL n more [cMore more x]) [cMore more x])
def inv0 (m : Nat) (vs : Nat → Int) (n more l ek x : Int) (r : Nat) : Option Inv :=
  if r = 6 then some (j6 m vs n more l ek x)
  else if r = 10 then some (unitI 30 ⟨[(3, .int .i64 more), (6, .ptr 0 0 0 0), (9, .bool true), (11, .ptr 1 0 0 0)], [(0, evRow' l ek x), (1, .row 0 5 true (.lst [.agg [.int .i64 (kindS n), .bool (bdS n), .int .u64 (boS n), .nils, .str [120]]]))]⟩)
  else if r = 18 then some (unitI 50 ⟨[(3, .int .i64 more), (6, .ptr 0 0 0 0), (9, .bool true), (11, .ptr 1 0 0 0), (13, .bool (isS0 vs n more l ek x))], [(0, evRow' l (kindS n) x), (1, .row 0 5 true (.lst [.agg [.int .i64 (kindS n), .bool (bdS n), .int .u64 (boS n), .nils, .str [120]]]))]⟩)
  else if r = 22 then some (unitI 70 ⟨[(6, .ptr 0 0 0 0), (9, .bool true), (11, .ptr 1 0 0 0), (13, .bool (isS0 vs n more l ek x)), (19, .ptr 58 0 0 0)], [(0, evRow' l (kindS n) x), (1, .row 0 5 true (.lst [.agg [.int .i64 (kindS n), .bool (bdS n), .int .u64 (boS n), .nils, .str [120]]])), (55, .row 1 2 true (.lst [cMore more x])), (58, .row 0 5 false (.lst [.agg [.int .i64 (kindS n), .bool (bdS n), .int .u64 (bo2S n more), .sl 55 1 0 1 none, .str [120]]]))]⟩)
  else if r = 24 then some (j24 (isS0 vs n more l ek x) (wasS0 vs n more l ek x) (AtomA.mE (atL n more [cMore more x]) (kindS n)) (ats0 vs n more x) l (kindS n) x)
  else if r = 27 then some (jEnd 100 (w1S (isS0 vs n more l ek x)) (isS0 vs n more l ek x) (wasS0 vs n more l ek x) (AtomA.mE (atL n more [cMore more x]) (kindS n)) (ats0 vs n more x) l (kindS n) x)
  else if r = 29 then some (jEnd 110 (w2S (isS0 vs n more l ek x) (wasS0 vs n more l ek x)) (isS0 vs n more l ek x) (wasS0 vs n more l ek x) (AtomA.mE (atL n more [cMore more x]) (kindS n)) (ats0 vs n more x) l (kindS n) x)
  else if r = 31 then some (jEnd 120 (w3S (isS0 vs n more l ek x) (wasS0 vs n more l ek x)) (isS0 vs n more l ek x) (wasS0 vs n more l ek x) (AtomA.mE (atL n more [cMore more x]) (kindS n)) (ats0 vs n more x) l (kindS n) x)
  else none
def isS1 (vs : Nat → Int) (n _more l _ek x : Int) : Bool := AtomA.mB (atA n [cAt n vs 0 0]) l (kindS n) x
def wasS1 (vs : Nat → Int) (n more l _ek x : Int) : Bool := AtomA.mB (atL n more [cAt n vs 0 0, cMore more x]) l (kindS n) x
def ats1 (vs : Nat → Int) (n more x : Int) : Ats := atsT (rolA (atA n [cAt n vs 0 0]) [cAt n vs 0 0]) (rolA (atL n more [cAt n vs 0 0, cMore more x]) [cAt n vs 0 0, cMore more x])
def inv1 (m : Nat) (vs : Nat → Int) (n more l ek x : Int) (r : Nat) : Option Inv :=
  if r = 6 then some (j6 m vs n more l ek x)
  else if r = 10 then some (unitI 30 ⟨[(3, .int .i64 more), (6, .ptr 0 0 0 0), (9, .bool true), (11, .ptr 1 0 0 0)], [(0, evRow' l ek x), (1, .row 0 5 false (.lst [.agg [.int .i64 (kindS n), .bool (bdS n), .int .u64 (boS n), .sl 11 0 0 1 none, .str [120]]])), (11, .row 0 2 true (.lst [cAt n vs 0 0]))]⟩)
  else if r = 18 then some (unitI 50 ⟨[(3, .int .i64 more), (6, .ptr 0 0 0 0), (9, .bool true), (11, .ptr 1 0 0 0), (13, .bool (isS1 vs n more l ek x))], [(0, evRow' l (kindS n) x), (1, .row 0 5 false (.lst [.agg [.int .i64 (kindS n), .bool (bdS n), .int .u64 (boS n), .sl 11 0 0 1 none, .str [120]]])), (11, .row 0 2 true (.lst [cAt n vs 0 0]))]⟩)
  else if r = 22 then some (unitI 70 ⟨[(6, .ptr 0 0 0 0), (9, .bool true), (11, .ptr 1 0 0 0), (13, .bool (isS1 vs n more l ek x)), (19, .ptr 58 0 0 0)], [(0, evRow' l (kindS n) x), (1, .row 0 5 false (.lst [.agg [.int .i64 (kindS n), .bool (bdS n), .int .u64 (boS n), .sl 11 0 0 1 none, .str [120]]])), (11, .row 0 2 true (.lst [cAt n vs 0 0])), (55, .row 1 2 true (.lst [cAt n vs 0 0, cMore more x])), (58, .row 0 5 false (.lst [.agg [.int .i64 (kindS n), .bool (bdS n), .int .u64 (bo2S n more), .sl 55 1 0 2 none, .str [120]]]))]⟩)
  else if r = 24 then some (j24 (isS1 vs n more l ek x) (wasS1 vs n more l ek x) (AtomA.mE (atL n more [cAt n vs 0 0, cMore more x]) (kindS n)) (ats1 vs n more x) l (kindS n) x)
  else if r = 27 then some (jEnd 100 (w1S (isS1 vs n more l ek x)) (isS1 vs n more l ek x) (wasS1 vs n more l ek x) (AtomA.mE (atL n more [cAt n vs 0 0, cMore more x]) (kindS n)) (ats1 vs n more x) l (kindS n) x)
  else if r = 29 then some (jEnd 110 (w2S (isS1 vs n more l ek x) (wasS1 vs n more l ek x)) (isS1 vs n more l ek x) (wasS1 vs n more l ek x) (AtomA.mE (atL n more [cAt n vs 0 0, cMore more x]) (kindS n)) (ats1 vs n more x) l (kindS n) x)
  else if r = 31 then some (jEnd 120 (w3S (isS1 vs n more l ek x) (wasS1 vs n more l ek x)) (isS1 vs n more l ek x) (wasS1 vs n more l ek x) (AtomA.mE (atL n more [cAt n vs 0 0, cMore more x]) (kindS n)) (ats1 vs n more x) l (kindS n) x)
  else none
def isS2 (vs : Nat → Int) (n _more l _ek x : Int) : Bool := AtomA.mB (atA n [cAt n vs 0 0, cAt n vs 1 1]) l (kindS n) x
def wasS2 (vs : Nat → Int) (n more l _ek x : Int) : Bool := AtomA.mB (atL n more [cAt n vs 0 0, cAt n vs 1 1, cMore more x]) l (kindS n) x
def ats2 (vs : Nat → Int) (n more x : Int) : Ats := atsT (rolA (atA n [cAt n vs 0 0, cAt n vs 1 1]) [cAt n vs 0 0, cAt n vs 1 1]) (rolA (atL n more [cAt n vs 0 0, cAt n vs 1 1, cMore more x]) [cAt n vs 0 0, cAt n vs 1 1, cMore more x])
def inv2 (m : Nat) (vs : Nat → Int) (n more l ek x : Int) (r : Nat) : Option Inv :=
  if r = 6 then some (j6 m vs n more l ek x)
  else if r = 10 then some (unitI 30 ⟨[(3, .int .i64 more), (6, .ptr 0 0 0 0), (9, .bool true), (11, .ptr 1 0 0 0)], [(0, evRow' l ek x), (1, .row 0 5 false (.lst [.agg [.int .i64 (kindS n), .bool (bdS n), .int .u64 (boS n), .sl 11 1 0 2 none, .str [120]]])), (11, .row 1 2 true (.lst [cAt n vs 0 0, cAt n vs 1 1]))]⟩)
  else if r = 18 then some (unitI 50 ⟨[(3, .int .i64 more), (6, .ptr 0 0 0 0), (9, .bool true), (11, .ptr 1 0 0 0), (13, .bool (isS2 vs n more l ek x))], [(0, evRow' l (kindS n) x), (1, .row 0 5 false (.lst [.agg [.int .i64 (kindS n), .bool (bdS n), .int .u64 (boS n), .sl 11 1 0 2 none, .str [120]]])), (11, .row 1 2 true (.lst [cAt n vs 0 0, cAt n vs 1 1]))]⟩)
  else if r = 22 then some (unitI 70 ⟨[(6, .ptr 0 0 0 0), (9, .bool true), (11, .ptr 1 0 0 0), (13, .bool (isS2 vs n more l ek x)), (19, .ptr 58 0 0 0)], [(0, evRow' l (kindS n) x), (1, .row 0 5 false (.lst [.agg [.int .i64 (kindS n), .bool (bdS n), .int .u64 (boS n), .sl 11 1 0 2 none, .str [120]]])), (11, .row 1 2 true (.lst [cAt n vs 0 0, cAt n vs 1 1])), (55, .row 1 2 true (.lst [cAt n vs 0 0, cAt n vs 1 1, cMore more x])), (58, .row 0 5 false (.lst [.agg [.int .i64 (kindS n), .bool (bdS n), .int .u64 (bo2S n more), .sl 55 1 0 3 none, .str [120]]]))]⟩)
  else if r = 24 then some (j24 (isS2 vs n more l ek x) (wasS2 vs n more l ek x) (AtomA.mE (atL n more [cAt n vs 0 0, cAt n vs 1 1, cMore more x]) (kindS n)) (ats2 vs n more x) l (kindS n) x)
  else if r = 27 then some (jEnd 100 (w1S (isS2 vs n more l ek x)) (isS2 vs n more l ek x) (wasS2 vs n more l ek x) (AtomA.mE (atL n more [cAt n vs 0 0, cAt n vs 1 1, cMore more x]) (kindS n)) (ats2 vs n more x) l (kindS n) x)
  else if r = 29 then some (jEnd 110 (w2S (isS2 vs n more l ek x) (wasS2 vs n more l ek x)) (isS2 vs n more l ek x) (wasS2 vs n more l ek x) (AtomA.mE (atL n more [cAt n vs 0 0, cAt n vs 1 1, cMore more x]) (kindS n)) (ats2 vs n more x) l (kindS n) x)
  else if r = 31 then some (jEnd 120 (w3S (isS2 vs n more l ek x) (wasS2 vs n more l ek x)) (isS2 vs n more l ek x) (wasS2 vs n more l ek x) (AtomA.mE (atL n more [cAt n vs 0 0, cAt n vs 1 1, cMore more x]) (kindS n)) (ats2 vs n more x) l (kindS n) x)
  else none
def isS3 (vs : Nat → Int) (n _more l _ek x : Int) : Bool := AtomA.mB (atA n [cAt n vs 0 0, cAt n vs 1 1, cAt n vs 2 2]) l (kindS n) x
def wasS3 (vs : Nat → Int) (n more l _ek x : Int) : Bool := AtomA.mB (atL n more [cAt n vs 0 0, cAt n vs 1 1, cAt n vs 2 2, cMore more x]) l (kindS n) x
def ats3 (vs : Nat → Int) (n more x : Int) : Ats := atsT (rolA (atA n [cAt n vs 0 0, cAt n vs 1 1, cAt n vs 2 2]) [cAt n vs 0 0, cAt n vs 1 1, cAt n vs 2 2]) (rolA (atL n more [cAt n vs 0 0, cAt n vs 1 1, cAt n vs 2 2, cMore more x]) [cAt n vs 0 0, cAt n vs 1 1, cAt n vs 2 2, cMore more x])
def inv3 (m : Nat) (vs : Nat → Int) (n more l ek x : Int) (r : Nat) : Option Inv :=
  if r = 6 then some (j6 m vs n more l ek x)
  else if r = 10 then some (unitI 30 ⟨[(3, .int .i64 more), (6, .ptr 0 0 0 0), (9, .bool true), (11, .ptr 1 0 0 0)], [(0, evRow' l ek x), (1, .row 0 5 false (.lst [.agg [.int .i64 (kindS n), .bool (bdS n), .int .u64 (boS n), .sl 11 2 0 3 none, .str [120]]])), (11, .row 2 2 true (.lst [cAt n vs 0 0, cAt n vs 1 1, cAt n vs 2 2]))]⟩)
  else if r = 18 then some (unitI 50 ⟨[(3, .int .i64 more), (6, .ptr 0 0 0 0), (9, .bool true), (11, .ptr 1 0 0 0), (13, .bool (isS3 vs n more l ek x))], [(0, evRow' l (kindS n) x), (1, .row 0 5 false (.lst [.agg [.int .i64 (kindS n), .bool (bdS n), .int .u64 (boS n), .sl 11 2 0 3 none, .str [120]]])), (11, .row 2 2 true (.lst [cAt n vs 0 0, cAt n vs 1 1, cAt n vs 2 2]))]⟩)
  else if r = 22 then some (unitI 70 ⟨[(6, .ptr 0 0 0 0), (9, .bool true), (11, .ptr 1 0 0 0), (13, .bool (isS3 vs n more l ek x)), (19, .ptr 58 0 0 0)], [(0, evRow' l (kindS n) x), (1, .row 0 5 false (.lst [.agg [.int .i64 (kindS n), .bool (bdS n), .int .u64 (boS n), .sl 11 2 0 3 none, .str [120]]])), (11, .row 2 2 true (.lst [cAt n vs 0 0, cAt n vs 1 1, cAt n vs 2 2])), (55, .row 1 2 true (.lst [cAt n vs 0 0, cAt n vs 1 1, cAt n vs 2 2, cMore more x])), (58, .row 0 5 false (.lst [.agg [.int .i64 (kindS n), .bool (bdS n), .int .u64 (bo2S n more), .sl 55 1 0 4 none, .str [120]]]))]⟩)
  else if r = 24 then some (j24 (isS3 vs n more l ek x) (wasS3 vs n more l ek x) (AtomA.mE (atL n more [cAt n vs 0 0, cAt n vs 1 1, cAt n vs 2 2, cMore more x]) (kindS n)) (ats3 vs n more x) l (kindS n) x)
  else if r = 27 then some (jEnd 100 (w1S (isS3 vs n more l ek x)) (isS3 vs n more l ek x) (wasS3 vs n more l ek x) (AtomA.mE (atL n more [cAt n vs 0 0, cAt n vs 1 1, cAt n vs 2 2, cMore more x]) (kindS n)) (ats3 vs n more x) l (kindS n) x)
  else if r = 29 then some (jEnd 110 (w2S (isS3 vs n more l ek x) (wasS3 vs n more l ek x)) (isS3 vs n more l ek x) (wasS3 vs n more l ek x) (AtomA.mE (atL n more [cAt n vs 0 0, cAt n vs 1 1, cAt n vs 2 2, cMore more x]) (kindS n)) (ats3 vs n more x) l (kindS n) x)
  else if r = 31 then some (jEnd 120 (w3S (isS3 vs n more l ek x) (wasS3 vs n more l ek x)) (isS3 vs n more l ek x) (wasS3 vs n more l ek x) (AtomA.mE (atL n more [cAt n vs 0 0, cAt n vs 1 1, cAt n vs 2 2, cMore more x]) (kindS n)) (ats3 vs n more x) l (kindS n) x)
  else none

theorem nar0_vc (vs : Nat → Int) (n more l ek x : Int) : (vcFun (mkN Tryd.prog gN (tblOf tblP) (tblOf tblPN) (fun f b => if f = 9 ∧ 100000 ≤ b then inv0 0 vs n more l ek x (b - 100000) else none) 5) 20 9 [.int .i64 n, .rof 0 (fun i => .int .i64 (vs i)) false, .agg [.int .u64 l, .int .i64 ek, .int .i64 x], .int .i64 more] .nil 0 (isBool true)).sat = (
  VB ((IntKind.i64.wrap ((n % (1073741824 : Int)).tdiv (26 : Int))).tmod (2 : Int) == (1 : Int))
      (∃ (_ : Unit),
        True ∧
          (((0 : Nat) = (0 : Nat) ∧ (∀ (i : Nat), i < (0 : Nat) → vs i = vs i ∧ [AV.int IntKind.i64 (vs i)].length = [AV.int IntKind.i64 (vs i)].length) ∧ (false = true → false = true)) ∧
              more = more ∧
                ((0 : Nat) = (0 : Nat) ∧ (0 : Nat) = (0 : Nat) ∧ (0 : Nat) = (0 : Nat)) ∧ true = true ∧ n % (1073741824 : Int) = kS n ∧ ((0 : Nat) = (0 : Nat) ∧ (0 : Nat) = (0 : Nat) ∧ (0 : Nat) = (0 : Nat)) ∧ True) ∧
            ((0 : Nat) = (0 : Nat) ∧
                (true = true → true = true) ∧
                  ((l = l ∧ ek = ek ∧ x = x ∧ True) ∧ [AV.int IntKind.u64 l, AV.int IntKind.i64 ek, AV.int IntKind.i64 x].length = [AV.int IntKind.u64 l, AV.int IntKind.i64 ek, AV.int IntKind.i64 x].length) ∧ True) ∧
              ((0 : Nat) = (0 : Nat) ∧
                  (true = true → true = true) ∧
                    (((n % (1073741824 : Int)).tmod (26 : Int) = kindS n ∧
                          ((IntKind.i64.wrap ((n % (1073741824 : Int)).tdiv (26 : Int))).tmod (2 : Int) == (1 : Int)) = bdS n ∧
                            labS (IntKind.i64.wrap ((n % (1073741824 : Int)).tdiv (52 : Int))) = boS n ∧ True ∧ [(120 : UInt8)] = [(120 : UInt8)] ∧ True) ∧
                        [AV.int IntKind.i64 ((n % (1073741824 : Int)).tmod (26 : Int)), AV.bool ((IntKind.i64.wrap ((n % (1073741824 : Int)).tdiv (26 : Int))).tmod (2 : Int) == (1 : Int)),
                              AV.int IntKind.u64 (labS (IntKind.i64.wrap ((n % (1073741824 : Int)).tdiv (52 : Int)))), AV.nils, AV.str [(120 : UInt8)]].length =
                          [AV.int IntKind.i64 (kindS n), AV.bool (bdS n), AV.int IntKind.u64 (boS n), AV.nils, AV.str [(120 : UInt8)]].length) ∧
                      True) ∧
                True)
      (∃ (_ : Unit),
        True ∧
          (((0 : Nat) = (0 : Nat) ∧ (∀ (i : Nat), i < (0 : Nat) → vs i = vs i ∧ [AV.int IntKind.i64 (vs i)].length = [AV.int IntKind.i64 (vs i)].length) ∧ (false = true → false = true)) ∧
              more = more ∧
                ((0 : Nat) = (0 : Nat) ∧ (0 : Nat) = (0 : Nat) ∧ (0 : Nat) = (0 : Nat)) ∧ true = true ∧ n % (1073741824 : Int) = kS n ∧ ((0 : Nat) = (0 : Nat) ∧ (0 : Nat) = (0 : Nat) ∧ (0 : Nat) = (0 : Nat)) ∧ True) ∧
            ((0 : Nat) = (0 : Nat) ∧
                (true = true → true = true) ∧
                  ((l = l ∧ ek = ek ∧ x = x ∧ True) ∧ [AV.int IntKind.u64 l, AV.int IntKind.i64 ek, AV.int IntKind.i64 x].length = [AV.int IntKind.u64 l, AV.int IntKind.i64 ek, AV.int IntKind.i64 x].length) ∧ True) ∧
              ((0 : Nat) = (0 : Nat) ∧
                  (true = true → true = true) ∧
                    (((n % (1073741824 : Int)).tmod (26 : Int) = kindS n ∧
                          ((IntKind.i64.wrap ((n % (1073741824 : Int)).tdiv (26 : Int))).tmod (2 : Int) == (1 : Int)) = bdS n ∧ (0 : Int) = boS n ∧ True ∧ [(120 : UInt8)] = [(120 : UInt8)] ∧ True) ∧
                        [AV.int IntKind.i64 ((n % (1073741824 : Int)).tmod (26 : Int)), AV.bool ((IntKind.i64.wrap ((n % (1073741824 : Int)).tdiv (26 : Int))).tmod (2 : Int) == (1 : Int)), AV.int IntKind.u64 (0 : Int),
                              AV.nils, AV.str [(120 : UInt8)]].length =
                          [AV.int IntKind.i64 (kindS n), AV.bool (bdS n), AV.int IntKind.u64 (boS n), AV.nils, AV.str [(120 : UInt8)]].length) ∧
                      True) ∧
                True) ∧
    ∀ (_ : Unit),
      True →
        (∃ (_ : Unit),
            True ∧
              (more = more ∧ ((0 : Nat) = (0 : Nat) ∧ (0 : Nat) = (0 : Nat) ∧ (0 : Nat) = (0 : Nat)) ∧ true = true ∧ ((0 : Nat) = (0 : Nat) ∧ (0 : Nat) = (0 : Nat) ∧ (0 : Nat) = (0 : Nat)) ∧ True) ∧
                ((0 : Nat) = (0 : Nat) ∧
                    (true = true → true = true) ∧
                      ((l = l ∧ ek = ek ∧ x = x ∧ True) ∧ [AV.int IntKind.u64 l, AV.int IntKind.i64 ek, AV.int IntKind.i64 x].length = [AV.int IntKind.u64 l, AV.int IntKind.i64 ek, AV.int IntKind.i64 x].length) ∧ True) ∧
                  ((0 : Nat) = (0 : Nat) ∧
                      (true = true → true = true) ∧
                        ((kindS n = kindS n ∧ bdS n = bdS n ∧ boS n = boS n ∧ True ∧ [(120 : UInt8)] = [(120 : UInt8)] ∧ True) ∧
                            [AV.int IntKind.i64 (kindS n), AV.bool (bdS n), AV.int IntKind.u64 (boS n), AV.nils, AV.str [(120 : UInt8)]].length =
                              [AV.int IntKind.i64 (kindS n), AV.bool (bdS n), AV.int IntKind.u64 (boS n), AV.nils, AV.str [(120 : UInt8)]].length) ∧
                          True) ∧
                    True) ∧
          ∀ (_ : Unit),
            True →
              NB (condsB (0 : Nat) nilF && nmB [(120 : UInt8)] && u64B l && u64B (boS n))
                (VB
                  (MatE (kindS n) (bdS n) (boS n) (0 : Nat) (AtomA.mk (kindS n) (bdS n) (boS n) (0 : Nat) nilF [(120 : UInt8)]).o [(120 : UInt8)] (kindS n) != (0 : Int) ||
                        checkE (kindS n) (bdS n) (boS n) (0 : Nat) (AtomA.mk (kindS n) (bdS n) (boS n) (0 : Nat) nilF [(120 : UInt8)]).o [(120 : UInt8)] != (0 : Int) ||
                      !EmpB (kindS n) (bdS n) (boS n) (0 : Nat) (AtomA.mk (kindS n) (bdS n) (boS n) (0 : Nat) nilF [(120 : UInt8)]).o (AtomA.mk (kindS n) (bdS n) (boS n) (0 : Nat) nilF [(120 : UInt8)]).v [(120 : UInt8)] ==
                          (SamE (kindS n) (bdS n) (boS n) (0 : Nat) (AtomA.mk (kindS n) (bdS n) (boS n) (0 : Nat) nilF [(120 : UInt8)]).o (AtomA.mk (kindS n) (bdS n) (boS n) (0 : Nat) nilF [(120 : UInt8)]).v
                              [(120 : UInt8)] ==
                            (7 : Int)) ||
                    MatB (kindS n) (bdS n) (boS n) (0 : Nat) (AtomA.mk (kindS n) (bdS n) (boS n) (0 : Nat) nilF [(120 : UInt8)]).o (AtomA.mk (kindS n) (bdS n) (boS n) (0 : Nat) nilF [(120 : UInt8)]).v [(120 : UInt8)] l
                        (kindS n) x &&
                      (EmpB (kindS n) (bdS n) (boS n) (0 : Nat) (AtomA.mk (kindS n) (bdS n) (boS n) (0 : Nat) nilF [(120 : UInt8)]).o (AtomA.mk (kindS n) (bdS n) (boS n) (0 : Nat) nilF [(120 : UInt8)]).v [(120 : UInt8)] ||
                        bdS n && andNotI IntKind.u64 l (boS n) != (0 : Int)))
                  (false = true)
                  (VB
                      (isW true
                        (SamE (kindS n) (bdS n) (boS n) (0 : Nat) (AtomA.mk (kindS n) (bdS n) (boS n) (0 : Nat) nilF [(120 : UInt8)]).o (AtomA.mk (kindS n) (bdS n) (boS n) (0 : Nat) nilF [(120 : UInt8)]).v
                            [(120 : UInt8)] ==
                          (0 : Int)))
                      (NB
                        (condsB (0 : Nat) nilF && nmB [(120 : UInt8)] &&
                            u64B
                              (SamL (kindS n) (bdS n) (boS n) (0 : Nat) (AtomA.mk (kindS n) (bdS n) (boS n) (0 : Nat) nilF [(120 : UInt8)]).o (AtomA.mk (kindS n) (bdS n) (boS n) (0 : Nat) nilF [(120 : UInt8)]).v
                                [(120 : UInt8)]) &&
                          u64B (boS n))
                        (VB
                          (SamE (kindS n) (bdS n) (boS n) (0 : Nat) (AtomA.mk (kindS n) (bdS n) (boS n) (0 : Nat) nilF [(120 : UInt8)]).o (AtomA.mk (kindS n) (bdS n) (boS n) (0 : Nat) nilF [(120 : UInt8)]).v
                                [(120 : UInt8)] ==
                              (0 : Int) &&
                            !(MatE (kindS n) (bdS n) (boS n) (0 : Nat) (AtomA.mk (kindS n) (bdS n) (boS n) (0 : Nat) nilF [(120 : UInt8)]).o [(120 : UInt8)]
                                    (SamK (kindS n) (bdS n) (boS n) (0 : Nat) (AtomA.mk (kindS n) (bdS n) (boS n) (0 : Nat) nilF [(120 : UInt8)]).o (AtomA.mk (kindS n) (bdS n) (boS n) (0 : Nat) nilF [(120 : UInt8)]).v
                                      [(120 : UInt8)]) ==
                                  (0 : Int) &&
                                MatB (kindS n) (bdS n) (boS n) (0 : Nat) (AtomA.mk (kindS n) (bdS n) (boS n) (0 : Nat) nilF [(120 : UInt8)]).o (AtomA.mk (kindS n) (bdS n) (boS n) (0 : Nat) nilF [(120 : UInt8)]).v
                                    [(120 : UInt8)]
                                    (SamL (kindS n) (bdS n) (boS n) (0 : Nat) (AtomA.mk (kindS n) (bdS n) (boS n) (0 : Nat) nilF [(120 : UInt8)]).o (AtomA.mk (kindS n) (bdS n) (boS n) (0 : Nat) nilF [(120 : UInt8)]).v
                                      [(120 : UInt8)])
                                    (SamK (kindS n) (bdS n) (boS n) (0 : Nat) (AtomA.mk (kindS n) (bdS n) (boS n) (0 : Nat) nilF [(120 : UInt8)]).o (AtomA.mk (kindS n) (bdS n) (boS n) (0 : Nat) nilF [(120 : UInt8)]).v
                                      [(120 : UInt8)])
                                    (SamX (kindS n) (bdS n) (boS n) (0 : Nat) (AtomA.mk (kindS n) (bdS n) (boS n) (0 : Nat) nilF [(120 : UInt8)]).o (AtomA.mk (kindS n) (bdS n) (boS n) (0 : Nat) nilF [(120 : UInt8)]).v
                                      [(120 : UInt8)]) ==
                                  true))
                          (false = true)
                          (∃ (_ : Unit),
                            True ∧
                              (more = more ∧
                                  ((0 : Nat) = (0 : Nat) ∧ (0 : Nat) = (0 : Nat) ∧ (0 : Nat) = (0 : Nat)) ∧
                                    true = true ∧
                                      ((0 : Nat) = (0 : Nat) ∧ (0 : Nat) = (0 : Nat) ∧ (0 : Nat) = (0 : Nat)) ∧
                                        MatB (kindS n) (bdS n) (boS n) (0 : Nat) (AtomA.mk (kindS n) (bdS n) (boS n) (0 : Nat) nilF [(120 : UInt8)]).o (AtomA.mk (kindS n) (bdS n) (boS n) (0 : Nat) nilF [(120 : UInt8)]).v
                                              [(120 : UInt8)] l (kindS n) x =
                                            isS0 vs n more l ek x ∧
                                          True) ∧
                                ((0 : Nat) = (0 : Nat) ∧
                                    (true = true → true = true) ∧
                                      ((l = l ∧ kindS n = kindS n ∧ x = x ∧ True) ∧
                                          [AV.int IntKind.u64 l, AV.int IntKind.i64 (kindS n), AV.int IntKind.i64 x].length = [AV.int IntKind.u64 l, AV.int IntKind.i64 (kindS n), AV.int IntKind.i64 x].length) ∧
                                        True) ∧
                                  ((0 : Nat) = (0 : Nat) ∧
                                      (true = true → true = true) ∧
                                        ((kindS n = kindS n ∧ bdS n = bdS n ∧ boS n = boS n ∧ True ∧ [(120 : UInt8)] = [(120 : UInt8)] ∧ True) ∧
                                            [AV.int IntKind.i64 (kindS n), AV.bool (bdS n), AV.int IntKind.u64 (boS n), AV.nils, AV.str [(120 : UInt8)]].length =
                                              [AV.int IntKind.i64 (kindS n), AV.bool (bdS n), AV.int IntKind.u64 (boS n), AV.nils, AV.str [(120 : UInt8)]].length) ∧
                                          True) ∧
                                    True)))
                      (VB
                        (SamE (kindS n) (bdS n) (boS n) (0 : Nat) (AtomA.mk (kindS n) (bdS n) (boS n) (0 : Nat) nilF [(120 : UInt8)]).o (AtomA.mk (kindS n) (bdS n) (boS n) (0 : Nat) nilF [(120 : UInt8)]).v
                              [(120 : UInt8)] ==
                            (0 : Int) &&
                          true)
                        (false = true)
                        (∃ (_ : Unit),
                          True ∧
                            (more = more ∧
                                ((0 : Nat) = (0 : Nat) ∧ (0 : Nat) = (0 : Nat) ∧ (0 : Nat) = (0 : Nat)) ∧
                                  true = true ∧
                                    ((0 : Nat) = (0 : Nat) ∧ (0 : Nat) = (0 : Nat) ∧ (0 : Nat) = (0 : Nat)) ∧
                                      MatB (kindS n) (bdS n) (boS n) (0 : Nat) (AtomA.mk (kindS n) (bdS n) (boS n) (0 : Nat) nilF [(120 : UInt8)]).o (AtomA.mk (kindS n) (bdS n) (boS n) (0 : Nat) nilF [(120 : UInt8)]).v
                                            [(120 : UInt8)] l (kindS n) x =
                                          isS0 vs n more l ek x ∧
                                        True) ∧
                              ((0 : Nat) = (0 : Nat) ∧
                                  (true = true → true = true) ∧
                                    ((l = l ∧ kindS n = kindS n ∧ x = x ∧ True) ∧
                                        [AV.int IntKind.u64 l, AV.int IntKind.i64 (kindS n), AV.int IntKind.i64 x].length = [AV.int IntKind.u64 l, AV.int IntKind.i64 (kindS n), AV.int IntKind.i64 x].length) ∧
                                      True) ∧
                                ((0 : Nat) = (0 : Nat) ∧
                                    (true = true → true = true) ∧
                                      ((kindS n = kindS n ∧ bdS n = bdS n ∧ boS n = boS n ∧ True ∧ [(120 : UInt8)] = [(120 : UInt8)] ∧ True) ∧
                                          [AV.int IntKind.i64 (kindS n), AV.bool (bdS n), AV.int IntKind.u64 (boS n), AV.nils, AV.str [(120 : UInt8)]].length =
                                            [AV.int IntKind.i64 (kindS n), AV.bool (bdS n), AV.int IntKind.u64 (boS n), AV.nils, AV.str [(120 : UInt8)]].length) ∧
                                        True) ∧
                                  True)) ∧
                    ∀ (_ : Unit),
                      True →
                        VB (bdS n)
                            (∃ (_ : Unit),
                              True ∧
                                (((0 : Nat) = (0 : Nat) ∧ (0 : Nat) = (0 : Nat) ∧ (0 : Nat) = (0 : Nat)) ∧
                                    true = true ∧
                                      ((0 : Nat) = (0 : Nat) ∧ (0 : Nat) = (0 : Nat) ∧ (0 : Nat) = (0 : Nat)) ∧
                                        isS0 vs n more l ek x = isS0 vs n more l ek x ∧ ((0 : Nat) = (0 : Nat) ∧ (0 : Nat) = (0 : Nat) ∧ (0 : Nat) = (0 : Nat)) ∧ True) ∧
                                  ((0 : Nat) = (0 : Nat) ∧
                                      (true = true → true = true) ∧
                                        ((l = l ∧ kindS n = kindS n ∧ x = x ∧ True) ∧
                                            [AV.int IntKind.u64 l, AV.int IntKind.i64 (kindS n), AV.int IntKind.i64 x].length = [AV.int IntKind.u64 l, AV.int IntKind.i64 (kindS n), AV.int IntKind.i64 x].length) ∧
                                          True) ∧
                                    ((0 : Nat) = (0 : Nat) ∧
                                        (true = true → true = true) ∧
                                          ((kindS n = kindS n ∧ bdS n = bdS n ∧ boS n = boS n ∧ True ∧ [(120 : UInt8)] = [(120 : UInt8)] ∧ True) ∧
                                              [AV.int IntKind.i64 (kindS n), AV.bool (bdS n), AV.int IntKind.u64 (boS n), AV.nils, AV.str [(120 : UInt8)]].length =
                                                [AV.int IntKind.i64 (kindS n), AV.bool (bdS n), AV.int IntKind.u64 (boS n), AV.nils, AV.str [(120 : UInt8)]].length) ∧
                                            True) ∧
                                      ((0 : Nat) + (1 : Nat) = (1 : Nat) ∧
                                          (true = true → true = true) ∧
                                            (((1 : Int) + more % (6 : Int) = (1 : Int) + more % (6 : Int) ∧ x = x ∧ True) ∧
                                                [AV.int IntKind.i64 ((1 : Int) + more % (6 : Int)), AV.int IntKind.i64 x].length = [AV.int IntKind.i64 ((1 : Int) + more % (6 : Int)), AV.int IntKind.i64 x].length) ∧
                                              True) ∧
                                        ((0 : Nat) = (0 : Nat) ∧
                                            (false = true → false = true) ∧
                                              ((kindS n = kindS n ∧
                                                    bdS n = bdS n ∧
                                                      andI IntKind.u64 (boS n) (labS more) = bo2S n more ∧
                                                        ((0 : Nat) + (1 : Nat) = (1 : Nat) ∧ (0 : Nat) = (0 : Nat) ∧ (0 : Nat) + (1 : Nat) = (1 : Nat) ∧ (@Eq (Option Nat) none none ∨ @Eq (Option Nat) none none)) ∧
                                                          [(120 : UInt8)] = [(120 : UInt8)] ∧ True) ∧
                                                  [AV.int IntKind.i64 (kindS n), AV.bool (bdS n), AV.int IntKind.u64 (andI IntKind.u64 (boS n) (labS more)),
                                                        AV.sl (nat_lit 54 + (1 : Nat)) ((0 : Nat) + (1 : Nat)) (0 : Nat) ((0 : Nat) + (1 : Nat)) none, AV.str [(120 : UInt8)]].length =
                                                    [AV.int IntKind.i64 (kindS n), AV.bool (bdS n), AV.int IntKind.u64 (bo2S n more), AV.sl (55 : Nat) (1 : Nat) (0 : Nat) (1 : Nat) none, AV.str [(120 : UInt8)]].length) ∧
                                                True) ∧
                                          True)
                            (∃ (_ : Unit),
                              True ∧
                                (((0 : Nat) = (0 : Nat) ∧ (0 : Nat) = (0 : Nat) ∧ (0 : Nat) = (0 : Nat)) ∧
                                    true = true ∧
                                      ((0 : Nat) = (0 : Nat) ∧ (0 : Nat) = (0 : Nat) ∧ (0 : Nat) = (0 : Nat)) ∧
                                        isS0 vs n more l ek x = isS0 vs n more l ek x ∧ ((0 : Nat) = (0 : Nat) ∧ (0 : Nat) = (0 : Nat) ∧ (0 : Nat) = (0 : Nat)) ∧ True) ∧
                                  ((0 : Nat) = (0 : Nat) ∧
                                      (true = true → true = true) ∧
                                        ((l = l ∧ kindS n = kindS n ∧ x = x ∧ True) ∧
                                            [AV.int IntKind.u64 l, AV.int IntKind.i64 (kindS n), AV.int IntKind.i64 x].length = [AV.int IntKind.u64 l, AV.int IntKind.i64 (kindS n), AV.int IntKind.i64 x].length) ∧
                                          True) ∧
                                    ((0 : Nat) = (0 : Nat) ∧
                                        (true = true → true = true) ∧
                                          ((kindS n = kindS n ∧ bdS n = bdS n ∧ boS n = boS n ∧ True ∧ [(120 : UInt8)] = [(120 : UInt8)] ∧ True) ∧
                                              [AV.int IntKind.i64 (kindS n), AV.bool (bdS n), AV.int IntKind.u64 (boS n), AV.nils, AV.str [(120 : UInt8)]].length =
                                                [AV.int IntKind.i64 (kindS n), AV.bool (bdS n), AV.int IntKind.u64 (boS n), AV.nils, AV.str [(120 : UInt8)]].length) ∧
                                            True) ∧
                                      ((0 : Nat) + (1 : Nat) = (1 : Nat) ∧
                                          (true = true → true = true) ∧
                                            (((1 : Int) + more % (6 : Int) = (1 : Int) + more % (6 : Int) ∧ x = x ∧ True) ∧
                                                [AV.int IntKind.i64 ((1 : Int) + more % (6 : Int)), AV.int IntKind.i64 x].length = [AV.int IntKind.i64 ((1 : Int) + more % (6 : Int)), AV.int IntKind.i64 x].length) ∧
                                              True) ∧
                                        ((0 : Nat) = (0 : Nat) ∧
                                            (false = true → false = true) ∧
                                              ((kindS n = kindS n ∧
                                                    bdS n = bdS n ∧
                                                      boS n = bo2S n more ∧
                                                        ((0 : Nat) + (1 : Nat) = (1 : Nat) ∧ (0 : Nat) = (0 : Nat) ∧ (0 : Nat) + (1 : Nat) = (1 : Nat) ∧ (@Eq (Option Nat) none none ∨ @Eq (Option Nat) none none)) ∧
                                                          [(120 : UInt8)] = [(120 : UInt8)] ∧ True) ∧
                                                  [AV.int IntKind.i64 (kindS n), AV.bool (bdS n), AV.int IntKind.u64 (boS n), AV.sl (nat_lit 54 + (1 : Nat)) ((0 : Nat) + (1 : Nat)) (0 : Nat) ((0 : Nat) + (1 : Nat)) none,
                                                        AV.str [(120 : UInt8)]].length =
                                                    [AV.int IntKind.i64 (kindS n), AV.bool (bdS n), AV.int IntKind.u64 (bo2S n more), AV.sl (55 : Nat) (1 : Nat) (0 : Nat) (1 : Nat) none, AV.str [(120 : UInt8)]].length) ∧
                                                True) ∧
                                          True) ∧
                          ∀ (_ : Unit),
                            True →
                              NB ((condsB [cMore more x].length fun (i : Nat) => [cMore more x].getD i AV.undef) && nmB [(120 : UInt8)] && u64B l && u64B (bo2S n more) && true)
                                (NB
                                    ((decide
                                              ([AV.agg [AV.int IntKind.i64 (kindS n), AV.bool (bdS n), AV.int IntKind.u64 (boS n), AV.nils, AV.str [(120 : UInt8)]],
                                                    AV.agg [AV.int IntKind.i64 (kindS n), AV.bool (bdS n), AV.int IntKind.u64 (bo2S n more), AV.rol [cMore more x] false, AV.str [(120 : UInt8)]],
                                                    AV.agg [AV.int IntKind.i64 (kindS n), AV.bool (bdS n), AV.int IntKind.u64 (boS n), AV.nils, AV.str [(120 : UInt8)]]].length ≤
                                                (1000000 : Nat)) &&
                                            atsB
                                              [AV.agg [AV.int IntKind.i64 (kindS n), AV.bool (bdS n), AV.int IntKind.u64 (boS n), AV.nils, AV.str [(120 : UInt8)]],
                                                  AV.agg [AV.int IntKind.i64 (kindS n), AV.bool (bdS n), AV.int IntKind.u64 (bo2S n more), AV.rol [cMore more x] false, AV.str [(120 : UInt8)]],
                                                  AV.agg [AV.int IntKind.i64 (kindS n), AV.bool (bdS n), AV.int IntKind.u64 (boS n), AV.nils, AV.str [(120 : UInt8)]]].length
                                              fun (j : Nat) =>
                                              nrmA
                                                ([AV.agg [AV.int IntKind.i64 (kindS n), AV.bool (bdS n), AV.int IntKind.u64 (boS n), AV.nils, AV.str [(120 : UInt8)]],
                                                      AV.agg [AV.int IntKind.i64 (kindS n), AV.bool (bdS n), AV.int IntKind.u64 (bo2S n more), AV.rol [cMore more x] false, AV.str [(120 : UInt8)]],
                                                      AV.agg [AV.int IntKind.i64 (kindS n), AV.bool (bdS n), AV.int IntKind.u64 (boS n), AV.nils, AV.str [(120 : UInt8)]]].getD
                                                  j AV.undef)) &&
                                          okAts
                                            [AV.agg [AV.int IntKind.i64 (kindS n), AV.bool (bdS n), AV.int IntKind.u64 (boS n), AV.nils, AV.str [(120 : UInt8)]],
                                                AV.agg [AV.int IntKind.i64 (kindS n), AV.bool (bdS n), AV.int IntKind.u64 (bo2S n more), AV.rol [cMore more x] false, AV.str [(120 : UInt8)]],
                                                AV.agg [AV.int IntKind.i64 (kindS n), AV.bool (bdS n), AV.int IntKind.u64 (boS n), AV.nils, AV.str [(120 : UInt8)]]].length
                                            (atsOf fun (j : Nat) =>
                                              nrmA
                                                ([AV.agg [AV.int IntKind.i64 (kindS n), AV.bool (bdS n), AV.int IntKind.u64 (boS n), AV.nils, AV.str [(120 : UInt8)]],
                                                      AV.agg [AV.int IntKind.i64 (kindS n), AV.bool (bdS n), AV.int IntKind.u64 (bo2S n more), AV.rol [cMore more x] false, AV.str [(120 : UInt8)]],
                                                      AV.agg [AV.int IntKind.i64 (kindS n), AV.bool (bdS n), AV.int IntKind.u64 (boS n), AV.nils, AV.str [(120 : UInt8)]]].getD
                                                  j AV.undef)) &&
                                        u64B l &&
                                      true)
                                    (∃ (_ : Unit),
                                      True ∧
                                        (true = true ∧
                                            isS0 vs n more l ek x = isS0 vs n more l ek x ∧
                                              MatB (kindS n) (bdS n) (bo2S n more) [cMore more x].length
                                                    (AtomA.mk (kindS n) (bdS n) (bo2S n more) [cMore more x].length (fun (i : Nat) => [cMore more x].getD i AV.undef) [(120 : UInt8)]).o
                                                    (AtomA.mk (kindS n) (bdS n) (bo2S n more) [cMore more x].length (fun (i : Nat) => [cMore more x].getD i AV.undef) [(120 : UInt8)]).v [(120 : UInt8)] l (kindS n) x =
                                                  wasS0 vs n more l ek x ∧
                                                MatE (kindS n) (bdS n) (bo2S n more) [cMore more x].length
                                                      (AtomA.mk (kindS n) (bdS n) (bo2S n more) [cMore more x].length (fun (i : Nat) => [cMore more x].getD i AV.undef) [(120 : UInt8)]).o [(120 : UInt8)] (kindS n) =
                                                    (atL n more [cMore more x]).mE (kindS n) ∧
                                                  (((if
                                                            allE
                                                                (atsOf fun (j : Nat) =>
                                                                  nrmA
                                                                    ([AV.agg [AV.int IntKind.i64 (kindS n), AV.bool (bdS n), AV.int IntKind.u64 (boS n), AV.nils, AV.str [(120 : UInt8)]],
                                                                          AV.agg [AV.int IntKind.i64 (kindS n), AV.bool (bdS n), AV.int IntKind.u64 (bo2S n more), AV.rol [cMore more x] false, AV.str [(120 : UInt8)]],
                                                                          AV.agg [AV.int IntKind.i64 (kindS n), AV.bool (bdS n), AV.int IntKind.u64 (boS n), AV.nils, AV.str [(120 : UInt8)]]].getD
                                                                      j AV.undef))
                                                                [AV.agg [AV.int IntKind.i64 (kindS n), AV.bool (bdS n), AV.int IntKind.u64 (boS n), AV.nils, AV.str [(120 : UInt8)]],
                                                                    AV.agg [AV.int IntKind.i64 (kindS n), AV.bool (bdS n), AV.int IntKind.u64 (bo2S n more), AV.rol [cMore more x] false, AV.str [(120 : UInt8)]],
                                                                    AV.agg [AV.int IntKind.i64 (kindS n), AV.bool (bdS n), AV.int IntKind.u64 (boS n), AV.nils, AV.str [(120 : UInt8)]]].length
                                                                (kindS n) =
                                                              (0 : Int) then
                                                          whN
                                                            (atsOf fun (j : Nat) =>
                                                              nrmA
                                                                ([AV.agg [AV.int IntKind.i64 (kindS n), AV.bool (bdS n), AV.int IntKind.u64 (boS n), AV.nils, AV.str [(120 : UInt8)]],
                                                                      AV.agg [AV.int IntKind.i64 (kindS n), AV.bool (bdS n), AV.int IntKind.u64 (bo2S n more), AV.rol [cMore more x] false, AV.str [(120 : UInt8)]],
                                                                      AV.agg [AV.int IntKind.i64 (kindS n), AV.bool (bdS n), AV.int IntKind.u64 (boS n), AV.nils, AV.str [(120 : UInt8)]]].getD
                                                                  j AV.undef))
                                                            l (kindS n) x
                                                            [AV.agg [AV.int IntKind.i64 (kindS n), AV.bool (bdS n), AV.int IntKind.u64 (boS n), AV.nils, AV.str [(120 : UInt8)]],
                                                                AV.agg [AV.int IntKind.i64 (kindS n), AV.bool (bdS n), AV.int IntKind.u64 (bo2S n more), AV.rol [cMore more x] false, AV.str [(120 : UInt8)]],
                                                                AV.agg [AV.int IntKind.i64 (kindS n), AV.bool (bdS n), AV.int IntKind.u64 (boS n), AV.nils, AV.str [(120 : UInt8)]]].length
                                                        else (0 : Nat)) =
                                                        if allE (ats0 vs n more x) (3 : Nat) (kindS n) = (0 : Int) then whN (ats0 vs n more x) l (kindS n) x (3 : Nat) else (0 : Nat)) ∧
                                                      (∀ (i : Nat),
                                                          (i <
                                                              if
                                                                  allE
                                                                      (atsOf fun (j : Nat) =>
                                                                        nrmA
                                                                          ([AV.agg [AV.int IntKind.i64 (kindS n), AV.bool (bdS n), AV.int IntKind.u64 (boS n), AV.nils, AV.str [(120 : UInt8)]],
                                                                                AV.agg [AV.int IntKind.i64 (kindS n), AV.bool (bdS n), AV.int IntKind.u64 (bo2S n more), AV.rol [cMore more x] false, AV.str [(120 : UInt8)]],
                                                                                AV.agg [AV.int IntKind.i64 (kindS n), AV.bool (bdS n), AV.int IntKind.u64 (boS n), AV.nils, AV.str [(120 : UInt8)]]].getD
                                                                            j AV.undef))
                                                                      [AV.agg [AV.int IntKind.i64 (kindS n), AV.bool (bdS n), AV.int IntKind.u64 (boS n), AV.nils, AV.str [(120 : UInt8)]],
                                                                          AV.agg [AV.int IntKind.i64 (kindS n), AV.bool (bdS n), AV.int IntKind.u64 (bo2S n more), AV.rol [cMore more x] false, AV.str [(120 : UInt8)]],
                                                                          AV.agg [AV.int IntKind.i64 (kindS n), AV.bool (bdS n), AV.int IntKind.u64 (boS n), AV.nils, AV.str [(120 : UInt8)]]].length
                                                                      (kindS n) =
                                                                    (0 : Int) then
                                                                whN
                                                                  (atsOf fun (j : Nat) =>
                                                                    nrmA
                                                                      ([AV.agg [AV.int IntKind.i64 (kindS n), AV.bool (bdS n), AV.int IntKind.u64 (boS n), AV.nils, AV.str [(120 : UInt8)]],
                                                                            AV.agg [AV.int IntKind.i64 (kindS n), AV.bool (bdS n), AV.int IntKind.u64 (bo2S n more), AV.rol [cMore more x] false, AV.str [(120 : UInt8)]],
                                                                            AV.agg [AV.int IntKind.i64 (kindS n), AV.bool (bdS n), AV.int IntKind.u64 (boS n), AV.nils, AV.str [(120 : UInt8)]]].getD
                                                                        j AV.undef))
                                                                  l (kindS n) x
                                                                  [AV.agg [AV.int IntKind.i64 (kindS n), AV.bool (bdS n), AV.int IntKind.u64 (boS n), AV.nils, AV.str [(120 : UInt8)]],
                                                                      AV.agg [AV.int IntKind.i64 (kindS n), AV.bool (bdS n), AV.int IntKind.u64 (bo2S n more), AV.rol [cMore more x] false, AV.str [(120 : UInt8)]],
                                                                      AV.agg [AV.int IntKind.i64 (kindS n), AV.bool (bdS n), AV.int IntKind.u64 (boS n), AV.nils, AV.str [(120 : UInt8)]]].length
                                                              else (0 : Nat)) →
                                                            whV
                                                                  (atsOf fun (j : Nat) =>
                                                                    nrmA
                                                                      ([AV.agg [AV.int IntKind.i64 (kindS n), AV.bool (bdS n), AV.int IntKind.u64 (boS n), AV.nils, AV.str [(120 : UInt8)]],
                                                                            AV.agg [AV.int IntKind.i64 (kindS n), AV.bool (bdS n), AV.int IntKind.u64 (bo2S n more), AV.rol [cMore more x] false, AV.str [(120 : UInt8)]],
                                                                            AV.agg [AV.int IntKind.i64 (kindS n), AV.bool (bdS n), AV.int IntKind.u64 (boS n), AV.nils, AV.str [(120 : UInt8)]]].getD
                                                                        j AV.undef))
                                                                  l (kindS n) x
                                                                  [AV.agg [AV.int IntKind.i64 (kindS n), AV.bool (bdS n), AV.int IntKind.u64 (boS n), AV.nils, AV.str [(120 : UInt8)]],
                                                                      AV.agg [AV.int IntKind.i64 (kindS n), AV.bool (bdS n), AV.int IntKind.u64 (bo2S n more), AV.rol [cMore more x] false, AV.str [(120 : UInt8)]],
                                                                      AV.agg [AV.int IntKind.i64 (kindS n), AV.bool (bdS n), AV.int IntKind.u64 (boS n), AV.nils, AV.str [(120 : UInt8)]]].length
                                                                  i =
                                                                whV (ats0 vs n more x) l (kindS n) x (3 : Nat) i ∧
                                                              [AV.int IntKind.i64
                                                                      (whV
                                                                        (atsOf fun (j : Nat) =>
                                                                          nrmA
                                                                            ([AV.agg [AV.int IntKind.i64 (kindS n), AV.bool (bdS n), AV.int IntKind.u64 (boS n), AV.nils, AV.str [(120 : UInt8)]],
                                                                                  AV.agg
                                                                                    [AV.int IntKind.i64 (kindS n), AV.bool (bdS n), AV.int IntKind.u64 (bo2S n more), AV.rol [cMore more x] false, AV.str [(120 : UInt8)]],
                                                                                  AV.agg [AV.int IntKind.i64 (kindS n), AV.bool (bdS n), AV.int IntKind.u64 (boS n), AV.nils, AV.str [(120 : UInt8)]]].getD
                                                                              j AV.undef))
                                                                        l (kindS n) x
                                                                        [AV.agg [AV.int IntKind.i64 (kindS n), AV.bool (bdS n), AV.int IntKind.u64 (boS n), AV.nils, AV.str [(120 : UInt8)]],
                                                                            AV.agg [AV.int IntKind.i64 (kindS n), AV.bool (bdS n), AV.int IntKind.u64 (bo2S n more), AV.rol [cMore more x] false, AV.str [(120 : UInt8)]],
                                                                            AV.agg [AV.int IntKind.i64 (kindS n), AV.bool (bdS n), AV.int IntKind.u64 (boS n), AV.nils, AV.str [(120 : UInt8)]]].length
                                                                        i)].length =
                                                                [AV.int IntKind.i64 (whV (ats0 vs n more x) l (kindS n) x (3 : Nat) i)].length) ∧
                                                        (false = true → false = true)) ∧
                                                    allE
                                                          (atsOf fun (j : Nat) =>
                                                            nrmA
                                                              ([AV.agg [AV.int IntKind.i64 (kindS n), AV.bool (bdS n), AV.int IntKind.u64 (boS n), AV.nils, AV.str [(120 : UInt8)]],
                                                                    AV.agg [AV.int IntKind.i64 (kindS n), AV.bool (bdS n), AV.int IntKind.u64 (bo2S n more), AV.rol [cMore more x] false, AV.str [(120 : UInt8)]],
                                                                    AV.agg [AV.int IntKind.i64 (kindS n), AV.bool (bdS n), AV.int IntKind.u64 (boS n), AV.nils, AV.str [(120 : UInt8)]]].getD
                                                                j AV.undef))
                                                          [AV.agg [AV.int IntKind.i64 (kindS n), AV.bool (bdS n), AV.int IntKind.u64 (boS n), AV.nils, AV.str [(120 : UInt8)]],
                                                              AV.agg [AV.int IntKind.i64 (kindS n), AV.bool (bdS n), AV.int IntKind.u64 (bo2S n more), AV.rol [cMore more x] false, AV.str [(120 : UInt8)]],
                                                              AV.agg [AV.int IntKind.i64 (kindS n), AV.bool (bdS n), AV.int IntKind.u64 (boS n), AV.nils, AV.str [(120 : UInt8)]]].length
                                                          (kindS n) =
                                                        allE (ats0 vs n more x) (3 : Nat) (kindS n) ∧
                                                      True) ∧
                                          True) ∧
                                  ∀ (_ : Unit),
                                    True →
                                      VB (isS0 vs n more l ek x)
                                          (∃ (i : Nat),
                                            True ∧
                                              (true = true ∧
                                                  isS0 vs n more l ek x = isS0 vs n more l ek x ∧
                                                    wasS0 vs n more l ek x = wasS0 vs n more l ek x ∧
                                                      (atL n more [cMore more x]).mE (kindS n) = (atL n more [cMore more x]).mE (kindS n) ∧
                                                        (((if allE (ats0 vs n more x) (3 : Nat) (kindS n) = (0 : Int) then whN (ats0 vs n more x) l (kindS n) x (3 : Nat) else (0 : Nat)) =
                                                              if allE (ats0 vs n more x) (3 : Nat) (kindS n) = (0 : Int) then whN (ats0 vs n more x) l (kindS n) x (3 : Nat) else (0 : Nat)) ∧
                                                            (∀ (i : Nat),
                                                                (i < if allE (ats0 vs n more x) (3 : Nat) (kindS n) = (0 : Int) then whN (ats0 vs n more x) l (kindS n) x (3 : Nat) else (0 : Nat)) →
                                                                  whV (ats0 vs n more x) l (kindS n) x (3 : Nat) i = whV (ats0 vs n more x) l (kindS n) x (3 : Nat) i ∧
                                                                    [AV.int IntKind.i64 (whV (ats0 vs n more x) l (kindS n) x (3 : Nat) i)].length =
                                                                      [AV.int IntKind.i64 (whV (ats0 vs n more x) l (kindS n) x (3 : Nat) i)].length) ∧
                                                              (false = true → false = true)) ∧
                                                          allE (ats0 vs n more x) (3 : Nat) (kindS n) = allE (ats0 vs n more x) (3 : Nat) (kindS n) ∧
                                                            ((0 : Nat) = i ∧ (0 : Nat) = (0 : Nat) ∧ (1 : Nat) = (w1S (isS0 vs n more l ek x)).length ∧ (@Eq (Option Nat) none none ∨ @Eq (Option Nat) none none)) ∧ True) ∧
                                                ((0 : Nat) = i ∧
                                                    (true = true → true = true) ∧
                                                      [AV.int IntKind.i64 (0 : Int)].length = (w1S (isS0 vs n more l ek x)).length ∧
                                                        ((0 : Int) = (w1S (isS0 vs n more l ek x)).getD (0 : Nat) (0 : Int) ∧
                                                            [AV.int IntKind.i64 (0 : Int)].length = [AV.int IntKind.i64 ((w1S (isS0 vs n more l ek x)).getD (0 : Nat) (0 : Int))].length) ∧
                                                          True) ∧
                                                  True)
                                          (∃ (i : Nat),
                                            True ∧
                                              (true = true ∧
                                                  isS0 vs n more l ek x = isS0 vs n more l ek x ∧
                                                    wasS0 vs n more l ek x = wasS0 vs n more l ek x ∧
                                                      (atL n more [cMore more x]).mE (kindS n) = (atL n more [cMore more x]).mE (kindS n) ∧
                                                        (((if allE (ats0 vs n more x) (3 : Nat) (kindS n) = (0 : Int) then whN (ats0 vs n more x) l (kindS n) x (3 : Nat) else (0 : Nat)) =
                                                              if allE (ats0 vs n more x) (3 : Nat) (kindS n) = (0 : Int) then whN (ats0 vs n more x) l (kindS n) x (3 : Nat) else (0 : Nat)) ∧
                                                            (∀ (i : Nat),
                                                                (i < if allE (ats0 vs n more x) (3 : Nat) (kindS n) = (0 : Int) then whN (ats0 vs n more x) l (kindS n) x (3 : Nat) else (0 : Nat)) →
                                                                  whV (ats0 vs n more x) l (kindS n) x (3 : Nat) i = whV (ats0 vs n more x) l (kindS n) x (3 : Nat) i ∧
                                                                    [AV.int IntKind.i64 (whV (ats0 vs n more x) l (kindS n) x (3 : Nat) i)].length =
                                                                      [AV.int IntKind.i64 (whV (ats0 vs n more x) l (kindS n) x (3 : Nat) i)].length) ∧
                                                              (false = true → false = true)) ∧
                                                          allE (ats0 vs n more x) (3 : Nat) (kindS n) = allE (ats0 vs n more x) (3 : Nat) (kindS n) ∧
                                                            ((w1S (isS0 vs n more l ek x)).length = (0 : Nat) ∧ i = i ∧ (w1S (isS0 vs n more l ek x)).length = (0 : Nat)) ∧ True) ∧
                                                (w1S (isS0 vs n more l ek x)).length = (0 : Nat) ∧ True) ∧
                                        ∀ (i : Nat),
                                          True →
                                            VB (wasS0 vs n more l ek x)
                                                (NB (true && decide (i = i) && room ((w1S (isS0 vs n more l ek x)).length + (1 : Nat)) (8 : Nat))
                                                  (∃ (i_1 : Nat),
                                                    True ∧
                                                      (true = true ∧
                                                          isS0 vs n more l ek x = isS0 vs n more l ek x ∧
                                                            wasS0 vs n more l ek x = wasS0 vs n more l ek x ∧
                                                              (atL n more [cMore more x]).mE (kindS n) = (atL n more [cMore more x]).mE (kindS n) ∧
                                                                (((if allE (ats0 vs n more x) (3 : Nat) (kindS n) = (0 : Int) then whN (ats0 vs n more x) l (kindS n) x (3 : Nat) else (0 : Nat)) =
                                                                      if allE (ats0 vs n more x) (3 : Nat) (kindS n) = (0 : Int) then whN (ats0 vs n more x) l (kindS n) x (3 : Nat) else (0 : Nat)) ∧
                                                                    (∀ (i : Nat),
                                                                        (i < if allE (ats0 vs n more x) (3 : Nat) (kindS n) = (0 : Int) then whN (ats0 vs n more x) l (kindS n) x (3 : Nat) else (0 : Nat)) →
                                                                          whV (ats0 vs n more x) l (kindS n) x (3 : Nat) i = whV (ats0 vs n more x) l (kindS n) x (3 : Nat) i ∧
                                                                            [AV.int IntKind.i64 (whV (ats0 vs n more x) l (kindS n) x (3 : Nat) i)].length =
                                                                              [AV.int IntKind.i64 (whV (ats0 vs n more x) l (kindS n) x (3 : Nat) i)].length) ∧
                                                                      (false = true → false = true)) ∧
                                                                  allE (ats0 vs n more x) (3 : Nat) (kindS n) = allE (ats0 vs n more x) (3 : Nat) (kindS n) ∧
                                                                    (i + (1 : Nat) = i_1 ∧
                                                                        (0 : Nat) = (0 : Nat) ∧
                                                                          (w1S (isS0 vs n more l ek x)).length + (1 : Nat) = (w2S (isS0 vs n more l ek x) (wasS0 vs n more l ek x)).length ∧
                                                                            (@Eq (Option Nat) none none ∨ @Eq (Option Nat) none none)) ∧
                                                                      True) ∧
                                                        (i + (1 : Nat) = i_1 ∧
                                                            (true = true → true = true) ∧
                                                              (w1S (isS0 vs n more l ek x)).length + (1 : Nat) = (w2S (isS0 vs n more l ek x) (wasS0 vs n more l ek x)).length ∧
                                                                ∀ (i : Nat),
                                                                  i < (w1S (isS0 vs n more l ek x)).length + (1 : Nat) →
                                                                    (if i < (w1S (isS0 vs n more l ek x)).length then AV.int IntKind.i64 ((w1S (isS0 vs n more l ek x)).getD ((0 : Nat) + i) (0 : Int))
                                                                          else ((Sq.lst [AV.int IntKind.i64 (1 : Int)]).sub (0 : Nat) (1 : Nat)).get (i - (w1S (isS0 vs n more l ek x)).length)).sub
                                                                        (AV.int IntKind.i64 ((w2S (isS0 vs n more l ek x) (wasS0 vs n more l ek x)).getD i (0 : Int))) ∧
                                                                      (if i < (w1S (isS0 vs n more l ek x)).length then AV.int IntKind.i64 ((w1S (isS0 vs n more l ek x)).getD ((0 : Nat) + i) (0 : Int))
                                                                            else ((Sq.lst [AV.int IntKind.i64 (1 : Int)]).sub (0 : Nat) (1 : Nat)).get (i - (w1S (isS0 vs n more l ek x)).length)).cells.length =
                                                                        [AV.int IntKind.i64 ((w2S (isS0 vs n more l ek x) (wasS0 vs n more l ek x)).getD i (0 : Int))].length) ∧
                                                          True))
                                                (∃ (i_1 : Nat),
                                                  True ∧
                                                    (true = true ∧
                                                        isS0 vs n more l ek x = isS0 vs n more l ek x ∧
                                                          wasS0 vs n more l ek x = wasS0 vs n more l ek x ∧
                                                            (atL n more [cMore more x]).mE (kindS n) = (atL n more [cMore more x]).mE (kindS n) ∧
                                                              (((if allE (ats0 vs n more x) (3 : Nat) (kindS n) = (0 : Int) then whN (ats0 vs n more x) l (kindS n) x (3 : Nat) else (0 : Nat)) =
                                                                    if allE (ats0 vs n more x) (3 : Nat) (kindS n) = (0 : Int) then whN (ats0 vs n more x) l (kindS n) x (3 : Nat) else (0 : Nat)) ∧
                                                                  (∀ (i : Nat),
                                                                      (i < if allE (ats0 vs n more x) (3 : Nat) (kindS n) = (0 : Int) then whN (ats0 vs n more x) l (kindS n) x (3 : Nat) else (0 : Nat)) →
                                                                        whV (ats0 vs n more x) l (kindS n) x (3 : Nat) i = whV (ats0 vs n more x) l (kindS n) x (3 : Nat) i ∧
                                                                          [AV.int IntKind.i64 (whV (ats0 vs n more x) l (kindS n) x (3 : Nat) i)].length =
                                                                            [AV.int IntKind.i64 (whV (ats0 vs n more x) l (kindS n) x (3 : Nat) i)].length) ∧
                                                                    (false = true → false = true)) ∧
                                                                allE (ats0 vs n more x) (3 : Nat) (kindS n) = allE (ats0 vs n more x) (3 : Nat) (kindS n) ∧
                                                                  (i = i_1 ∧
                                                                      (0 : Nat) = (0 : Nat) ∧
                                                                        (w1S (isS0 vs n more l ek x)).length = (w2S (isS0 vs n more l ek x) (wasS0 vs n more l ek x)).length ∧
                                                                          (@Eq (Option Nat) none none ∨ @Eq (Option Nat) none none)) ∧
                                                                    True) ∧
                                                      (i = i_1 ∧
                                                          (true = true → true = true) ∧
                                                            (w1S (isS0 vs n more l ek x)).length = (w2S (isS0 vs n more l ek x) (wasS0 vs n more l ek x)).length ∧
                                                              ∀ (i : Nat),
                                                                i < (w1S (isS0 vs n more l ek x)).length →
                                                                  (w1S (isS0 vs n more l ek x)).getD i (0 : Int) = (w2S (isS0 vs n more l ek x) (wasS0 vs n more l ek x)).getD i (0 : Int) ∧
                                                                    [AV.int IntKind.i64 ((w1S (isS0 vs n more l ek x)).getD i (0 : Int))].length =
                                                                      [AV.int IntKind.i64 ((w2S (isS0 vs n more l ek x) (wasS0 vs n more l ek x)).getD i (0 : Int))].length) ∧
                                                        True) ∧
                                              ∀ (i : Nat),
                                                True →
                                                  VB (isS0 vs n more l ek x)
                                                      (NB (true && decide (i = i) && room ((w2S (isS0 vs n more l ek x) (wasS0 vs n more l ek x)).length + (1 : Nat)) (8 : Nat))
                                                        (∃ (i_1 : Nat),
                                                          True ∧
                                                            (true = true ∧
                                                                isS0 vs n more l ek x = isS0 vs n more l ek x ∧
                                                                  wasS0 vs n more l ek x = wasS0 vs n more l ek x ∧
                                                                    (atL n more [cMore more x]).mE (kindS n) = (atL n more [cMore more x]).mE (kindS n) ∧
                                                                      (((if allE (ats0 vs n more x) (3 : Nat) (kindS n) = (0 : Int) then whN (ats0 vs n more x) l (kindS n) x (3 : Nat) else (0 : Nat)) =
                                                                            if allE (ats0 vs n more x) (3 : Nat) (kindS n) = (0 : Int) then whN (ats0 vs n more x) l (kindS n) x (3 : Nat) else (0 : Nat)) ∧
                                                                          (∀ (i : Nat),
                                                                              (i < if allE (ats0 vs n more x) (3 : Nat) (kindS n) = (0 : Int) then whN (ats0 vs n more x) l (kindS n) x (3 : Nat) else (0 : Nat)) →
                                                                                whV (ats0 vs n more x) l (kindS n) x (3 : Nat) i = whV (ats0 vs n more x) l (kindS n) x (3 : Nat) i ∧
                                                                                  [AV.int IntKind.i64 (whV (ats0 vs n more x) l (kindS n) x (3 : Nat) i)].length =
                                                                                    [AV.int IntKind.i64 (whV (ats0 vs n more x) l (kindS n) x (3 : Nat) i)].length) ∧
                                                                            (false = true → false = true)) ∧
                                                                        allE (ats0 vs n more x) (3 : Nat) (kindS n) = allE (ats0 vs n more x) (3 : Nat) (kindS n) ∧
                                                                          (i + (1 : Nat) = i_1 ∧
                                                                              (0 : Nat) = (0 : Nat) ∧
                                                                                (w2S (isS0 vs n more l ek x) (wasS0 vs n more l ek x)).length + (1 : Nat) = (w3S (isS0 vs n more l ek x) (wasS0 vs n more l ek x)).length ∧
                                                                                  (@Eq (Option Nat) none none ∨ @Eq (Option Nat) none none)) ∧
                                                                            True) ∧
                                                              (i + (1 : Nat) = i_1 ∧
                                                                  (true = true → true = true) ∧
                                                                    (w2S (isS0 vs n more l ek x) (wasS0 vs n more l ek x)).length + (1 : Nat) = (w3S (isS0 vs n more l ek x) (wasS0 vs n more l ek x)).length ∧
                                                                      ∀ (i : Nat),
                                                                        i < (w2S (isS0 vs n more l ek x) (wasS0 vs n more l ek x)).length + (1 : Nat) →
                                                                          (if i < (w2S (isS0 vs n more l ek x) (wasS0 vs n more l ek x)).length then
                                                                                  AV.int IntKind.i64 ((w2S (isS0 vs n more l ek x) (wasS0 vs n more l ek x)).getD ((0 : Nat) + i) (0 : Int))
                                                                                else
                                                                                  ((Sq.lst [AV.int IntKind.i64 (2 : Int)]).sub (0 : Nat) (1 : Nat)).get
                                                                                    (i - (w2S (isS0 vs n more l ek x) (wasS0 vs n more l ek x)).length)).sub
                                                                              (AV.int IntKind.i64 ((w3S (isS0 vs n more l ek x) (wasS0 vs n more l ek x)).getD i (0 : Int))) ∧
                                                                            (if i < (w2S (isS0 vs n more l ek x) (wasS0 vs n more l ek x)).length then
                                                                                    AV.int IntKind.i64 ((w2S (isS0 vs n more l ek x) (wasS0 vs n more l ek x)).getD ((0 : Nat) + i) (0 : Int))
                                                                                  else
                                                                                    ((Sq.lst [AV.int IntKind.i64 (2 : Int)]).sub (0 : Nat) (1 : Nat)).get
                                                                                      (i - (w2S (isS0 vs n more l ek x) (wasS0 vs n more l ek x)).length)).cells.length =
                                                                              [AV.int IntKind.i64 ((w3S (isS0 vs n more l ek x) (wasS0 vs n more l ek x)).getD i (0 : Int))].length) ∧
                                                                True))
                                                      (∃ (i_1 : Nat),
                                                        True ∧
                                                          (true = true ∧
                                                              isS0 vs n more l ek x = isS0 vs n more l ek x ∧
                                                                wasS0 vs n more l ek x = wasS0 vs n more l ek x ∧
                                                                  (atL n more [cMore more x]).mE (kindS n) = (atL n more [cMore more x]).mE (kindS n) ∧
                                                                    (((if allE (ats0 vs n more x) (3 : Nat) (kindS n) = (0 : Int) then whN (ats0 vs n more x) l (kindS n) x (3 : Nat) else (0 : Nat)) =
                                                                          if allE (ats0 vs n more x) (3 : Nat) (kindS n) = (0 : Int) then whN (ats0 vs n more x) l (kindS n) x (3 : Nat) else (0 : Nat)) ∧
                                                                        (∀ (i : Nat),
                                                                            (i < if allE (ats0 vs n more x) (3 : Nat) (kindS n) = (0 : Int) then whN (ats0 vs n more x) l (kindS n) x (3 : Nat) else (0 : Nat)) →
                                                                              whV (ats0 vs n more x) l (kindS n) x (3 : Nat) i = whV (ats0 vs n more x) l (kindS n) x (3 : Nat) i ∧
                                                                                [AV.int IntKind.i64 (whV (ats0 vs n more x) l (kindS n) x (3 : Nat) i)].length =
                                                                                  [AV.int IntKind.i64 (whV (ats0 vs n more x) l (kindS n) x (3 : Nat) i)].length) ∧
                                                                          (false = true → false = true)) ∧
                                                                      allE (ats0 vs n more x) (3 : Nat) (kindS n) = allE (ats0 vs n more x) (3 : Nat) (kindS n) ∧
                                                                        (i = i_1 ∧
                                                                            (0 : Nat) = (0 : Nat) ∧
                                                                              (w2S (isS0 vs n more l ek x) (wasS0 vs n more l ek x)).length = (w3S (isS0 vs n more l ek x) (wasS0 vs n more l ek x)).length ∧
                                                                                (@Eq (Option Nat) none none ∨ @Eq (Option Nat) none none)) ∧
                                                                          True) ∧
                                                            (i = i_1 ∧
                                                                (true = true → true = true) ∧
                                                                  (w2S (isS0 vs n more l ek x) (wasS0 vs n more l ek x)).length = (w3S (isS0 vs n more l ek x) (wasS0 vs n more l ek x)).length ∧
                                                                    ∀ (i : Nat),
                                                                      i < (w2S (isS0 vs n more l ek x) (wasS0 vs n more l ek x)).length →
                                                                        (w2S (isS0 vs n more l ek x) (wasS0 vs n more l ek x)).getD i (0 : Int) = (w3S (isS0 vs n more l ek x) (wasS0 vs n more l ek x)).getD i (0 : Int) ∧
                                                                          [AV.int IntKind.i64 ((w2S (isS0 vs n more l ek x) (wasS0 vs n more l ek x)).getD i (0 : Int))].length =
                                                                            [AV.int IntKind.i64 ((w3S (isS0 vs n more l ek x) (wasS0 vs n more l ek x)).getD i (0 : Int))].length) ∧
                                                              True) ∧
                                                    ∀ (i : Nat),
                                                      True →
                                                        NB
                                                          (impB
                                                            (isW true
                                                              (true && (atL n more [cMore more x]).mE (kindS n) == (0 : Int) && (isS0 vs n more l ek x || !wasS0 vs n more l ek x) &&
                                                                allE (ats0 vs n more x) (3 : Nat) (kindS n) == (0 : Int)))
                                                            ((((decide ((if allE (ats0 vs n more x) (3 : Nat) (kindS n) = (0 : Int) then whN (ats0 vs n more x) l (kindS n) x (3 : Nat) else (0 : Nat)) ≤ (1000000 : Nat)) &&
                                                                      decide
                                                                        ((if allE (ats0 vs n more x) (3 : Nat) (kindS n) = (0 : Int) then whN (ats0 vs n more x) l (kindS n) x (3 : Nat) else (0 : Nat)) =
                                                                          (w3S (isS0 vs n more l ek x) (wasS0 vs n more l ek x)).length) &&
                                                                    intsB (if allE (ats0 vs n more x) (3 : Nat) (kindS n) = (0 : Int) then whN (ats0 vs n more x) l (kindS n) x (3 : Nat) else (0 : Nat)) fun (k : Nat) =>
                                                                      AV.int IntKind.i64 (whV (ats0 vs n more x) l (kindS n) x (3 : Nat) k)) &&
                                                                  intsB (w3S (isS0 vs n more l ek x) (wasS0 vs n more l ek x)).length fun (k : Nat) =>
                                                                    AV.int IntKind.i64 ((w3S (isS0 vs n more l ek x) (wasS0 vs n more l ek x)).getD ((0 : Nat) + k) (0 : Int))) &&
                                                                eqFn (fun (k : Nat) => iOf (AV.int IntKind.i64 (whV (ats0 vs n more x) l (kindS n) x (3 : Nat) k))) fun (k : Nat) =>
                                                                  iOf (AV.int IntKind.i64 ((w3S (isS0 vs n more l ek x) (wasS0 vs n more l ek x)).getD ((0 : Nat) + k) (0 : Int)))) &&
                                                              (true && (decide (i = i) && true))))
                                                          (((true && (atL n more [cMore more x]).mE (kindS n) == (0 : Int) && (isS0 vs n more l ek x || !wasS0 vs n more l ek x) &&
                                                                  allE (ats0 vs n more x) (3 : Nat) (kindS n) == (0 : Int) &&
                                                                true) ==
                                                              true) =
                                                            true))))) := by
  kernel_rfl

theorem nar1_vc (vs : Nat → Int) (n more l ek x : Int) : (vcFun (mkN Tryd.prog gN (tblOf tblP) (tblOf tblPN) (fun f b => if f = 9 ∧ 100000 ≤ b then inv1 1 vs n more l ek x (b - 100000) else none) 5) 20 9 [.int .i64 n, .rof 1 (fun i => .int .i64 (vs i)) false, .agg [.int .u64 l, .int .i64 ek, .int .i64 x], .int .i64 more] .nil 0 (isBool true)).sat = (
  VB ((IntKind.i64.wrap ((n % (1073741824 : Int)).tdiv (26 : Int))).tmod (2 : Int) == (1 : Int))
      (∃ (_ : Unit),
        True ∧
          (((1 : Nat) = (1 : Nat) ∧ (∀ (i : Nat), i < (1 : Nat) → vs i = vs i ∧ [AV.int IntKind.i64 (vs i)].length = [AV.int IntKind.i64 (vs i)].length) ∧ (false = true → false = true)) ∧
              more = more ∧
                ((0 : Nat) = (0 : Nat) ∧ (0 : Nat) = (0 : Nat) ∧ (0 : Nat) = (0 : Nat)) ∧ true = true ∧ n % (1073741824 : Int) = kS n ∧ ((0 : Nat) = (0 : Nat) ∧ (0 : Nat) = (0 : Nat) ∧ (0 : Nat) = (0 : Nat)) ∧ True) ∧
            ((0 : Nat) = (0 : Nat) ∧
                (true = true → true = true) ∧
                  ((l = l ∧ ek = ek ∧ x = x ∧ True) ∧ [AV.int IntKind.u64 l, AV.int IntKind.i64 ek, AV.int IntKind.i64 x].length = [AV.int IntKind.u64 l, AV.int IntKind.i64 ek, AV.int IntKind.i64 x].length) ∧ True) ∧
              ((0 : Nat) = (0 : Nat) ∧
                  (true = true → true = true) ∧
                    (((n % (1073741824 : Int)).tmod (26 : Int) = kindS n ∧
                          ((IntKind.i64.wrap ((n % (1073741824 : Int)).tdiv (26 : Int))).tmod (2 : Int) == (1 : Int)) = bdS n ∧
                            labS (IntKind.i64.wrap ((n % (1073741824 : Int)).tdiv (52 : Int))) = boS n ∧ True ∧ [(120 : UInt8)] = [(120 : UInt8)] ∧ True) ∧
                        [AV.int IntKind.i64 ((n % (1073741824 : Int)).tmod (26 : Int)), AV.bool ((IntKind.i64.wrap ((n % (1073741824 : Int)).tdiv (26 : Int))).tmod (2 : Int) == (1 : Int)),
                              AV.int IntKind.u64 (labS (IntKind.i64.wrap ((n % (1073741824 : Int)).tdiv (52 : Int)))), AV.nils, AV.str [(120 : UInt8)]].length =
                          [AV.int IntKind.i64 (kindS n), AV.bool (bdS n), AV.int IntKind.u64 (boS n), AV.nils, AV.str [(120 : UInt8)]].length) ∧
                      True) ∧
                True)
      (∃ (_ : Unit),
        True ∧
          (((1 : Nat) = (1 : Nat) ∧ (∀ (i : Nat), i < (1 : Nat) → vs i = vs i ∧ [AV.int IntKind.i64 (vs i)].length = [AV.int IntKind.i64 (vs i)].length) ∧ (false = true → false = true)) ∧
              more = more ∧
                ((0 : Nat) = (0 : Nat) ∧ (0 : Nat) = (0 : Nat) ∧ (0 : Nat) = (0 : Nat)) ∧ true = true ∧ n % (1073741824 : Int) = kS n ∧ ((0 : Nat) = (0 : Nat) ∧ (0 : Nat) = (0 : Nat) ∧ (0 : Nat) = (0 : Nat)) ∧ True) ∧
            ((0 : Nat) = (0 : Nat) ∧
                (true = true → true = true) ∧
                  ((l = l ∧ ek = ek ∧ x = x ∧ True) ∧ [AV.int IntKind.u64 l, AV.int IntKind.i64 ek, AV.int IntKind.i64 x].length = [AV.int IntKind.u64 l, AV.int IntKind.i64 ek, AV.int IntKind.i64 x].length) ∧ True) ∧
              ((0 : Nat) = (0 : Nat) ∧
                  (true = true → true = true) ∧
                    (((n % (1073741824 : Int)).tmod (26 : Int) = kindS n ∧
                          ((IntKind.i64.wrap ((n % (1073741824 : Int)).tdiv (26 : Int))).tmod (2 : Int) == (1 : Int)) = bdS n ∧ (0 : Int) = boS n ∧ True ∧ [(120 : UInt8)] = [(120 : UInt8)] ∧ True) ∧
                        [AV.int IntKind.i64 ((n % (1073741824 : Int)).tmod (26 : Int)), AV.bool ((IntKind.i64.wrap ((n % (1073741824 : Int)).tdiv (26 : Int))).tmod (2 : Int) == (1 : Int)), AV.int IntKind.u64 (0 : Int),
                              AV.nils, AV.str [(120 : UInt8)]].length =
                          [AV.int IntKind.i64 (kindS n), AV.bool (bdS n), AV.int IntKind.u64 (boS n), AV.nils, AV.str [(120 : UInt8)]].length) ∧
                      True) ∧
                True) ∧
    ∀ (_ : Unit),
      True →
        (∃ (_ : Unit),
            True ∧
              (more = more ∧ ((0 : Nat) = (0 : Nat) ∧ (0 : Nat) = (0 : Nat) ∧ (0 : Nat) = (0 : Nat)) ∧ true = true ∧ ((0 : Nat) = (0 : Nat) ∧ (0 : Nat) = (0 : Nat) ∧ (0 : Nat) = (0 : Nat)) ∧ True) ∧
                ((0 : Nat) = (0 : Nat) ∧
                    (true = true → true = true) ∧
                      ((l = l ∧ ek = ek ∧ x = x ∧ True) ∧ [AV.int IntKind.u64 l, AV.int IntKind.i64 ek, AV.int IntKind.i64 x].length = [AV.int IntKind.u64 l, AV.int IntKind.i64 ek, AV.int IntKind.i64 x].length) ∧ True) ∧
                  ((0 : Nat) = (0 : Nat) ∧
                      (false = true → false = true) ∧
                        ((kindS n = kindS n ∧
                              bdS n = bdS n ∧
                                boS n = boS n ∧
                                  ((0 : Nat) = (0 : Nat) ∧ (0 : Nat) = (0 : Nat) ∧ (1 : Nat) = (1 : Nat) ∧ (@Eq (Option Nat) none none ∨ @Eq (Option Nat) none none)) ∧ [(120 : UInt8)] = [(120 : UInt8)] ∧ True) ∧
                            [AV.int IntKind.i64 (kindS n), AV.bool (bdS n), AV.int IntKind.u64 (boS n), AV.sl (nat_lit 10 + (1 : Nat)) (0 : Nat) (0 : Nat) (1 : Nat) none, AV.str [(120 : UInt8)]].length =
                              [AV.int IntKind.i64 (kindS n), AV.bool (bdS n), AV.int IntKind.u64 (boS n), AV.sl (11 : Nat) (0 : Nat) (0 : Nat) (1 : Nat) none, AV.str [(120 : UInt8)]].length) ∧
                          True) ∧
                    ((0 : Nat) = (0 : Nat) ∧
                        (true = true → true = true) ∧
                          (((1 : Int) + IntKind.i64.wrap (IntKind.i64.wrap ((kS n).tdiv (52 : Int)) + (0 : Int)) % (6 : Int) =
                                  (1 : Int) + IntKind.i64.wrap (IntKind.i64.wrap ((kS n).tdiv (52 : Int)) + (0 : Int)) % (6 : Int) ∧
                                vs (Int.toNat (0 : Int)) = vs (0 : Nat) ∧ True) ∧
                              [AV.int IntKind.i64 ((1 : Int) + IntKind.i64.wrap (IntKind.i64.wrap ((kS n).tdiv (52 : Int)) + (0 : Int)) % (6 : Int)), AV.int IntKind.i64 (vs (Int.toNat (0 : Int)))].length =
                                [AV.int IntKind.i64 ((1 : Int) + IntKind.i64.wrap (IntKind.i64.wrap ((kS n).tdiv (52 : Int)) + (0 : Int)) % (6 : Int)), AV.int IntKind.i64 (vs (0 : Nat))].length) ∧
                            True) ∧
                      True) ∧
          ∀ (_ : Unit),
            True →
              NB ((condsB [cAt n vs (0 : Nat) (0 : Int)].length fun (i : Nat) => [cAt n vs (0 : Nat) (0 : Int)].getD i AV.undef) && nmB [(120 : UInt8)] && u64B l && u64B (boS n) && true)
                (NB
                  ((condsB [cAt n vs (0 : Nat) (0 : Int)].length fun (i : Nat) => [cAt n vs (0 : Nat) (0 : Int)].getD i AV.undef) && nmB [(120 : UInt8)] &&
                      rngAll [cAt n vs (0 : Nat) (0 : Int)].length
                        (AtomA.mk (kindS n) (bdS n) (boS n) [cAt n vs (0 : Nat) (0 : Int)].length (fun (i : Nat) => [cAt n vs (0 : Nat) (0 : Int)].getD i AV.undef) [(120 : UInt8)]).v &&
                    true)
                  (NB
                    ((condsB [cAt n vs (0 : Nat) (0 : Int)].length fun (i : Nat) => [cAt n vs (0 : Nat) (0 : Int)].getD i AV.undef) && nmB [(120 : UInt8)] &&
                        rngAll [cAt n vs (0 : Nat) (0 : Int)].length
                          (AtomA.mk (kindS n) (bdS n) (boS n) [cAt n vs (0 : Nat) (0 : Int)].length (fun (i : Nat) => [cAt n vs (0 : Nat) (0 : Int)].getD i AV.undef) [(120 : UInt8)]).v &&
                      true)
                    (VB
                      (MatE (kindS n) (bdS n) (boS n) [cAt n vs (0 : Nat) (0 : Int)].length
                                (AtomA.mk (kindS n) (bdS n) (boS n) [cAt n vs (0 : Nat) (0 : Int)].length (fun (i : Nat) => [cAt n vs (0 : Nat) (0 : Int)].getD i AV.undef) [(120 : UInt8)]).o [(120 : UInt8)] (kindS n) !=
                              (0 : Int) ||
                            checkE (kindS n) (bdS n) (boS n) [cAt n vs (0 : Nat) (0 : Int)].length
                                (AtomA.mk (kindS n) (bdS n) (boS n) [cAt n vs (0 : Nat) (0 : Int)].length (fun (i : Nat) => [cAt n vs (0 : Nat) (0 : Int)].getD i AV.undef) [(120 : UInt8)]).o [(120 : UInt8)] !=
                              (0 : Int) ||
                          !EmpB (kindS n) (bdS n) (boS n) [cAt n vs (0 : Nat) (0 : Int)].length
                                (AtomA.mk (kindS n) (bdS n) (boS n) [cAt n vs (0 : Nat) (0 : Int)].length (fun (i : Nat) => [cAt n vs (0 : Nat) (0 : Int)].getD i AV.undef) [(120 : UInt8)]).o
                                (AtomA.mk (kindS n) (bdS n) (boS n) [cAt n vs (0 : Nat) (0 : Int)].length (fun (i : Nat) => [cAt n vs (0 : Nat) (0 : Int)].getD i AV.undef) [(120 : UInt8)]).v [(120 : UInt8)] ==
                              (SamE (kindS n) (bdS n) (boS n) [cAt n vs (0 : Nat) (0 : Int)].length
                                  (AtomA.mk (kindS n) (bdS n) (boS n) [cAt n vs (0 : Nat) (0 : Int)].length (fun (i : Nat) => [cAt n vs (0 : Nat) (0 : Int)].getD i AV.undef) [(120 : UInt8)]).o
                                  (AtomA.mk (kindS n) (bdS n) (boS n) [cAt n vs (0 : Nat) (0 : Int)].length (fun (i : Nat) => [cAt n vs (0 : Nat) (0 : Int)].getD i AV.undef) [(120 : UInt8)]).v [(120 : UInt8)] ==
                                (7 : Int)) ||
                        MatB (kindS n) (bdS n) (boS n) [cAt n vs (0 : Nat) (0 : Int)].length
                            (AtomA.mk (kindS n) (bdS n) (boS n) [cAt n vs (0 : Nat) (0 : Int)].length (fun (i : Nat) => [cAt n vs (0 : Nat) (0 : Int)].getD i AV.undef) [(120 : UInt8)]).o
                            (AtomA.mk (kindS n) (bdS n) (boS n) [cAt n vs (0 : Nat) (0 : Int)].length (fun (i : Nat) => [cAt n vs (0 : Nat) (0 : Int)].getD i AV.undef) [(120 : UInt8)]).v [(120 : UInt8)] l (kindS n) x &&
                          (EmpB (kindS n) (bdS n) (boS n) [cAt n vs (0 : Nat) (0 : Int)].length
                              (AtomA.mk (kindS n) (bdS n) (boS n) [cAt n vs (0 : Nat) (0 : Int)].length (fun (i : Nat) => [cAt n vs (0 : Nat) (0 : Int)].getD i AV.undef) [(120 : UInt8)]).o
                              (AtomA.mk (kindS n) (bdS n) (boS n) [cAt n vs (0 : Nat) (0 : Int)].length (fun (i : Nat) => [cAt n vs (0 : Nat) (0 : Int)].getD i AV.undef) [(120 : UInt8)]).v [(120 : UInt8)] ||
                            bdS n && andNotI IntKind.u64 l (boS n) != (0 : Int)))
                      (false = true)
                      (VB
                          (isW true
                            (SamE (kindS n) (bdS n) (boS n) [cAt n vs (0 : Nat) (0 : Int)].length
                                (AtomA.mk (kindS n) (bdS n) (boS n) [cAt n vs (0 : Nat) (0 : Int)].length (fun (i : Nat) => [cAt n vs (0 : Nat) (0 : Int)].getD i AV.undef) [(120 : UInt8)]).o
                                (AtomA.mk (kindS n) (bdS n) (boS n) [cAt n vs (0 : Nat) (0 : Int)].length (fun (i : Nat) => [cAt n vs (0 : Nat) (0 : Int)].getD i AV.undef) [(120 : UInt8)]).v [(120 : UInt8)] ==
                              (0 : Int)))
                          (NB
                            ((condsB [cAt n vs (0 : Nat) (0 : Int)].length fun (i : Nat) => [cAt n vs (0 : Nat) (0 : Int)].getD i AV.undef) && nmB [(120 : UInt8)] &&
                                  u64B
                                    (SamL (kindS n) (bdS n) (boS n) [cAt n vs (0 : Nat) (0 : Int)].length
                                      (AtomA.mk (kindS n) (bdS n) (boS n) [cAt n vs (0 : Nat) (0 : Int)].length (fun (i : Nat) => [cAt n vs (0 : Nat) (0 : Int)].getD i AV.undef) [(120 : UInt8)]).o
                                      (AtomA.mk (kindS n) (bdS n) (boS n) [cAt n vs (0 : Nat) (0 : Int)].length (fun (i : Nat) => [cAt n vs (0 : Nat) (0 : Int)].getD i AV.undef) [(120 : UInt8)]).v [(120 : UInt8)]) &&
                                u64B (boS n) &&
                              true)
                            (VB
                              (SamE (kindS n) (bdS n) (boS n) [cAt n vs (0 : Nat) (0 : Int)].length
                                    (AtomA.mk (kindS n) (bdS n) (boS n) [cAt n vs (0 : Nat) (0 : Int)].length (fun (i : Nat) => [cAt n vs (0 : Nat) (0 : Int)].getD i AV.undef) [(120 : UInt8)]).o
                                    (AtomA.mk (kindS n) (bdS n) (boS n) [cAt n vs (0 : Nat) (0 : Int)].length (fun (i : Nat) => [cAt n vs (0 : Nat) (0 : Int)].getD i AV.undef) [(120 : UInt8)]).v [(120 : UInt8)] ==
                                  (0 : Int) &&
                                !(MatE (kindS n) (bdS n) (boS n) [cAt n vs (0 : Nat) (0 : Int)].length
                                        (AtomA.mk (kindS n) (bdS n) (boS n) [cAt n vs (0 : Nat) (0 : Int)].length (fun (i : Nat) => [cAt n vs (0 : Nat) (0 : Int)].getD i AV.undef) [(120 : UInt8)]).o [(120 : UInt8)]
                                        (SamK (kindS n) (bdS n) (boS n) [cAt n vs (0 : Nat) (0 : Int)].length
                                          (AtomA.mk (kindS n) (bdS n) (boS n) [cAt n vs (0 : Nat) (0 : Int)].length (fun (i : Nat) => [cAt n vs (0 : Nat) (0 : Int)].getD i AV.undef) [(120 : UInt8)]).o
                                          (AtomA.mk (kindS n) (bdS n) (boS n) [cAt n vs (0 : Nat) (0 : Int)].length (fun (i : Nat) => [cAt n vs (0 : Nat) (0 : Int)].getD i AV.undef) [(120 : UInt8)]).v [(120 : UInt8)]) ==
                                      (0 : Int) &&
                                    MatB (kindS n) (bdS n) (boS n) [cAt n vs (0 : Nat) (0 : Int)].length
                                        (AtomA.mk (kindS n) (bdS n) (boS n) [cAt n vs (0 : Nat) (0 : Int)].length (fun (i : Nat) => [cAt n vs (0 : Nat) (0 : Int)].getD i AV.undef) [(120 : UInt8)]).o
                                        (AtomA.mk (kindS n) (bdS n) (boS n) [cAt n vs (0 : Nat) (0 : Int)].length (fun (i : Nat) => [cAt n vs (0 : Nat) (0 : Int)].getD i AV.undef) [(120 : UInt8)]).v [(120 : UInt8)]
                                        (SamL (kindS n) (bdS n) (boS n) [cAt n vs (0 : Nat) (0 : Int)].length
                                          (AtomA.mk (kindS n) (bdS n) (boS n) [cAt n vs (0 : Nat) (0 : Int)].length (fun (i : Nat) => [cAt n vs (0 : Nat) (0 : Int)].getD i AV.undef) [(120 : UInt8)]).o
                                          (AtomA.mk (kindS n) (bdS n) (boS n) [cAt n vs (0 : Nat) (0 : Int)].length (fun (i : Nat) => [cAt n vs (0 : Nat) (0 : Int)].getD i AV.undef) [(120 : UInt8)]).v [(120 : UInt8)])
                                        (SamK (kindS n) (bdS n) (boS n) [cAt n vs (0 : Nat) (0 : Int)].length
                                          (AtomA.mk (kindS n) (bdS n) (boS n) [cAt n vs (0 : Nat) (0 : Int)].length (fun (i : Nat) => [cAt n vs (0 : Nat) (0 : Int)].getD i AV.undef) [(120 : UInt8)]).o
                                          (AtomA.mk (kindS n) (bdS n) (boS n) [cAt n vs (0 : Nat) (0 : Int)].length (fun (i : Nat) => [cAt n vs (0 : Nat) (0 : Int)].getD i AV.undef) [(120 : UInt8)]).v [(120 : UInt8)])
                                        (SamX (kindS n) (bdS n) (boS n) [cAt n vs (0 : Nat) (0 : Int)].length
                                          (AtomA.mk (kindS n) (bdS n) (boS n) [cAt n vs (0 : Nat) (0 : Int)].length (fun (i : Nat) => [cAt n vs (0 : Nat) (0 : Int)].getD i AV.undef) [(120 : UInt8)]).o
                                          (AtomA.mk (kindS n) (bdS n) (boS n) [cAt n vs (0 : Nat) (0 : Int)].length (fun (i : Nat) => [cAt n vs (0 : Nat) (0 : Int)].getD i AV.undef) [(120 : UInt8)]).v [(120 : UInt8)]) ==
                                      true))
                              (false = true)
                              (∃ (_ : Unit),
                                True ∧
                                  (more = more ∧
                                      ((0 : Nat) = (0 : Nat) ∧ (0 : Nat) = (0 : Nat) ∧ (0 : Nat) = (0 : Nat)) ∧
                                        true = true ∧
                                          ((0 : Nat) = (0 : Nat) ∧ (0 : Nat) = (0 : Nat) ∧ (0 : Nat) = (0 : Nat)) ∧
                                            MatB (kindS n) (bdS n) (boS n) [cAt n vs (0 : Nat) (0 : Int)].length
                                                  (AtomA.mk (kindS n) (bdS n) (boS n) [cAt n vs (0 : Nat) (0 : Int)].length (fun (i : Nat) => [cAt n vs (0 : Nat) (0 : Int)].getD i AV.undef) [(120 : UInt8)]).o
                                                  (AtomA.mk (kindS n) (bdS n) (boS n) [cAt n vs (0 : Nat) (0 : Int)].length (fun (i : Nat) => [cAt n vs (0 : Nat) (0 : Int)].getD i AV.undef) [(120 : UInt8)]).v
                                                  [(120 : UInt8)] l (kindS n) x =
                                                isS1 vs n more l ek x ∧
                                              True) ∧
                                    ((0 : Nat) = (0 : Nat) ∧
                                        (true = true → true = true) ∧
                                          ((l = l ∧ kindS n = kindS n ∧ x = x ∧ True) ∧
                                              [AV.int IntKind.u64 l, AV.int IntKind.i64 (kindS n), AV.int IntKind.i64 x].length = [AV.int IntKind.u64 l, AV.int IntKind.i64 (kindS n), AV.int IntKind.i64 x].length) ∧
                                            True) ∧
                                      ((0 : Nat) = (0 : Nat) ∧
                                          (false = true → false = true) ∧
                                            ((kindS n = kindS n ∧
                                                  bdS n = bdS n ∧
                                                    boS n = boS n ∧
                                                      ((0 : Nat) = (0 : Nat) ∧ (0 : Nat) = (0 : Nat) ∧ (1 : Nat) = (1 : Nat) ∧ (@Eq (Option Nat) none none ∨ @Eq (Option Nat) none none)) ∧
                                                        [(120 : UInt8)] = [(120 : UInt8)] ∧ True) ∧
                                                [AV.int IntKind.i64 (kindS n), AV.bool (bdS n), AV.int IntKind.u64 (boS n), AV.sl (11 : Nat) (0 : Nat) (0 : Nat) (1 : Nat) none, AV.str [(120 : UInt8)]].length =
                                                  [AV.int IntKind.i64 (kindS n), AV.bool (bdS n), AV.int IntKind.u64 (boS n), AV.sl (11 : Nat) (0 : Nat) (0 : Nat) (1 : Nat) none, AV.str [(120 : UInt8)]].length) ∧
                                              True) ∧
                                        ((0 : Nat) = (0 : Nat) ∧
                                            (true = true → true = true) ∧
                                              (((1 : Int) + IntKind.i64.wrap (IntKind.i64.wrap ((kS n).tdiv (52 : Int)) + (0 : Int)) % (6 : Int) =
                                                      (1 : Int) + IntKind.i64.wrap (IntKind.i64.wrap ((kS n).tdiv (52 : Int)) + (0 : Int)) % (6 : Int) ∧
                                                    vs (0 : Nat) = vs (0 : Nat) ∧ True) ∧
                                                  [AV.int IntKind.i64 ((1 : Int) + IntKind.i64.wrap (IntKind.i64.wrap ((kS n).tdiv (52 : Int)) + (0 : Int)) % (6 : Int)), AV.int IntKind.i64 (vs (0 : Nat))].length =
                                                    [AV.int IntKind.i64 ((1 : Int) + IntKind.i64.wrap (IntKind.i64.wrap ((kS n).tdiv (52 : Int)) + (0 : Int)) % (6 : Int)), AV.int IntKind.i64 (vs (0 : Nat))].length) ∧
                                                True) ∧
                                          True)))
                          (VB
                            (SamE (kindS n) (bdS n) (boS n) [cAt n vs (0 : Nat) (0 : Int)].length
                                  (AtomA.mk (kindS n) (bdS n) (boS n) [cAt n vs (0 : Nat) (0 : Int)].length (fun (i : Nat) => [cAt n vs (0 : Nat) (0 : Int)].getD i AV.undef) [(120 : UInt8)]).o
                                  (AtomA.mk (kindS n) (bdS n) (boS n) [cAt n vs (0 : Nat) (0 : Int)].length (fun (i : Nat) => [cAt n vs (0 : Nat) (0 : Int)].getD i AV.undef) [(120 : UInt8)]).v [(120 : UInt8)] ==
                                (0 : Int) &&
                              true)
                            (false = true)
                            (∃ (_ : Unit),
                              True ∧
                                (more = more ∧
                                    ((0 : Nat) = (0 : Nat) ∧ (0 : Nat) = (0 : Nat) ∧ (0 : Nat) = (0 : Nat)) ∧
                                      true = true ∧
                                        ((0 : Nat) = (0 : Nat) ∧ (0 : Nat) = (0 : Nat) ∧ (0 : Nat) = (0 : Nat)) ∧
                                          MatB (kindS n) (bdS n) (boS n) [cAt n vs (0 : Nat) (0 : Int)].length
                                                (AtomA.mk (kindS n) (bdS n) (boS n) [cAt n vs (0 : Nat) (0 : Int)].length (fun (i : Nat) => [cAt n vs (0 : Nat) (0 : Int)].getD i AV.undef) [(120 : UInt8)]).o
                                                (AtomA.mk (kindS n) (bdS n) (boS n) [cAt n vs (0 : Nat) (0 : Int)].length (fun (i : Nat) => [cAt n vs (0 : Nat) (0 : Int)].getD i AV.undef) [(120 : UInt8)]).v [(120 : UInt8)]
                                                l (kindS n) x =
                                              isS1 vs n more l ek x ∧
                                            True) ∧
                                  ((0 : Nat) = (0 : Nat) ∧
                                      (true = true → true = true) ∧
                                        ((l = l ∧ kindS n = kindS n ∧ x = x ∧ True) ∧
                                            [AV.int IntKind.u64 l, AV.int IntKind.i64 (kindS n), AV.int IntKind.i64 x].length = [AV.int IntKind.u64 l, AV.int IntKind.i64 (kindS n), AV.int IntKind.i64 x].length) ∧
                                          True) ∧
                                    ((0 : Nat) = (0 : Nat) ∧
                                        (false = true → false = true) ∧
                                          ((kindS n = kindS n ∧
                                                bdS n = bdS n ∧
                                                  boS n = boS n ∧
                                                    ((0 : Nat) = (0 : Nat) ∧ (0 : Nat) = (0 : Nat) ∧ (1 : Nat) = (1 : Nat) ∧ (@Eq (Option Nat) none none ∨ @Eq (Option Nat) none none)) ∧
                                                      [(120 : UInt8)] = [(120 : UInt8)] ∧ True) ∧
                                              [AV.int IntKind.i64 (kindS n), AV.bool (bdS n), AV.int IntKind.u64 (boS n), AV.sl (11 : Nat) (0 : Nat) (0 : Nat) (1 : Nat) none, AV.str [(120 : UInt8)]].length =
                                                [AV.int IntKind.i64 (kindS n), AV.bool (bdS n), AV.int IntKind.u64 (boS n), AV.sl (11 : Nat) (0 : Nat) (0 : Nat) (1 : Nat) none, AV.str [(120 : UInt8)]].length) ∧
                                            True) ∧
                                      ((0 : Nat) = (0 : Nat) ∧
                                          (true = true → true = true) ∧
                                            (((1 : Int) + IntKind.i64.wrap (IntKind.i64.wrap ((kS n).tdiv (52 : Int)) + (0 : Int)) % (6 : Int) =
                                                    (1 : Int) + IntKind.i64.wrap (IntKind.i64.wrap ((kS n).tdiv (52 : Int)) + (0 : Int)) % (6 : Int) ∧
                                                  vs (0 : Nat) = vs (0 : Nat) ∧ True) ∧
                                                [AV.int IntKind.i64 ((1 : Int) + IntKind.i64.wrap (IntKind.i64.wrap ((kS n).tdiv (52 : Int)) + (0 : Int)) % (6 : Int)), AV.int IntKind.i64 (vs (0 : Nat))].length =
                                                  [AV.int IntKind.i64 ((1 : Int) + IntKind.i64.wrap (IntKind.i64.wrap ((kS n).tdiv (52 : Int)) + (0 : Int)) % (6 : Int)), AV.int IntKind.i64 (vs (0 : Nat))].length) ∧
                                              True) ∧
                                        True)) ∧
                        ∀ (_ : Unit),
                          True →
                            VB (bdS n)
                                (∃ (_ : Unit),
                                  True ∧
                                    (((0 : Nat) = (0 : Nat) ∧ (0 : Nat) = (0 : Nat) ∧ (0 : Nat) = (0 : Nat)) ∧
                                        true = true ∧
                                          ((0 : Nat) = (0 : Nat) ∧ (0 : Nat) = (0 : Nat) ∧ (0 : Nat) = (0 : Nat)) ∧
                                            isS1 vs n more l ek x = isS1 vs n more l ek x ∧ ((0 : Nat) = (0 : Nat) ∧ (0 : Nat) = (0 : Nat) ∧ (0 : Nat) = (0 : Nat)) ∧ True) ∧
                                      ((0 : Nat) = (0 : Nat) ∧
                                          (true = true → true = true) ∧
                                            ((l = l ∧ kindS n = kindS n ∧ x = x ∧ True) ∧
                                                [AV.int IntKind.u64 l, AV.int IntKind.i64 (kindS n), AV.int IntKind.i64 x].length = [AV.int IntKind.u64 l, AV.int IntKind.i64 (kindS n), AV.int IntKind.i64 x].length) ∧
                                              True) ∧
                                        ((0 : Nat) = (0 : Nat) ∧
                                            (false = true → false = true) ∧
                                              ((kindS n = kindS n ∧
                                                    bdS n = bdS n ∧
                                                      boS n = boS n ∧
                                                        ((0 : Nat) = (0 : Nat) ∧ (0 : Nat) = (0 : Nat) ∧ (1 : Nat) = (1 : Nat) ∧ (@Eq (Option Nat) none none ∨ @Eq (Option Nat) none none)) ∧
                                                          [(120 : UInt8)] = [(120 : UInt8)] ∧ True) ∧
                                                  [AV.int IntKind.i64 (kindS n), AV.bool (bdS n), AV.int IntKind.u64 (boS n), AV.sl (11 : Nat) (0 : Nat) (0 : Nat) (1 : Nat) none, AV.str [(120 : UInt8)]].length =
                                                    [AV.int IntKind.i64 (kindS n), AV.bool (bdS n), AV.int IntKind.u64 (boS n), AV.sl (11 : Nat) (0 : Nat) (0 : Nat) (1 : Nat) none, AV.str [(120 : UInt8)]].length) ∧
                                                True) ∧
                                          ((0 : Nat) = (0 : Nat) ∧
                                              (true = true → true = true) ∧
                                                (((1 : Int) + IntKind.i64.wrap (IntKind.i64.wrap ((kS n).tdiv (52 : Int)) + (0 : Int)) % (6 : Int) =
                                                        (1 : Int) + IntKind.i64.wrap (IntKind.i64.wrap ((kS n).tdiv (52 : Int)) + (0 : Int)) % (6 : Int) ∧
                                                      vs (0 : Nat) = vs (0 : Nat) ∧ True) ∧
                                                    [AV.int IntKind.i64 ((1 : Int) + IntKind.i64.wrap (IntKind.i64.wrap ((kS n).tdiv (52 : Int)) + (0 : Int)) % (6 : Int)), AV.int IntKind.i64 (vs (0 : Nat))].length =
                                                      [AV.int IntKind.i64 ((1 : Int) + IntKind.i64.wrap (IntKind.i64.wrap ((kS n).tdiv (52 : Int)) + (0 : Int)) % (6 : Int)), AV.int IntKind.i64 (vs (0 : Nat))].length) ∧
                                                  True) ∧
                                            ((0 : Nat) + (1 : Nat) = (1 : Nat) ∧
                                                (true = true → true = true) ∧
                                                  (((1 : Int) + IntKind.i64.wrap (IntKind.i64.wrap ((kS n).tdiv (52 : Int)) + (0 : Int)) % (6 : Int) =
                                                          (1 : Int) + IntKind.i64.wrap (IntKind.i64.wrap ((kS n).tdiv (52 : Int)) + (0 : Int)) % (6 : Int) ∧
                                                        vs (0 : Nat) = vs (0 : Nat) ∧ True) ∧
                                                      [AV.int IntKind.i64 ((1 : Int) + IntKind.i64.wrap (IntKind.i64.wrap ((kS n).tdiv (52 : Int)) + (0 : Int)) % (6 : Int)), AV.int IntKind.i64 (vs (0 : Nat))].length =
                                                        [AV.int IntKind.i64 ((1 : Int) + IntKind.i64.wrap (IntKind.i64.wrap ((kS n).tdiv (52 : Int)) + (0 : Int)) % (6 : Int)), AV.int IntKind.i64 (vs (0 : Nat))].length) ∧
                                                    (((1 : Int) + more % (6 : Int) = (1 : Int) + more % (6 : Int) ∧ x = x ∧ True) ∧
                                                        [AV.int IntKind.i64 ((1 : Int) + more % (6 : Int)), AV.int IntKind.i64 x].length = [AV.int IntKind.i64 ((1 : Int) + more % (6 : Int)), AV.int IntKind.i64 x].length) ∧
                                                      True) ∧
                                              ((0 : Nat) = (0 : Nat) ∧
                                                  (false = true → false = true) ∧
                                                    ((kindS n = kindS n ∧
                                                          bdS n = bdS n ∧
                                                            andI IntKind.u64 (boS n) (labS more) = bo2S n more ∧
                                                              ((0 : Nat) + (1 : Nat) = (1 : Nat) ∧ (0 : Nat) = (0 : Nat) ∧ (1 : Nat) + (1 : Nat) = (2 : Nat) ∧ (@Eq (Option Nat) none none ∨ @Eq (Option Nat) none none)) ∧
                                                                [(120 : UInt8)] = [(120 : UInt8)] ∧ True) ∧
                                                        [AV.int IntKind.i64 (kindS n), AV.bool (bdS n), AV.int IntKind.u64 (andI IntKind.u64 (boS n) (labS more)),
                                                              AV.sl (nat_lit 54 + (1 : Nat)) ((0 : Nat) + (1 : Nat)) (0 : Nat) ((1 : Nat) + (1 : Nat)) none, AV.str [(120 : UInt8)]].length =
                                                          [AV.int IntKind.i64 (kindS n), AV.bool (bdS n), AV.int IntKind.u64 (bo2S n more), AV.sl (55 : Nat) (1 : Nat) (0 : Nat) (2 : Nat) none,
                                                              AV.str [(120 : UInt8)]].length) ∧
                                                      True) ∧
                                                True)
                                (∃ (_ : Unit),
                                  True ∧
                                    (((0 : Nat) = (0 : Nat) ∧ (0 : Nat) = (0 : Nat) ∧ (0 : Nat) = (0 : Nat)) ∧
                                        true = true ∧
                                          ((0 : Nat) = (0 : Nat) ∧ (0 : Nat) = (0 : Nat) ∧ (0 : Nat) = (0 : Nat)) ∧
                                            isS1 vs n more l ek x = isS1 vs n more l ek x ∧ ((0 : Nat) = (0 : Nat) ∧ (0 : Nat) = (0 : Nat) ∧ (0 : Nat) = (0 : Nat)) ∧ True) ∧
                                      ((0 : Nat) = (0 : Nat) ∧
                                          (true = true → true = true) ∧
                                            ((l = l ∧ kindS n = kindS n ∧ x = x ∧ True) ∧
                                                [AV.int IntKind.u64 l, AV.int IntKind.i64 (kindS n), AV.int IntKind.i64 x].length = [AV.int IntKind.u64 l, AV.int IntKind.i64 (kindS n), AV.int IntKind.i64 x].length) ∧
                                              True) ∧
                                        ((0 : Nat) = (0 : Nat) ∧
                                            (false = true → false = true) ∧
                                              ((kindS n = kindS n ∧
                                                    bdS n = bdS n ∧
                                                      boS n = boS n ∧
                                                        ((0 : Nat) = (0 : Nat) ∧ (0 : Nat) = (0 : Nat) ∧ (1 : Nat) = (1 : Nat) ∧ (@Eq (Option Nat) none none ∨ @Eq (Option Nat) none none)) ∧
                                                          [(120 : UInt8)] = [(120 : UInt8)] ∧ True) ∧
                                                  [AV.int IntKind.i64 (kindS n), AV.bool (bdS n), AV.int IntKind.u64 (boS n), AV.sl (11 : Nat) (0 : Nat) (0 : Nat) (1 : Nat) none, AV.str [(120 : UInt8)]].length =
                                                    [AV.int IntKind.i64 (kindS n), AV.bool (bdS n), AV.int IntKind.u64 (boS n), AV.sl (11 : Nat) (0 : Nat) (0 : Nat) (1 : Nat) none, AV.str [(120 : UInt8)]].length) ∧
                                                True) ∧
                                          ((0 : Nat) = (0 : Nat) ∧
                                              (true = true → true = true) ∧
                                                (((1 : Int) + IntKind.i64.wrap (IntKind.i64.wrap ((kS n).tdiv (52 : Int)) + (0 : Int)) % (6 : Int) =
                                                        (1 : Int) + IntKind.i64.wrap (IntKind.i64.wrap ((kS n).tdiv (52 : Int)) + (0 : Int)) % (6 : Int) ∧
                                                      vs (0 : Nat) = vs (0 : Nat) ∧ True) ∧
                                                    [AV.int IntKind.i64 ((1 : Int) + IntKind.i64.wrap (IntKind.i64.wrap ((kS n).tdiv (52 : Int)) + (0 : Int)) % (6 : Int)), AV.int IntKind.i64 (vs (0 : Nat))].length =
                                                      [AV.int IntKind.i64 ((1 : Int) + IntKind.i64.wrap (IntKind.i64.wrap ((kS n).tdiv (52 : Int)) + (0 : Int)) % (6 : Int)), AV.int IntKind.i64 (vs (0 : Nat))].length) ∧
                                                  True) ∧
                                            ((0 : Nat) + (1 : Nat) = (1 : Nat) ∧
                                                (true = true → true = true) ∧
                                                  (((1 : Int) + IntKind.i64.wrap (IntKind.i64.wrap ((kS n).tdiv (52 : Int)) + (0 : Int)) % (6 : Int) =
                                                          (1 : Int) + IntKind.i64.wrap (IntKind.i64.wrap ((kS n).tdiv (52 : Int)) + (0 : Int)) % (6 : Int) ∧
                                                        vs (0 : Nat) = vs (0 : Nat) ∧ True) ∧
                                                      [AV.int IntKind.i64 ((1 : Int) + IntKind.i64.wrap (IntKind.i64.wrap ((kS n).tdiv (52 : Int)) + (0 : Int)) % (6 : Int)), AV.int IntKind.i64 (vs (0 : Nat))].length =
                                                        [AV.int IntKind.i64 ((1 : Int) + IntKind.i64.wrap (IntKind.i64.wrap ((kS n).tdiv (52 : Int)) + (0 : Int)) % (6 : Int)), AV.int IntKind.i64 (vs (0 : Nat))].length) ∧
                                                    (((1 : Int) + more % (6 : Int) = (1 : Int) + more % (6 : Int) ∧ x = x ∧ True) ∧
                                                        [AV.int IntKind.i64 ((1 : Int) + more % (6 : Int)), AV.int IntKind.i64 x].length = [AV.int IntKind.i64 ((1 : Int) + more % (6 : Int)), AV.int IntKind.i64 x].length) ∧
                                                      True) ∧
                                              ((0 : Nat) = (0 : Nat) ∧
                                                  (false = true → false = true) ∧
                                                    ((kindS n = kindS n ∧
                                                          bdS n = bdS n ∧
                                                            boS n = bo2S n more ∧
                                                              ((0 : Nat) + (1 : Nat) = (1 : Nat) ∧ (0 : Nat) = (0 : Nat) ∧ (1 : Nat) + (1 : Nat) = (2 : Nat) ∧ (@Eq (Option Nat) none none ∨ @Eq (Option Nat) none none)) ∧
                                                                [(120 : UInt8)] = [(120 : UInt8)] ∧ True) ∧
                                                        [AV.int IntKind.i64 (kindS n), AV.bool (bdS n), AV.int IntKind.u64 (boS n),
                                                              AV.sl (nat_lit 54 + (1 : Nat)) ((0 : Nat) + (1 : Nat)) (0 : Nat) ((1 : Nat) + (1 : Nat)) none, AV.str [(120 : UInt8)]].length =
                                                          [AV.int IntKind.i64 (kindS n), AV.bool (bdS n), AV.int IntKind.u64 (bo2S n more), AV.sl (55 : Nat) (1 : Nat) (0 : Nat) (2 : Nat) none,
                                                              AV.str [(120 : UInt8)]].length) ∧
                                                      True) ∧
                                                True) ∧
                              ∀ (_ : Unit),
                                True →
                                  NB
                                    ((condsB [cAt n vs (0 : Nat) (0 : Int), cMore more x].length fun (i : Nat) => [cAt n vs (0 : Nat) (0 : Int), cMore more x].getD i AV.undef) && nmB [(120 : UInt8)] && u64B l &&
                                        u64B (bo2S n more) &&
                                      true)
                                    (NB
                                        ((decide
                                                  ([AV.agg [AV.int IntKind.i64 (kindS n), AV.bool (bdS n), AV.int IntKind.u64 (boS n), AV.rol [cAt n vs (0 : Nat) (0 : Int)] false, AV.str [(120 : UInt8)]],
                                                        AV.agg
                                                          [AV.int IntKind.i64 (kindS n), AV.bool (bdS n), AV.int IntKind.u64 (bo2S n more), AV.rol [cAt n vs (0 : Nat) (0 : Int), cMore more x] false,
                                                            AV.str [(120 : UInt8)]],
                                                        AV.agg [AV.int IntKind.i64 (kindS n), AV.bool (bdS n), AV.int IntKind.u64 (boS n), AV.rol [cAt n vs (0 : Nat) (0 : Int)] false, AV.str [(120 : UInt8)]]].length ≤
                                                    (1000000 : Nat)) &&
                                                atsB
                                                  [AV.agg [AV.int IntKind.i64 (kindS n), AV.bool (bdS n), AV.int IntKind.u64 (boS n), AV.rol [cAt n vs (0 : Nat) (0 : Int)] false, AV.str [(120 : UInt8)]],
                                                      AV.agg
                                                        [AV.int IntKind.i64 (kindS n), AV.bool (bdS n), AV.int IntKind.u64 (bo2S n more), AV.rol [cAt n vs (0 : Nat) (0 : Int), cMore more x] false, AV.str [(120 : UInt8)]],
                                                      AV.agg [AV.int IntKind.i64 (kindS n), AV.bool (bdS n), AV.int IntKind.u64 (boS n), AV.rol [cAt n vs (0 : Nat) (0 : Int)] false, AV.str [(120 : UInt8)]]].length
                                                  fun (j : Nat) =>
                                                  nrmA
                                                    ([AV.agg [AV.int IntKind.i64 (kindS n), AV.bool (bdS n), AV.int IntKind.u64 (boS n), AV.rol [cAt n vs (0 : Nat) (0 : Int)] false, AV.str [(120 : UInt8)]],
                                                          AV.agg
                                                            [AV.int IntKind.i64 (kindS n), AV.bool (bdS n), AV.int IntKind.u64 (bo2S n more), AV.rol [cAt n vs (0 : Nat) (0 : Int), cMore more x] false,
                                                              AV.str [(120 : UInt8)]],
                                                          AV.agg [AV.int IntKind.i64 (kindS n), AV.bool (bdS n), AV.int IntKind.u64 (boS n), AV.rol [cAt n vs (0 : Nat) (0 : Int)] false, AV.str [(120 : UInt8)]]].getD
                                                      j AV.undef)) &&
                                              okAts
                                                [AV.agg [AV.int IntKind.i64 (kindS n), AV.bool (bdS n), AV.int IntKind.u64 (boS n), AV.rol [cAt n vs (0 : Nat) (0 : Int)] false, AV.str [(120 : UInt8)]],
                                                    AV.agg
                                                      [AV.int IntKind.i64 (kindS n), AV.bool (bdS n), AV.int IntKind.u64 (bo2S n more), AV.rol [cAt n vs (0 : Nat) (0 : Int), cMore more x] false, AV.str [(120 : UInt8)]],
                                                    AV.agg [AV.int IntKind.i64 (kindS n), AV.bool (bdS n), AV.int IntKind.u64 (boS n), AV.rol [cAt n vs (0 : Nat) (0 : Int)] false, AV.str [(120 : UInt8)]]].length
                                                (atsOf fun (j : Nat) =>
                                                  nrmA
                                                    ([AV.agg [AV.int IntKind.i64 (kindS n), AV.bool (bdS n), AV.int IntKind.u64 (boS n), AV.rol [cAt n vs (0 : Nat) (0 : Int)] false, AV.str [(120 : UInt8)]],
                                                          AV.agg
                                                            [AV.int IntKind.i64 (kindS n), AV.bool (bdS n), AV.int IntKind.u64 (bo2S n more), AV.rol [cAt n vs (0 : Nat) (0 : Int), cMore more x] false,
                                                              AV.str [(120 : UInt8)]],
                                                          AV.agg [AV.int IntKind.i64 (kindS n), AV.bool (bdS n), AV.int IntKind.u64 (boS n), AV.rol [cAt n vs (0 : Nat) (0 : Int)] false, AV.str [(120 : UInt8)]]].getD
                                                      j AV.undef)) &&
                                            u64B l &&
                                          true)
                                        (∃ (_ : Unit),
                                          True ∧
                                            (true = true ∧
                                                isS1 vs n more l ek x = isS1 vs n more l ek x ∧
                                                  MatB (kindS n) (bdS n) (bo2S n more) [cAt n vs (0 : Nat) (0 : Int), cMore more x].length
                                                        (AtomA.mk (kindS n) (bdS n) (bo2S n more) [cAt n vs (0 : Nat) (0 : Int), cMore more x].length
                                                            (fun (i : Nat) => [cAt n vs (0 : Nat) (0 : Int), cMore more x].getD i AV.undef) [(120 : UInt8)]).o
                                                        (AtomA.mk (kindS n) (bdS n) (bo2S n more) [cAt n vs (0 : Nat) (0 : Int), cMore more x].length
                                                            (fun (i : Nat) => [cAt n vs (0 : Nat) (0 : Int), cMore more x].getD i AV.undef) [(120 : UInt8)]).v
                                                        [(120 : UInt8)] l (kindS n) x =
                                                      wasS1 vs n more l ek x ∧
                                                    MatE (kindS n) (bdS n) (bo2S n more) [cAt n vs (0 : Nat) (0 : Int), cMore more x].length
                                                          (AtomA.mk (kindS n) (bdS n) (bo2S n more) [cAt n vs (0 : Nat) (0 : Int), cMore more x].length
                                                              (fun (i : Nat) => [cAt n vs (0 : Nat) (0 : Int), cMore more x].getD i AV.undef) [(120 : UInt8)]).o
                                                          [(120 : UInt8)] (kindS n) =
                                                        (atL n more [cAt n vs (0 : Nat) (0 : Int), cMore more x]).mE (kindS n) ∧
                                                      (((if
                                                                allE
                                                                    (atsOf fun (j : Nat) =>
                                                                      nrmA
                                                                        ([AV.agg
                                                                                [AV.int IntKind.i64 (kindS n), AV.bool (bdS n), AV.int IntKind.u64 (boS n), AV.rol [cAt n vs (0 : Nat) (0 : Int)] false,
                                                                                  AV.str [(120 : UInt8)]],
                                                                              AV.agg
                                                                                [AV.int IntKind.i64 (kindS n), AV.bool (bdS n), AV.int IntKind.u64 (bo2S n more), AV.rol [cAt n vs (0 : Nat) (0 : Int), cMore more x] false,
                                                                                  AV.str [(120 : UInt8)]],
                                                                              AV.agg
                                                                                [AV.int IntKind.i64 (kindS n), AV.bool (bdS n), AV.int IntKind.u64 (boS n), AV.rol [cAt n vs (0 : Nat) (0 : Int)] false,
                                                                                  AV.str [(120 : UInt8)]]].getD
                                                                          j AV.undef))
                                                                    [AV.agg [AV.int IntKind.i64 (kindS n), AV.bool (bdS n), AV.int IntKind.u64 (boS n), AV.rol [cAt n vs (0 : Nat) (0 : Int)] false, AV.str [(120 : UInt8)]],
                                                                        AV.agg
                                                                          [AV.int IntKind.i64 (kindS n), AV.bool (bdS n), AV.int IntKind.u64 (bo2S n more), AV.rol [cAt n vs (0 : Nat) (0 : Int), cMore more x] false,
                                                                            AV.str [(120 : UInt8)]],
                                                                        AV.agg
                                                                          [AV.int IntKind.i64 (kindS n), AV.bool (bdS n), AV.int IntKind.u64 (boS n), AV.rol [cAt n vs (0 : Nat) (0 : Int)] false,
                                                                            AV.str [(120 : UInt8)]]].length
                                                                    (kindS n) =
                                                                  (0 : Int) then
                                                              whN
                                                                (atsOf fun (j : Nat) =>
                                                                  nrmA
                                                                    ([AV.agg [AV.int IntKind.i64 (kindS n), AV.bool (bdS n), AV.int IntKind.u64 (boS n), AV.rol [cAt n vs (0 : Nat) (0 : Int)] false, AV.str [(120 : UInt8)]],
                                                                          AV.agg
                                                                            [AV.int IntKind.i64 (kindS n), AV.bool (bdS n), AV.int IntKind.u64 (bo2S n more), AV.rol [cAt n vs (0 : Nat) (0 : Int), cMore more x] false,
                                                                              AV.str [(120 : UInt8)]],
                                                                          AV.agg
                                                                            [AV.int IntKind.i64 (kindS n), AV.bool (bdS n), AV.int IntKind.u64 (boS n), AV.rol [cAt n vs (0 : Nat) (0 : Int)] false,
                                                                              AV.str [(120 : UInt8)]]].getD
                                                                      j AV.undef))
                                                                l (kindS n) x
                                                                [AV.agg [AV.int IntKind.i64 (kindS n), AV.bool (bdS n), AV.int IntKind.u64 (boS n), AV.rol [cAt n vs (0 : Nat) (0 : Int)] false, AV.str [(120 : UInt8)]],
                                                                    AV.agg
                                                                      [AV.int IntKind.i64 (kindS n), AV.bool (bdS n), AV.int IntKind.u64 (bo2S n more), AV.rol [cAt n vs (0 : Nat) (0 : Int), cMore more x] false,
                                                                        AV.str [(120 : UInt8)]],
                                                                    AV.agg
                                                                      [AV.int IntKind.i64 (kindS n), AV.bool (bdS n), AV.int IntKind.u64 (boS n), AV.rol [cAt n vs (0 : Nat) (0 : Int)] false, AV.str [(120 : UInt8)]]].length
                                                            else (0 : Nat)) =
                                                            if allE (ats1 vs n more x) (3 : Nat) (kindS n) = (0 : Int) then whN (ats1 vs n more x) l (kindS n) x (3 : Nat) else (0 : Nat)) ∧
                                                          (∀ (i : Nat),
                                                              (i <
                                                                  if
                                                                      allE
                                                                          (atsOf fun (j : Nat) =>
                                                                            nrmA
                                                                              ([AV.agg
                                                                                      [AV.int IntKind.i64 (kindS n), AV.bool (bdS n), AV.int IntKind.u64 (boS n), AV.rol [cAt n vs (0 : Nat) (0 : Int)] false,
                                                                                        AV.str [(120 : UInt8)]],
                                                                                    AV.agg
                                                                                      [AV.int IntKind.i64 (kindS n), AV.bool (bdS n), AV.int IntKind.u64 (bo2S n more),
                                                                                        AV.rol [cAt n vs (0 : Nat) (0 : Int), cMore more x] false, AV.str [(120 : UInt8)]],
                                                                                    AV.agg
                                                                                      [AV.int IntKind.i64 (kindS n), AV.bool (bdS n), AV.int IntKind.u64 (boS n), AV.rol [cAt n vs (0 : Nat) (0 : Int)] false,
                                                                                        AV.str [(120 : UInt8)]]].getD
                                                                                j AV.undef))
                                                                          [AV.agg
                                                                                [AV.int IntKind.i64 (kindS n), AV.bool (bdS n), AV.int IntKind.u64 (boS n), AV.rol [cAt n vs (0 : Nat) (0 : Int)] false,
                                                                                  AV.str [(120 : UInt8)]],
                                                                              AV.agg
                                                                                [AV.int IntKind.i64 (kindS n), AV.bool (bdS n), AV.int IntKind.u64 (bo2S n more), AV.rol [cAt n vs (0 : Nat) (0 : Int), cMore more x] false,
                                                                                  AV.str [(120 : UInt8)]],
                                                                              AV.agg
                                                                                [AV.int IntKind.i64 (kindS n), AV.bool (bdS n), AV.int IntKind.u64 (boS n), AV.rol [cAt n vs (0 : Nat) (0 : Int)] false,
                                                                                  AV.str [(120 : UInt8)]]].length
                                                                          (kindS n) =
                                                                        (0 : Int) then
                                                                    whN
                                                                      (atsOf fun (j : Nat) =>
                                                                        nrmA
                                                                          ([AV.agg
                                                                                  [AV.int IntKind.i64 (kindS n), AV.bool (bdS n), AV.int IntKind.u64 (boS n), AV.rol [cAt n vs (0 : Nat) (0 : Int)] false,
                                                                                    AV.str [(120 : UInt8)]],
                                                                                AV.agg
                                                                                  [AV.int IntKind.i64 (kindS n), AV.bool (bdS n), AV.int IntKind.u64 (bo2S n more), AV.rol [cAt n vs (0 : Nat) (0 : Int), cMore more x] false,
                                                                                    AV.str [(120 : UInt8)]],
                                                                                AV.agg
                                                                                  [AV.int IntKind.i64 (kindS n), AV.bool (bdS n), AV.int IntKind.u64 (boS n), AV.rol [cAt n vs (0 : Nat) (0 : Int)] false,
                                                                                    AV.str [(120 : UInt8)]]].getD
                                                                            j AV.undef))
                                                                      l (kindS n) x
                                                                      [AV.agg
                                                                            [AV.int IntKind.i64 (kindS n), AV.bool (bdS n), AV.int IntKind.u64 (boS n), AV.rol [cAt n vs (0 : Nat) (0 : Int)] false, AV.str [(120 : UInt8)]],
                                                                          AV.agg
                                                                            [AV.int IntKind.i64 (kindS n), AV.bool (bdS n), AV.int IntKind.u64 (bo2S n more), AV.rol [cAt n vs (0 : Nat) (0 : Int), cMore more x] false,
                                                                              AV.str [(120 : UInt8)]],
                                                                          AV.agg
                                                                            [AV.int IntKind.i64 (kindS n), AV.bool (bdS n), AV.int IntKind.u64 (boS n), AV.rol [cAt n vs (0 : Nat) (0 : Int)] false,
                                                                              AV.str [(120 : UInt8)]]].length
                                                                  else (0 : Nat)) →
                                                                whV
                                                                      (atsOf fun (j : Nat) =>
                                                                        nrmA
                                                                          ([AV.agg
                                                                                  [AV.int IntKind.i64 (kindS n), AV.bool (bdS n), AV.int IntKind.u64 (boS n), AV.rol [cAt n vs (0 : Nat) (0 : Int)] false,
                                                                                    AV.str [(120 : UInt8)]],
                                                                                AV.agg
                                                                                  [AV.int IntKind.i64 (kindS n), AV.bool (bdS n), AV.int IntKind.u64 (bo2S n more), AV.rol [cAt n vs (0 : Nat) (0 : Int), cMore more x] false,
                                                                                    AV.str [(120 : UInt8)]],
                                                                                AV.agg
                                                                                  [AV.int IntKind.i64 (kindS n), AV.bool (bdS n), AV.int IntKind.u64 (boS n), AV.rol [cAt n vs (0 : Nat) (0 : Int)] false,
                                                                                    AV.str [(120 : UInt8)]]].getD
                                                                            j AV.undef))
                                                                      l (kindS n) x
                                                                      [AV.agg
                                                                            [AV.int IntKind.i64 (kindS n), AV.bool (bdS n), AV.int IntKind.u64 (boS n), AV.rol [cAt n vs (0 : Nat) (0 : Int)] false, AV.str [(120 : UInt8)]],
                                                                          AV.agg
                                                                            [AV.int IntKind.i64 (kindS n), AV.bool (bdS n), AV.int IntKind.u64 (bo2S n more), AV.rol [cAt n vs (0 : Nat) (0 : Int), cMore more x] false,
                                                                              AV.str [(120 : UInt8)]],
                                                                          AV.agg
                                                                            [AV.int IntKind.i64 (kindS n), AV.bool (bdS n), AV.int IntKind.u64 (boS n), AV.rol [cAt n vs (0 : Nat) (0 : Int)] false,
                                                                              AV.str [(120 : UInt8)]]].length
                                                                      i =
                                                                    whV (ats1 vs n more x) l (kindS n) x (3 : Nat) i ∧
                                                                  [AV.int IntKind.i64
                                                                          (whV
                                                                            (atsOf fun (j : Nat) =>
                                                                              nrmA
                                                                                ([AV.agg
                                                                                        [AV.int IntKind.i64 (kindS n), AV.bool (bdS n), AV.int IntKind.u64 (boS n), AV.rol [cAt n vs (0 : Nat) (0 : Int)] false,
                                                                                          AV.str [(120 : UInt8)]],
                                                                                      AV.agg
                                                                                        [AV.int IntKind.i64 (kindS n), AV.bool (bdS n), AV.int IntKind.u64 (bo2S n more),
                                                                                          AV.rol [cAt n vs (0 : Nat) (0 : Int), cMore more x] false, AV.str [(120 : UInt8)]],
                                                                                      AV.agg
                                                                                        [AV.int IntKind.i64 (kindS n), AV.bool (bdS n), AV.int IntKind.u64 (boS n), AV.rol [cAt n vs (0 : Nat) (0 : Int)] false,
                                                                                          AV.str [(120 : UInt8)]]].getD
                                                                                  j AV.undef))
                                                                            l (kindS n) x
                                                                            [AV.agg
                                                                                  [AV.int IntKind.i64 (kindS n), AV.bool (bdS n), AV.int IntKind.u64 (boS n), AV.rol [cAt n vs (0 : Nat) (0 : Int)] false,
                                                                                    AV.str [(120 : UInt8)]],
                                                                                AV.agg
                                                                                  [AV.int IntKind.i64 (kindS n), AV.bool (bdS n), AV.int IntKind.u64 (bo2S n more), AV.rol [cAt n vs (0 : Nat) (0 : Int), cMore more x] false,
                                                                                    AV.str [(120 : UInt8)]],
                                                                                AV.agg
                                                                                  [AV.int IntKind.i64 (kindS n), AV.bool (bdS n), AV.int IntKind.u64 (boS n), AV.rol [cAt n vs (0 : Nat) (0 : Int)] false,
                                                                                    AV.str [(120 : UInt8)]]].length
                                                                            i)].length =
                                                                    [AV.int IntKind.i64 (whV (ats1 vs n more x) l (kindS n) x (3 : Nat) i)].length) ∧
                                                            (false = true → false = true)) ∧
                                                        allE
                                                              (atsOf fun (j : Nat) =>
                                                                nrmA
                                                                  ([AV.agg [AV.int IntKind.i64 (kindS n), AV.bool (bdS n), AV.int IntKind.u64 (boS n), AV.rol [cAt n vs (0 : Nat) (0 : Int)] false, AV.str [(120 : UInt8)]],
                                                                        AV.agg
                                                                          [AV.int IntKind.i64 (kindS n), AV.bool (bdS n), AV.int IntKind.u64 (bo2S n more), AV.rol [cAt n vs (0 : Nat) (0 : Int), cMore more x] false,
                                                                            AV.str [(120 : UInt8)]],
                                                                        AV.agg
                                                                          [AV.int IntKind.i64 (kindS n), AV.bool (bdS n), AV.int IntKind.u64 (boS n), AV.rol [cAt n vs (0 : Nat) (0 : Int)] false,
                                                                            AV.str [(120 : UInt8)]]].getD
                                                                    j AV.undef))
                                                              [AV.agg [AV.int IntKind.i64 (kindS n), AV.bool (bdS n), AV.int IntKind.u64 (boS n), AV.rol [cAt n vs (0 : Nat) (0 : Int)] false, AV.str [(120 : UInt8)]],
                                                                  AV.agg
                                                                    [AV.int IntKind.i64 (kindS n), AV.bool (bdS n), AV.int IntKind.u64 (bo2S n more), AV.rol [cAt n vs (0 : Nat) (0 : Int), cMore more x] false,
                                                                      AV.str [(120 : UInt8)]],
                                                                  AV.agg
                                                                    [AV.int IntKind.i64 (kindS n), AV.bool (bdS n), AV.int IntKind.u64 (boS n), AV.rol [cAt n vs (0 : Nat) (0 : Int)] false, AV.str [(120 : UInt8)]]].length
                                                              (kindS n) =
                                                            allE (ats1 vs n more x) (3 : Nat) (kindS n) ∧
                                                          True) ∧
                                              True) ∧
                                      ∀ (_ : Unit),
                                        True →
                                          VB (isS1 vs n more l ek x)
                                              (∃ (i : Nat),
                                                True ∧
                                                  (true = true ∧
                                                      isS1 vs n more l ek x = isS1 vs n more l ek x ∧
                                                        wasS1 vs n more l ek x = wasS1 vs n more l ek x ∧
                                                          (atL n more [cAt n vs (0 : Nat) (0 : Int), cMore more x]).mE (kindS n) = (atL n more [cAt n vs (0 : Nat) (0 : Int), cMore more x]).mE (kindS n) ∧
                                                            (((if allE (ats1 vs n more x) (3 : Nat) (kindS n) = (0 : Int) then whN (ats1 vs n more x) l (kindS n) x (3 : Nat) else (0 : Nat)) =
                                                                  if allE (ats1 vs n more x) (3 : Nat) (kindS n) = (0 : Int) then whN (ats1 vs n more x) l (kindS n) x (3 : Nat) else (0 : Nat)) ∧
                                                                (∀ (i : Nat),
                                                                    (i < if allE (ats1 vs n more x) (3 : Nat) (kindS n) = (0 : Int) then whN (ats1 vs n more x) l (kindS n) x (3 : Nat) else (0 : Nat)) →
                                                                      whV (ats1 vs n more x) l (kindS n) x (3 : Nat) i = whV (ats1 vs n more x) l (kindS n) x (3 : Nat) i ∧
                                                                        [AV.int IntKind.i64 (whV (ats1 vs n more x) l (kindS n) x (3 : Nat) i)].length =
                                                                          [AV.int IntKind.i64 (whV (ats1 vs n more x) l (kindS n) x (3 : Nat) i)].length) ∧
                                                                  (false = true → false = true)) ∧
                                                              allE (ats1 vs n more x) (3 : Nat) (kindS n) = allE (ats1 vs n more x) (3 : Nat) (kindS n) ∧
                                                                ((0 : Nat) = i ∧ (0 : Nat) = (0 : Nat) ∧ (1 : Nat) = (w1S (isS1 vs n more l ek x)).length ∧ (@Eq (Option Nat) none none ∨ @Eq (Option Nat) none none)) ∧
                                                                  True) ∧
                                                    ((0 : Nat) = i ∧
                                                        (true = true → true = true) ∧
                                                          [AV.int IntKind.i64 (0 : Int)].length = (w1S (isS1 vs n more l ek x)).length ∧
                                                            ((0 : Int) = (w1S (isS1 vs n more l ek x)).getD (0 : Nat) (0 : Int) ∧
                                                                [AV.int IntKind.i64 (0 : Int)].length = [AV.int IntKind.i64 ((w1S (isS1 vs n more l ek x)).getD (0 : Nat) (0 : Int))].length) ∧
                                                              True) ∧
                                                      True)
                                              (∃ (i : Nat),
                                                True ∧
                                                  (true = true ∧
                                                      isS1 vs n more l ek x = isS1 vs n more l ek x ∧
                                                        wasS1 vs n more l ek x = wasS1 vs n more l ek x ∧
                                                          (atL n more [cAt n vs (0 : Nat) (0 : Int), cMore more x]).mE (kindS n) = (atL n more [cAt n vs (0 : Nat) (0 : Int), cMore more x]).mE (kindS n) ∧
                                                            (((if allE (ats1 vs n more x) (3 : Nat) (kindS n) = (0 : Int) then whN (ats1 vs n more x) l (kindS n) x (3 : Nat) else (0 : Nat)) =
                                                                  if allE (ats1 vs n more x) (3 : Nat) (kindS n) = (0 : Int) then whN (ats1 vs n more x) l (kindS n) x (3 : Nat) else (0 : Nat)) ∧
                                                                (∀ (i : Nat),
                                                                    (i < if allE (ats1 vs n more x) (3 : Nat) (kindS n) = (0 : Int) then whN (ats1 vs n more x) l (kindS n) x (3 : Nat) else (0 : Nat)) →
                                                                      whV (ats1 vs n more x) l (kindS n) x (3 : Nat) i = whV (ats1 vs n more x) l (kindS n) x (3 : Nat) i ∧
                                                                        [AV.int IntKind.i64 (whV (ats1 vs n more x) l (kindS n) x (3 : Nat) i)].length =
                                                                          [AV.int IntKind.i64 (whV (ats1 vs n more x) l (kindS n) x (3 : Nat) i)].length) ∧
                                                                  (false = true → false = true)) ∧
                                                              allE (ats1 vs n more x) (3 : Nat) (kindS n) = allE (ats1 vs n more x) (3 : Nat) (kindS n) ∧
                                                                ((w1S (isS1 vs n more l ek x)).length = (0 : Nat) ∧ i = i ∧ (w1S (isS1 vs n more l ek x)).length = (0 : Nat)) ∧ True) ∧
                                                    (w1S (isS1 vs n more l ek x)).length = (0 : Nat) ∧ True) ∧
                                            ∀ (i : Nat),
                                              True →
                                                VB (wasS1 vs n more l ek x)
                                                    (NB (true && decide (i = i) && room ((w1S (isS1 vs n more l ek x)).length + (1 : Nat)) (8 : Nat))
                                                      (∃ (i_1 : Nat),
                                                        True ∧
                                                          (true = true ∧
                                                              isS1 vs n more l ek x = isS1 vs n more l ek x ∧
                                                                wasS1 vs n more l ek x = wasS1 vs n more l ek x ∧
                                                                  (atL n more [cAt n vs (0 : Nat) (0 : Int), cMore more x]).mE (kindS n) = (atL n more [cAt n vs (0 : Nat) (0 : Int), cMore more x]).mE (kindS n) ∧
                                                                    (((if allE (ats1 vs n more x) (3 : Nat) (kindS n) = (0 : Int) then whN (ats1 vs n more x) l (kindS n) x (3 : Nat) else (0 : Nat)) =
                                                                          if allE (ats1 vs n more x) (3 : Nat) (kindS n) = (0 : Int) then whN (ats1 vs n more x) l (kindS n) x (3 : Nat) else (0 : Nat)) ∧
                                                                        (∀ (i : Nat),
                                                                            (i < if allE (ats1 vs n more x) (3 : Nat) (kindS n) = (0 : Int) then whN (ats1 vs n more x) l (kindS n) x (3 : Nat) else (0 : Nat)) →
                                                                              whV (ats1 vs n more x) l (kindS n) x (3 : Nat) i = whV (ats1 vs n more x) l (kindS n) x (3 : Nat) i ∧
                                                                                [AV.int IntKind.i64 (whV (ats1 vs n more x) l (kindS n) x (3 : Nat) i)].length =
                                                                                  [AV.int IntKind.i64 (whV (ats1 vs n more x) l (kindS n) x (3 : Nat) i)].length) ∧
                                                                          (false = true → false = true)) ∧
                                                                      allE (ats1 vs n more x) (3 : Nat) (kindS n) = allE (ats1 vs n more x) (3 : Nat) (kindS n) ∧
                                                                        (i + (1 : Nat) = i_1 ∧
                                                                            (0 : Nat) = (0 : Nat) ∧
                                                                              (w1S (isS1 vs n more l ek x)).length + (1 : Nat) = (w2S (isS1 vs n more l ek x) (wasS1 vs n more l ek x)).length ∧
                                                                                (@Eq (Option Nat) none none ∨ @Eq (Option Nat) none none)) ∧
                                                                          True) ∧
                                                            (i + (1 : Nat) = i_1 ∧
                                                                (true = true → true = true) ∧
                                                                  (w1S (isS1 vs n more l ek x)).length + (1 : Nat) = (w2S (isS1 vs n more l ek x) (wasS1 vs n more l ek x)).length ∧
                                                                    ∀ (i : Nat),
                                                                      i < (w1S (isS1 vs n more l ek x)).length + (1 : Nat) →
                                                                        (if i < (w1S (isS1 vs n more l ek x)).length then AV.int IntKind.i64 ((w1S (isS1 vs n more l ek x)).getD ((0 : Nat) + i) (0 : Int))
                                                                              else ((Sq.lst [AV.int IntKind.i64 (1 : Int)]).sub (0 : Nat) (1 : Nat)).get (i - (w1S (isS1 vs n more l ek x)).length)).sub
                                                                            (AV.int IntKind.i64 ((w2S (isS1 vs n more l ek x) (wasS1 vs n more l ek x)).getD i (0 : Int))) ∧
                                                                          (if i < (w1S (isS1 vs n more l ek x)).length then AV.int IntKind.i64 ((w1S (isS1 vs n more l ek x)).getD ((0 : Nat) + i) (0 : Int))
                                                                                else ((Sq.lst [AV.int IntKind.i64 (1 : Int)]).sub (0 : Nat) (1 : Nat)).get (i - (w1S (isS1 vs n more l ek x)).length)).cells.length =
                                                                            [AV.int IntKind.i64 ((w2S (isS1 vs n more l ek x) (wasS1 vs n more l ek x)).getD i (0 : Int))].length) ∧
                                                              True))
                                                    (∃ (i_1 : Nat),
                                                      True ∧
                                                        (true = true ∧
                                                            isS1 vs n more l ek x = isS1 vs n more l ek x ∧
                                                              wasS1 vs n more l ek x = wasS1 vs n more l ek x ∧
                                                                (atL n more [cAt n vs (0 : Nat) (0 : Int), cMore more x]).mE (kindS n) = (atL n more [cAt n vs (0 : Nat) (0 : Int), cMore more x]).mE (kindS n) ∧
                                                                  (((if allE (ats1 vs n more x) (3 : Nat) (kindS n) = (0 : Int) then whN (ats1 vs n more x) l (kindS n) x (3 : Nat) else (0 : Nat)) =
                                                                        if allE (ats1 vs n more x) (3 : Nat) (kindS n) = (0 : Int) then whN (ats1 vs n more x) l (kindS n) x (3 : Nat) else (0 : Nat)) ∧
                                                                      (∀ (i : Nat),
                                                                          (i < if allE (ats1 vs n more x) (3 : Nat) (kindS n) = (0 : Int) then whN (ats1 vs n more x) l (kindS n) x (3 : Nat) else (0 : Nat)) →
                                                                            whV (ats1 vs n more x) l (kindS n) x (3 : Nat) i = whV (ats1 vs n more x) l (kindS n) x (3 : Nat) i ∧
                                                                              [AV.int IntKind.i64 (whV (ats1 vs n more x) l (kindS n) x (3 : Nat) i)].length =
                                                                                [AV.int IntKind.i64 (whV (ats1 vs n more x) l (kindS n) x (3 : Nat) i)].length) ∧
                                                                        (false = true → false = true)) ∧
                                                                    allE (ats1 vs n more x) (3 : Nat) (kindS n) = allE (ats1 vs n more x) (3 : Nat) (kindS n) ∧
                                                                      (i = i_1 ∧
                                                                          (0 : Nat) = (0 : Nat) ∧
                                                                            (w1S (isS1 vs n more l ek x)).length = (w2S (isS1 vs n more l ek x) (wasS1 vs n more l ek x)).length ∧
                                                                              (@Eq (Option Nat) none none ∨ @Eq (Option Nat) none none)) ∧
                                                                        True) ∧
                                                          (i = i_1 ∧
                                                              (true = true → true = true) ∧
                                                                (w1S (isS1 vs n more l ek x)).length = (w2S (isS1 vs n more l ek x) (wasS1 vs n more l ek x)).length ∧
                                                                  ∀ (i : Nat),
                                                                    i < (w1S (isS1 vs n more l ek x)).length →
                                                                      (w1S (isS1 vs n more l ek x)).getD i (0 : Int) = (w2S (isS1 vs n more l ek x) (wasS1 vs n more l ek x)).getD i (0 : Int) ∧
                                                                        [AV.int IntKind.i64 ((w1S (isS1 vs n more l ek x)).getD i (0 : Int))].length =
                                                                          [AV.int IntKind.i64 ((w2S (isS1 vs n more l ek x) (wasS1 vs n more l ek x)).getD i (0 : Int))].length) ∧
                                                            True) ∧
                                                  ∀ (i : Nat),
                                                    True →
                                                      VB (isS1 vs n more l ek x)
                                                          (NB (true && decide (i = i) && room ((w2S (isS1 vs n more l ek x) (wasS1 vs n more l ek x)).length + (1 : Nat)) (8 : Nat))
                                                            (∃ (i_1 : Nat),
                                                              True ∧
                                                                (true = true ∧
                                                                    isS1 vs n more l ek x = isS1 vs n more l ek x ∧
                                                                      wasS1 vs n more l ek x = wasS1 vs n more l ek x ∧
                                                                        (atL n more [cAt n vs (0 : Nat) (0 : Int), cMore more x]).mE (kindS n) = (atL n more [cAt n vs (0 : Nat) (0 : Int), cMore more x]).mE (kindS n) ∧
                                                                          (((if allE (ats1 vs n more x) (3 : Nat) (kindS n) = (0 : Int) then whN (ats1 vs n more x) l (kindS n) x (3 : Nat) else (0 : Nat)) =
                                                                                if allE (ats1 vs n more x) (3 : Nat) (kindS n) = (0 : Int) then whN (ats1 vs n more x) l (kindS n) x (3 : Nat) else (0 : Nat)) ∧
                                                                              (∀ (i : Nat),
                                                                                  (i < if allE (ats1 vs n more x) (3 : Nat) (kindS n) = (0 : Int) then whN (ats1 vs n more x) l (kindS n) x (3 : Nat) else (0 : Nat)) →
                                                                                    whV (ats1 vs n more x) l (kindS n) x (3 : Nat) i = whV (ats1 vs n more x) l (kindS n) x (3 : Nat) i ∧
                                                                                      [AV.int IntKind.i64 (whV (ats1 vs n more x) l (kindS n) x (3 : Nat) i)].length =
                                                                                        [AV.int IntKind.i64 (whV (ats1 vs n more x) l (kindS n) x (3 : Nat) i)].length) ∧
                                                                                (false = true → false = true)) ∧
                                                                            allE (ats1 vs n more x) (3 : Nat) (kindS n) = allE (ats1 vs n more x) (3 : Nat) (kindS n) ∧
                                                                              (i + (1 : Nat) = i_1 ∧
                                                                                  (0 : Nat) = (0 : Nat) ∧
                                                                                    (w2S (isS1 vs n more l ek x) (wasS1 vs n more l ek x)).length + (1 : Nat) =
                                                                                        (w3S (isS1 vs n more l ek x) (wasS1 vs n more l ek x)).length ∧
                                                                                      (@Eq (Option Nat) none none ∨ @Eq (Option Nat) none none)) ∧
                                                                                True) ∧
                                                                  (i + (1 : Nat) = i_1 ∧
                                                                      (true = true → true = true) ∧
                                                                        (w2S (isS1 vs n more l ek x) (wasS1 vs n more l ek x)).length + (1 : Nat) = (w3S (isS1 vs n more l ek x) (wasS1 vs n more l ek x)).length ∧
                                                                          ∀ (i : Nat),
                                                                            i < (w2S (isS1 vs n more l ek x) (wasS1 vs n more l ek x)).length + (1 : Nat) →
                                                                              (if i < (w2S (isS1 vs n more l ek x) (wasS1 vs n more l ek x)).length then
                                                                                      AV.int IntKind.i64 ((w2S (isS1 vs n more l ek x) (wasS1 vs n more l ek x)).getD ((0 : Nat) + i) (0 : Int))
                                                                                    else
                                                                                      ((Sq.lst [AV.int IntKind.i64 (2 : Int)]).sub (0 : Nat) (1 : Nat)).get
                                                                                        (i - (w2S (isS1 vs n more l ek x) (wasS1 vs n more l ek x)).length)).sub
                                                                                  (AV.int IntKind.i64 ((w3S (isS1 vs n more l ek x) (wasS1 vs n more l ek x)).getD i (0 : Int))) ∧
                                                                                (if i < (w2S (isS1 vs n more l ek x) (wasS1 vs n more l ek x)).length then
                                                                                        AV.int IntKind.i64 ((w2S (isS1 vs n more l ek x) (wasS1 vs n more l ek x)).getD ((0 : Nat) + i) (0 : Int))
                                                                                      else
                                                                                        ((Sq.lst [AV.int IntKind.i64 (2 : Int)]).sub (0 : Nat) (1 : Nat)).get
                                                                                          (i - (w2S (isS1 vs n more l ek x) (wasS1 vs n more l ek x)).length)).cells.length =
                                                                                  [AV.int IntKind.i64 ((w3S (isS1 vs n more l ek x) (wasS1 vs n more l ek x)).getD i (0 : Int))].length) ∧
                                                                    True))
                                                          (∃ (i_1 : Nat),
                                                            True ∧
                                                              (true = true ∧
                                                                  isS1 vs n more l ek x = isS1 vs n more l ek x ∧
                                                                    wasS1 vs n more l ek x = wasS1 vs n more l ek x ∧
                                                                      (atL n more [cAt n vs (0 : Nat) (0 : Int), cMore more x]).mE (kindS n) = (atL n more [cAt n vs (0 : Nat) (0 : Int), cMore more x]).mE (kindS n) ∧
                                                                        (((if allE (ats1 vs n more x) (3 : Nat) (kindS n) = (0 : Int) then whN (ats1 vs n more x) l (kindS n) x (3 : Nat) else (0 : Nat)) =
                                                                              if allE (ats1 vs n more x) (3 : Nat) (kindS n) = (0 : Int) then whN (ats1 vs n more x) l (kindS n) x (3 : Nat) else (0 : Nat)) ∧
                                                                            (∀ (i : Nat),
                                                                                (i < if allE (ats1 vs n more x) (3 : Nat) (kindS n) = (0 : Int) then whN (ats1 vs n more x) l (kindS n) x (3 : Nat) else (0 : Nat)) →
                                                                                  whV (ats1 vs n more x) l (kindS n) x (3 : Nat) i = whV (ats1 vs n more x) l (kindS n) x (3 : Nat) i ∧
                                                                                    [AV.int IntKind.i64 (whV (ats1 vs n more x) l (kindS n) x (3 : Nat) i)].length =
                                                                                      [AV.int IntKind.i64 (whV (ats1 vs n more x) l (kindS n) x (3 : Nat) i)].length) ∧
                                                                              (false = true → false = true)) ∧
                                                                          allE (ats1 vs n more x) (3 : Nat) (kindS n) = allE (ats1 vs n more x) (3 : Nat) (kindS n) ∧
                                                                            (i = i_1 ∧
                                                                                (0 : Nat) = (0 : Nat) ∧
                                                                                  (w2S (isS1 vs n more l ek x) (wasS1 vs n more l ek x)).length = (w3S (isS1 vs n more l ek x) (wasS1 vs n more l ek x)).length ∧
                                                                                    (@Eq (Option Nat) none none ∨ @Eq (Option Nat) none none)) ∧
                                                                              True) ∧
                                                                (i = i_1 ∧
                                                                    (true = true → true = true) ∧
                                                                      (w2S (isS1 vs n more l ek x) (wasS1 vs n more l ek x)).length = (w3S (isS1 vs n more l ek x) (wasS1 vs n more l ek x)).length ∧
                                                                        ∀ (i : Nat),
                                                                          i < (w2S (isS1 vs n more l ek x) (wasS1 vs n more l ek x)).length →
                                                                            (w2S (isS1 vs n more l ek x) (wasS1 vs n more l ek x)).getD i (0 : Int) =
                                                                                (w3S (isS1 vs n more l ek x) (wasS1 vs n more l ek x)).getD i (0 : Int) ∧
                                                                              [AV.int IntKind.i64 ((w2S (isS1 vs n more l ek x) (wasS1 vs n more l ek x)).getD i (0 : Int))].length =
                                                                                [AV.int IntKind.i64 ((w3S (isS1 vs n more l ek x) (wasS1 vs n more l ek x)).getD i (0 : Int))].length) ∧
                                                                  True) ∧
                                                        ∀ (i : Nat),
                                                          True →
                                                            NB
                                                              (impB
                                                                (isW true
                                                                  (true && (atL n more [cAt n vs (0 : Nat) (0 : Int), cMore more x]).mE (kindS n) == (0 : Int) && (isS1 vs n more l ek x || !wasS1 vs n more l ek x) &&
                                                                    allE (ats1 vs n more x) (3 : Nat) (kindS n) == (0 : Int)))
                                                                ((((decide
                                                                            ((if allE (ats1 vs n more x) (3 : Nat) (kindS n) = (0 : Int) then whN (ats1 vs n more x) l (kindS n) x (3 : Nat) else (0 : Nat)) ≤
                                                                              (1000000 : Nat)) &&
                                                                          decide
                                                                            ((if allE (ats1 vs n more x) (3 : Nat) (kindS n) = (0 : Int) then whN (ats1 vs n more x) l (kindS n) x (3 : Nat) else (0 : Nat)) =
                                                                              (w3S (isS1 vs n more l ek x) (wasS1 vs n more l ek x)).length) &&
                                                                        intsB (if allE (ats1 vs n more x) (3 : Nat) (kindS n) = (0 : Int) then whN (ats1 vs n more x) l (kindS n) x (3 : Nat) else (0 : Nat)) fun (k : Nat) =>
                                                                          AV.int IntKind.i64 (whV (ats1 vs n more x) l (kindS n) x (3 : Nat) k)) &&
                                                                      intsB (w3S (isS1 vs n more l ek x) (wasS1 vs n more l ek x)).length fun (k : Nat) =>
                                                                        AV.int IntKind.i64 ((w3S (isS1 vs n more l ek x) (wasS1 vs n more l ek x)).getD ((0 : Nat) + k) (0 : Int))) &&
                                                                    eqFn (fun (k : Nat) => iOf (AV.int IntKind.i64 (whV (ats1 vs n more x) l (kindS n) x (3 : Nat) k))) fun (k : Nat) =>
                                                                      iOf (AV.int IntKind.i64 ((w3S (isS1 vs n more l ek x) (wasS1 vs n more l ek x)).getD ((0 : Nat) + k) (0 : Int)))) &&
                                                                  (true && (decide (i = i) && true))))
                                                              (((true && (atL n more [cAt n vs (0 : Nat) (0 : Int), cMore more x]).mE (kindS n) == (0 : Int) && (isS1 vs n more l ek x || !wasS1 vs n more l ek x) &&
                                                                      allE (ats1 vs n more x) (3 : Nat) (kindS n) == (0 : Int) &&
                                                                    true) ==
                                                                  true) =
                                                                true))))))) := by
  kernel_rfl

end Go.Proofs.YtjkkkldkimdajaaDoor
