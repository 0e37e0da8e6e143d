/- PRED 49: the same, for two values. -/
import Derived.Test.YtjkkkldkimdajaaDoorP48
namespace Go.Proofs.YtjkkkldkimdajaaDoor
open Pw Go
set_option maxRecDepth 100000
set_option linter.unusedSimpArgs false

theorem nar2_vc (vs : Nat → Int) (n more l ek x : Int) : (vcFun (mkN Tryd.prog gN (tblOf tblP) (tblOf tblPN) (fun f b => if f = 9 ∧ 100000 ≤ b then inv2 2 vs n more l ek x (b - 100000) else none) 5) 20 9 [.int .i64 n, .rof 2 (fun i => .int .i64 (vs i)) false, .agg [.int .u64 l, .int .i64 ek, .int .i64 x], .int .i64 more] .nil 0 (isBool true)).sat = (
  VB ((IntKind.i64.wrap ((n % (1073741824 : Int)).tdiv (26 : Int))).tmod (2 : Int) == (1 : Int))
      (∃ (_ : Unit),
        True ∧
          (((2 : Nat) = (2 : Nat) ∧ (∀ (i : Nat), i < (2 : Nat) → vs i = vs i ∧ [AV.int IntKind.i64 (vs i)].length = [AV.int IntKind.i64 (vs i)].length) ∧ (false = true → false = true)) ∧
              more = more ∧
                ((0 : Nat) = (0 : Nat) ∧ (0 : Nat) = (0 : Nat) ∧ (0 : Nat) = (0 : Nat)) ∧ true = true ∧ n % (1073741824 : Int) = kS n ∧ ((0 : Nat) = (0 : Nat) ∧ (0 : Nat) = (0 : Nat) ∧ (0 : Nat) = (0 : Nat)) ∧ True) ∧
            ((0 : Nat) = (0 : Nat) ∧
                (true = true → true = true) ∧
                  ((l = l ∧ ek = ek ∧ x = x ∧ True) ∧ [AV.int IntKind.u64 l, AV.int IntKind.i64 ek, AV.int IntKind.i64 x].length = [AV.int IntKind.u64 l, AV.int IntKind.i64 ek, AV.int IntKind.i64 x].length) ∧ True) ∧
              ((0 : Nat) = (0 : Nat) ∧
                  (true = true → true = true) ∧
                    (((n % (1073741824 : Int)).tmod (26 : Int) = kindS n ∧
                          ((IntKind.i64.wrap ((n % (1073741824 : Int)).tdiv (26 : Int))).tmod (2 : Int) == (1 : Int)) = bdS n ∧
                            labS (IntKind.i64.wrap ((n % (1073741824 : Int)).tdiv (52 : Int))) = boS n ∧ True ∧ [(120 : UInt8)] = [(120 : UInt8)] ∧ True) ∧
                        [AV.int IntKind.i64 ((n % (1073741824 : Int)).tmod (26 : Int)), AV.bool ((IntKind.i64.wrap ((n % (1073741824 : Int)).tdiv (26 : Int))).tmod (2 : Int) == (1 : Int)),
                              AV.int IntKind.u64 (labS (IntKind.i64.wrap ((n % (1073741824 : Int)).tdiv (52 : Int)))), AV.nils, AV.str [(120 : UInt8)]].length =
                          [AV.int IntKind.i64 (kindS n), AV.bool (bdS n), AV.int IntKind.u64 (boS n), AV.nils, AV.str [(120 : UInt8)]].length) ∧
                      True) ∧
                True)
      (∃ (_ : Unit),
        True ∧
          (((2 : Nat) = (2 : Nat) ∧ (∀ (i : Nat), i < (2 : Nat) → vs i = vs i ∧ [AV.int IntKind.i64 (vs i)].length = [AV.int IntKind.i64 (vs i)].length) ∧ (false = true → false = true)) ∧
              more = more ∧
                ((0 : Nat) = (0 : Nat) ∧ (0 : Nat) = (0 : Nat) ∧ (0 : Nat) = (0 : Nat)) ∧ true = true ∧ n % (1073741824 : Int) = kS n ∧ ((0 : Nat) = (0 : Nat) ∧ (0 : Nat) = (0 : Nat) ∧ (0 : Nat) = (0 : Nat)) ∧ True) ∧
            ((0 : Nat) = (0 : Nat) ∧
                (true = true → true = true) ∧
                  ((l = l ∧ ek = ek ∧ x = x ∧ True) ∧ [AV.int IntKind.u64 l, AV.int IntKind.i64 ek, AV.int IntKind.i64 x].length = [AV.int IntKind.u64 l, AV.int IntKind.i64 ek, AV.int IntKind.i64 x].length) ∧ True) ∧
              ((0 : Nat) = (0 : Nat) ∧
                  (true = true → true = true) ∧
                    (((n % (1073741824 : Int)).tmod (26 : Int) = kindS n ∧
                          ((IntKind.i64.wrap ((n % (1073741824 : Int)).tdiv (26 : Int))).tmod (2 : Int) == (1 : Int)) = bdS n ∧ (0 : Int) = boS n ∧ True ∧ [(120 : UInt8)] = [(120 : UInt8)] ∧ True) ∧
                        [AV.int IntKind.i64 ((n % (1073741824 : Int)).tmod (26 : Int)), AV.bool ((IntKind.i64.wrap ((n % (1073741824 : Int)).tdiv (26 : Int))).tmod (2 : Int) == (1 : Int)), AV.int IntKind.u64 (0 : Int),
                              AV.nils, AV.str [(120 : UInt8)]].length =
                          [AV.int IntKind.i64 (kindS n), AV.bool (bdS n), AV.int IntKind.u64 (boS n), AV.nils, AV.str [(120 : UInt8)]].length) ∧
                      True) ∧
                True) ∧
    ∀ (_ : Unit),
      True →
        (∃ (_ : Unit),
            True ∧
              (more = more ∧ ((0 : Nat) = (0 : Nat) ∧ (0 : Nat) = (0 : Nat) ∧ (0 : Nat) = (0 : Nat)) ∧ true = true ∧ ((0 : Nat) = (0 : Nat) ∧ (0 : Nat) = (0 : Nat) ∧ (0 : Nat) = (0 : Nat)) ∧ True) ∧
                ((0 : Nat) = (0 : Nat) ∧
                    (true = true → true = true) ∧
                      ((l = l ∧ ek = ek ∧ x = x ∧ True) ∧ [AV.int IntKind.u64 l, AV.int IntKind.i64 ek, AV.int IntKind.i64 x].length = [AV.int IntKind.u64 l, AV.int IntKind.i64 ek, AV.int IntKind.i64 x].length) ∧ True) ∧
                  ((0 : Nat) = (0 : Nat) ∧
                      (false = true → false = true) ∧
                        ((kindS n = kindS n ∧
                              bdS n = bdS n ∧
                                boS n = boS n ∧
                                  ((0 : Nat) + (1 : Nat) = (1 : Nat) ∧ (0 : Nat) = (0 : Nat) ∧ (1 : Nat) + (1 : Nat) = (2 : Nat) ∧ (@Eq (Option Nat) none none ∨ @Eq (Option Nat) none none)) ∧
                                    [(120 : UInt8)] = [(120 : UInt8)] ∧ True) ∧
                            [AV.int IntKind.i64 (kindS n), AV.bool (bdS n), AV.int IntKind.u64 (boS n), AV.sl (nat_lit 10 + (1 : Nat)) ((0 : Nat) + (1 : Nat)) (0 : Nat) ((1 : Nat) + (1 : Nat)) none,
                                  AV.str [(120 : UInt8)]].length =
                              [AV.int IntKind.i64 (kindS n), AV.bool (bdS n), AV.int IntKind.u64 (boS n), AV.sl (11 : Nat) (1 : Nat) (0 : Nat) (2 : Nat) none, AV.str [(120 : UInt8)]].length) ∧
                          True) ∧
                    ((0 : Nat) + (1 : Nat) = (1 : Nat) ∧
                        (true = true → true = true) ∧
                          (((1 : Int) + IntKind.i64.wrap (IntKind.i64.wrap ((kS n).tdiv (52 : Int)) + (0 : Int)) % (6 : Int) =
                                  (1 : Int) + IntKind.i64.wrap (IntKind.i64.wrap ((kS n).tdiv (52 : Int)) + (0 : Int)) % (6 : Int) ∧
                                vs (Int.toNat (0 : Int)) = vs (0 : Nat) ∧ True) ∧
                              [AV.int IntKind.i64 ((1 : Int) + IntKind.i64.wrap (IntKind.i64.wrap ((kS n).tdiv (52 : Int)) + (0 : Int)) % (6 : Int)), AV.int IntKind.i64 (vs (Int.toNat (0 : Int)))].length =
                                [AV.int IntKind.i64 ((1 : Int) + IntKind.i64.wrap (IntKind.i64.wrap ((kS n).tdiv (52 : Int)) + (0 : Int)) % (6 : Int)), AV.int IntKind.i64 (vs (0 : Nat))].length) ∧
                            (((1 : Int) + IntKind.i64.wrap (IntKind.i64.wrap ((kS n).tdiv (52 : Int)) + (1 : Int)) % (6 : Int) =
                                    (1 : Int) + IntKind.i64.wrap (IntKind.i64.wrap ((kS n).tdiv (52 : Int)) + (1 : Int)) % (6 : Int) ∧
                                  vs (Int.toNat (1 : Int)) = vs (1 : Nat) ∧ True) ∧
                                [AV.int IntKind.i64 ((1 : Int) + IntKind.i64.wrap (IntKind.i64.wrap ((kS n).tdiv (52 : Int)) + (1 : Int)) % (6 : Int)), AV.int IntKind.i64 (vs (Int.toNat (1 : Int)))].length =
                                  [AV.int IntKind.i64 ((1 : Int) + IntKind.i64.wrap (IntKind.i64.wrap ((kS n).tdiv (52 : Int)) + (1 : Int)) % (6 : Int)), AV.int IntKind.i64 (vs (1 : Nat))].length) ∧
                              True) ∧
                      True) ∧
          ∀ (_ : Unit),
            True →
              NB
                ((condsB [cAt n vs (0 : Nat) (0 : Int), cAt n vs (1 : Nat) (1 : Int)].length fun (i : Nat) => [cAt n vs (0 : Nat) (0 : Int), cAt n vs (1 : Nat) (1 : Int)].getD i AV.undef) && nmB [(120 : UInt8)] &&
                      u64B l &&
                    u64B (boS n) &&
                  true)
                (NB
                  ((condsB [cAt n vs (0 : Nat) (0 : Int), cAt n vs (1 : Nat) (1 : Int)].length fun (i : Nat) => [cAt n vs (0 : Nat) (0 : Int), cAt n vs (1 : Nat) (1 : Int)].getD i AV.undef) && nmB [(120 : UInt8)] &&
                      rngAll [cAt n vs (0 : Nat) (0 : Int), cAt n vs (1 : Nat) (1 : Int)].length
                        (AtomA.mk (kindS n) (bdS n) (boS n) [cAt n vs (0 : Nat) (0 : Int), cAt n vs (1 : Nat) (1 : Int)].length
                            (fun (i : Nat) => [cAt n vs (0 : Nat) (0 : Int), cAt n vs (1 : Nat) (1 : Int)].getD i AV.undef) [(120 : UInt8)]).v &&
                    true)
                  (NB
                    ((condsB [cAt n vs (0 : Nat) (0 : Int), cAt n vs (1 : Nat) (1 : Int)].length fun (i : Nat) => [cAt n vs (0 : Nat) (0 : Int), cAt n vs (1 : Nat) (1 : Int)].getD i AV.undef) && nmB [(120 : UInt8)] &&
                        rngAll [cAt n vs (0 : Nat) (0 : Int), cAt n vs (1 : Nat) (1 : Int)].length
                          (AtomA.mk (kindS n) (bdS n) (boS n) [cAt n vs (0 : Nat) (0 : Int), cAt n vs (1 : Nat) (1 : Int)].length
                              (fun (i : Nat) => [cAt n vs (0 : Nat) (0 : Int), cAt n vs (1 : Nat) (1 : Int)].getD i AV.undef) [(120 : UInt8)]).v &&
                      true)
                    (VB
                      (MatE (kindS n) (bdS n) (boS n) [cAt n vs (0 : Nat) (0 : Int), cAt n vs (1 : Nat) (1 : Int)].length
                                (AtomA.mk (kindS n) (bdS n) (boS n) [cAt n vs (0 : Nat) (0 : Int), cAt n vs (1 : Nat) (1 : Int)].length
                                    (fun (i : Nat) => [cAt n vs (0 : Nat) (0 : Int), cAt n vs (1 : Nat) (1 : Int)].getD i AV.undef) [(120 : UInt8)]).o
                                [(120 : UInt8)] (kindS n) !=
                              (0 : Int) ||
                            checkE (kindS n) (bdS n) (boS n) [cAt n vs (0 : Nat) (0 : Int), cAt n vs (1 : Nat) (1 : Int)].length
                                (AtomA.mk (kindS n) (bdS n) (boS n) [cAt n vs (0 : Nat) (0 : Int), cAt n vs (1 : Nat) (1 : Int)].length
                                    (fun (i : Nat) => [cAt n vs (0 : Nat) (0 : Int), cAt n vs (1 : Nat) (1 : Int)].getD i AV.undef) [(120 : UInt8)]).o
                                [(120 : UInt8)] !=
                              (0 : Int) ||
                          !EmpB (kindS n) (bdS n) (boS n) [cAt n vs (0 : Nat) (0 : Int), cAt n vs (1 : Nat) (1 : Int)].length
                                (AtomA.mk (kindS n) (bdS n) (boS n) [cAt n vs (0 : Nat) (0 : Int), cAt n vs (1 : Nat) (1 : Int)].length
                                    (fun (i : Nat) => [cAt n vs (0 : Nat) (0 : Int), cAt n vs (1 : Nat) (1 : Int)].getD i AV.undef) [(120 : UInt8)]).o
                                (AtomA.mk (kindS n) (bdS n) (boS n) [cAt n vs (0 : Nat) (0 : Int), cAt n vs (1 : Nat) (1 : Int)].length
                                    (fun (i : Nat) => [cAt n vs (0 : Nat) (0 : Int), cAt n vs (1 : Nat) (1 : Int)].getD i AV.undef) [(120 : UInt8)]).v
                                [(120 : UInt8)] ==
                              (SamE (kindS n) (bdS n) (boS n) [cAt n vs (0 : Nat) (0 : Int), cAt n vs (1 : Nat) (1 : Int)].length
                                  (AtomA.mk (kindS n) (bdS n) (boS n) [cAt n vs (0 : Nat) (0 : Int), cAt n vs (1 : Nat) (1 : Int)].length
                                      (fun (i : Nat) => [cAt n vs (0 : Nat) (0 : Int), cAt n vs (1 : Nat) (1 : Int)].getD i AV.undef) [(120 : UInt8)]).o
                                  (AtomA.mk (kindS n) (bdS n) (boS n) [cAt n vs (0 : Nat) (0 : Int), cAt n vs (1 : Nat) (1 : Int)].length
                                      (fun (i : Nat) => [cAt n vs (0 : Nat) (0 : Int), cAt n vs (1 : Nat) (1 : Int)].getD i AV.undef) [(120 : UInt8)]).v
                                  [(120 : UInt8)] ==
                                (7 : Int)) ||
                        MatB (kindS n) (bdS n) (boS n) [cAt n vs (0 : Nat) (0 : Int), cAt n vs (1 : Nat) (1 : Int)].length
                            (AtomA.mk (kindS n) (bdS n) (boS n) [cAt n vs (0 : Nat) (0 : Int), cAt n vs (1 : Nat) (1 : Int)].length
                                (fun (i : Nat) => [cAt n vs (0 : Nat) (0 : Int), cAt n vs (1 : Nat) (1 : Int)].getD i AV.undef) [(120 : UInt8)]).o
                            (AtomA.mk (kindS n) (bdS n) (boS n) [cAt n vs (0 : Nat) (0 : Int), cAt n vs (1 : Nat) (1 : Int)].length
                                (fun (i : Nat) => [cAt n vs (0 : Nat) (0 : Int), cAt n vs (1 : Nat) (1 : Int)].getD i AV.undef) [(120 : UInt8)]).v
                            [(120 : UInt8)] l (kindS n) x &&
                          (EmpB (kindS n) (bdS n) (boS n) [cAt n vs (0 : Nat) (0 : Int), cAt n vs (1 : Nat) (1 : Int)].length
                              (AtomA.mk (kindS n) (bdS n) (boS n) [cAt n vs (0 : Nat) (0 : Int), cAt n vs (1 : Nat) (1 : Int)].length
                                  (fun (i : Nat) => [cAt n vs (0 : Nat) (0 : Int), cAt n vs (1 : Nat) (1 : Int)].getD i AV.undef) [(120 : UInt8)]).o
                              (AtomA.mk (kindS n) (bdS n) (boS n) [cAt n vs (0 : Nat) (0 : Int), cAt n vs (1 : Nat) (1 : Int)].length
                                  (fun (i : Nat) => [cAt n vs (0 : Nat) (0 : Int), cAt n vs (1 : Nat) (1 : Int)].getD i AV.undef) [(120 : UInt8)]).v
                              [(120 : UInt8)] ||
                            bdS n && andNotI IntKind.u64 l (boS n) != (0 : Int)))
                      (false = true)
                      (VB
                          (isW true
                            (SamE (kindS n) (bdS n) (boS n) [cAt n vs (0 : Nat) (0 : Int), cAt n vs (1 : Nat) (1 : Int)].length
                                (AtomA.mk (kindS n) (bdS n) (boS n) [cAt n vs (0 : Nat) (0 : Int), cAt n vs (1 : Nat) (1 : Int)].length
                                    (fun (i : Nat) => [cAt n vs (0 : Nat) (0 : Int), cAt n vs (1 : Nat) (1 : Int)].getD i AV.undef) [(120 : UInt8)]).o
                                (AtomA.mk (kindS n) (bdS n) (boS n) [cAt n vs (0 : Nat) (0 : Int), cAt n vs (1 : Nat) (1 : Int)].length
                                    (fun (i : Nat) => [cAt n vs (0 : Nat) (0 : Int), cAt n vs (1 : Nat) (1 : Int)].getD i AV.undef) [(120 : UInt8)]).v
                                [(120 : UInt8)] ==
                              (0 : Int)))
                          (NB
                            ((condsB [cAt n vs (0 : Nat) (0 : Int), cAt n vs (1 : Nat) (1 : Int)].length fun (i : Nat) => [cAt n vs (0 : Nat) (0 : Int), cAt n vs (1 : Nat) (1 : Int)].getD i AV.undef) &&
                                    nmB [(120 : UInt8)] &&
                                  u64B
                                    (SamL (kindS n) (bdS n) (boS n) [cAt n vs (0 : Nat) (0 : Int), cAt n vs (1 : Nat) (1 : Int)].length
                                      (AtomA.mk (kindS n) (bdS n) (boS n) [cAt n vs (0 : Nat) (0 : Int), cAt n vs (1 : Nat) (1 : Int)].length
                                          (fun (i : Nat) => [cAt n vs (0 : Nat) (0 : Int), cAt n vs (1 : Nat) (1 : Int)].getD i AV.undef) [(120 : UInt8)]).o
                                      (AtomA.mk (kindS n) (bdS n) (boS n) [cAt n vs (0 : Nat) (0 : Int), cAt n vs (1 : Nat) (1 : Int)].length
                                          (fun (i : Nat) => [cAt n vs (0 : Nat) (0 : Int), cAt n vs (1 : Nat) (1 : Int)].getD i AV.undef) [(120 : UInt8)]).v
                                      [(120 : UInt8)]) &&
                                u64B (boS n) &&
                              true)
                            (VB
                              (SamE (kindS n) (bdS n) (boS n) [cAt n vs (0 : Nat) (0 : Int), cAt n vs (1 : Nat) (1 : Int)].length
                                    (AtomA.mk (kindS n) (bdS n) (boS n) [cAt n vs (0 : Nat) (0 : Int), cAt n vs (1 : Nat) (1 : Int)].length
                                        (fun (i : Nat) => [cAt n vs (0 : Nat) (0 : Int), cAt n vs (1 : Nat) (1 : Int)].getD i AV.undef) [(120 : UInt8)]).o
                                    (AtomA.mk (kindS n) (bdS n) (boS n) [cAt n vs (0 : Nat) (0 : Int), cAt n vs (1 : Nat) (1 : Int)].length
                                        (fun (i : Nat) => [cAt n vs (0 : Nat) (0 : Int), cAt n vs (1 : Nat) (1 : Int)].getD i AV.undef) [(120 : UInt8)]).v
                                    [(120 : UInt8)] ==
                                  (0 : Int) &&
                                !(MatE (kindS n) (bdS n) (boS n) [cAt n vs (0 : Nat) (0 : Int), cAt n vs (1 : Nat) (1 : Int)].length
                                        (AtomA.mk (kindS n) (bdS n) (boS n) [cAt n vs (0 : Nat) (0 : Int), cAt n vs (1 : Nat) (1 : Int)].length
                                            (fun (i : Nat) => [cAt n vs (0 : Nat) (0 : Int), cAt n vs (1 : Nat) (1 : Int)].getD i AV.undef) [(120 : UInt8)]).o
                                        [(120 : UInt8)]
                                        (SamK (kindS n) (bdS n) (boS n) [cAt n vs (0 : Nat) (0 : Int), cAt n vs (1 : Nat) (1 : Int)].length
                                          (AtomA.mk (kindS n) (bdS n) (boS n) [cAt n vs (0 : Nat) (0 : Int), cAt n vs (1 : Nat) (1 : Int)].length
                                              (fun (i : Nat) => [cAt n vs (0 : Nat) (0 : Int), cAt n vs (1 : Nat) (1 : Int)].getD i AV.undef) [(120 : UInt8)]).o
                                          (AtomA.mk (kindS n) (bdS n) (boS n) [cAt n vs (0 : Nat) (0 : Int), cAt n vs (1 : Nat) (1 : Int)].length
                                              (fun (i : Nat) => [cAt n vs (0 : Nat) (0 : Int), cAt n vs (1 : Nat) (1 : Int)].getD i AV.undef) [(120 : UInt8)]).v
                                          [(120 : UInt8)]) ==
                                      (0 : Int) &&
                                    MatB (kindS n) (bdS n) (boS n) [cAt n vs (0 : Nat) (0 : Int), cAt n vs (1 : Nat) (1 : Int)].length
                                        (AtomA.mk (kindS n) (bdS n) (boS n) [cAt n vs (0 : Nat) (0 : Int), cAt n vs (1 : Nat) (1 : Int)].length
                                            (fun (i : Nat) => [cAt n vs (0 : Nat) (0 : Int), cAt n vs (1 : Nat) (1 : Int)].getD i AV.undef) [(120 : UInt8)]).o
                                        (AtomA.mk (kindS n) (bdS n) (boS n) [cAt n vs (0 : Nat) (0 : Int), cAt n vs (1 : Nat) (1 : Int)].length
                                            (fun (i : Nat) => [cAt n vs (0 : Nat) (0 : Int), cAt n vs (1 : Nat) (1 : Int)].getD i AV.undef) [(120 : UInt8)]).v
                                        [(120 : UInt8)]
                                        (SamL (kindS n) (bdS n) (boS n) [cAt n vs (0 : Nat) (0 : Int), cAt n vs (1 : Nat) (1 : Int)].length
                                          (AtomA.mk (kindS n) (bdS n) (boS n) [cAt n vs (0 : Nat) (0 : Int), cAt n vs (1 : Nat) (1 : Int)].length
                                              (fun (i : Nat) => [cAt n vs (0 : Nat) (0 : Int), cAt n vs (1 : Nat) (1 : Int)].getD i AV.undef) [(120 : UInt8)]).o
                                          (AtomA.mk (kindS n) (bdS n) (boS n) [cAt n vs (0 : Nat) (0 : Int), cAt n vs (1 : Nat) (1 : Int)].length
                                              (fun (i : Nat) => [cAt n vs (0 : Nat) (0 : Int), cAt n vs (1 : Nat) (1 : Int)].getD i AV.undef) [(120 : UInt8)]).v
                                          [(120 : UInt8)])
                                        (SamK (kindS n) (bdS n) (boS n) [cAt n vs (0 : Nat) (0 : Int), cAt n vs (1 : Nat) (1 : Int)].length
                                          (AtomA.mk (kindS n) (bdS n) (boS n) [cAt n vs (0 : Nat) (0 : Int), cAt n vs (1 : Nat) (1 : Int)].length
                                              (fun (i : Nat) => [cAt n vs (0 : Nat) (0 : Int), cAt n vs (1 : Nat) (1 : Int)].getD i AV.undef) [(120 : UInt8)]).o
                                          (AtomA.mk (kindS n) (bdS n) (boS n) [cAt n vs (0 : Nat) (0 : Int), cAt n vs (1 : Nat) (1 : Int)].length
                                              (fun (i : Nat) => [cAt n vs (0 : Nat) (0 : Int), cAt n vs (1 : Nat) (1 : Int)].getD i AV.undef) [(120 : UInt8)]).v
                                          [(120 : UInt8)])
                                        (SamX (kindS n) (bdS n) (boS n) [cAt n vs (0 : Nat) (0 : Int), cAt n vs (1 : Nat) (1 : Int)].length
                                          (AtomA.mk (kindS n) (bdS n) (boS n) [cAt n vs (0 : Nat) (0 : Int), cAt n vs (1 : Nat) (1 : Int)].length
                                              (fun (i : Nat) => [cAt n vs (0 : Nat) (0 : Int), cAt n vs (1 : Nat) (1 : Int)].getD i AV.undef) [(120 : UInt8)]).o
                                          (AtomA.mk (kindS n) (bdS n) (boS n) [cAt n vs (0 : Nat) (0 : Int), cAt n vs (1 : Nat) (1 : Int)].length
                                              (fun (i : Nat) => [cAt n vs (0 : Nat) (0 : Int), cAt n vs (1 : Nat) (1 : Int)].getD i AV.undef) [(120 : UInt8)]).v
                                          [(120 : UInt8)]) ==
                                      true))
                              (false = true)
                              (∃ (_ : Unit),
                                True ∧
                                  (more = more ∧
                                      ((0 : Nat) = (0 : Nat) ∧ (0 : Nat) = (0 : Nat) ∧ (0 : Nat) = (0 : Nat)) ∧
                                        true = true ∧
                                          ((0 : Nat) = (0 : Nat) ∧ (0 : Nat) = (0 : Nat) ∧ (0 : Nat) = (0 : Nat)) ∧
                                            MatB (kindS n) (bdS n) (boS n) [cAt n vs (0 : Nat) (0 : Int), cAt n vs (1 : Nat) (1 : Int)].length
                                                  (AtomA.mk (kindS n) (bdS n) (boS n) [cAt n vs (0 : Nat) (0 : Int), cAt n vs (1 : Nat) (1 : Int)].length
                                                      (fun (i : Nat) => [cAt n vs (0 : Nat) (0 : Int), cAt n vs (1 : Nat) (1 : Int)].getD i AV.undef) [(120 : UInt8)]).o
                                                  (AtomA.mk (kindS n) (bdS n) (boS n) [cAt n vs (0 : Nat) (0 : Int), cAt n vs (1 : Nat) (1 : Int)].length
                                                      (fun (i : Nat) => [cAt n vs (0 : Nat) (0 : Int), cAt n vs (1 : Nat) (1 : Int)].getD i AV.undef) [(120 : UInt8)]).v
                                                  [(120 : UInt8)] l (kindS n) x =
                                                isS2 vs n more l ek x ∧
                                              True) ∧
                                    ((0 : Nat) = (0 : Nat) ∧
                                        (true = true → true = true) ∧
                                          ((l = l ∧ kindS n = kindS n ∧ x = x ∧ True) ∧
                                              [AV.int IntKind.u64 l, AV.int IntKind.i64 (kindS n), AV.int IntKind.i64 x].length = [AV.int IntKind.u64 l, AV.int IntKind.i64 (kindS n), AV.int IntKind.i64 x].length) ∧
                                            True) ∧
                                      ((0 : Nat) = (0 : Nat) ∧
                                          (false = true → false = true) ∧
                                            ((kindS n = kindS n ∧
                                                  bdS n = bdS n ∧
                                                    boS n = boS n ∧
                                                      ((1 : Nat) = (1 : Nat) ∧ (0 : Nat) = (0 : Nat) ∧ (2 : Nat) = (2 : Nat) ∧ (@Eq (Option Nat) none none ∨ @Eq (Option Nat) none none)) ∧
                                                        [(120 : UInt8)] = [(120 : UInt8)] ∧ True) ∧
                                                [AV.int IntKind.i64 (kindS n), AV.bool (bdS n), AV.int IntKind.u64 (boS n), AV.sl (11 : Nat) (1 : Nat) (0 : Nat) (2 : Nat) none, AV.str [(120 : UInt8)]].length =
                                                  [AV.int IntKind.i64 (kindS n), AV.bool (bdS n), AV.int IntKind.u64 (boS n), AV.sl (11 : Nat) (1 : Nat) (0 : Nat) (2 : Nat) none, AV.str [(120 : UInt8)]].length) ∧
                                              True) ∧
                                        ((1 : Nat) = (1 : Nat) ∧
                                            (true = true → true = true) ∧
                                              (((1 : Int) + IntKind.i64.wrap (IntKind.i64.wrap ((kS n).tdiv (52 : Int)) + (0 : Int)) % (6 : Int) =
                                                      (1 : Int) + IntKind.i64.wrap (IntKind.i64.wrap ((kS n).tdiv (52 : Int)) + (0 : Int)) % (6 : Int) ∧
                                                    vs (0 : Nat) = vs (0 : Nat) ∧ True) ∧
                                                  [AV.int IntKind.i64 ((1 : Int) + IntKind.i64.wrap (IntKind.i64.wrap ((kS n).tdiv (52 : Int)) + (0 : Int)) % (6 : Int)), AV.int IntKind.i64 (vs (0 : Nat))].length =
                                                    [AV.int IntKind.i64 ((1 : Int) + IntKind.i64.wrap (IntKind.i64.wrap ((kS n).tdiv (52 : Int)) + (0 : Int)) % (6 : Int)), AV.int IntKind.i64 (vs (0 : Nat))].length) ∧
                                                (((1 : Int) + IntKind.i64.wrap (IntKind.i64.wrap ((kS n).tdiv (52 : Int)) + (1 : Int)) % (6 : Int) =
                                                        (1 : Int) + IntKind.i64.wrap (IntKind.i64.wrap ((kS n).tdiv (52 : Int)) + (1 : Int)) % (6 : Int) ∧
                                                      vs (1 : Nat) = vs (1 : Nat) ∧ True) ∧
                                                    [AV.int IntKind.i64 ((1 : Int) + IntKind.i64.wrap (IntKind.i64.wrap ((kS n).tdiv (52 : Int)) + (1 : Int)) % (6 : Int)), AV.int IntKind.i64 (vs (1 : Nat))].length =
                                                      [AV.int IntKind.i64 ((1 : Int) + IntKind.i64.wrap (IntKind.i64.wrap ((kS n).tdiv (52 : Int)) + (1 : Int)) % (6 : Int)), AV.int IntKind.i64 (vs (1 : Nat))].length) ∧
                                                  True) ∧
                                          True)))
                          (VB
                            (SamE (kindS n) (bdS n) (boS n) [cAt n vs (0 : Nat) (0 : Int), cAt n vs (1 : Nat) (1 : Int)].length
                                  (AtomA.mk (kindS n) (bdS n) (boS n) [cAt n vs (0 : Nat) (0 : Int), cAt n vs (1 : Nat) (1 : Int)].length
                                      (fun (i : Nat) => [cAt n vs (0 : Nat) (0 : Int), cAt n vs (1 : Nat) (1 : Int)].getD i AV.undef) [(120 : UInt8)]).o
                                  (AtomA.mk (kindS n) (bdS n) (boS n) [cAt n vs (0 : Nat) (0 : Int), cAt n vs (1 : Nat) (1 : Int)].length
                                      (fun (i : Nat) => [cAt n vs (0 : Nat) (0 : Int), cAt n vs (1 : Nat) (1 : Int)].getD i AV.undef) [(120 : UInt8)]).v
                                  [(120 : UInt8)] ==
                                (0 : Int) &&
                              true)
                            (false = true)
                            (∃ (_ : Unit),
                              True ∧
                                (more = more ∧
                                    ((0 : Nat) = (0 : Nat) ∧ (0 : Nat) = (0 : Nat) ∧ (0 : Nat) = (0 : Nat)) ∧
                                      true = true ∧
                                        ((0 : Nat) = (0 : Nat) ∧ (0 : Nat) = (0 : Nat) ∧ (0 : Nat) = (0 : Nat)) ∧
                                          MatB (kindS n) (bdS n) (boS n) [cAt n vs (0 : Nat) (0 : Int), cAt n vs (1 : Nat) (1 : Int)].length
                                                (AtomA.mk (kindS n) (bdS n) (boS n) [cAt n vs (0 : Nat) (0 : Int), cAt n vs (1 : Nat) (1 : Int)].length
                                                    (fun (i : Nat) => [cAt n vs (0 : Nat) (0 : Int), cAt n vs (1 : Nat) (1 : Int)].getD i AV.undef) [(120 : UInt8)]).o
                                                (AtomA.mk (kindS n) (bdS n) (boS n) [cAt n vs (0 : Nat) (0 : Int), cAt n vs (1 : Nat) (1 : Int)].length
                                                    (fun (i : Nat) => [cAt n vs (0 : Nat) (0 : Int), cAt n vs (1 : Nat) (1 : Int)].getD i AV.undef) [(120 : UInt8)]).v
                                                [(120 : UInt8)] l (kindS n) x =
                                              isS2 vs n more l ek x ∧
                                            True) ∧
                                  ((0 : Nat) = (0 : Nat) ∧
                                      (true = true → true = true) ∧
                                        ((l = l ∧ kindS n = kindS n ∧ x = x ∧ True) ∧
                                            [AV.int IntKind.u64 l, AV.int IntKind.i64 (kindS n), AV.int IntKind.i64 x].length = [AV.int IntKind.u64 l, AV.int IntKind.i64 (kindS n), AV.int IntKind.i64 x].length) ∧
                                          True) ∧
                                    ((0 : Nat) = (0 : Nat) ∧
                                        (false = true → false = true) ∧
                                          ((kindS n = kindS n ∧
                                                bdS n = bdS n ∧
                                                  boS n = boS n ∧
                                                    ((1 : Nat) = (1 : Nat) ∧ (0 : Nat) = (0 : Nat) ∧ (2 : Nat) = (2 : Nat) ∧ (@Eq (Option Nat) none none ∨ @Eq (Option Nat) none none)) ∧
                                                      [(120 : UInt8)] = [(120 : UInt8)] ∧ True) ∧
                                              [AV.int IntKind.i64 (kindS n), AV.bool (bdS n), AV.int IntKind.u64 (boS n), AV.sl (11 : Nat) (1 : Nat) (0 : Nat) (2 : Nat) none, AV.str [(120 : UInt8)]].length =
                                                [AV.int IntKind.i64 (kindS n), AV.bool (bdS n), AV.int IntKind.u64 (boS n), AV.sl (11 : Nat) (1 : Nat) (0 : Nat) (2 : Nat) none, AV.str [(120 : UInt8)]].length) ∧
                                            True) ∧
                                      ((1 : Nat) = (1 : Nat) ∧
                                          (true = true → true = true) ∧
                                            (((1 : Int) + IntKind.i64.wrap (IntKind.i64.wrap ((kS n).tdiv (52 : Int)) + (0 : Int)) % (6 : Int) =
                                                    (1 : Int) + IntKind.i64.wrap (IntKind.i64.wrap ((kS n).tdiv (52 : Int)) + (0 : Int)) % (6 : Int) ∧
                                                  vs (0 : Nat) = vs (0 : Nat) ∧ True) ∧
                                                [AV.int IntKind.i64 ((1 : Int) + IntKind.i64.wrap (IntKind.i64.wrap ((kS n).tdiv (52 : Int)) + (0 : Int)) % (6 : Int)), AV.int IntKind.i64 (vs (0 : Nat))].length =
                                                  [AV.int IntKind.i64 ((1 : Int) + IntKind.i64.wrap (IntKind.i64.wrap ((kS n).tdiv (52 : Int)) + (0 : Int)) % (6 : Int)), AV.int IntKind.i64 (vs (0 : Nat))].length) ∧
                                              (((1 : Int) + IntKind.i64.wrap (IntKind.i64.wrap ((kS n).tdiv (52 : Int)) + (1 : Int)) % (6 : Int) =
                                                      (1 : Int) + IntKind.i64.wrap (IntKind.i64.wrap ((kS n).tdiv (52 : Int)) + (1 : Int)) % (6 : Int) ∧
                                                    vs (1 : Nat) = vs (1 : Nat) ∧ True) ∧
                                                  [AV.int IntKind.i64 ((1 : Int) + IntKind.i64.wrap (IntKind.i64.wrap ((kS n).tdiv (52 : Int)) + (1 : Int)) % (6 : Int)), AV.int IntKind.i64 (vs (1 : Nat))].length =
                                                    [AV.int IntKind.i64 ((1 : Int) + IntKind.i64.wrap (IntKind.i64.wrap ((kS n).tdiv (52 : Int)) + (1 : Int)) % (6 : Int)), AV.int IntKind.i64 (vs (1 : Nat))].length) ∧
                                                True) ∧
                                        True)) ∧
                        ∀ (_ : Unit),
                          True →
                            VB (bdS n)
                                (∃ (_ : Unit),
                                  True ∧
                                    (((0 : Nat) = (0 : Nat) ∧ (0 : Nat) = (0 : Nat) ∧ (0 : Nat) = (0 : Nat)) ∧
                                        true = true ∧
                                          ((0 : Nat) = (0 : Nat) ∧ (0 : Nat) = (0 : Nat) ∧ (0 : Nat) = (0 : Nat)) ∧
                                            isS2 vs n more l ek x = isS2 vs n more l ek x ∧ ((0 : Nat) = (0 : Nat) ∧ (0 : Nat) = (0 : Nat) ∧ (0 : Nat) = (0 : Nat)) ∧ True) ∧
                                      ((0 : Nat) = (0 : Nat) ∧
                                          (true = true → true = true) ∧
                                            ((l = l ∧ kindS n = kindS n ∧ x = x ∧ True) ∧
                                                [AV.int IntKind.u64 l, AV.int IntKind.i64 (kindS n), AV.int IntKind.i64 x].length = [AV.int IntKind.u64 l, AV.int IntKind.i64 (kindS n), AV.int IntKind.i64 x].length) ∧
                                              True) ∧
                                        ((0 : Nat) = (0 : Nat) ∧
                                            (false = true → false = true) ∧
                                              ((kindS n = kindS n ∧
                                                    bdS n = bdS n ∧
                                                      boS n = boS n ∧
                                                        ((1 : Nat) = (1 : Nat) ∧ (0 : Nat) = (0 : Nat) ∧ (2 : Nat) = (2 : Nat) ∧ (@Eq (Option Nat) none none ∨ @Eq (Option Nat) none none)) ∧
                                                          [(120 : UInt8)] = [(120 : UInt8)] ∧ True) ∧
                                                  [AV.int IntKind.i64 (kindS n), AV.bool (bdS n), AV.int IntKind.u64 (boS n), AV.sl (11 : Nat) (1 : Nat) (0 : Nat) (2 : Nat) none, AV.str [(120 : UInt8)]].length =
                                                    [AV.int IntKind.i64 (kindS n), AV.bool (bdS n), AV.int IntKind.u64 (boS n), AV.sl (11 : Nat) (1 : Nat) (0 : Nat) (2 : Nat) none, AV.str [(120 : UInt8)]].length) ∧
                                                True) ∧
                                          ((1 : Nat) = (1 : Nat) ∧
                                              (true = true → true = true) ∧
                                                (((1 : Int) + IntKind.i64.wrap (IntKind.i64.wrap ((kS n).tdiv (52 : Int)) + (0 : Int)) % (6 : Int) =
                                                        (1 : Int) + IntKind.i64.wrap (IntKind.i64.wrap ((kS n).tdiv (52 : Int)) + (0 : Int)) % (6 : Int) ∧
                                                      vs (0 : Nat) = vs (0 : Nat) ∧ True) ∧
                                                    [AV.int IntKind.i64 ((1 : Int) + IntKind.i64.wrap (IntKind.i64.wrap ((kS n).tdiv (52 : Int)) + (0 : Int)) % (6 : Int)), AV.int IntKind.i64 (vs (0 : Nat))].length =
                                                      [AV.int IntKind.i64 ((1 : Int) + IntKind.i64.wrap (IntKind.i64.wrap ((kS n).tdiv (52 : Int)) + (0 : Int)) % (6 : Int)), AV.int IntKind.i64 (vs (0 : Nat))].length) ∧
                                                  (((1 : Int) + IntKind.i64.wrap (IntKind.i64.wrap ((kS n).tdiv (52 : Int)) + (1 : Int)) % (6 : Int) =
                                                          (1 : Int) + IntKind.i64.wrap (IntKind.i64.wrap ((kS n).tdiv (52 : Int)) + (1 : Int)) % (6 : Int) ∧
                                                        vs (1 : Nat) = vs (1 : Nat) ∧ True) ∧
                                                      [AV.int IntKind.i64 ((1 : Int) + IntKind.i64.wrap (IntKind.i64.wrap ((kS n).tdiv (52 : Int)) + (1 : Int)) % (6 : Int)), AV.int IntKind.i64 (vs (1 : Nat))].length =
                                                        [AV.int IntKind.i64 ((1 : Int) + IntKind.i64.wrap (IntKind.i64.wrap ((kS n).tdiv (52 : Int)) + (1 : Int)) % (6 : Int)), AV.int IntKind.i64 (vs (1 : Nat))].length) ∧
                                                    True) ∧
                                            ((0 : Nat) + (1 : Nat) = (1 : Nat) ∧
                                                (true = true → true = true) ∧
                                                  (((1 : Int) + IntKind.i64.wrap (IntKind.i64.wrap ((kS n).tdiv (52 : Int)) + (0 : Int)) % (6 : Int) =
                                                          (1 : Int) + IntKind.i64.wrap (IntKind.i64.wrap ((kS n).tdiv (52 : Int)) + (0 : Int)) % (6 : Int) ∧
                                                        vs (0 : Nat) = vs (0 : Nat) ∧ True) ∧
                                                      [AV.int IntKind.i64 ((1 : Int) + IntKind.i64.wrap (IntKind.i64.wrap ((kS n).tdiv (52 : Int)) + (0 : Int)) % (6 : Int)), AV.int IntKind.i64 (vs (0 : Nat))].length =
                                                        [AV.int IntKind.i64 ((1 : Int) + IntKind.i64.wrap (IntKind.i64.wrap ((kS n).tdiv (52 : Int)) + (0 : Int)) % (6 : Int)), AV.int IntKind.i64 (vs (0 : Nat))].length) ∧
                                                    (((1 : Int) + IntKind.i64.wrap (IntKind.i64.wrap ((kS n).tdiv (52 : Int)) + (1 : Int)) % (6 : Int) =
                                                            (1 : Int) + IntKind.i64.wrap (IntKind.i64.wrap ((kS n).tdiv (52 : Int)) + (1 : Int)) % (6 : Int) ∧
                                                          vs (1 : Nat) = vs (1 : Nat) ∧ True) ∧
                                                        [AV.int IntKind.i64 ((1 : Int) + IntKind.i64.wrap (IntKind.i64.wrap ((kS n).tdiv (52 : Int)) + (1 : Int)) % (6 : Int)), AV.int IntKind.i64 (vs (1 : Nat))].length =
                                                          [AV.int IntKind.i64 ((1 : Int) + IntKind.i64.wrap (IntKind.i64.wrap ((kS n).tdiv (52 : Int)) + (1 : Int)) % (6 : Int)), AV.int IntKind.i64 (vs (1 : Nat))].length) ∧
                                                      (((1 : Int) + more % (6 : Int) = (1 : Int) + more % (6 : Int) ∧ x = x ∧ True) ∧
                                                          [AV.int IntKind.i64 ((1 : Int) + more % (6 : Int)), AV.int IntKind.i64 x].length =
                                                            [AV.int IntKind.i64 ((1 : Int) + more % (6 : Int)), AV.int IntKind.i64 x].length) ∧
                                                        True) ∧
                                              ((0 : Nat) = (0 : Nat) ∧
                                                  (false = true → false = true) ∧
                                                    ((kindS n = kindS n ∧
                                                          bdS n = bdS n ∧
                                                            andI IntKind.u64 (boS n) (labS more) = bo2S n more ∧
                                                              ((0 : Nat) + (1 : Nat) = (1 : Nat) ∧ (0 : Nat) = (0 : Nat) ∧ (2 : Nat) + (1 : Nat) = (3 : Nat) ∧ (@Eq (Option Nat) none none ∨ @Eq (Option Nat) none none)) ∧
                                                                [(120 : UInt8)] = [(120 : UInt8)] ∧ True) ∧
                                                        [AV.int IntKind.i64 (kindS n), AV.bool (bdS n), AV.int IntKind.u64 (andI IntKind.u64 (boS n) (labS more)),
                                                              AV.sl (nat_lit 54 + (1 : Nat)) ((0 : Nat) + (1 : Nat)) (0 : Nat) ((2 : Nat) + (1 : Nat)) none, AV.str [(120 : UInt8)]].length =
                                                          [AV.int IntKind.i64 (kindS n), AV.bool (bdS n), AV.int IntKind.u64 (bo2S n more), AV.sl (55 : Nat) (1 : Nat) (0 : Nat) (3 : Nat) none,
                                                              AV.str [(120 : UInt8)]].length) ∧
                                                      True) ∧
                                                True)
                                (∃ (_ : Unit),
                                  True ∧
                                    (((0 : Nat) = (0 : Nat) ∧ (0 : Nat) = (0 : Nat) ∧ (0 : Nat) = (0 : Nat)) ∧
                                        true = true ∧
                                          ((0 : Nat) = (0 : Nat) ∧ (0 : Nat) = (0 : Nat) ∧ (0 : Nat) = (0 : Nat)) ∧
                                            isS2 vs n more l ek x = isS2 vs n more l ek x ∧ ((0 : Nat) = (0 : Nat) ∧ (0 : Nat) = (0 : Nat) ∧ (0 : Nat) = (0 : Nat)) ∧ True) ∧
                                      ((0 : Nat) = (0 : Nat) ∧
                                          (true = true → true = true) ∧
                                            ((l = l ∧ kindS n = kindS n ∧ x = x ∧ True) ∧
                                                [AV.int IntKind.u64 l, AV.int IntKind.i64 (kindS n), AV.int IntKind.i64 x].length = [AV.int IntKind.u64 l, AV.int IntKind.i64 (kindS n), AV.int IntKind.i64 x].length) ∧
                                              True) ∧
                                        ((0 : Nat) = (0 : Nat) ∧
                                            (false = true → false = true) ∧
                                              ((kindS n = kindS n ∧
                                                    bdS n = bdS n ∧
                                                      boS n = boS n ∧
                                                        ((1 : Nat) = (1 : Nat) ∧ (0 : Nat) = (0 : Nat) ∧ (2 : Nat) = (2 : Nat) ∧ (@Eq (Option Nat) none none ∨ @Eq (Option Nat) none none)) ∧
                                                          [(120 : UInt8)] = [(120 : UInt8)] ∧ True) ∧
                                                  [AV.int IntKind.i64 (kindS n), AV.bool (bdS n), AV.int IntKind.u64 (boS n), AV.sl (11 : Nat) (1 : Nat) (0 : Nat) (2 : Nat) none, AV.str [(120 : UInt8)]].length =
                                                    [AV.int IntKind.i64 (kindS n), AV.bool (bdS n), AV.int IntKind.u64 (boS n), AV.sl (11 : Nat) (1 : Nat) (0 : Nat) (2 : Nat) none, AV.str [(120 : UInt8)]].length) ∧
                                                True) ∧
                                          ((1 : Nat) = (1 : Nat) ∧
                                              (true = true → true = true) ∧
                                                (((1 : Int) + IntKind.i64.wrap (IntKind.i64.wrap ((kS n).tdiv (52 : Int)) + (0 : Int)) % (6 : Int) =
                                                        (1 : Int) + IntKind.i64.wrap (IntKind.i64.wrap ((kS n).tdiv (52 : Int)) + (0 : Int)) % (6 : Int) ∧
                                                      vs (0 : Nat) = vs (0 : Nat) ∧ True) ∧
                                                    [AV.int IntKind.i64 ((1 : Int) + IntKind.i64.wrap (IntKind.i64.wrap ((kS n).tdiv (52 : Int)) + (0 : Int)) % (6 : Int)), AV.int IntKind.i64 (vs (0 : Nat))].length =
                                                      [AV.int IntKind.i64 ((1 : Int) + IntKind.i64.wrap (IntKind.i64.wrap ((kS n).tdiv (52 : Int)) + (0 : Int)) % (6 : Int)), AV.int IntKind.i64 (vs (0 : Nat))].length) ∧
                                                  (((1 : Int) + IntKind.i64.wrap (IntKind.i64.wrap ((kS n).tdiv (52 : Int)) + (1 : Int)) % (6 : Int) =
                                                          (1 : Int) + IntKind.i64.wrap (IntKind.i64.wrap ((kS n).tdiv (52 : Int)) + (1 : Int)) % (6 : Int) ∧
                                                        vs (1 : Nat) = vs (1 : Nat) ∧ True) ∧
                                                      [AV.int IntKind.i64 ((1 : Int) + IntKind.i64.wrap (IntKind.i64.wrap ((kS n).tdiv (52 : Int)) + (1 : Int)) % (6 : Int)), AV.int IntKind.i64 (vs (1 : Nat))].length =
                                                        [AV.int IntKind.i64 ((1 : Int) + IntKind.i64.wrap (IntKind.i64.wrap ((kS n).tdiv (52 : Int)) + (1 : Int)) % (6 : Int)), AV.int IntKind.i64 (vs (1 : Nat))].length) ∧
                                                    True) ∧
                                            ((0 : Nat) + (1 : Nat) = (1 : Nat) ∧
                                                (true = true → true = true) ∧
                                                  (((1 : Int) + IntKind.i64.wrap (IntKind.i64.wrap ((kS n).tdiv (52 : Int)) + (0 : Int)) % (6 : Int) =
                                                          (1 : Int) + IntKind.i64.wrap (IntKind.i64.wrap ((kS n).tdiv (52 : Int)) + (0 : Int)) % (6 : Int) ∧
                                                        vs (0 : Nat) = vs (0 : Nat) ∧ True) ∧
                                                      [AV.int IntKind.i64 ((1 : Int) + IntKind.i64.wrap (IntKind.i64.wrap ((kS n).tdiv (52 : Int)) + (0 : Int)) % (6 : Int)), AV.int IntKind.i64 (vs (0 : Nat))].length =
                                                        [AV.int IntKind.i64 ((1 : Int) + IntKind.i64.wrap (IntKind.i64.wrap ((kS n).tdiv (52 : Int)) + (0 : Int)) % (6 : Int)), AV.int IntKind.i64 (vs (0 : Nat))].length) ∧
                                                    (((1 : Int) + IntKind.i64.wrap (IntKind.i64.wrap ((kS n).tdiv (52 : Int)) + (1 : Int)) % (6 : Int) =
                                                            (1 : Int) + IntKind.i64.wrap (IntKind.i64.wrap ((kS n).tdiv (52 : Int)) + (1 : Int)) % (6 : Int) ∧
                                                          vs (1 : Nat) = vs (1 : Nat) ∧ True) ∧
                                                        [AV.int IntKind.i64 ((1 : Int) + IntKind.i64.wrap (IntKind.i64.wrap ((kS n).tdiv (52 : Int)) + (1 : Int)) % (6 : Int)), AV.int IntKind.i64 (vs (1 : Nat))].length =
                                                          [AV.int IntKind.i64 ((1 : Int) + IntKind.i64.wrap (IntKind.i64.wrap ((kS n).tdiv (52 : Int)) + (1 : Int)) % (6 : Int)), AV.int IntKind.i64 (vs (1 : Nat))].length) ∧
                                                      (((1 : Int) + more % (6 : Int) = (1 : Int) + more % (6 : Int) ∧ x = x ∧ True) ∧
                                                          [AV.int IntKind.i64 ((1 : Int) + more % (6 : Int)), AV.int IntKind.i64 x].length =
                                                            [AV.int IntKind.i64 ((1 : Int) + more % (6 : Int)), AV.int IntKind.i64 x].length) ∧
                                                        True) ∧
                                              ((0 : Nat) = (0 : Nat) ∧
                                                  (false = true → false = true) ∧
                                                    ((kindS n = kindS n ∧
                                                          bdS n = bdS n ∧
                                                            boS n = bo2S n more ∧
                                                              ((0 : Nat) + (1 : Nat) = (1 : Nat) ∧ (0 : Nat) = (0 : Nat) ∧ (2 : Nat) + (1 : Nat) = (3 : Nat) ∧ (@Eq (Option Nat) none none ∨ @Eq (Option Nat) none none)) ∧
                                                                [(120 : UInt8)] = [(120 : UInt8)] ∧ True) ∧
                                                        [AV.int IntKind.i64 (kindS n), AV.bool (bdS n), AV.int IntKind.u64 (boS n),
                                                              AV.sl (nat_lit 54 + (1 : Nat)) ((0 : Nat) + (1 : Nat)) (0 : Nat) ((2 : Nat) + (1 : Nat)) none, AV.str [(120 : UInt8)]].length =
                                                          [AV.int IntKind.i64 (kindS n), AV.bool (bdS n), AV.int IntKind.u64 (bo2S n more), AV.sl (55 : Nat) (1 : Nat) (0 : Nat) (3 : Nat) none,
                                                              AV.str [(120 : UInt8)]].length) ∧
                                                      True) ∧
                                                True) ∧
                              ∀ (_ : Unit),
                                True →
                                  NB
                                    ((condsB [cAt n vs (0 : Nat) (0 : Int), cAt n vs (1 : Nat) (1 : Int), cMore more x].length fun (i : Nat) =>
                                              [cAt n vs (0 : Nat) (0 : Int), cAt n vs (1 : Nat) (1 : Int), cMore more x].getD i AV.undef) &&
                                            nmB [(120 : UInt8)] &&
                                          u64B l &&
                                        u64B (bo2S n more) &&
                                      true)
                                    (NB
                                        ((decide
                                                  ([AV.agg
                                                          [AV.int IntKind.i64 (kindS n), AV.bool (bdS n), AV.int IntKind.u64 (boS n), AV.rol [cAt n vs (0 : Nat) (0 : Int), cAt n vs (1 : Nat) (1 : Int)] false,
                                                            AV.str [(120 : UInt8)]],
                                                        AV.agg
                                                          [AV.int IntKind.i64 (kindS n), AV.bool (bdS n), AV.int IntKind.u64 (bo2S n more),
                                                            AV.rol [cAt n vs (0 : Nat) (0 : Int), cAt n vs (1 : Nat) (1 : Int), cMore more x] false, AV.str [(120 : UInt8)]],
                                                        AV.agg
                                                          [AV.int IntKind.i64 (kindS n), AV.bool (bdS n), AV.int IntKind.u64 (boS n), AV.rol [cAt n vs (0 : Nat) (0 : Int), cAt n vs (1 : Nat) (1 : Int)] false,
                                                            AV.str [(120 : UInt8)]]].length ≤
                                                    (1000000 : Nat)) &&
                                                atsB
                                                  [AV.agg
                                                        [AV.int IntKind.i64 (kindS n), AV.bool (bdS n), AV.int IntKind.u64 (boS n), AV.rol [cAt n vs (0 : Nat) (0 : Int), cAt n vs (1 : Nat) (1 : Int)] false,
                                                          AV.str [(120 : UInt8)]],
                                                      AV.agg
                                                        [AV.int IntKind.i64 (kindS n), AV.bool (bdS n), AV.int IntKind.u64 (bo2S n more),
                                                          AV.rol [cAt n vs (0 : Nat) (0 : Int), cAt n vs (1 : Nat) (1 : Int), cMore more x] false, AV.str [(120 : UInt8)]],
                                                      AV.agg
                                                        [AV.int IntKind.i64 (kindS n), AV.bool (bdS n), AV.int IntKind.u64 (boS n), AV.rol [cAt n vs (0 : Nat) (0 : Int), cAt n vs (1 : Nat) (1 : Int)] false,
                                                          AV.str [(120 : UInt8)]]].length
                                                  fun (j : Nat) =>
                                                  nrmA
                                                    ([AV.agg
                                                            [AV.int IntKind.i64 (kindS n), AV.bool (bdS n), AV.int IntKind.u64 (boS n), AV.rol [cAt n vs (0 : Nat) (0 : Int), cAt n vs (1 : Nat) (1 : Int)] false,
                                                              AV.str [(120 : UInt8)]],
                                                          AV.agg
                                                            [AV.int IntKind.i64 (kindS n), AV.bool (bdS n), AV.int IntKind.u64 (bo2S n more),
                                                              AV.rol [cAt n vs (0 : Nat) (0 : Int), cAt n vs (1 : Nat) (1 : Int), cMore more x] false, AV.str [(120 : UInt8)]],
                                                          AV.agg
                                                            [AV.int IntKind.i64 (kindS n), AV.bool (bdS n), AV.int IntKind.u64 (boS n), AV.rol [cAt n vs (0 : Nat) (0 : Int), cAt n vs (1 : Nat) (1 : Int)] false,
                                                              AV.str [(120 : UInt8)]]].getD
                                                      j AV.undef)) &&
                                              okAts
                                                [AV.agg
                                                      [AV.int IntKind.i64 (kindS n), AV.bool (bdS n), AV.int IntKind.u64 (boS n), AV.rol [cAt n vs (0 : Nat) (0 : Int), cAt n vs (1 : Nat) (1 : Int)] false,
                                                        AV.str [(120 : UInt8)]],
                                                    AV.agg
                                                      [AV.int IntKind.i64 (kindS n), AV.bool (bdS n), AV.int IntKind.u64 (bo2S n more),
                                                        AV.rol [cAt n vs (0 : Nat) (0 : Int), cAt n vs (1 : Nat) (1 : Int), cMore more x] false, AV.str [(120 : UInt8)]],
                                                    AV.agg
                                                      [AV.int IntKind.i64 (kindS n), AV.bool (bdS n), AV.int IntKind.u64 (boS n), AV.rol [cAt n vs (0 : Nat) (0 : Int), cAt n vs (1 : Nat) (1 : Int)] false,
                                                        AV.str [(120 : UInt8)]]].length
                                                (atsOf fun (j : Nat) =>
                                                  nrmA
                                                    ([AV.agg
                                                            [AV.int IntKind.i64 (kindS n), AV.bool (bdS n), AV.int IntKind.u64 (boS n), AV.rol [cAt n vs (0 : Nat) (0 : Int), cAt n vs (1 : Nat) (1 : Int)] false,
                                                              AV.str [(120 : UInt8)]],
                                                          AV.agg
                                                            [AV.int IntKind.i64 (kindS n), AV.bool (bdS n), AV.int IntKind.u64 (bo2S n more),
                                                              AV.rol [cAt n vs (0 : Nat) (0 : Int), cAt n vs (1 : Nat) (1 : Int), cMore more x] false, AV.str [(120 : UInt8)]],
                                                          AV.agg
                                                            [AV.int IntKind.i64 (kindS n), AV.bool (bdS n), AV.int IntKind.u64 (boS n), AV.rol [cAt n vs (0 : Nat) (0 : Int), cAt n vs (1 : Nat) (1 : Int)] false,
                                                              AV.str [(120 : UInt8)]]].getD
                                                      j AV.undef)) &&
                                            u64B l &&
                                          true)
                                        (∃ (_ : Unit),
                                          True ∧
                                            (true = true ∧
                                                isS2 vs n more l ek x = isS2 vs n more l ek x ∧
                                                  MatB (kindS n) (bdS n) (bo2S n more) [cAt n vs (0 : Nat) (0 : Int), cAt n vs (1 : Nat) (1 : Int), cMore more x].length
                                                        (AtomA.mk (kindS n) (bdS n) (bo2S n more) [cAt n vs (0 : Nat) (0 : Int), cAt n vs (1 : Nat) (1 : Int), cMore more x].length
                                                            (fun (i : Nat) => [cAt n vs (0 : Nat) (0 : Int), cAt n vs (1 : Nat) (1 : Int), cMore more x].getD i AV.undef) [(120 : UInt8)]).o
                                                        (AtomA.mk (kindS n) (bdS n) (bo2S n more) [cAt n vs (0 : Nat) (0 : Int), cAt n vs (1 : Nat) (1 : Int), cMore more x].length
                                                            (fun (i : Nat) => [cAt n vs (0 : Nat) (0 : Int), cAt n vs (1 : Nat) (1 : Int), cMore more x].getD i AV.undef) [(120 : UInt8)]).v
                                                        [(120 : UInt8)] l (kindS n) x =
                                                      wasS2 vs n more l ek x ∧
                                                    MatE (kindS n) (bdS n) (bo2S n more) [cAt n vs (0 : Nat) (0 : Int), cAt n vs (1 : Nat) (1 : Int), cMore more x].length
                                                          (AtomA.mk (kindS n) (bdS n) (bo2S n more) [cAt n vs (0 : Nat) (0 : Int), cAt n vs (1 : Nat) (1 : Int), cMore more x].length
                                                              (fun (i : Nat) => [cAt n vs (0 : Nat) (0 : Int), cAt n vs (1 : Nat) (1 : Int), cMore more x].getD i AV.undef) [(120 : UInt8)]).o
                                                          [(120 : UInt8)] (kindS n) =
                                                        (atL n more [cAt n vs (0 : Nat) (0 : Int), cAt n vs (1 : Nat) (1 : Int), cMore more x]).mE (kindS n) ∧
                                                      (((if
                                                                allE
                                                                    (atsOf fun (j : Nat) =>
                                                                      nrmA
                                                                        ([AV.agg
                                                                                [AV.int IntKind.i64 (kindS n), AV.bool (bdS n), AV.int IntKind.u64 (boS n),
                                                                                  AV.rol [cAt n vs (0 : Nat) (0 : Int), cAt n vs (1 : Nat) (1 : Int)] false, AV.str [(120 : UInt8)]],
                                                                              AV.agg
                                                                                [AV.int IntKind.i64 (kindS n), AV.bool (bdS n), AV.int IntKind.u64 (bo2S n more),
                                                                                  AV.rol [cAt n vs (0 : Nat) (0 : Int), cAt n vs (1 : Nat) (1 : Int), cMore more x] false, AV.str [(120 : UInt8)]],
                                                                              AV.agg
                                                                                [AV.int IntKind.i64 (kindS n), AV.bool (bdS n), AV.int IntKind.u64 (boS n),
                                                                                  AV.rol [cAt n vs (0 : Nat) (0 : Int), cAt n vs (1 : Nat) (1 : Int)] false, AV.str [(120 : UInt8)]]].getD
                                                                          j AV.undef))
                                                                    [AV.agg
                                                                          [AV.int IntKind.i64 (kindS n), AV.bool (bdS n), AV.int IntKind.u64 (boS n),
                                                                            AV.rol [cAt n vs (0 : Nat) (0 : Int), cAt n vs (1 : Nat) (1 : Int)] false, AV.str [(120 : UInt8)]],
                                                                        AV.agg
                                                                          [AV.int IntKind.i64 (kindS n), AV.bool (bdS n), AV.int IntKind.u64 (bo2S n more),
                                                                            AV.rol [cAt n vs (0 : Nat) (0 : Int), cAt n vs (1 : Nat) (1 : Int), cMore more x] false, AV.str [(120 : UInt8)]],
                                                                        AV.agg
                                                                          [AV.int IntKind.i64 (kindS n), AV.bool (bdS n), AV.int IntKind.u64 (boS n),
                                                                            AV.rol [cAt n vs (0 : Nat) (0 : Int), cAt n vs (1 : Nat) (1 : Int)] false, AV.str [(120 : UInt8)]]].length
                                                                    (kindS n) =
                                                                  (0 : Int) then
                                                              whN
                                                                (atsOf fun (j : Nat) =>
                                                                  nrmA
                                                                    ([AV.agg
                                                                            [AV.int IntKind.i64 (kindS n), AV.bool (bdS n), AV.int IntKind.u64 (boS n),
                                                                              AV.rol [cAt n vs (0 : Nat) (0 : Int), cAt n vs (1 : Nat) (1 : Int)] false, AV.str [(120 : UInt8)]],
                                                                          AV.agg
                                                                            [AV.int IntKind.i64 (kindS n), AV.bool (bdS n), AV.int IntKind.u64 (bo2S n more),
                                                                              AV.rol [cAt n vs (0 : Nat) (0 : Int), cAt n vs (1 : Nat) (1 : Int), cMore more x] false, AV.str [(120 : UInt8)]],
                                                                          AV.agg
                                                                            [AV.int IntKind.i64 (kindS n), AV.bool (bdS n), AV.int IntKind.u64 (boS n),
                                                                              AV.rol [cAt n vs (0 : Nat) (0 : Int), cAt n vs (1 : Nat) (1 : Int)] false, AV.str [(120 : UInt8)]]].getD
                                                                      j AV.undef))
                                                                l (kindS n) x
                                                                [AV.agg
                                                                      [AV.int IntKind.i64 (kindS n), AV.bool (bdS n), AV.int IntKind.u64 (boS n), AV.rol [cAt n vs (0 : Nat) (0 : Int), cAt n vs (1 : Nat) (1 : Int)] false,
                                                                        AV.str [(120 : UInt8)]],
                                                                    AV.agg
                                                                      [AV.int IntKind.i64 (kindS n), AV.bool (bdS n), AV.int IntKind.u64 (bo2S n more),
                                                                        AV.rol [cAt n vs (0 : Nat) (0 : Int), cAt n vs (1 : Nat) (1 : Int), cMore more x] false, AV.str [(120 : UInt8)]],
                                                                    AV.agg
                                                                      [AV.int IntKind.i64 (kindS n), AV.bool (bdS n), AV.int IntKind.u64 (boS n), AV.rol [cAt n vs (0 : Nat) (0 : Int), cAt n vs (1 : Nat) (1 : Int)] false,
                                                                        AV.str [(120 : UInt8)]]].length
                                                            else (0 : Nat)) =
                                                            if allE (ats2 vs n more x) (3 : Nat) (kindS n) = (0 : Int) then whN (ats2 vs n more x) l (kindS n) x (3 : Nat) else (0 : Nat)) ∧
                                                          (∀ (i : Nat),
                                                              (i <
                                                                  if
                                                                      allE
                                                                          (atsOf fun (j : Nat) =>
                                                                            nrmA
                                                                              ([AV.agg
                                                                                      [AV.int IntKind.i64 (kindS n), AV.bool (bdS n), AV.int IntKind.u64 (boS n),
                                                                                        AV.rol [cAt n vs (0 : Nat) (0 : Int), cAt n vs (1 : Nat) (1 : Int)] false, AV.str [(120 : UInt8)]],
                                                                                    AV.agg
                                                                                      [AV.int IntKind.i64 (kindS n), AV.bool (bdS n), AV.int IntKind.u64 (bo2S n more),
                                                                                        AV.rol [cAt n vs (0 : Nat) (0 : Int), cAt n vs (1 : Nat) (1 : Int), cMore more x] false, AV.str [(120 : UInt8)]],
                                                                                    AV.agg
                                                                                      [AV.int IntKind.i64 (kindS n), AV.bool (bdS n), AV.int IntKind.u64 (boS n),
                                                                                        AV.rol [cAt n vs (0 : Nat) (0 : Int), cAt n vs (1 : Nat) (1 : Int)] false, AV.str [(120 : UInt8)]]].getD
                                                                                j AV.undef))
                                                                          [AV.agg
                                                                                [AV.int IntKind.i64 (kindS n), AV.bool (bdS n), AV.int IntKind.u64 (boS n),
                                                                                  AV.rol [cAt n vs (0 : Nat) (0 : Int), cAt n vs (1 : Nat) (1 : Int)] false, AV.str [(120 : UInt8)]],
                                                                              AV.agg
                                                                                [AV.int IntKind.i64 (kindS n), AV.bool (bdS n), AV.int IntKind.u64 (bo2S n more),
                                                                                  AV.rol [cAt n vs (0 : Nat) (0 : Int), cAt n vs (1 : Nat) (1 : Int), cMore more x] false, AV.str [(120 : UInt8)]],
                                                                              AV.agg
                                                                                [AV.int IntKind.i64 (kindS n), AV.bool (bdS n), AV.int IntKind.u64 (boS n),
                                                                                  AV.rol [cAt n vs (0 : Nat) (0 : Int), cAt n vs (1 : Nat) (1 : Int)] false, AV.str [(120 : UInt8)]]].length
                                                                          (kindS n) =
                                                                        (0 : Int) then
                                                                    whN
                                                                      (atsOf fun (j : Nat) =>
                                                                        nrmA
                                                                          ([AV.agg
                                                                                  [AV.int IntKind.i64 (kindS n), AV.bool (bdS n), AV.int IntKind.u64 (boS n),
                                                                                    AV.rol [cAt n vs (0 : Nat) (0 : Int), cAt n vs (1 : Nat) (1 : Int)] false, AV.str [(120 : UInt8)]],
                                                                                AV.agg
                                                                                  [AV.int IntKind.i64 (kindS n), AV.bool (bdS n), AV.int IntKind.u64 (bo2S n more),
                                                                                    AV.rol [cAt n vs (0 : Nat) (0 : Int), cAt n vs (1 : Nat) (1 : Int), cMore more x] false, AV.str [(120 : UInt8)]],
                                                                                AV.agg
                                                                                  [AV.int IntKind.i64 (kindS n), AV.bool (bdS n), AV.int IntKind.u64 (boS n),
                                                                                    AV.rol [cAt n vs (0 : Nat) (0 : Int), cAt n vs (1 : Nat) (1 : Int)] false, AV.str [(120 : UInt8)]]].getD
                                                                            j AV.undef))
                                                                      l (kindS n) x
                                                                      [AV.agg
                                                                            [AV.int IntKind.i64 (kindS n), AV.bool (bdS n), AV.int IntKind.u64 (boS n),
                                                                              AV.rol [cAt n vs (0 : Nat) (0 : Int), cAt n vs (1 : Nat) (1 : Int)] false, AV.str [(120 : UInt8)]],
                                                                          AV.agg
                                                                            [AV.int IntKind.i64 (kindS n), AV.bool (bdS n), AV.int IntKind.u64 (bo2S n more),
                                                                              AV.rol [cAt n vs (0 : Nat) (0 : Int), cAt n vs (1 : Nat) (1 : Int), cMore more x] false, AV.str [(120 : UInt8)]],
                                                                          AV.agg
                                                                            [AV.int IntKind.i64 (kindS n), AV.bool (bdS n), AV.int IntKind.u64 (boS n),
                                                                              AV.rol [cAt n vs (0 : Nat) (0 : Int), cAt n vs (1 : Nat) (1 : Int)] false, AV.str [(120 : UInt8)]]].length
                                                                  else (0 : Nat)) →
                                                                whV
                                                                      (atsOf fun (j : Nat) =>
                                                                        nrmA
                                                                          ([AV.agg
                                                                                  [AV.int IntKind.i64 (kindS n), AV.bool (bdS n), AV.int IntKind.u64 (boS n),
                                                                                    AV.rol [cAt n vs (0 : Nat) (0 : Int), cAt n vs (1 : Nat) (1 : Int)] false, AV.str [(120 : UInt8)]],
                                                                                AV.agg
                                                                                  [AV.int IntKind.i64 (kindS n), AV.bool (bdS n), AV.int IntKind.u64 (bo2S n more),
                                                                                    AV.rol [cAt n vs (0 : Nat) (0 : Int), cAt n vs (1 : Nat) (1 : Int), cMore more x] false, AV.str [(120 : UInt8)]],
                                                                                AV.agg
                                                                                  [AV.int IntKind.i64 (kindS n), AV.bool (bdS n), AV.int IntKind.u64 (boS n),
                                                                                    AV.rol [cAt n vs (0 : Nat) (0 : Int), cAt n vs (1 : Nat) (1 : Int)] false, AV.str [(120 : UInt8)]]].getD
                                                                            j AV.undef))
                                                                      l (kindS n) x
                                                                      [AV.agg
                                                                            [AV.int IntKind.i64 (kindS n), AV.bool (bdS n), AV.int IntKind.u64 (boS n),
                                                                              AV.rol [cAt n vs (0 : Nat) (0 : Int), cAt n vs (1 : Nat) (1 : Int)] false, AV.str [(120 : UInt8)]],
                                                                          AV.agg
                                                                            [AV.int IntKind.i64 (kindS n), AV.bool (bdS n), AV.int IntKind.u64 (bo2S n more),
                                                                              AV.rol [cAt n vs (0 : Nat) (0 : Int), cAt n vs (1 : Nat) (1 : Int), cMore more x] false, AV.str [(120 : UInt8)]],
                                                                          AV.agg
                                                                            [AV.int IntKind.i64 (kindS n), AV.bool (bdS n), AV.int IntKind.u64 (boS n),
                                                                              AV.rol [cAt n vs (0 : Nat) (0 : Int), cAt n vs (1 : Nat) (1 : Int)] false, AV.str [(120 : UInt8)]]].length
                                                                      i =
                                                                    whV (ats2 vs n more x) l (kindS n) x (3 : Nat) i ∧
                                                                  [AV.int IntKind.i64
                                                                          (whV
                                                                            (atsOf fun (j : Nat) =>
                                                                              nrmA
                                                                                ([AV.agg
                                                                                        [AV.int IntKind.i64 (kindS n), AV.bool (bdS n), AV.int IntKind.u64 (boS n),
                                                                                          AV.rol [cAt n vs (0 : Nat) (0 : Int), cAt n vs (1 : Nat) (1 : Int)] false, AV.str [(120 : UInt8)]],
                                                                                      AV.agg
                                                                                        [AV.int IntKind.i64 (kindS n), AV.bool (bdS n), AV.int IntKind.u64 (bo2S n more),
                                                                                          AV.rol [cAt n vs (0 : Nat) (0 : Int), cAt n vs (1 : Nat) (1 : Int), cMore more x] false, AV.str [(120 : UInt8)]],
                                                                                      AV.agg
                                                                                        [AV.int IntKind.i64 (kindS n), AV.bool (bdS n), AV.int IntKind.u64 (boS n),
                                                                                          AV.rol [cAt n vs (0 : Nat) (0 : Int), cAt n vs (1 : Nat) (1 : Int)] false, AV.str [(120 : UInt8)]]].getD
                                                                                  j AV.undef))
                                                                            l (kindS n) x
                                                                            [AV.agg
                                                                                  [AV.int IntKind.i64 (kindS n), AV.bool (bdS n), AV.int IntKind.u64 (boS n),
                                                                                    AV.rol [cAt n vs (0 : Nat) (0 : Int), cAt n vs (1 : Nat) (1 : Int)] false, AV.str [(120 : UInt8)]],
                                                                                AV.agg
                                                                                  [AV.int IntKind.i64 (kindS n), AV.bool (bdS n), AV.int IntKind.u64 (bo2S n more),
                                                                                    AV.rol [cAt n vs (0 : Nat) (0 : Int), cAt n vs (1 : Nat) (1 : Int), cMore more x] false, AV.str [(120 : UInt8)]],
                                                                                AV.agg
                                                                                  [AV.int IntKind.i64 (kindS n), AV.bool (bdS n), AV.int IntKind.u64 (boS n),
                                                                                    AV.rol [cAt n vs (0 : Nat) (0 : Int), cAt n vs (1 : Nat) (1 : Int)] false, AV.str [(120 : UInt8)]]].length
                                                                            i)].length =
                                                                    [AV.int IntKind.i64 (whV (ats2 vs n more x) l (kindS n) x (3 : Nat) i)].length) ∧
                                                            (false = true → false = true)) ∧
                                                        allE
                                                              (atsOf fun (j : Nat) =>
                                                                nrmA
                                                                  ([AV.agg
                                                                          [AV.int IntKind.i64 (kindS n), AV.bool (bdS n), AV.int IntKind.u64 (boS n),
                                                                            AV.rol [cAt n vs (0 : Nat) (0 : Int), cAt n vs (1 : Nat) (1 : Int)] false, AV.str [(120 : UInt8)]],
                                                                        AV.agg
                                                                          [AV.int IntKind.i64 (kindS n), AV.bool (bdS n), AV.int IntKind.u64 (bo2S n more),
                                                                            AV.rol [cAt n vs (0 : Nat) (0 : Int), cAt n vs (1 : Nat) (1 : Int), cMore more x] false, AV.str [(120 : UInt8)]],
                                                                        AV.agg
                                                                          [AV.int IntKind.i64 (kindS n), AV.bool (bdS n), AV.int IntKind.u64 (boS n),
                                                                            AV.rol [cAt n vs (0 : Nat) (0 : Int), cAt n vs (1 : Nat) (1 : Int)] false, AV.str [(120 : UInt8)]]].getD
                                                                    j AV.undef))
                                                              [AV.agg
                                                                    [AV.int IntKind.i64 (kindS n), AV.bool (bdS n), AV.int IntKind.u64 (boS n), AV.rol [cAt n vs (0 : Nat) (0 : Int), cAt n vs (1 : Nat) (1 : Int)] false,
                                                                      AV.str [(120 : UInt8)]],
                                                                  AV.agg
                                                                    [AV.int IntKind.i64 (kindS n), AV.bool (bdS n), AV.int IntKind.u64 (bo2S n more),
                                                                      AV.rol [cAt n vs (0 : Nat) (0 : Int), cAt n vs (1 : Nat) (1 : Int), cMore more x] false, AV.str [(120 : UInt8)]],
                                                                  AV.agg
                                                                    [AV.int IntKind.i64 (kindS n), AV.bool (bdS n), AV.int IntKind.u64 (boS n), AV.rol [cAt n vs (0 : Nat) (0 : Int), cAt n vs (1 : Nat) (1 : Int)] false,
                                                                      AV.str [(120 : UInt8)]]].length
                                                              (kindS n) =
                                                            allE (ats2 vs n more x) (3 : Nat) (kindS n) ∧
                                                          True) ∧
                                              True) ∧
                                      ∀ (_ : Unit),
                                        True →
                                          VB (isS2 vs n more l ek x)
                                              (∃ (i : Nat),
                                                True ∧
                                                  (true = true ∧
                                                      isS2 vs n more l ek x = isS2 vs n more l ek x ∧
                                                        wasS2 vs n more l ek x = wasS2 vs n more l ek x ∧
                                                          (atL n more [cAt n vs (0 : Nat) (0 : Int), cAt n vs (1 : Nat) (1 : Int), cMore more x]).mE (kindS n) =
                                                              (atL n more [cAt n vs (0 : Nat) (0 : Int), cAt n vs (1 : Nat) (1 : Int), cMore more x]).mE (kindS n) ∧
                                                            (((if allE (ats2 vs n more x) (3 : Nat) (kindS n) = (0 : Int) then whN (ats2 vs n more x) l (kindS n) x (3 : Nat) else (0 : Nat)) =
                                                                  if allE (ats2 vs n more x) (3 : Nat) (kindS n) = (0 : Int) then whN (ats2 vs n more x) l (kindS n) x (3 : Nat) else (0 : Nat)) ∧
                                                                (∀ (i : Nat),
                                                                    (i < if allE (ats2 vs n more x) (3 : Nat) (kindS n) = (0 : Int) then whN (ats2 vs n more x) l (kindS n) x (3 : Nat) else (0 : Nat)) →
                                                                      whV (ats2 vs n more x) l (kindS n) x (3 : Nat) i = whV (ats2 vs n more x) l (kindS n) x (3 : Nat) i ∧
                                                                        [AV.int IntKind.i64 (whV (ats2 vs n more x) l (kindS n) x (3 : Nat) i)].length =
                                                                          [AV.int IntKind.i64 (whV (ats2 vs n more x) l (kindS n) x (3 : Nat) i)].length) ∧
                                                                  (false = true → false = true)) ∧
                                                              allE (ats2 vs n more x) (3 : Nat) (kindS n) = allE (ats2 vs n more x) (3 : Nat) (kindS n) ∧
                                                                ((0 : Nat) = i ∧ (0 : Nat) = (0 : Nat) ∧ (1 : Nat) = (w1S (isS2 vs n more l ek x)).length ∧ (@Eq (Option Nat) none none ∨ @Eq (Option Nat) none none)) ∧
                                                                  True) ∧
                                                    ((0 : Nat) = i ∧
                                                        (true = true → true = true) ∧
                                                          [AV.int IntKind.i64 (0 : Int)].length = (w1S (isS2 vs n more l ek x)).length ∧
                                                            ((0 : Int) = (w1S (isS2 vs n more l ek x)).getD (0 : Nat) (0 : Int) ∧
                                                                [AV.int IntKind.i64 (0 : Int)].length = [AV.int IntKind.i64 ((w1S (isS2 vs n more l ek x)).getD (0 : Nat) (0 : Int))].length) ∧
                                                              True) ∧
                                                      True)
                                              (∃ (i : Nat),
                                                True ∧
                                                  (true = true ∧
                                                      isS2 vs n more l ek x = isS2 vs n more l ek x ∧
                                                        wasS2 vs n more l ek x = wasS2 vs n more l ek x ∧
                                                          (atL n more [cAt n vs (0 : Nat) (0 : Int), cAt n vs (1 : Nat) (1 : Int), cMore more x]).mE (kindS n) =
                                                              (atL n more [cAt n vs (0 : Nat) (0 : Int), cAt n vs (1 : Nat) (1 : Int), cMore more x]).mE (kindS n) ∧
                                                            (((if allE (ats2 vs n more x) (3 : Nat) (kindS n) = (0 : Int) then whN (ats2 vs n more x) l (kindS n) x (3 : Nat) else (0 : Nat)) =
                                                                  if allE (ats2 vs n more x) (3 : Nat) (kindS n) = (0 : Int) then whN (ats2 vs n more x) l (kindS n) x (3 : Nat) else (0 : Nat)) ∧
                                                                (∀ (i : Nat),
                                                                    (i < if allE (ats2 vs n more x) (3 : Nat) (kindS n) = (0 : Int) then whN (ats2 vs n more x) l (kindS n) x (3 : Nat) else (0 : Nat)) →
                                                                      whV (ats2 vs n more x) l (kindS n) x (3 : Nat) i = whV (ats2 vs n more x) l (kindS n) x (3 : Nat) i ∧
                                                                        [AV.int IntKind.i64 (whV (ats2 vs n more x) l (kindS n) x (3 : Nat) i)].length =
                                                                          [AV.int IntKind.i64 (whV (ats2 vs n more x) l (kindS n) x (3 : Nat) i)].length) ∧
                                                                  (false = true → false = true)) ∧
                                                              allE (ats2 vs n more x) (3 : Nat) (kindS n) = allE (ats2 vs n more x) (3 : Nat) (kindS n) ∧
                                                                ((w1S (isS2 vs n more l ek x)).length = (0 : Nat) ∧ i = i ∧ (w1S (isS2 vs n more l ek x)).length = (0 : Nat)) ∧ True) ∧
                                                    (w1S (isS2 vs n more l ek x)).length = (0 : Nat) ∧ True) ∧
                                            ∀ (i : Nat),
                                              True →
                                                VB (wasS2 vs n more l ek x)
                                                    (NB (true && decide (i = i) && room ((w1S (isS2 vs n more l ek x)).length + (1 : Nat)) (8 : Nat))
                                                      (∃ (i_1 : Nat),
                                                        True ∧
                                                          (true = true ∧
                                                              isS2 vs n more l ek x = isS2 vs n more l ek x ∧
                                                                wasS2 vs n more l ek x = wasS2 vs n more l ek x ∧
                                                                  (atL n more [cAt n vs (0 : Nat) (0 : Int), cAt n vs (1 : Nat) (1 : Int), cMore more x]).mE (kindS n) =
                                                                      (atL n more [cAt n vs (0 : Nat) (0 : Int), cAt n vs (1 : Nat) (1 : Int), cMore more x]).mE (kindS n) ∧
                                                                    (((if allE (ats2 vs n more x) (3 : Nat) (kindS n) = (0 : Int) then whN (ats2 vs n more x) l (kindS n) x (3 : Nat) else (0 : Nat)) =
                                                                          if allE (ats2 vs n more x) (3 : Nat) (kindS n) = (0 : Int) then whN (ats2 vs n more x) l (kindS n) x (3 : Nat) else (0 : Nat)) ∧
                                                                        (∀ (i : Nat),
                                                                            (i < if allE (ats2 vs n more x) (3 : Nat) (kindS n) = (0 : Int) then whN (ats2 vs n more x) l (kindS n) x (3 : Nat) else (0 : Nat)) →
                                                                              whV (ats2 vs n more x) l (kindS n) x (3 : Nat) i = whV (ats2 vs n more x) l (kindS n) x (3 : Nat) i ∧
                                                                                [AV.int IntKind.i64 (whV (ats2 vs n more x) l (kindS n) x (3 : Nat) i)].length =
                                                                                  [AV.int IntKind.i64 (whV (ats2 vs n more x) l (kindS n) x (3 : Nat) i)].length) ∧
                                                                          (false = true → false = true)) ∧
                                                                      allE (ats2 vs n more x) (3 : Nat) (kindS n) = allE (ats2 vs n more x) (3 : Nat) (kindS n) ∧
                                                                        (i + (1 : Nat) = i_1 ∧
                                                                            (0 : Nat) = (0 : Nat) ∧
                                                                              (w1S (isS2 vs n more l ek x)).length + (1 : Nat) = (w2S (isS2 vs n more l ek x) (wasS2 vs n more l ek x)).length ∧
                                                                                (@Eq (Option Nat) none none ∨ @Eq (Option Nat) none none)) ∧
                                                                          True) ∧
                                                            (i + (1 : Nat) = i_1 ∧
                                                                (true = true → true = true) ∧
                                                                  (w1S (isS2 vs n more l ek x)).length + (1 : Nat) = (w2S (isS2 vs n more l ek x) (wasS2 vs n more l ek x)).length ∧
                                                                    ∀ (i : Nat),
                                                                      i < (w1S (isS2 vs n more l ek x)).length + (1 : Nat) →
                                                                        (if i < (w1S (isS2 vs n more l ek x)).length then AV.int IntKind.i64 ((w1S (isS2 vs n more l ek x)).getD ((0 : Nat) + i) (0 : Int))
                                                                              else ((Sq.lst [AV.int IntKind.i64 (1 : Int)]).sub (0 : Nat) (1 : Nat)).get (i - (w1S (isS2 vs n more l ek x)).length)).sub
                                                                            (AV.int IntKind.i64 ((w2S (isS2 vs n more l ek x) (wasS2 vs n more l ek x)).getD i (0 : Int))) ∧
                                                                          (if i < (w1S (isS2 vs n more l ek x)).length then AV.int IntKind.i64 ((w1S (isS2 vs n more l ek x)).getD ((0 : Nat) + i) (0 : Int))
                                                                                else ((Sq.lst [AV.int IntKind.i64 (1 : Int)]).sub (0 : Nat) (1 : Nat)).get (i - (w1S (isS2 vs n more l ek x)).length)).cells.length =
                                                                            [AV.int IntKind.i64 ((w2S (isS2 vs n more l ek x) (wasS2 vs n more l ek x)).getD i (0 : Int))].length) ∧
                                                              True))
                                                    (∃ (i_1 : Nat),
                                                      True ∧
                                                        (true = true ∧
                                                            isS2 vs n more l ek x = isS2 vs n more l ek x ∧
                                                              wasS2 vs n more l ek x = wasS2 vs n more l ek x ∧
                                                                (atL n more [cAt n vs (0 : Nat) (0 : Int), cAt n vs (1 : Nat) (1 : Int), cMore more x]).mE (kindS n) =
                                                                    (atL n more [cAt n vs (0 : Nat) (0 : Int), cAt n vs (1 : Nat) (1 : Int), cMore more x]).mE (kindS n) ∧
                                                                  (((if allE (ats2 vs n more x) (3 : Nat) (kindS n) = (0 : Int) then whN (ats2 vs n more x) l (kindS n) x (3 : Nat) else (0 : Nat)) =
                                                                        if allE (ats2 vs n more x) (3 : Nat) (kindS n) = (0 : Int) then whN (ats2 vs n more x) l (kindS n) x (3 : Nat) else (0 : Nat)) ∧
                                                                      (∀ (i : Nat),
                                                                          (i < if allE (ats2 vs n more x) (3 : Nat) (kindS n) = (0 : Int) then whN (ats2 vs n more x) l (kindS n) x (3 : Nat) else (0 : Nat)) →
                                                                            whV (ats2 vs n more x) l (kindS n) x (3 : Nat) i = whV (ats2 vs n more x) l (kindS n) x (3 : Nat) i ∧
                                                                              [AV.int IntKind.i64 (whV (ats2 vs n more x) l (kindS n) x (3 : Nat) i)].length =
                                                                                [AV.int IntKind.i64 (whV (ats2 vs n more x) l (kindS n) x (3 : Nat) i)].length) ∧
                                                                        (false = true → false = true)) ∧
                                                                    allE (ats2 vs n more x) (3 : Nat) (kindS n) = allE (ats2 vs n more x) (3 : Nat) (kindS n) ∧
                                                                      (i = i_1 ∧
                                                                          (0 : Nat) = (0 : Nat) ∧
                                                                            (w1S (isS2 vs n more l ek x)).length = (w2S (isS2 vs n more l ek x) (wasS2 vs n more l ek x)).length ∧
                                                                              (@Eq (Option Nat) none none ∨ @Eq (Option Nat) none none)) ∧
                                                                        True) ∧
                                                          (i = i_1 ∧
                                                              (true = true → true = true) ∧
                                                                (w1S (isS2 vs n more l ek x)).length = (w2S (isS2 vs n more l ek x) (wasS2 vs n more l ek x)).length ∧
                                                                  ∀ (i : Nat),
                                                                    i < (w1S (isS2 vs n more l ek x)).length →
                                                                      (w1S (isS2 vs n more l ek x)).getD i (0 : Int) = (w2S (isS2 vs n more l ek x) (wasS2 vs n more l ek x)).getD i (0 : Int) ∧
                                                                        [AV.int IntKind.i64 ((w1S (isS2 vs n more l ek x)).getD i (0 : Int))].length =
                                                                          [AV.int IntKind.i64 ((w2S (isS2 vs n more l ek x) (wasS2 vs n more l ek x)).getD i (0 : Int))].length) ∧
                                                            True) ∧
                                                  ∀ (i : Nat),
                                                    True →
                                                      VB (isS2 vs n more l ek x)
                                                          (NB (true && decide (i = i) && room ((w2S (isS2 vs n more l ek x) (wasS2 vs n more l ek x)).length + (1 : Nat)) (8 : Nat))
                                                            (∃ (i_1 : Nat),
                                                              True ∧
                                                                (true = true ∧
                                                                    isS2 vs n more l ek x = isS2 vs n more l ek x ∧
                                                                      wasS2 vs n more l ek x = wasS2 vs n more l ek x ∧
                                                                        (atL n more [cAt n vs (0 : Nat) (0 : Int), cAt n vs (1 : Nat) (1 : Int), cMore more x]).mE (kindS n) =
                                                                            (atL n more [cAt n vs (0 : Nat) (0 : Int), cAt n vs (1 : Nat) (1 : Int), cMore more x]).mE (kindS n) ∧
                                                                          (((if allE (ats2 vs n more x) (3 : Nat) (kindS n) = (0 : Int) then whN (ats2 vs n more x) l (kindS n) x (3 : Nat) else (0 : Nat)) =
                                                                                if allE (ats2 vs n more x) (3 : Nat) (kindS n) = (0 : Int) then whN (ats2 vs n more x) l (kindS n) x (3 : Nat) else (0 : Nat)) ∧
                                                                              (∀ (i : Nat),
                                                                                  (i < if allE (ats2 vs n more x) (3 : Nat) (kindS n) = (0 : Int) then whN (ats2 vs n more x) l (kindS n) x (3 : Nat) else (0 : Nat)) →
                                                                                    whV (ats2 vs n more x) l (kindS n) x (3 : Nat) i = whV (ats2 vs n more x) l (kindS n) x (3 : Nat) i ∧
                                                                                      [AV.int IntKind.i64 (whV (ats2 vs n more x) l (kindS n) x (3 : Nat) i)].length =
                                                                                        [AV.int IntKind.i64 (whV (ats2 vs n more x) l (kindS n) x (3 : Nat) i)].length) ∧
                                                                                (false = true → false = true)) ∧
                                                                            allE (ats2 vs n more x) (3 : Nat) (kindS n) = allE (ats2 vs n more x) (3 : Nat) (kindS n) ∧
                                                                              (i + (1 : Nat) = i_1 ∧
                                                                                  (0 : Nat) = (0 : Nat) ∧
                                                                                    (w2S (isS2 vs n more l ek x) (wasS2 vs n more l ek x)).length + (1 : Nat) =
                                                                                        (w3S (isS2 vs n more l ek x) (wasS2 vs n more l ek x)).length ∧
                                                                                      (@Eq (Option Nat) none none ∨ @Eq (Option Nat) none none)) ∧
                                                                                True) ∧
                                                                  (i + (1 : Nat) = i_1 ∧
                                                                      (true = true → true = true) ∧
                                                                        (w2S (isS2 vs n more l ek x) (wasS2 vs n more l ek x)).length + (1 : Nat) = (w3S (isS2 vs n more l ek x) (wasS2 vs n more l ek x)).length ∧
                                                                          ∀ (i : Nat),
                                                                            i < (w2S (isS2 vs n more l ek x) (wasS2 vs n more l ek x)).length + (1 : Nat) →
                                                                              (if i < (w2S (isS2 vs n more l ek x) (wasS2 vs n more l ek x)).length then
                                                                                      AV.int IntKind.i64 ((w2S (isS2 vs n more l ek x) (wasS2 vs n more l ek x)).getD ((0 : Nat) + i) (0 : Int))
                                                                                    else
                                                                                      ((Sq.lst [AV.int IntKind.i64 (2 : Int)]).sub (0 : Nat) (1 : Nat)).get
                                                                                        (i - (w2S (isS2 vs n more l ek x) (wasS2 vs n more l ek x)).length)).sub
                                                                                  (AV.int IntKind.i64 ((w3S (isS2 vs n more l ek x) (wasS2 vs n more l ek x)).getD i (0 : Int))) ∧
                                                                                (if i < (w2S (isS2 vs n more l ek x) (wasS2 vs n more l ek x)).length then
                                                                                        AV.int IntKind.i64 ((w2S (isS2 vs n more l ek x) (wasS2 vs n more l ek x)).getD ((0 : Nat) + i) (0 : Int))
                                                                                      else
                                                                                        ((Sq.lst [AV.int IntKind.i64 (2 : Int)]).sub (0 : Nat) (1 : Nat)).get
                                                                                          (i - (w2S (isS2 vs n more l ek x) (wasS2 vs n more l ek x)).length)).cells.length =
                                                                                  [AV.int IntKind.i64 ((w3S (isS2 vs n more l ek x) (wasS2 vs n more l ek x)).getD i (0 : Int))].length) ∧
                                                                    True))
                                                          (∃ (i_1 : Nat),
                                                            True ∧
                                                              (true = true ∧
                                                                  isS2 vs n more l ek x = isS2 vs n more l ek x ∧
                                                                    wasS2 vs n more l ek x = wasS2 vs n more l ek x ∧
                                                                      (atL n more [cAt n vs (0 : Nat) (0 : Int), cAt n vs (1 : Nat) (1 : Int), cMore more x]).mE (kindS n) =
                                                                          (atL n more [cAt n vs (0 : Nat) (0 : Int), cAt n vs (1 : Nat) (1 : Int), cMore more x]).mE (kindS n) ∧
                                                                        (((if allE (ats2 vs n more x) (3 : Nat) (kindS n) = (0 : Int) then whN (ats2 vs n more x) l (kindS n) x (3 : Nat) else (0 : Nat)) =
                                                                              if allE (ats2 vs n more x) (3 : Nat) (kindS n) = (0 : Int) then whN (ats2 vs n more x) l (kindS n) x (3 : Nat) else (0 : Nat)) ∧
                                                                            (∀ (i : Nat),
                                                                                (i < if allE (ats2 vs n more x) (3 : Nat) (kindS n) = (0 : Int) then whN (ats2 vs n more x) l (kindS n) x (3 : Nat) else (0 : Nat)) →
                                                                                  whV (ats2 vs n more x) l (kindS n) x (3 : Nat) i = whV (ats2 vs n more x) l (kindS n) x (3 : Nat) i ∧
                                                                                    [AV.int IntKind.i64 (whV (ats2 vs n more x) l (kindS n) x (3 : Nat) i)].length =
                                                                                      [AV.int IntKind.i64 (whV (ats2 vs n more x) l (kindS n) x (3 : Nat) i)].length) ∧
                                                                              (false = true → false = true)) ∧
                                                                          allE (ats2 vs n more x) (3 : Nat) (kindS n) = allE (ats2 vs n more x) (3 : Nat) (kindS n) ∧
                                                                            (i = i_1 ∧
                                                                                (0 : Nat) = (0 : Nat) ∧
                                                                                  (w2S (isS2 vs n more l ek x) (wasS2 vs n more l ek x)).length = (w3S (isS2 vs n more l ek x) (wasS2 vs n more l ek x)).length ∧
                                                                                    (@Eq (Option Nat) none none ∨ @Eq (Option Nat) none none)) ∧
                                                                              True) ∧
                                                                (i = i_1 ∧
                                                                    (true = true → true = true) ∧
                                                                      (w2S (isS2 vs n more l ek x) (wasS2 vs n more l ek x)).length = (w3S (isS2 vs n more l ek x) (wasS2 vs n more l ek x)).length ∧
                                                                        ∀ (i : Nat),
                                                                          i < (w2S (isS2 vs n more l ek x) (wasS2 vs n more l ek x)).length →
                                                                            (w2S (isS2 vs n more l ek x) (wasS2 vs n more l ek x)).getD i (0 : Int) =
                                                                                (w3S (isS2 vs n more l ek x) (wasS2 vs n more l ek x)).getD i (0 : Int) ∧
                                                                              [AV.int IntKind.i64 ((w2S (isS2 vs n more l ek x) (wasS2 vs n more l ek x)).getD i (0 : Int))].length =
                                                                                [AV.int IntKind.i64 ((w3S (isS2 vs n more l ek x) (wasS2 vs n more l ek x)).getD i (0 : Int))].length) ∧
                                                                  True) ∧
                                                        ∀ (i : Nat),
                                                          True →
                                                            NB
                                                              (impB
                                                                (isW true
                                                                  (true && (atL n more [cAt n vs (0 : Nat) (0 : Int), cAt n vs (1 : Nat) (1 : Int), cMore more x]).mE (kindS n) == (0 : Int) &&
                                                                      (isS2 vs n more l ek x || !wasS2 vs n more l ek x) &&
                                                                    allE (ats2 vs n more x) (3 : Nat) (kindS n) == (0 : Int)))
                                                                ((((decide
                                                                            ((if allE (ats2 vs n more x) (3 : Nat) (kindS n) = (0 : Int) then whN (ats2 vs n more x) l (kindS n) x (3 : Nat) else (0 : Nat)) ≤
                                                                              (1000000 : Nat)) &&
                                                                          decide
                                                                            ((if allE (ats2 vs n more x) (3 : Nat) (kindS n) = (0 : Int) then whN (ats2 vs n more x) l (kindS n) x (3 : Nat) else (0 : Nat)) =
                                                                              (w3S (isS2 vs n more l ek x) (wasS2 vs n more l ek x)).length) &&
                                                                        intsB (if allE (ats2 vs n more x) (3 : Nat) (kindS n) = (0 : Int) then whN (ats2 vs n more x) l (kindS n) x (3 : Nat) else (0 : Nat)) fun (k : Nat) =>
                                                                          AV.int IntKind.i64 (whV (ats2 vs n more x) l (kindS n) x (3 : Nat) k)) &&
                                                                      intsB (w3S (isS2 vs n more l ek x) (wasS2 vs n more l ek x)).length fun (k : Nat) =>
                                                                        AV.int IntKind.i64 ((w3S (isS2 vs n more l ek x) (wasS2 vs n more l ek x)).getD ((0 : Nat) + k) (0 : Int))) &&
                                                                    eqFn (fun (k : Nat) => iOf (AV.int IntKind.i64 (whV (ats2 vs n more x) l (kindS n) x (3 : Nat) k))) fun (k : Nat) =>
                                                                      iOf (AV.int IntKind.i64 ((w3S (isS2 vs n more l ek x) (wasS2 vs n more l ek x)).getD ((0 : Nat) + k) (0 : Int)))) &&
                                                                  (true && (decide (i = i) && true))))
                                                              (((true && (atL n more [cAt n vs (0 : Nat) (0 : Int), cAt n vs (1 : Nat) (1 : Int), cMore more x]).mE (kindS n) == (0 : Int) &&
                                                                        (isS2 vs n more l ek x || !wasS2 vs n more l ek x) &&
                                                                      allE (ats2 vs n more x) (3 : Nat) (kindS n) == (0 : Int) &&
                                                                    true) ==
                                                                  true) =
                                                                true))))))) := by
  kernel_rfl

end Go.Proofs.YtjkkkldkimdajaaDoor
