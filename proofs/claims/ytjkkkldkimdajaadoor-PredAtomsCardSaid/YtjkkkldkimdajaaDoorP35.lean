/- PRED 35: the law of atoms, its code. -/
import Derived.Test.YtjkkkldkimdajaaDoorP32
namespace Go.Proofs.YtjkkkldkimdajaaDoor
open Pw Go
set_option maxRecDepth 100000
set_option linter.unusedSimpArgs false

theorem predAtoms_vc (k : Int) (bd : Bool) (bo : Int) (n : Nat) (o v : Nat → Int) (nm : List UInt8) (l ek x : Int) : (vcFun (mkG Tryd.prog gN (tblOf tblD) (fun _ _ => none) 4) 20 4 [.agg [.int .i64 k, .bool bd, .int .u64 bo, .rof n (fun i => .agg [.int .i64 (o i), .int .i64 (v i)]) false, .str nm], .agg [.int .u64 l, .int .i64 ek, .int .i64 x]] .nil 0 (isBool true)).sat = (
  VB (!(decide ((↑n : Int) ≤ (12 : Int)) && decide ((↑nm.length : Int) ≤ (100 : Int)))) (true = true)
    (NB (decide (n ≤ (1000000 : Nat)) && condsB n fun (i : Nat) => AV.agg [AV.int IntKind.i64 (o i), AV.int IntKind.i64 (v i)])
      (NB ((condsB n fun (i : Nat) => AV.agg [AV.int IntKind.i64 (o i), AV.int IntKind.i64 (v i)]) && nmB nm && u64B l && u64B bo)
        (NB ((condsB n fun (i : Nat) => AV.agg [AV.int IntKind.i64 (o i), AV.int IntKind.i64 (v i)]) && nmB nm && u64B l && u64B bo)
          (NB ((condsB n fun (i : Nat) => AV.agg [AV.int IntKind.i64 (o i), AV.int IntKind.i64 (v i)]) && nmB nm && rngAll n fun (i : Nat) => v i)
            (NB ((condsB n fun (i : Nat) => AV.agg [AV.int IntKind.i64 (o i), AV.int IntKind.i64 (v i)]) && nmB nm && rngAll n fun (i : Nat) => v i)
              (NB ((condsB n fun (i : Nat) => AV.agg [AV.int IntKind.i64 (o i), AV.int IntKind.i64 (v i)]) && nmB nm && rngAll n fun (i : Nat) => v i)
                (NB ((condsB n fun (i : Nat) => AV.agg [AV.int IntKind.i64 (o i), AV.int IntKind.i64 (v i)]) && nmB nm && rngAll n fun (i : Nat) => v i)
                  (NB ((condsB n fun (i : Nat) => AV.agg [AV.int IntKind.i64 (o i), AV.int IntKind.i64 (v i)]) && decide (nm.length ≤ (9223372036854775807 : Nat)))
                    (NB ((condsB n fun (i : Nat) => AV.agg [AV.int IntKind.i64 (o i), AV.int IntKind.i64 (v i)]) && decide (nm.length ≤ (9223372036854775807 : Nat)))
                      (VB
                          (isW true
                            (checkE k bd bo n (fun (i : Nat) => o i) nm == checkE k bd bo n (fun (i : Nat) => o i) nm && eventE ek == eventE ek &&
                                        MatB k bd bo n (fun (i : Nat) => o i) (fun (i : Nat) => v i) nm l ek x == MatB k bd bo n (fun (i : Nat) => o i) (fun (i : Nat) => v i) nm l ek x &&
                                      MatE k bd bo n (fun (i : Nat) => o i) nm ek == MatE k bd bo n (fun (i : Nat) => o i) nm ek &&
                                    EmpB k bd bo n (fun (i : Nat) => o i) (fun (i : Nat) => v i) nm == EmpB k bd bo n (fun (i : Nat) => o i) (fun (i : Nat) => v i) nm &&
                                  checkE k bd bo n (fun (i : Nat) => o i) nm == checkE k bd bo n (fun (i : Nat) => o i) nm &&
                                (SamL k bd bo n (fun (i : Nat) => o i) (fun (i : Nat) => v i) nm == SamL k bd bo n (fun (i : Nat) => o i) (fun (i : Nat) => v i) nm &&
                                  (SamK k bd bo n (fun (i : Nat) => o i) (fun (i : Nat) => v i) nm == SamK k bd bo n (fun (i : Nat) => o i) (fun (i : Nat) => v i) nm &&
                                    (SamX k bd bo n (fun (i : Nat) => o i) (fun (i : Nat) => v i) nm == SamX k bd bo n (fun (i : Nat) => o i) (fun (i : Nat) => v i) nm && true))) &&
                              SamE k bd bo n (fun (i : Nat) => o i) (fun (i : Nat) => v i) nm == SamE k bd bo n (fun (i : Nat) => o i) (fun (i : Nat) => v i) nm))
                          (VB
                            (isW true
                              (checkE k bd bo n (fun (i : Nat) => o i) nm == checkE k bd bo n (fun (i : Nat) => o i) nm && eventE ek == eventE ek &&
                                          MatB k bd bo n (fun (i : Nat) => o i) (fun (i : Nat) => v i) nm l ek x == MatB k bd bo n (fun (i : Nat) => o i) (fun (i : Nat) => v i) nm l ek x &&
                                        MatE k bd bo n (fun (i : Nat) => o i) nm ek == MatE k bd bo n (fun (i : Nat) => o i) nm ek &&
                                      EmpB k bd bo n (fun (i : Nat) => o i) (fun (i : Nat) => v i) nm == EmpB k bd bo n (fun (i : Nat) => o i) (fun (i : Nat) => v i) nm &&
                                    checkE k bd bo n (fun (i : Nat) => o i) nm == checkE k bd bo n (fun (i : Nat) => o i) nm &&
                                  (SamL k bd bo n (fun (i : Nat) => o i) (fun (i : Nat) => v i) nm == SamL k bd bo n (fun (i : Nat) => o i) (fun (i : Nat) => v i) nm &&
                                    (SamK k bd bo n (fun (i : Nat) => o i) (fun (i : Nat) => v i) nm == SamK k bd bo n (fun (i : Nat) => o i) (fun (i : Nat) => v i) nm &&
                                      (SamX k bd bo n (fun (i : Nat) => o i) (fun (i : Nat) => v i) nm == SamX k bd bo n (fun (i : Nat) => o i) (fun (i : Nat) => v i) nm && true))) &&
                                SamE k bd bo n (fun (i : Nat) => o i) (fun (i : Nat) => v i) nm == SamE k bd bo n (fun (i : Nat) => o i) (fun (i : Nat) => v i) nm))
                            (VB
                              (isW true
                                (checkE k bd bo n (fun (i : Nat) => o i) nm == checkE k bd bo n (fun (i : Nat) => o i) nm && eventE ek == eventE ek &&
                                            MatB k bd bo n (fun (i : Nat) => o i) (fun (i : Nat) => v i) nm l ek x == MatB k bd bo n (fun (i : Nat) => o i) (fun (i : Nat) => v i) nm l ek x &&
                                          MatE k bd bo n (fun (i : Nat) => o i) nm ek == MatE k bd bo n (fun (i : Nat) => o i) nm ek &&
                                        EmpB k bd bo n (fun (i : Nat) => o i) (fun (i : Nat) => v i) nm == EmpB k bd bo n (fun (i : Nat) => o i) (fun (i : Nat) => v i) nm &&
                                      checkE k bd bo n (fun (i : Nat) => o i) nm == checkE k bd bo n (fun (i : Nat) => o i) nm &&
                                    (SamL k bd bo n (fun (i : Nat) => o i) (fun (i : Nat) => v i) nm == SamL k bd bo n (fun (i : Nat) => o i) (fun (i : Nat) => v i) nm &&
                                      (SamK k bd bo n (fun (i : Nat) => o i) (fun (i : Nat) => v i) nm == SamK k bd bo n (fun (i : Nat) => o i) (fun (i : Nat) => v i) nm &&
                                        (SamX k bd bo n (fun (i : Nat) => o i) (fun (i : Nat) => v i) nm == SamX k bd bo n (fun (i : Nat) => o i) (fun (i : Nat) => v i) nm && true))) &&
                                  SamE k bd bo n (fun (i : Nat) => o i) (fun (i : Nat) => v i) nm == SamE k bd bo n (fun (i : Nat) => o i) (fun (i : Nat) => v i) nm))
                              (NB
                                (((decide (n ≤ (1000000 : Nat)) && condsB n fun (i : Nat) => AV.agg [AV.int IntKind.i64 (o i), AV.int IntKind.i64 (v i)]) &&
                                              condsB n fun (i : Nat) => AV.agg [AV.int IntKind.i64 (o i), AV.int IntKind.i64 (v i)]) &&
                                            decide (k = k) &&
                                          decide (bd = bd) &&
                                        decide (bo = bo) &&
                                      decide (nm = nm) &&
                                    decide (n = n) &&
                                  sameCs n (fun (i : Nat) => AV.agg [AV.int IntKind.i64 (o i), AV.int IntKind.i64 (v i)]) fun (i : Nat) => AV.agg [AV.int IntKind.i64 (o i), AV.int IntKind.i64 (v i)])
                                (((checkE k bd bo n (fun (i : Nat) => o i) nm == checkE k bd bo n (fun (i : Nat) => o i) nm && eventE ek == eventE ek &&
                                                    MatB k bd bo n (fun (i : Nat) => o i) (fun (i : Nat) => v i) nm l ek x == MatB k bd bo n (fun (i : Nat) => o i) (fun (i : Nat) => v i) nm l ek x &&
                                                  MatE k bd bo n (fun (i : Nat) => o i) nm ek == MatE k bd bo n (fun (i : Nat) => o i) nm ek &&
                                                EmpB k bd bo n (fun (i : Nat) => o i) (fun (i : Nat) => v i) nm == EmpB k bd bo n (fun (i : Nat) => o i) (fun (i : Nat) => v i) nm &&
                                              checkE k bd bo n (fun (i : Nat) => o i) nm == checkE k bd bo n (fun (i : Nat) => o i) nm &&
                                            (SamL k bd bo n (fun (i : Nat) => o i) (fun (i : Nat) => v i) nm == SamL k bd bo n (fun (i : Nat) => o i) (fun (i : Nat) => v i) nm &&
                                              (SamK k bd bo n (fun (i : Nat) => o i) (fun (i : Nat) => v i) nm == SamK k bd bo n (fun (i : Nat) => o i) (fun (i : Nat) => v i) nm &&
                                                (SamX k bd bo n (fun (i : Nat) => o i) (fun (i : Nat) => v i) nm == SamX k bd bo n (fun (i : Nat) => o i) (fun (i : Nat) => v i) nm && true))) &&
                                          SamE k bd bo n (fun (i : Nat) => o i) (fun (i : Nat) => v i) nm == SamE k bd bo n (fun (i : Nat) => o i) (fun (i : Nat) => v i) nm &&
                                        true &&
                                      true) ==
                                    true) =
                                  true))
                              (((checkE k bd bo n (fun (i : Nat) => o i) nm == checkE k bd bo n (fun (i : Nat) => o i) nm && eventE ek == eventE ek &&
                                                  MatB k bd bo n (fun (i : Nat) => o i) (fun (i : Nat) => v i) nm l ek x == MatB k bd bo n (fun (i : Nat) => o i) (fun (i : Nat) => v i) nm l ek x &&
                                                MatE k bd bo n (fun (i : Nat) => o i) nm ek == MatE k bd bo n (fun (i : Nat) => o i) nm ek &&
                                              EmpB k bd bo n (fun (i : Nat) => o i) (fun (i : Nat) => v i) nm == EmpB k bd bo n (fun (i : Nat) => o i) (fun (i : Nat) => v i) nm &&
                                            checkE k bd bo n (fun (i : Nat) => o i) nm == checkE k bd bo n (fun (i : Nat) => o i) nm &&
                                          (SamL k bd bo n (fun (i : Nat) => o i) (fun (i : Nat) => v i) nm == SamL k bd bo n (fun (i : Nat) => o i) (fun (i : Nat) => v i) nm &&
                                            (SamK k bd bo n (fun (i : Nat) => o i) (fun (i : Nat) => v i) nm == SamK k bd bo n (fun (i : Nat) => o i) (fun (i : Nat) => v i) nm &&
                                              (SamX k bd bo n (fun (i : Nat) => o i) (fun (i : Nat) => v i) nm == SamX k bd bo n (fun (i : Nat) => o i) (fun (i : Nat) => v i) nm && true))) &&
                                        SamE k bd bo n (fun (i : Nat) => o i) (fun (i : Nat) => v i) nm == SamE k bd bo n (fun (i : Nat) => o i) (fun (i : Nat) => v i) nm &&
                                      false &&
                                    true) ==
                                  true) =
                                true))
                            (VB
                              (isW true
                                (checkE k bd bo n (fun (i : Nat) => o i) nm == checkE k bd bo n (fun (i : Nat) => o i) nm && eventE ek == eventE ek &&
                                            MatB k bd bo n (fun (i : Nat) => o i) (fun (i : Nat) => v i) nm l ek x == MatB k bd bo n (fun (i : Nat) => o i) (fun (i : Nat) => v i) nm l ek x &&
                                          MatE k bd bo n (fun (i : Nat) => o i) nm ek == MatE k bd bo n (fun (i : Nat) => o i) nm ek &&
                                        EmpB k bd bo n (fun (i : Nat) => o i) (fun (i : Nat) => v i) nm == EmpB k bd bo n (fun (i : Nat) => o i) (fun (i : Nat) => v i) nm &&
                                      checkE k bd bo n (fun (i : Nat) => o i) nm == checkE k bd bo n (fun (i : Nat) => o i) nm &&
                                    (SamL k bd bo n (fun (i : Nat) => o i) (fun (i : Nat) => v i) nm == SamL k bd bo n (fun (i : Nat) => o i) (fun (i : Nat) => v i) nm &&
                                      (SamK k bd bo n (fun (i : Nat) => o i) (fun (i : Nat) => v i) nm == SamK k bd bo n (fun (i : Nat) => o i) (fun (i : Nat) => v i) nm &&
                                        (SamX k bd bo n (fun (i : Nat) => o i) (fun (i : Nat) => v i) nm == SamX k bd bo n (fun (i : Nat) => o i) (fun (i : Nat) => v i) nm && true))) &&
                                  SamE k bd bo n (fun (i : Nat) => o i) (fun (i : Nat) => v i) nm == SamE k bd bo n (fun (i : Nat) => o i) (fun (i : Nat) => v i) nm))
                              False
                              (((checkE k bd bo n (fun (i : Nat) => o i) nm == checkE k bd bo n (fun (i : Nat) => o i) nm && eventE ek == eventE ek &&
                                                  MatB k bd bo n (fun (i : Nat) => o i) (fun (i : Nat) => v i) nm l ek x == MatB k bd bo n (fun (i : Nat) => o i) (fun (i : Nat) => v i) nm l ek x &&
                                                MatE k bd bo n (fun (i : Nat) => o i) nm ek == MatE k bd bo n (fun (i : Nat) => o i) nm ek &&
                                              EmpB k bd bo n (fun (i : Nat) => o i) (fun (i : Nat) => v i) nm == EmpB k bd bo n (fun (i : Nat) => o i) (fun (i : Nat) => v i) nm &&
                                            checkE k bd bo n (fun (i : Nat) => o i) nm == checkE k bd bo n (fun (i : Nat) => o i) nm &&
                                          (SamL k bd bo n (fun (i : Nat) => o i) (fun (i : Nat) => v i) nm == SamL k bd bo n (fun (i : Nat) => o i) (fun (i : Nat) => v i) nm &&
                                            (SamK k bd bo n (fun (i : Nat) => o i) (fun (i : Nat) => v i) nm == SamK k bd bo n (fun (i : Nat) => o i) (fun (i : Nat) => v i) nm &&
                                              (SamX k bd bo n (fun (i : Nat) => o i) (fun (i : Nat) => v i) nm == SamX k bd bo n (fun (i : Nat) => o i) (fun (i : Nat) => v i) nm && true))) &&
                                        SamE k bd bo n (fun (i : Nat) => o i) (fun (i : Nat) => v i) nm == SamE k bd bo n (fun (i : Nat) => o i) (fun (i : Nat) => v i) nm &&
                                      false &&
                                    true) ==
                                  true) =
                                true)))
                          (VB
                            (isW true
                              (checkE k bd bo n (fun (i : Nat) => o i) nm == checkE k bd bo n (fun (i : Nat) => o i) nm && eventE ek == eventE ek &&
                                          MatB k bd bo n (fun (i : Nat) => o i) (fun (i : Nat) => v i) nm l ek x == MatB k bd bo n (fun (i : Nat) => o i) (fun (i : Nat) => v i) nm l ek x &&
                                        MatE k bd bo n (fun (i : Nat) => o i) nm ek == MatE k bd bo n (fun (i : Nat) => o i) nm ek &&
                                      EmpB k bd bo n (fun (i : Nat) => o i) (fun (i : Nat) => v i) nm == EmpB k bd bo n (fun (i : Nat) => o i) (fun (i : Nat) => v i) nm &&
                                    checkE k bd bo n (fun (i : Nat) => o i) nm == checkE k bd bo n (fun (i : Nat) => o i) nm &&
                                  (SamL k bd bo n (fun (i : Nat) => o i) (fun (i : Nat) => v i) nm == SamL k bd bo n (fun (i : Nat) => o i) (fun (i : Nat) => v i) nm &&
                                    (SamK k bd bo n (fun (i : Nat) => o i) (fun (i : Nat) => v i) nm == SamK k bd bo n (fun (i : Nat) => o i) (fun (i : Nat) => v i) nm &&
                                      (SamX k bd bo n (fun (i : Nat) => o i) (fun (i : Nat) => v i) nm == SamX k bd bo n (fun (i : Nat) => o i) (fun (i : Nat) => v i) nm && true))) &&
                                SamE k bd bo n (fun (i : Nat) => o i) (fun (i : Nat) => v i) nm == SamE k bd bo n (fun (i : Nat) => o i) (fun (i : Nat) => v i) nm))
                            (VB
                              (isW true
                                (checkE k bd bo n (fun (i : Nat) => o i) nm == checkE k bd bo n (fun (i : Nat) => o i) nm && eventE ek == eventE ek &&
                                            MatB k bd bo n (fun (i : Nat) => o i) (fun (i : Nat) => v i) nm l ek x == MatB k bd bo n (fun (i : Nat) => o i) (fun (i : Nat) => v i) nm l ek x &&
                                          MatE k bd bo n (fun (i : Nat) => o i) nm ek == MatE k bd bo n (fun (i : Nat) => o i) nm ek &&
                                        EmpB k bd bo n (fun (i : Nat) => o i) (fun (i : Nat) => v i) nm == EmpB k bd bo n (fun (i : Nat) => o i) (fun (i : Nat) => v i) nm &&
                                      checkE k bd bo n (fun (i : Nat) => o i) nm == checkE k bd bo n (fun (i : Nat) => o i) nm &&
                                    (SamL k bd bo n (fun (i : Nat) => o i) (fun (i : Nat) => v i) nm == SamL k bd bo n (fun (i : Nat) => o i) (fun (i : Nat) => v i) nm &&
                                      (SamK k bd bo n (fun (i : Nat) => o i) (fun (i : Nat) => v i) nm == SamK k bd bo n (fun (i : Nat) => o i) (fun (i : Nat) => v i) nm &&
                                        (SamX k bd bo n (fun (i : Nat) => o i) (fun (i : Nat) => v i) nm == SamX k bd bo n (fun (i : Nat) => o i) (fun (i : Nat) => v i) nm && true))) &&
                                  SamE k bd bo n (fun (i : Nat) => o i) (fun (i : Nat) => v i) nm == SamE k bd bo n (fun (i : Nat) => o i) (fun (i : Nat) => v i) nm))
                              False
                              (((checkE k bd bo n (fun (i : Nat) => o i) nm == checkE k bd bo n (fun (i : Nat) => o i) nm && eventE ek == eventE ek &&
                                                  MatB k bd bo n (fun (i : Nat) => o i) (fun (i : Nat) => v i) nm l ek x == MatB k bd bo n (fun (i : Nat) => o i) (fun (i : Nat) => v i) nm l ek x &&
                                                MatE k bd bo n (fun (i : Nat) => o i) nm ek == MatE k bd bo n (fun (i : Nat) => o i) nm ek &&
                                              EmpB k bd bo n (fun (i : Nat) => o i) (fun (i : Nat) => v i) nm == EmpB k bd bo n (fun (i : Nat) => o i) (fun (i : Nat) => v i) nm &&
                                            checkE k bd bo n (fun (i : Nat) => o i) nm == checkE k bd bo n (fun (i : Nat) => o i) nm &&
                                          (SamL k bd bo n (fun (i : Nat) => o i) (fun (i : Nat) => v i) nm == SamL k bd bo n (fun (i : Nat) => o i) (fun (i : Nat) => v i) nm &&
                                            (SamK k bd bo n (fun (i : Nat) => o i) (fun (i : Nat) => v i) nm == SamK k bd bo n (fun (i : Nat) => o i) (fun (i : Nat) => v i) nm &&
                                              (SamX k bd bo n (fun (i : Nat) => o i) (fun (i : Nat) => v i) nm == SamX k bd bo n (fun (i : Nat) => o i) (fun (i : Nat) => v i) nm && true))) &&
                                        SamE k bd bo n (fun (i : Nat) => o i) (fun (i : Nat) => v i) nm == SamE k bd bo n (fun (i : Nat) => o i) (fun (i : Nat) => v i) nm &&
                                      false &&
                                    true) ==
                                  true) =
                                true))
                            (VB
                              (isW true
                                (checkE k bd bo n (fun (i : Nat) => o i) nm == checkE k bd bo n (fun (i : Nat) => o i) nm && eventE ek == eventE ek &&
                                            MatB k bd bo n (fun (i : Nat) => o i) (fun (i : Nat) => v i) nm l ek x == MatB k bd bo n (fun (i : Nat) => o i) (fun (i : Nat) => v i) nm l ek x &&
                                          MatE k bd bo n (fun (i : Nat) => o i) nm ek == MatE k bd bo n (fun (i : Nat) => o i) nm ek &&
                                        EmpB k bd bo n (fun (i : Nat) => o i) (fun (i : Nat) => v i) nm == EmpB k bd bo n (fun (i : Nat) => o i) (fun (i : Nat) => v i) nm &&
                                      checkE k bd bo n (fun (i : Nat) => o i) nm == checkE k bd bo n (fun (i : Nat) => o i) nm &&
                                    (SamL k bd bo n (fun (i : Nat) => o i) (fun (i : Nat) => v i) nm == SamL k bd bo n (fun (i : Nat) => o i) (fun (i : Nat) => v i) nm &&
                                      (SamK k bd bo n (fun (i : Nat) => o i) (fun (i : Nat) => v i) nm == SamK k bd bo n (fun (i : Nat) => o i) (fun (i : Nat) => v i) nm &&
                                        (SamX k bd bo n (fun (i : Nat) => o i) (fun (i : Nat) => v i) nm == SamX k bd bo n (fun (i : Nat) => o i) (fun (i : Nat) => v i) nm && true))) &&
                                  SamE k bd bo n (fun (i : Nat) => o i) (fun (i : Nat) => v i) nm == SamE k bd bo n (fun (i : Nat) => o i) (fun (i : Nat) => v i) nm))
                              False
                              (((checkE k bd bo n (fun (i : Nat) => o i) nm == checkE k bd bo n (fun (i : Nat) => o i) nm && eventE ek == eventE ek &&
                                                  MatB k bd bo n (fun (i : Nat) => o i) (fun (i : Nat) => v i) nm l ek x == MatB k bd bo n (fun (i : Nat) => o i) (fun (i : Nat) => v i) nm l ek x &&
                                                MatE k bd bo n (fun (i : Nat) => o i) nm ek == MatE k bd bo n (fun (i : Nat) => o i) nm ek &&
                                              EmpB k bd bo n (fun (i : Nat) => o i) (fun (i : Nat) => v i) nm == EmpB k bd bo n (fun (i : Nat) => o i) (fun (i : Nat) => v i) nm &&
                                            checkE k bd bo n (fun (i : Nat) => o i) nm == checkE k bd bo n (fun (i : Nat) => o i) nm &&
                                          (SamL k bd bo n (fun (i : Nat) => o i) (fun (i : Nat) => v i) nm == SamL k bd bo n (fun (i : Nat) => o i) (fun (i : Nat) => v i) nm &&
                                            (SamK k bd bo n (fun (i : Nat) => o i) (fun (i : Nat) => v i) nm == SamK k bd bo n (fun (i : Nat) => o i) (fun (i : Nat) => v i) nm &&
                                              (SamX k bd bo n (fun (i : Nat) => o i) (fun (i : Nat) => v i) nm == SamX k bd bo n (fun (i : Nat) => o i) (fun (i : Nat) => v i) nm && true))) &&
                                        SamE k bd bo n (fun (i : Nat) => o i) (fun (i : Nat) => v i) nm == SamE k bd bo n (fun (i : Nat) => o i) (fun (i : Nat) => v i) nm &&
                                      false &&
                                    true) ==
                                  true) =
                                true))) ∧
                        VB
                          (isW true
                            (checkE k bd bo n (fun (i : Nat) => o i) nm == checkE k bd bo n (fun (i : Nat) => o i) nm && eventE ek == eventE ek &&
                                        MatB k bd bo n (fun (i : Nat) => o i) (fun (i : Nat) => v i) nm l ek x == MatB k bd bo n (fun (i : Nat) => o i) (fun (i : Nat) => v i) nm l ek x &&
                                      MatE k bd bo n (fun (i : Nat) => o i) nm ek == MatE k bd bo n (fun (i : Nat) => o i) nm ek &&
                                    EmpB k bd bo n (fun (i : Nat) => o i) (fun (i : Nat) => v i) nm == EmpB k bd bo n (fun (i : Nat) => o i) (fun (i : Nat) => v i) nm &&
                                  checkE k bd bo n (fun (i : Nat) => o i) nm == checkE k bd bo n (fun (i : Nat) => o i) nm &&
                                (SamL k bd bo n (fun (i : Nat) => o i) (fun (i : Nat) => v i) nm == SamL k bd bo n (fun (i : Nat) => o i) (fun (i : Nat) => v i) nm &&
                                  (SamK k bd bo n (fun (i : Nat) => o i) (fun (i : Nat) => v i) nm == SamK k bd bo n (fun (i : Nat) => o i) (fun (i : Nat) => v i) nm &&
                                    (SamX k bd bo n (fun (i : Nat) => o i) (fun (i : Nat) => v i) nm == SamX k bd bo n (fun (i : Nat) => o i) (fun (i : Nat) => v i) nm && true))) &&
                              SamE k bd bo n (fun (i : Nat) => o i) (fun (i : Nat) => v i) nm == SamE k bd bo n (fun (i : Nat) => o i) (fun (i : Nat) => v i) nm))
                          (VB
                            (isW true
                              (checkE k bd bo n (fun (i : Nat) => o i) nm == checkE k bd bo n (fun (i : Nat) => o i) nm && eventE ek == eventE ek &&
                                          MatB k bd bo n (fun (i : Nat) => o i) (fun (i : Nat) => v i) nm l ek x == MatB k bd bo n (fun (i : Nat) => o i) (fun (i : Nat) => v i) nm l ek x &&
                                        MatE k bd bo n (fun (i : Nat) => o i) nm ek == MatE k bd bo n (fun (i : Nat) => o i) nm ek &&
                                      EmpB k bd bo n (fun (i : Nat) => o i) (fun (i : Nat) => v i) nm == EmpB k bd bo n (fun (i : Nat) => o i) (fun (i : Nat) => v i) nm &&
                                    checkE k bd bo n (fun (i : Nat) => o i) nm == checkE k bd bo n (fun (i : Nat) => o i) nm &&
                                  (SamL k bd bo n (fun (i : Nat) => o i) (fun (i : Nat) => v i) nm == SamL k bd bo n (fun (i : Nat) => o i) (fun (i : Nat) => v i) nm &&
                                    (SamK k bd bo n (fun (i : Nat) => o i) (fun (i : Nat) => v i) nm == SamK k bd bo n (fun (i : Nat) => o i) (fun (i : Nat) => v i) nm &&
                                      (SamX k bd bo n (fun (i : Nat) => o i) (fun (i : Nat) => v i) nm == SamX k bd bo n (fun (i : Nat) => o i) (fun (i : Nat) => v i) nm && true))) &&
                                SamE k bd bo n (fun (i : Nat) => o i) (fun (i : Nat) => v i) nm == SamE k bd bo n (fun (i : Nat) => o i) (fun (i : Nat) => v i) nm))
                            (VB
                              (isW true
                                (checkE k bd bo n (fun (i : Nat) => o i) nm == checkE k bd bo n (fun (i : Nat) => o i) nm && eventE ek == eventE ek &&
                                            MatB k bd bo n (fun (i : Nat) => o i) (fun (i : Nat) => v i) nm l ek x == MatB k bd bo n (fun (i : Nat) => o i) (fun (i : Nat) => v i) nm l ek x &&
                                          MatE k bd bo n (fun (i : Nat) => o i) nm ek == MatE k bd bo n (fun (i : Nat) => o i) nm ek &&
                                        EmpB k bd bo n (fun (i : Nat) => o i) (fun (i : Nat) => v i) nm == EmpB k bd bo n (fun (i : Nat) => o i) (fun (i : Nat) => v i) nm &&
                                      checkE k bd bo n (fun (i : Nat) => o i) nm == checkE k bd bo n (fun (i : Nat) => o i) nm &&
                                    (SamL k bd bo n (fun (i : Nat) => o i) (fun (i : Nat) => v i) nm == SamL k bd bo n (fun (i : Nat) => o i) (fun (i : Nat) => v i) nm &&
                                      (SamK k bd bo n (fun (i : Nat) => o i) (fun (i : Nat) => v i) nm == SamK k bd bo n (fun (i : Nat) => o i) (fun (i : Nat) => v i) nm &&
                                        (SamX k bd bo n (fun (i : Nat) => o i) (fun (i : Nat) => v i) nm == SamX k bd bo n (fun (i : Nat) => o i) (fun (i : Nat) => v i) nm && true))) &&
                                  SamE k bd bo n (fun (i : Nat) => o i) (fun (i : Nat) => v i) nm == SamE k bd bo n (fun (i : Nat) => o i) (fun (i : Nat) => v i) nm))
                              (NB
                                (((decide (n ≤ (1000000 : Nat)) && condsB n fun (i : Nat) => AV.agg [AV.int IntKind.i64 (o i), AV.int IntKind.i64 (v i)]) &&
                                              condsB n fun (i : Nat) => AV.agg [AV.int IntKind.i64 (o i), AV.int IntKind.i64 (v i)]) &&
                                            decide (k = k) &&
                                          decide (bd = bd) &&
                                        decide (bo = bo) &&
                                      decide (nm = nm) &&
                                    decide (n = n) &&
                                  sameCs n (fun (i : Nat) => AV.agg [AV.int IntKind.i64 (o i), AV.int IntKind.i64 (v i)]) fun (i : Nat) => AV.agg [AV.int IntKind.i64 (o i), AV.int IntKind.i64 (v i)])
                                (((checkE k bd bo n (fun (i : Nat) => o i) nm == checkE k bd bo n (fun (i : Nat) => o i) nm && eventE ek == eventE ek &&
                                                    MatB k bd bo n (fun (i : Nat) => o i) (fun (i : Nat) => v i) nm l ek x == MatB k bd bo n (fun (i : Nat) => o i) (fun (i : Nat) => v i) nm l ek x &&
                                                  MatE k bd bo n (fun (i : Nat) => o i) nm ek == MatE k bd bo n (fun (i : Nat) => o i) nm ek &&
                                                EmpB k bd bo n (fun (i : Nat) => o i) (fun (i : Nat) => v i) nm == EmpB k bd bo n (fun (i : Nat) => o i) (fun (i : Nat) => v i) nm &&
                                              checkE k bd bo n (fun (i : Nat) => o i) nm == checkE k bd bo n (fun (i : Nat) => o i) nm &&
                                            (SamL k bd bo n (fun (i : Nat) => o i) (fun (i : Nat) => v i) nm == SamL k bd bo n (fun (i : Nat) => o i) (fun (i : Nat) => v i) nm &&
                                              (SamK k bd bo n (fun (i : Nat) => o i) (fun (i : Nat) => v i) nm == SamK k bd bo n (fun (i : Nat) => o i) (fun (i : Nat) => v i) nm &&
                                                (SamX k bd bo n (fun (i : Nat) => o i) (fun (i : Nat) => v i) nm == SamX k bd bo n (fun (i : Nat) => o i) (fun (i : Nat) => v i) nm && true))) &&
                                          SamE k bd bo n (fun (i : Nat) => o i) (fun (i : Nat) => v i) nm == SamE k bd bo n (fun (i : Nat) => o i) (fun (i : Nat) => v i) nm &&
                                        true &&
                                      true) ==
                                    true) =
                                  true))
                              (((checkE k bd bo n (fun (i : Nat) => o i) nm == checkE k bd bo n (fun (i : Nat) => o i) nm && eventE ek == eventE ek &&
                                                  MatB k bd bo n (fun (i : Nat) => o i) (fun (i : Nat) => v i) nm l ek x == MatB k bd bo n (fun (i : Nat) => o i) (fun (i : Nat) => v i) nm l ek x &&
                                                MatE k bd bo n (fun (i : Nat) => o i) nm ek == MatE k bd bo n (fun (i : Nat) => o i) nm ek &&
                                              EmpB k bd bo n (fun (i : Nat) => o i) (fun (i : Nat) => v i) nm == EmpB k bd bo n (fun (i : Nat) => o i) (fun (i : Nat) => v i) nm &&
                                            checkE k bd bo n (fun (i : Nat) => o i) nm == checkE k bd bo n (fun (i : Nat) => o i) nm &&
                                          (SamL k bd bo n (fun (i : Nat) => o i) (fun (i : Nat) => v i) nm == SamL k bd bo n (fun (i : Nat) => o i) (fun (i : Nat) => v i) nm &&
                                            (SamK k bd bo n (fun (i : Nat) => o i) (fun (i : Nat) => v i) nm == SamK k bd bo n (fun (i : Nat) => o i) (fun (i : Nat) => v i) nm &&
                                              (SamX k bd bo n (fun (i : Nat) => o i) (fun (i : Nat) => v i) nm == SamX k bd bo n (fun (i : Nat) => o i) (fun (i : Nat) => v i) nm && true))) &&
                                        SamE k bd bo n (fun (i : Nat) => o i) (fun (i : Nat) => v i) nm == SamE k bd bo n (fun (i : Nat) => o i) (fun (i : Nat) => v i) nm &&
                                      false &&
                                    true) ==
                                  true) =
                                true))
                            (VB
                              (isW true
                                (checkE k bd bo n (fun (i : Nat) => o i) nm == checkE k bd bo n (fun (i : Nat) => o i) nm && eventE ek == eventE ek &&
                                            MatB k bd bo n (fun (i : Nat) => o i) (fun (i : Nat) => v i) nm l ek x == MatB k bd bo n (fun (i : Nat) => o i) (fun (i : Nat) => v i) nm l ek x &&
                                          MatE k bd bo n (fun (i : Nat) => o i) nm ek == MatE k bd bo n (fun (i : Nat) => o i) nm ek &&
                                        EmpB k bd bo n (fun (i : Nat) => o i) (fun (i : Nat) => v i) nm == EmpB k bd bo n (fun (i : Nat) => o i) (fun (i : Nat) => v i) nm &&
                                      checkE k bd bo n (fun (i : Nat) => o i) nm == checkE k bd bo n (fun (i : Nat) => o i) nm &&
                                    (SamL k bd bo n (fun (i : Nat) => o i) (fun (i : Nat) => v i) nm == SamL k bd bo n (fun (i : Nat) => o i) (fun (i : Nat) => v i) nm &&
                                      (SamK k bd bo n (fun (i : Nat) => o i) (fun (i : Nat) => v i) nm == SamK k bd bo n (fun (i : Nat) => o i) (fun (i : Nat) => v i) nm &&
                                        (SamX k bd bo n (fun (i : Nat) => o i) (fun (i : Nat) => v i) nm == SamX k bd bo n (fun (i : Nat) => o i) (fun (i : Nat) => v i) nm && true))) &&
                                  SamE k bd bo n (fun (i : Nat) => o i) (fun (i : Nat) => v i) nm == SamE k bd bo n (fun (i : Nat) => o i) (fun (i : Nat) => v i) nm))
                              False
                              (((checkE k bd bo n (fun (i : Nat) => o i) nm == checkE k bd bo n (fun (i : Nat) => o i) nm && eventE ek == eventE ek &&
                                                  MatB k bd bo n (fun (i : Nat) => o i) (fun (i : Nat) => v i) nm l ek x == MatB k bd bo n (fun (i : Nat) => o i) (fun (i : Nat) => v i) nm l ek x &&
                                                MatE k bd bo n (fun (i : Nat) => o i) nm ek == MatE k bd bo n (fun (i : Nat) => o i) nm ek &&
                                              EmpB k bd bo n (fun (i : Nat) => o i) (fun (i : Nat) => v i) nm == EmpB k bd bo n (fun (i : Nat) => o i) (fun (i : Nat) => v i) nm &&
                                            checkE k bd bo n (fun (i : Nat) => o i) nm == checkE k bd bo n (fun (i : Nat) => o i) nm &&
                                          (SamL k bd bo n (fun (i : Nat) => o i) (fun (i : Nat) => v i) nm == SamL k bd bo n (fun (i : Nat) => o i) (fun (i : Nat) => v i) nm &&
                                            (SamK k bd bo n (fun (i : Nat) => o i) (fun (i : Nat) => v i) nm == SamK k bd bo n (fun (i : Nat) => o i) (fun (i : Nat) => v i) nm &&
                                              (SamX k bd bo n (fun (i : Nat) => o i) (fun (i : Nat) => v i) nm == SamX k bd bo n (fun (i : Nat) => o i) (fun (i : Nat) => v i) nm && true))) &&
                                        SamE k bd bo n (fun (i : Nat) => o i) (fun (i : Nat) => v i) nm == SamE k bd bo n (fun (i : Nat) => o i) (fun (i : Nat) => v i) nm &&
                                      false &&
                                    true) ==
                                  true) =
                                true)))
                          (VB
                            (isW true
                              (checkE k bd bo n (fun (i : Nat) => o i) nm == checkE k bd bo n (fun (i : Nat) => o i) nm && eventE ek == eventE ek &&
                                          MatB k bd bo n (fun (i : Nat) => o i) (fun (i : Nat) => v i) nm l ek x == MatB k bd bo n (fun (i : Nat) => o i) (fun (i : Nat) => v i) nm l ek x &&
                                        MatE k bd bo n (fun (i : Nat) => o i) nm ek == MatE k bd bo n (fun (i : Nat) => o i) nm ek &&
                                      EmpB k bd bo n (fun (i : Nat) => o i) (fun (i : Nat) => v i) nm == EmpB k bd bo n (fun (i : Nat) => o i) (fun (i : Nat) => v i) nm &&
                                    checkE k bd bo n (fun (i : Nat) => o i) nm == checkE k bd bo n (fun (i : Nat) => o i) nm &&
                                  (SamL k bd bo n (fun (i : Nat) => o i) (fun (i : Nat) => v i) nm == SamL k bd bo n (fun (i : Nat) => o i) (fun (i : Nat) => v i) nm &&
                                    (SamK k bd bo n (fun (i : Nat) => o i) (fun (i : Nat) => v i) nm == SamK k bd bo n (fun (i : Nat) => o i) (fun (i : Nat) => v i) nm &&
                                      (SamX k bd bo n (fun (i : Nat) => o i) (fun (i : Nat) => v i) nm == SamX k bd bo n (fun (i : Nat) => o i) (fun (i : Nat) => v i) nm && true))) &&
                                SamE k bd bo n (fun (i : Nat) => o i) (fun (i : Nat) => v i) nm == SamE k bd bo n (fun (i : Nat) => o i) (fun (i : Nat) => v i) nm))
                            (VB
                              (isW true
                                (checkE k bd bo n (fun (i : Nat) => o i) nm == checkE k bd bo n (fun (i : Nat) => o i) nm && eventE ek == eventE ek &&
                                            MatB k bd bo n (fun (i : Nat) => o i) (fun (i : Nat) => v i) nm l ek x == MatB k bd bo n (fun (i : Nat) => o i) (fun (i : Nat) => v i) nm l ek x &&
                                          MatE k bd bo n (fun (i : Nat) => o i) nm ek == MatE k bd bo n (fun (i : Nat) => o i) nm ek &&
                                        EmpB k bd bo n (fun (i : Nat) => o i) (fun (i : Nat) => v i) nm == EmpB k bd bo n (fun (i : Nat) => o i) (fun (i : Nat) => v i) nm &&
                                      checkE k bd bo n (fun (i : Nat) => o i) nm == checkE k bd bo n (fun (i : Nat) => o i) nm &&
                                    (SamL k bd bo n (fun (i : Nat) => o i) (fun (i : Nat) => v i) nm == SamL k bd bo n (fun (i : Nat) => o i) (fun (i : Nat) => v i) nm &&
                                      (SamK k bd bo n (fun (i : Nat) => o i) (fun (i : Nat) => v i) nm == SamK k bd bo n (fun (i : Nat) => o i) (fun (i : Nat) => v i) nm &&
                                        (SamX k bd bo n (fun (i : Nat) => o i) (fun (i : Nat) => v i) nm == SamX k bd bo n (fun (i : Nat) => o i) (fun (i : Nat) => v i) nm && true))) &&
                                  SamE k bd bo n (fun (i : Nat) => o i) (fun (i : Nat) => v i) nm == SamE k bd bo n (fun (i : Nat) => o i) (fun (i : Nat) => v i) nm))
                              False
                              (((checkE k bd bo n (fun (i : Nat) => o i) nm == checkE k bd bo n (fun (i : Nat) => o i) nm && eventE ek == eventE ek &&
                                                  MatB k bd bo n (fun (i : Nat) => o i) (fun (i : Nat) => v i) nm l ek x == MatB k bd bo n (fun (i : Nat) => o i) (fun (i : Nat) => v i) nm l ek x &&
                                                MatE k bd bo n (fun (i : Nat) => o i) nm ek == MatE k bd bo n (fun (i : Nat) => o i) nm ek &&
                                              EmpB k bd bo n (fun (i : Nat) => o i) (fun (i : Nat) => v i) nm == EmpB k bd bo n (fun (i : Nat) => o i) (fun (i : Nat) => v i) nm &&
                                            checkE k bd bo n (fun (i : Nat) => o i) nm == checkE k bd bo n (fun (i : Nat) => o i) nm &&
                                          (SamL k bd bo n (fun (i : Nat) => o i) (fun (i : Nat) => v i) nm == SamL k bd bo n (fun (i : Nat) => o i) (fun (i : Nat) => v i) nm &&
                                            (SamK k bd bo n (fun (i : Nat) => o i) (fun (i : Nat) => v i) nm == SamK k bd bo n (fun (i : Nat) => o i) (fun (i : Nat) => v i) nm &&
                                              (SamX k bd bo n (fun (i : Nat) => o i) (fun (i : Nat) => v i) nm == SamX k bd bo n (fun (i : Nat) => o i) (fun (i : Nat) => v i) nm && true))) &&
                                        SamE k bd bo n (fun (i : Nat) => o i) (fun (i : Nat) => v i) nm == SamE k bd bo n (fun (i : Nat) => o i) (fun (i : Nat) => v i) nm &&
                                      false &&
                                    true) ==
                                  true) =
                                true))
                            (VB
                              (isW true
                                (checkE k bd bo n (fun (i : Nat) => o i) nm == checkE k bd bo n (fun (i : Nat) => o i) nm && eventE ek == eventE ek &&
                                            MatB k bd bo n (fun (i : Nat) => o i) (fun (i : Nat) => v i) nm l ek x == MatB k bd bo n (fun (i : Nat) => o i) (fun (i : Nat) => v i) nm l ek x &&
                                          MatE k bd bo n (fun (i : Nat) => o i) nm ek == MatE k bd bo n (fun (i : Nat) => o i) nm ek &&
                                        EmpB k bd bo n (fun (i : Nat) => o i) (fun (i : Nat) => v i) nm == EmpB k bd bo n (fun (i : Nat) => o i) (fun (i : Nat) => v i) nm &&
                                      checkE k bd bo n (fun (i : Nat) => o i) nm == checkE k bd bo n (fun (i : Nat) => o i) nm &&
                                    (SamL k bd bo n (fun (i : Nat) => o i) (fun (i : Nat) => v i) nm == SamL k bd bo n (fun (i : Nat) => o i) (fun (i : Nat) => v i) nm &&
                                      (SamK k bd bo n (fun (i : Nat) => o i) (fun (i : Nat) => v i) nm == SamK k bd bo n (fun (i : Nat) => o i) (fun (i : Nat) => v i) nm &&
                                        (SamX k bd bo n (fun (i : Nat) => o i) (fun (i : Nat) => v i) nm == SamX k bd bo n (fun (i : Nat) => o i) (fun (i : Nat) => v i) nm && true))) &&
                                  SamE k bd bo n (fun (i : Nat) => o i) (fun (i : Nat) => v i) nm == SamE k bd bo n (fun (i : Nat) => o i) (fun (i : Nat) => v i) nm))
                              False
                              (((checkE k bd bo n (fun (i : Nat) => o i) nm == checkE k bd bo n (fun (i : Nat) => o i) nm && eventE ek == eventE ek &&
                                                  MatB k bd bo n (fun (i : Nat) => o i) (fun (i : Nat) => v i) nm l ek x == MatB k bd bo n (fun (i : Nat) => o i) (fun (i : Nat) => v i) nm l ek x &&
                                                MatE k bd bo n (fun (i : Nat) => o i) nm ek == MatE k bd bo n (fun (i : Nat) => o i) nm ek &&
                                              EmpB k bd bo n (fun (i : Nat) => o i) (fun (i : Nat) => v i) nm == EmpB k bd bo n (fun (i : Nat) => o i) (fun (i : Nat) => v i) nm &&
                                            checkE k bd bo n (fun (i : Nat) => o i) nm == checkE k bd bo n (fun (i : Nat) => o i) nm &&
                                          (SamL k bd bo n (fun (i : Nat) => o i) (fun (i : Nat) => v i) nm == SamL k bd bo n (fun (i : Nat) => o i) (fun (i : Nat) => v i) nm &&
                                            (SamK k bd bo n (fun (i : Nat) => o i) (fun (i : Nat) => v i) nm == SamK k bd bo n (fun (i : Nat) => o i) (fun (i : Nat) => v i) nm &&
                                              (SamX k bd bo n (fun (i : Nat) => o i) (fun (i : Nat) => v i) nm == SamX k bd bo n (fun (i : Nat) => o i) (fun (i : Nat) => v i) nm && true))) &&
                                        SamE k bd bo n (fun (i : Nat) => o i) (fun (i : Nat) => v i) nm == SamE k bd bo n (fun (i : Nat) => o i) (fun (i : Nat) => v i) nm &&
                                      false &&
                                    true) ==
                                  true) =
                                true)))))))))))))) := by
  kernel_rfl

end Go.Proofs.YtjkkkldkimdajaaDoor
