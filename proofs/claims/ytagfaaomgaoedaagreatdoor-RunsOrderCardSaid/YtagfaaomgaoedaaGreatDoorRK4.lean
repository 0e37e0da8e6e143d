/- RUNS 4: closed runs. -/
import Derived.Test.YtagfaaomgaoedaaGreatDoorRK1
namespace Go.Proofs.YtagfaaomgaoedaaGreatDoor
open Pw Go
set_option maxRecDepth 1000000
theorem p13 : PureC Tryz.prog gN 25 a13 v13 := pure_runT (t := tblL T12) (k := 160) (d := 9) mix ok12 (by kernel_rfl)
theorem ok13 : TblOK Tryz.prog gN (tblL T13) := tblL_cons p13 ok12
theorem p14 : PureC Tryz.prog gN 26 a14 v14 := pure_runT (t := tblL T13) (k := 160) (d := 9) mix ok13 (by kernel_rfl)
theorem ok14 : TblOK Tryz.prog gN (tblL T14) := tblL_cons p14 ok13
theorem p15 : PureC Tryz.prog gN 15 a15 v15 := pure_runT (t := tblL T14) (k := 160) (d := 9) mix ok14 (by kernel_rfl)
theorem ok15 : TblOK Tryz.prog gN (tblL T15) := tblL_cons p15 ok14
theorem p16 : PureC Tryz.prog gN 7 a16 v16 := pure_runT (t := tblL T15) (k := 160) (d := 9) mix ok15 (by kernel_rfl)
theorem ok16 : TblOK Tryz.prog gN (tblL T16) := tblL_cons p16 ok15
theorem p17 : PureC Tryz.prog gN 10 a17 v17 := pure_runT (t := tblL T16) (k := 160) (d := 9) mix ok16 (by kernel_rfl)
theorem ok17 : TblOK Tryz.prog gN (tblL T17) := tblL_cons p17 ok16
theorem p18 : PureC Tryz.prog gN 31 a18 v18 := pure_runT (t := tblL T17) (k := 160) (d := 9) mix ok17 (by kernel_rfl)
theorem ok18 : TblOK Tryz.prog gN (tblL T18) := tblL_cons p18 ok17
end Go.Proofs.YtagfaaomgaoedaaGreatDoor
namespace Go.Proofs.YtagfaaomgaoedaaGreatDoor
open Pw Go
set_option maxRecDepth 1000000
theorem p19 : PureC Tryz.prog gN 33 a19 v19 := pure_runT (t := tblL T18) (k := 160) (d := 9) mix ok18 (by kernel_rfl)
theorem ok19 : TblOK Tryz.prog gN (tblL T19) := tblL_cons p19 ok18
theorem p20 : PureC Tryz.prog gN 33 a20 v20 := pure_runT (t := tblL T19) (k := 160) (d := 9) mix ok19 (by kernel_rfl)
theorem ok20 : TblOK Tryz.prog gN (tblL T20) := tblL_cons p20 ok19
theorem p21 : PureC Tryz.prog gN 33 a21 v21 := pure_runT (t := tblL T20) (k := 160) (d := 9) mix ok20 (by kernel_rfl)
theorem ok21 : TblOK Tryz.prog gN (tblL T21) := tblL_cons p21 ok20
theorem p22 : PureC Tryz.prog gN 18 a22 v22 := pure_runT (t := tblL T21) (k := 160) (d := 9) mix ok21 (by kernel_rfl)
theorem ok22 : TblOK Tryz.prog gN (tblL T22) := tblL_cons p22 ok21
theorem p23 : PureC Tryz.prog gN 9 a23 v23 := pure_runT (t := tblL T22) (k := 160) (d := 9) mix ok22 (by kernel_rfl)
theorem ok23 : TblOK Tryz.prog gN (tblL T23) := tblL_cons p23 ok22
theorem p24 : PureC Tryz.prog gN 4 a24 v24 := pure_runT (t := tblL T23) (k := 160) (d := 9) mix ok23 (by kernel_rfl)
end Go.Proofs.YtagfaaomgaoedaaGreatDoor
