/- RUNS 3: closed runs. -/
import Derived.Test.YtmeefdbbmlimcaaGreatDoorRK2
namespace Go.Proofs.YtmeefdbbmlimcaaGreatDoor
open Pw Go
set_option maxRecDepth 1000000
theorem p9 : PureC Tryz.prog gN 117 a9 v9 := pure_runN (t := tblL T8) (tn := tblL N0) (k := 160) (d := 9) mix ok8 on0 (by kernel_rfl)
theorem ok9 : TblOK Tryz.prog gN (tblL T9) := tblL_cons p9 ok8
theorem p10 : PureC Tryz.prog gN 57 a10 v10 := pure_runN (t := tblL T9) (tn := tblL N0) (k := 160) (d := 9) mix ok9 on0 (by kernel_rfl)
theorem ok10 : TblOK Tryz.prog gN (tblL T10) := tblL_cons p10 ok9
theorem p11 : PureC Tryz.prog gN 57 a11 v11 := pure_runN (t := tblL T10) (tn := tblL N0) (k := 160) (d := 9) mix ok10 on0 (by kernel_rfl)
theorem ok11 : TblOK Tryz.prog gN (tblL T11) := tblL_cons p11 ok10
theorem p12 : PureC Tryz.prog gN 57 a12 v12 := pure_runN (t := tblL T11) (tn := tblL N0) (k := 160) (d := 9) mix ok11 on0 (by kernel_rfl)
theorem ok12 : TblOK Tryz.prog gN (tblL T12) := tblL_cons p12 ok11
theorem p13 : PureC Tryz.prog gN 75 a13 v13 := pure_runN (t := tblL T12) (tn := tblL N0) (k := 160) (d := 9) mix ok12 on0 (by kernel_rfl)
theorem ok13 : TblOK Tryz.prog gN (tblL T13) := tblL_cons p13 ok12
theorem p14 : PureC Tryz.prog gN 91 a14 v14 := pure_runN (t := tblL T13) (tn := tblL N0) (k := 160) (d := 9) mix ok13 on0 (by kernel_rfl)
theorem ok14 : TblOK Tryz.prog gN (tblL T14) := tblL_cons p14 ok13
theorem p15 : PureC Tryz.prog gN 56 a15 v15 := pure_runN (t := tblL T14) (tn := tblL N0) (k := 160) (d := 9) mix ok14 on0 (by kernel_rfl)
theorem ok15 : TblOK Tryz.prog gN (tblL T15) := tblL_cons p15 ok14
theorem p16 : PureC Tryz.prog gN 18 a16 v16 := pure_runN (t := tblL T15) (tn := tblL N0) (k := 160) (d := 9) mix ok15 on0 (by kernel_rfl)
theorem ok16 : TblOK Tryz.prog gN (tblL T16) := tblL_cons p16 ok15
end Go.Proofs.YtmeefdbbmlimcaaGreatDoor
