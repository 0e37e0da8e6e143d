/- RUNS 4: closed runs. -/
import Derived.Test.YtmeefdbbmlimcaaGreatDoorRK3
namespace Go.Proofs.YtmeefdbbmlimcaaGreatDoor
open Pw Go
set_option maxRecDepth 1000000
theorem p17 : PureC Tryz.prog gN 21 a17 v17 := pure_runN (t := tblL T16) (tn := tblL N0) (k := 160) (d := 9) mix ok16 on0 (by kernel_rfl)
theorem ok17 : TblOK Tryz.prog gN (tblL T17) := tblL_cons p17 ok16
theorem p18 : PureC Tryz.prog gN 96 a18 v18 := pure_runN (t := tblL T17) (tn := tblL N0) (k := 160) (d := 9) mix ok17 on0 (by kernel_rfl)
theorem ok18 : TblOK Tryz.prog gN (tblL T18) := tblL_cons p18 ok17
theorem p19 : PureC Tryz.prog gN 97 a19 v19 := pure_runN (t := tblL T18) (tn := tblL N0) (k := 160) (d := 9) mix ok18 on0 (by kernel_rfl)
theorem ok19 : TblOK Tryz.prog gN (tblL T19) := tblL_cons p19 ok18
theorem p20 : PureC Tryz.prog gN 97 a20 v20 := pure_runN (t := tblL T19) (tn := tblL N0) (k := 160) (d := 9) mix ok19 on0 (by kernel_rfl)
theorem ok20 : TblOK Tryz.prog gN (tblL T20) := tblL_cons p20 ok19
theorem p21 : PureC Tryz.prog gN 97 a21 v21 := pure_runN (t := tblL T20) (tn := tblL N0) (k := 160) (d := 9) mix ok20 on0 (by kernel_rfl)
theorem ok21 : TblOK Tryz.prog gN (tblL T21) := tblL_cons p21 ok20
theorem p22 : PureC Tryz.prog gN 59 a22 v22 := pure_runN (t := tblL T21) (tn := tblL N0) (k := 160) (d := 9) mix ok21 on0 (by kernel_rfl)
theorem ok22 : TblOK Tryz.prog gN (tblL T22) := tblL_cons p22 ok21
theorem p23 : PureC Tryz.prog gN 20 a23 v23 := pure_runN (t := tblL T22) (tn := tblL N0) (k := 160) (d := 9) mix ok22 on0 (by kernel_rfl)
theorem ok23 : TblOK Tryz.prog gN (tblL T23) := tblL_cons p23 ok22
theorem p24 : PureC Tryz.prog gN 28 a24 v24 := pure_runN (t := tblL T23) (tn := tblL N0) (k := 160) (d := 9) mix ok23 on0 (by kernel_rfl)
theorem ok24 : TblOK Tryz.prog gN (tblL T24) := tblL_cons p24 ok23
end Go.Proofs.YtmeefdbbmlimcaaGreatDoor
