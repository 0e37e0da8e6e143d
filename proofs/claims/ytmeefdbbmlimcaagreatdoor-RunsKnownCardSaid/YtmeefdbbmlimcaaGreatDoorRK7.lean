/- RUNS 7: closed runs. -/
import Derived.Test.YtmeefdbbmlimcaaGreatDoorRK6
namespace Go.Proofs.YtmeefdbbmlimcaaGreatDoor
open Pw Go
set_option maxRecDepth 1000000
theorem p41 : PureC Tryz.prog gN 25 a41 v41 := pure_runN (t := tblL T36) (tn := tblL N4) (k := 160) (d := 9) mix ok36 on4 (by kernel_rfl)
theorem ok37 : TblOK Tryz.prog gN (tblL T37) := tblL_cons p41 ok36
theorem p42 : PureC Tryz.prog gN 26 a42 v42 := pure_runN (t := tblL T37) (tn := tblL N4) (k := 160) (d := 9) mix ok37 on4 (by kernel_rfl)
theorem ok38 : TblOK Tryz.prog gN (tblL T38) := tblL_cons p42 ok37
theorem p43 : PureC Tryz.prog gN 26 a43 v43 := pure_runN (t := tblL T38) (tn := tblL N4) (k := 160) (d := 9) mix ok38 on4 (by kernel_rfl)
theorem ok39 : TblOK Tryz.prog gN (tblL T39) := tblL_cons p43 ok38
theorem p44 : PureC Tryz.prog gN 21 a44 v44 := pure_runN (t := tblL T39) (tn := tblL N4) (k := 160) (d := 9) mix ok39 on4 (by kernel_rfl)
theorem ok40 : TblOK Tryz.prog gN (tblL T40) := tblL_cons p44 ok39
theorem p45 : PureC Tryz.prog gN 62 a45 v45 := pure_runN (t := tblL T40) (tn := tblL N4) (k := 160) (d := 9) mix ok40 on4 (by kernel_rfl)
theorem ok41 : TblOK Tryz.prog gN (tblL T41) := tblL_cons p45 ok40
theorem p46 : PureC Tryz.prog gN 60 a46 v46 := pure_runN (t := tblL T41) (tn := tblL N4) (k := 160) (d := 9) mix ok41 on4 (by kernel_rfl)
theorem ok42 : TblOK Tryz.prog gN (tblL T42) := tblL_cons p46 ok41
theorem p47 : PureC Tryz.prog gN 26 a47 v47 := pure_runN (t := tblL T42) (tn := tblL N4) (k := 160) (d := 9) mix ok42 on4 (by kernel_rfl)
theorem ok43 : TblOK Tryz.prog gN (tblL T43) := tblL_cons p47 ok42
theorem p48 : PureN Tryz.prog gN 22 a48 v48 := pureN_runT (t := tblL T43) (tn := tblL N4) (k := 160) (d := 9) mix ok43 on4 (by kernel_rfl)
theorem on5 : TblNOK Tryz.prog gN (tblL N5) := tblLN_cons p48 on4
end Go.Proofs.YtmeefdbbmlimcaaGreatDoor
