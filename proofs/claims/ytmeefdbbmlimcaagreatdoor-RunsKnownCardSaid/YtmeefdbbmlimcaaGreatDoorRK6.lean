/- RUNS 6: closed runs. -/
import Derived.Test.YtmeefdbbmlimcaaGreatDoorRK5
namespace Go.Proofs.YtmeefdbbmlimcaaGreatDoor
open Pw Go
set_option maxRecDepth 1000000
theorem p33 : PureC Tryz.prog gN 27 a33 v33 := pure_runN (t := tblL T32) (tn := tblL N0) (k := 160) (d := 9) mix ok32 on0 (by kernel_rfl)
theorem ok33 : TblOK Tryz.prog gN (tblL T33) := tblL_cons p33 ok32
theorem p34 : PureC Tryz.prog gN 26 a34 v34 := pure_runN (t := tblL T33) (tn := tblL N0) (k := 160) (d := 9) mix ok33 on0 (by kernel_rfl)
theorem ok34 : TblOK Tryz.prog gN (tblL T34) := tblL_cons p34 ok33
theorem p35 : PureN Tryz.prog gN 22 a35 v35 := pureN_runT (t := tblL T34) (tn := tblL N0) (k := 160) (d := 9) mix ok34 on0 (by kernel_rfl)
theorem on1 : TblNOK Tryz.prog gN (tblL N1) := tblLN_cons p35 on0
theorem p36 : PureN Tryz.prog gN 23 a36 v36 := pureN_runT (t := tblL T34) (tn := tblL N1) (k := 160) (d := 9) mix ok34 on1 (by kernel_rfl)
theorem on2 : TblNOK Tryz.prog gN (tblL N2) := tblLN_cons p36 on1
theorem p37 : PureC Tryz.prog gN 62 a37 v37 := pure_runN (t := tblL T34) (tn := tblL N2) (k := 160) (d := 9) mix ok34 on2 (by kernel_rfl)
theorem ok35 : TblOK Tryz.prog gN (tblL T35) := tblL_cons p37 ok34
theorem p38 : PureC Tryz.prog gN 60 a38 v38 := pure_runN (t := tblL T35) (tn := tblL N2) (k := 160) (d := 9) mix ok35 on2 (by kernel_rfl)
theorem ok36 : TblOK Tryz.prog gN (tblL T36) := tblL_cons p38 ok35
theorem p39 : PureN Tryz.prog gN 23 a39 v39 := pureN_runT (t := tblL T36) (tn := tblL N2) (k := 160) (d := 9) mix ok36 on2 (by kernel_rfl)
theorem on3 : TblNOK Tryz.prog gN (tblL N3) := tblLN_cons p39 on2
theorem p40 : PureN Tryz.prog gN 24 a40 v40 := pureN_runT (t := tblL T36) (tn := tblL N3) (k := 160) (d := 9) mix ok36 on3 (by kernel_rfl)
theorem on4 : TblNOK Tryz.prog gN (tblL N4) := tblLN_cons p40 on3
end Go.Proofs.YtmeefdbbmlimcaaGreatDoor
