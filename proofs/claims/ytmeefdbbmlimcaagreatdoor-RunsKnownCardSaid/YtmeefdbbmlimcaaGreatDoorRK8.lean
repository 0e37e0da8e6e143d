/- RUNS 8: closed runs. -/
import Derived.Test.YtmeefdbbmlimcaaGreatDoorRK7
namespace Go.Proofs.YtmeefdbbmlimcaaGreatDoor
open Pw Go
set_option maxRecDepth 1000000
theorem p49 : PureN Tryz.prog gN 22 a49 v49 := pureN_runT (t := tblL T43) (tn := tblL N5) (k := 160) (d := 9) mix ok43 on5 (by kernel_rfl)
theorem on6 : TblNOK Tryz.prog gN (tblL N6) := tblLN_cons p49 on5
theorem p50 : PureC Tryz.prog gN 27 a50 v50 := pure_runN (t := tblL T43) (tn := tblL N6) (k := 160) (d := 9) mix ok43 on6 (by kernel_rfl)
theorem ok44 : TblOK Tryz.prog gN (tblL T44) := tblL_cons p50 ok43
theorem p51 : PureC Tryz.prog gN 27 a51 v51 := pure_runN (t := tblL T44) (tn := tblL N6) (k := 160) (d := 9) mix ok44 on6 (by kernel_rfl)
theorem ok45 : TblOK Tryz.prog gN (tblL T45) := tblL_cons p51 ok44
theorem p52 : PureC Tryz.prog gN 27 a52 v52 := pure_runN (t := tblL T45) (tn := tblL N6) (k := 160) (d := 9) mix ok45 on6 (by kernel_rfl)
theorem ok46 : TblOK Tryz.prog gN (tblL T46) := tblL_cons p52 ok45
theorem p53 : PureC Tryz.prog gN 27 a53 v53 := pure_runN (t := tblL T46) (tn := tblL N6) (k := 160) (d := 9) mix ok46 on6 (by kernel_rfl)
theorem ok47 : TblOK Tryz.prog gN (tblL T47) := tblL_cons p53 ok46
theorem p54 : PureC Tryz.prog gN 4 a54 v54 := pure_runN (t := tblL T47) (tn := tblL N6) (k := 160) (d := 9) mix ok47 on6 (by kernel_rfl)
theorem ok48 : TblOK Tryz.prog gN (tblL T48) := tblL_cons p54 ok47
end Go.Proofs.YtmeefdbbmlimcaaGreatDoor
