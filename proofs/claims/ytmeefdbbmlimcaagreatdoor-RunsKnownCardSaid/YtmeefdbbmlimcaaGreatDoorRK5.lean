/- RUNS 5: closed runs. -/
import Derived.Test.YtmeefdbbmlimcaaGreatDoorRK4
namespace Go.Proofs.YtmeefdbbmlimcaaGreatDoor
open Pw Go
set_option maxRecDepth 1000000
theorem p25 : PureC Tryz.prog gN 21 a25 v25 := pure_runN (t := tblL T24) (tn := tblL N0) (k := 160) (d := 9) mix ok24 on0 (by kernel_rfl)
theorem ok25 : TblOK Tryz.prog gN (tblL T25) := tblL_cons p25 ok24
theorem p26 : PureC Tryz.prog gN 20 a26 v26 := pure_runN (t := tblL T25) (tn := tblL N0) (k := 160) (d := 9) mix ok25 on0 (by kernel_rfl)
theorem ok26 : TblOK Tryz.prog gN (tblL T26) := tblL_cons p26 ok25
theorem p27 : PureC Tryz.prog gN 21 a27 v27 := pure_runN (t := tblL T26) (tn := tblL N0) (k := 160) (d := 9) mix ok26 on0 (by kernel_rfl)
theorem ok27 : TblOK Tryz.prog gN (tblL T27) := tblL_cons p27 ok26
theorem p28 : PureC Tryz.prog gN 21 a28 v28 := pure_runN (t := tblL T27) (tn := tblL N0) (k := 160) (d := 9) mix ok27 on0 (by kernel_rfl)
theorem ok28 : TblOK Tryz.prog gN (tblL T28) := tblL_cons p28 ok27
theorem p29 : PureC Tryz.prog gN 62 a29 v29 := pure_runN (t := tblL T28) (tn := tblL N0) (k := 160) (d := 9) mix ok28 on0 (by kernel_rfl)
theorem ok29 : TblOK Tryz.prog gN (tblL T29) := tblL_cons p29 ok28
theorem p30 : PureC Tryz.prog gN 60 a30 v30 := pure_runN (t := tblL T29) (tn := tblL N0) (k := 160) (d := 9) mix ok29 on0 (by kernel_rfl)
theorem ok30 : TblOK Tryz.prog gN (tblL T30) := tblL_cons p30 ok29
theorem p31 : PureC Tryz.prog gN 62 a31 v31 := pure_runN (t := tblL T30) (tn := tblL N0) (k := 160) (d := 9) mix ok30 on0 (by kernel_rfl)
theorem ok31 : TblOK Tryz.prog gN (tblL T31) := tblL_cons p31 ok30
theorem p32 : PureC Tryz.prog gN 60 a32 v32 := pure_runN (t := tblL T31) (tn := tblL N0) (k := 160) (d := 9) mix ok31 on0 (by kernel_rfl)
theorem ok32 : TblOK Tryz.prog gN (tblL T32) := tblL_cons p32 ok31
end Go.Proofs.YtmeefdbbmlimcaaGreatDoor
