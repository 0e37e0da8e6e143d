/- RUNS 2: closed runs. -/
import Derived.Test.YtmeefdbbmlimcaaGreatDoorRK1
namespace Go.Proofs.YtmeefdbbmlimcaaGreatDoor
open Pw Go
set_option maxRecDepth 1000000
theorem p1 : PureC Tryz.prog gN 19 a1 v1 := pure_runN (t := tblL T0) (tn := tblL N0) (k := 160) (d := 9) mix ok0 on0 (by kernel_rfl)
theorem ok1 : TblOK Tryz.prog gN (tblL T1) := tblL_cons p1 ok0
theorem p2 : PureC Tryz.prog gN 198 a2 v2 := pure_runN (t := tblL T1) (tn := tblL N0) (k := 160) (d := 9) mix ok1 on0 (by kernel_rfl)
theorem ok2 : TblOK Tryz.prog gN (tblL T2) := tblL_cons p2 ok1
theorem p3 : PureC Tryz.prog gN 57 a3 v3 := pure_runN (t := tblL T2) (tn := tblL N0) (k := 160) (d := 9) mix ok2 on0 (by kernel_rfl)
theorem ok3 : TblOK Tryz.prog gN (tblL T3) := tblL_cons p3 ok2
theorem p4 : PureC Tryz.prog gN 199 a4 v4 := pure_runN (t := tblL T3) (tn := tblL N0) (k := 160) (d := 9) mix ok3 on0 (by kernel_rfl)
theorem ok4 : TblOK Tryz.prog gN (tblL T4) := tblL_cons p4 ok3
theorem p5 : PureC Tryz.prog gN 200 a5 v5 := pure_runN (t := tblL T4) (tn := tblL N0) (k := 160) (d := 9) mix ok4 on0 (by kernel_rfl)
theorem ok5 : TblOK Tryz.prog gN (tblL T5) := tblL_cons p5 ok4
theorem p6 : PureC Tryz.prog gN 201 a6 v6 := pure_runN (t := tblL T5) (tn := tblL N0) (k := 160) (d := 9) mix ok5 on0 (by kernel_rfl)
theorem ok6 : TblOK Tryz.prog gN (tblL T6) := tblL_cons p6 ok5
theorem p7 : PureC Tryz.prog gN 202 a7 v7 := pure_runN (t := tblL T6) (tn := tblL N0) (k := 160) (d := 9) mix ok6 on0 (by kernel_rfl)
theorem ok7 : TblOK Tryz.prog gN (tblL T7) := tblL_cons p7 ok6
theorem p8 : PureC Tryz.prog gN 203 a8 v8 := pure_runN (t := tblL T7) (tn := tblL N0) (k := 160) (d := 9) mix ok7 on0 (by kernel_rfl)
theorem ok8 : TblOK Tryz.prog gN (tblL T8) := tblL_cons p8 ok7
end Go.Proofs.YtmeefdbbmlimcaaGreatDoor
