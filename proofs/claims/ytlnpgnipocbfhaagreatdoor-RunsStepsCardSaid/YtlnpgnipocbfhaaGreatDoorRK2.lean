/- RUNS 2: closed runs. -/
import Derived.Test.YtlnpgnipocbfhaaGreatDoorRK1
namespace Go.Proofs.YtlnpgnipocbfhaaGreatDoor.Rk
open Pw Go
set_option maxRecDepth 1000000
theorem p1:PureC Tryz.prog gN 73 a1 v1:=pure_runT (t:=tblL T0) (k:=160) (d:=9) mix ok0 (by kernel_rfl)
theorem ok1:TblOK Tryz.prog gN (tblL T1):=tblL_cons p1 ok0
theorem p2:PureC Tryz.prog gN 144 a2 v2:=pure_runT (t:=tblL T1) (k:=160) (d:=9) mix ok1 (by kernel_rfl)
theorem ok2:TblOK Tryz.prog gN (tblL T2):=tblL_cons p2 ok1
theorem p3:PureC Tryz.prog gN 92 a3 v3:=pure_runT (t:=tblL T2) (k:=160) (d:=9) mix ok2 (by kernel_rfl)
theorem ok3:TblOK Tryz.prog gN (tblL T3):=tblL_cons p3 ok2
theorem p4:PureC Tryz.prog gN 145 a4 v4:=pure_runT (t:=tblL T3) (k:=160) (d:=9) mix ok3 (by kernel_rfl)
theorem ok4:TblOK Tryz.prog gN (tblL T4):=tblL_cons p4 ok3
theorem p5:PureC Tryz.prog gN 146 a5 v5:=pure_runT (t:=tblL T4) (k:=160) (d:=9) mix ok4 (by kernel_rfl)
theorem ok5:TblOK Tryz.prog gN (tblL T5):=tblL_cons p5 ok4
theorem p6:PureC Tryz.prog gN 147 a6 v6:=pure_runT (t:=tblL T5) (k:=160) (d:=9) mix ok5 (by kernel_rfl)
theorem ok6:TblOK Tryz.prog gN (tblL T6):=tblL_cons p6 ok5
theorem p7:PureC Tryz.prog gN 148 a7 v7:=pure_runT (t:=tblL T6) (k:=160) (d:=9) mix ok6 (by kernel_rfl)
theorem ok7:TblOK Tryz.prog gN (tblL T7):=tblL_cons p7 ok6
theorem p8:PureC Tryz.prog gN 149 a8 v8:=pure_runT (t:=tblL T7) (k:=160) (d:=9) mix ok7 (by kernel_rfl)
theorem ok8:TblOK Tryz.prog gN (tblL T8):=tblL_cons p8 ok7
theorem p9:PureC Tryz.prog gN 67 a9 v9:=pure_runT (t:=tblL T8) (k:=160) (d:=9) mix ok8 (by kernel_rfl)
theorem ok9:TblOK Tryz.prog gN (tblL T9):=tblL_cons p9 ok8
theorem p10:PureC Tryz.prog gN 92 a10 v10:=pure_runT (t:=tblL T9) (k:=160) (d:=9) mix ok9 (by kernel_rfl)
theorem ok10:TblOK Tryz.prog gN (tblL T10):=tblL_cons p10 ok9
theorem p11:PureC Tryz.prog gN 92 a11 v11:=pure_runT (t:=tblL T10) (k:=160) (d:=9) mix ok10 (by kernel_rfl)
theorem ok11:TblOK Tryz.prog gN (tblL T11):=tblL_cons p11 ok10
theorem p12:PureC Tryz.prog gN 92 a12 v12:=pure_runT (t:=tblL T11) (k:=160) (d:=9) mix ok11 (by kernel_rfl)
theorem ok12:TblOK Tryz.prog gN (tblL T12):=tblL_cons p12 ok11
theorem p13:PureC Tryz.prog gN 21 a13 v13:=pure_runT (t:=tblL T12) (k:=160) (d:=9) mix ok12 (by kernel_rfl)
theorem ok13:TblOK Tryz.prog gN (tblL T13):=tblL_cons p13 ok12
theorem p14:PureC Tryz.prog gN 12 a14 v14:=pure_runT (t:=tblL T13) (k:=160) (d:=9) mix ok13 (by kernel_rfl)
theorem ok14:TblOK Tryz.prog gN (tblL T14):=tblL_cons p14 ok13
theorem p15:PureC Tryz.prog gN 15 a15 v15:=pure_runT (t:=tblL T14) (k:=160) (d:=9) mix ok14 (by kernel_rfl)
theorem ok15:TblOK Tryz.prog gN (tblL T15):=tblL_cons p15 ok14
theorem p16:PureC Tryz.prog gN 38 a16 v16:=pure_runT (t:=tblL T15) (k:=160) (d:=9) mix ok15 (by kernel_rfl)
theorem ok16:TblOK Tryz.prog gN (tblL T16):=tblL_cons p16 ok15
theorem p17:PureC Tryz.prog gN 74 a17 v17:=pure_runT (t:=tblL T16) (k:=160) (d:=9) mix ok16 (by kernel_rfl)
theorem ok17:TblOK Tryz.prog gN (tblL T17):=tblL_cons p17 ok16
theorem p18:PureC Tryz.prog gN 45 a18 v18:=pure_runT (t:=tblL T17) (k:=160) (d:=9) mix ok17 (by kernel_rfl)
theorem ok18:TblOK Tryz.prog gN (tblL T18):=tblL_cons p18 ok17
theorem p19:PureC Tryz.prog gN 117 a19 v19:=pure_runT (t:=tblL T18) (k:=160) (d:=9) mix ok18 (by kernel_rfl)
theorem ok19:TblOK Tryz.prog gN (tblL T19):=tblL_cons p19 ok18
theorem p20:PureC Tryz.prog gN 117 a20 v20:=pure_runT (t:=tblL T19) (k:=160) (d:=9) mix ok19 (by kernel_rfl)
theorem ok20:TblOK Tryz.prog gN (tblL T20):=tblL_cons p20 ok19
theorem p21:PureC Tryz.prog gN 117 a21 v21:=pure_runT (t:=tblL T20) (k:=160) (d:=9) mix ok20 (by kernel_rfl)
theorem ok21:TblOK Tryz.prog gN (tblL T21):=tblL_cons p21 ok20
theorem p22:PureC Tryz.prog gN 76 a22 v22:=pure_runT (t:=tblL T21) (k:=160) (d:=9) mix ok21 (by kernel_rfl)
theorem ok22:TblOK Tryz.prog gN (tblL T22):=tblL_cons p22 ok21
theorem p23:PureC Tryz.prog gN 29 a23 v23:=pure_runT (t:=tblL T22) (k:=160) (d:=9) mix ok22 (by kernel_rfl)
theorem ok23:TblOK Tryz.prog gN (tblL T23):=tblL_cons p23 ok22
theorem p24:PureC Tryz.prog gN 27 a24 v24:=pure_runT (t:=tblL T23) (k:=160) (d:=9) mix ok23 (by kernel_rfl)
end Go.Proofs.YtlnpgnipocbfhaaGreatDoor.Rk
