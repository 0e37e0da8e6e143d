/- RUNS 1: the values of the chapter's examples, as tables (printed by gen.py). -/
import Derived.Test.YtlnpgnipocbfhaaGreatDoorRows
import Derived.Test.YtlnpgnipocbfhaaGreatDoorPwG5
import Derived.KernelRfl
namespace Go.Proofs.YtlnpgnipocbfhaaGreatDoor.Rk
open Pw Go
set_option maxRecDepth 1000000
theorem mix:Tryz.prog.follows .mixedOrders=true:=by kernel_rfl
def gN:Nat->AV:=strsG 0 [[99,111,117,110,116],[115,117,109],[109,105,110],[109,97,120],[102,105,114,115,116],[108,97,115,116]]
def T0:List (Nat×List AV×AV):=[]
def a1:List AV:=[]
def v1:AV:=.agg [.int .i64 3,.int .i64 0,.int .i64 0,.int .i64 0,.bool false,.int .u64 0,.nils,.str [],.rol [.agg [.int .i64 1,.int .i64 1,.int .i64 1,.int .i64 0,.bool false,.int .u64 0,.nils,.str [],.nils],.agg [.int .i64 2,.int .i64 0,.int .i64 0,.int .i64 1,.bool false,.int .u64 0,.nils,.str [],.nils],.agg [.int .i64 1,.int .i64 1,.int .i64 1,.int .i64 2,.bool false,.int .u64 0,.nils,.str [],.nils]] true,.int .u64 9,.nils,.nils]
def T1:List (Nat×List AV×AV):=(73,a1,v1)::T0
def a2:List AV:=[.agg [.int .i64 3,.int .i64 0,.int .i64 0,.int .i64 0,.bool false,.int .u64 0,.nils,.str [],.rol [.agg [.int .i64 1,.int .i64 1,.int .i64 1,.int .i64 0,.bool false,.int .u64 0,.nils,.str [],.nils],.agg [.int .i64 2,.int .i64 0,.int .i64 0,.int .i64 1,.bool false,.int .u64 0,.nils,.str [],.nils],.agg [.int .i64 1,.int .i64 1,.int .i64 1,.int .i64 2,.bool false,.int .u64 0,.nils,.str [],.nils]] true,.int .u64 9,.nils,.nils]]
def v2:AV:=.int .i64 0
def T2:List (Nat×List AV×AV):=(144,a2,v2)::T1
def a3:List AV:=[.agg [.int .i64 3,.int .i64 0,.int .i64 0,.int .i64 0,.bool false,.int .u64 0,.nils,.str [],.rol [.agg [.int .i64 1,.int .i64 1,.int .i64 1,.int .i64 0,.bool false,.int .u64 0,.nils,.str [],.nils],.agg [.int .i64 2,.int .i64 0,.int .i64 0,.int .i64 1,.bool false,.int .u64 0,.nils,.str [],.nils],.agg [.int .i64 1,.int .i64 1,.int .i64 1,.int .i64 2,.bool false,.int .u64 0,.nils,.str [],.nils]] true]]
def v3:AV:=.tup [.rol [.agg [.int .i64 0,.bool false,.int .u64 0,.nils,.str []],.agg [.int .i64 1,.bool false,.int .u64 0,.nils,.str []],.agg [.int .i64 2,.bool false,.int .u64 0,.nils,.str []]] false,.int .i64 0]
def T3:List (Nat×List AV×AV):=(92,a3,v3)::T2
def a4:List AV:=[.agg [.int .i64 3,.int .i64 0,.int .i64 0,.int .i64 0,.bool false,.int .u64 0,.nils,.str [],.rol [.agg [.int .i64 1,.int .i64 1,.int .i64 1,.int .i64 0,.bool false,.int .u64 0,.nils,.str [],.nils],.agg [.int .i64 2,.int .i64 0,.int .i64 0,.int .i64 1,.bool false,.int .u64 0,.nils,.str [],.nils],.agg [.int .i64 1,.int .i64 1,.int .i64 1,.int .i64 2,.bool false,.int .u64 0,.nils,.str [],.nils]] true,.int .u64 9,.nils,.nils]]
def v4:AV:=.int .i64 0
def T4:List (Nat×List AV×AV):=(145,a4,v4)::T3
def a5:List AV:=[.agg [.int .i64 3,.int .i64 0,.int .i64 0,.int .i64 0,.bool false,.int .u64 0,.nils,.str [],.rol [.agg [.int .i64 1,.int .i64 1,.int .i64 1,.int .i64 0,.bool false,.int .u64 0,.nils,.str [],.nils],.agg [.int .i64 2,.int .i64 0,.int .i64 0,.int .i64 1,.bool false,.int .u64 0,.nils,.str [],.nils],.agg [.int .i64 1,.int .i64 1,.int .i64 1,.int .i64 2,.bool false,.int .u64 0,.nils,.str [],.nils]] true,.int .u64 9,.nils,.nils]]
def v5:AV:=.int .i64 0
def T5:List (Nat×List AV×AV):=(146,a5,v5)::T4
def a6:List AV:=[.agg [.int .i64 3,.int .i64 0,.int .i64 0,.int .i64 0,.bool false,.int .u64 0,.nils,.str [],.rol [.agg [.int .i64 1,.int .i64 1,.int .i64 1,.int .i64 0,.bool false,.int .u64 0,.nils,.str [],.nils],.agg [.int .i64 2,.int .i64 0,.int .i64 0,.int .i64 1,.bool false,.int .u64 0,.nils,.str [],.nils],.agg [.int .i64 1,.int .i64 1,.int .i64 1,.int .i64 2,.bool false,.int .u64 0,.nils,.str [],.nils]] true,.int .u64 9,.nils,.nils]]
def v6:AV:=.int .i64 0
def T6:List (Nat×List AV×AV):=(147,a6,v6)::T5
def a7:List AV:=[.agg [.int .i64 3,.int .i64 0,.int .i64 0,.int .i64 0,.bool false,.int .u64 0,.nils,.str [],.rol [.agg [.int .i64 1,.int .i64 1,.int .i64 1,.int .i64 0,.bool false,.int .u64 0,.nils,.str [],.nils],.agg [.int .i64 2,.int .i64 0,.int .i64 0,.int .i64 1,.bool false,.int .u64 0,.nils,.str [],.nils],.agg [.int .i64 1,.int .i64 1,.int .i64 1,.int .i64 2,.bool false,.int .u64 0,.nils,.str [],.nils]] true,.int .u64 9,.nils,.nils]]
def v7:AV:=.int .i64 0
def T7:List (Nat×List AV×AV):=(148,a7,v7)::T6
def a8:List AV:=[.agg [.int .i64 3,.int .i64 0,.int .i64 0,.int .i64 0,.bool false,.int .u64 0,.nils,.str [],.rol [.agg [.int .i64 1,.int .i64 1,.int .i64 1,.int .i64 0,.bool false,.int .u64 0,.nils,.str [],.nils],.agg [.int .i64 2,.int .i64 0,.int .i64 0,.int .i64 1,.bool false,.int .u64 0,.nils,.str [],.nils],.agg [.int .i64 1,.int .i64 1,.int .i64 1,.int .i64 2,.bool false,.int .u64 0,.nils,.str [],.nils]] true,.int .u64 9,.nils,.nils]]
def v8:AV:=.int .i64 0
def T8:List (Nat×List AV×AV):=(149,a8,v8)::T7
def a9:List AV:=[.agg [.int .i64 3,.int .i64 0,.int .i64 0,.int .i64 0,.bool false,.int .u64 0,.nils,.str [],.rol [.agg [.int .i64 1,.int .i64 1,.int .i64 1,.int .i64 0,.bool false,.int .u64 0,.nils,.str [],.nils],.agg [.int .i64 2,.int .i64 0,.int .i64 0,.int .i64 1,.bool false,.int .u64 0,.nils,.str [],.nils],.agg [.int .i64 1,.int .i64 1,.int .i64 1,.int .i64 2,.bool false,.int .u64 0,.nils,.str [],.nils]] true,.int .u64 9,.nils,.nils]]
def v9:AV:=.int .i64 0
def T9:List (Nat×List AV×AV):=(67,a9,v9)::T8
def a10:List AV:=[.agg [.int .i64 1,.int .i64 1,.int .i64 1,.int .i64 0,.bool false,.int .u64 0,.nils,.str [],.nils]]
def v10:AV:=.tup [.rol [.agg [.int .i64 0,.bool false,.int .u64 0,.nils,.str []]] false,.int .i64 0]
def T10:List (Nat×List AV×AV):=(92,a10,v10)::T9
def a11:List AV:=[.agg [.int .i64 2,.int .i64 0,.int .i64 0,.int .i64 1,.bool false,.int .u64 0,.nils,.str [],.nils]]
def v11:AV:=.tup [.rol [.agg [.int .i64 1,.bool false,.int .u64 0,.nils,.str []]] false,.int .i64 0]
def T11:List (Nat×List AV×AV):=(92,a11,v11)::T10
def a12:List AV:=[.agg [.int .i64 1,.int .i64 1,.int .i64 1,.int .i64 2,.bool false,.int .u64 0,.nils,.str [],.nils]]
def v12:AV:=.tup [.rol [.agg [.int .i64 2,.bool false,.int .u64 0,.nils,.str []]] false,.int .i64 0]
def T12:List (Nat×List AV×AV):=(92,a12,v12)::T11
def a13:List AV:=[.agg [.int .i64 3,.int .i64 0,.int .i64 0,.int .i64 0,.bool false,.int .u64 0,.nils,.str [],.rol [.agg [.int .i64 1,.int .i64 1,.int .i64 1,.int .i64 0,.bool false,.int .u64 0,.nils,.str [],.nils],.agg [.int .i64 2,.int .i64 0,.int .i64 0,.int .i64 1,.bool false,.int .u64 0,.nils,.str [],.nils],.agg [.int .i64 1,.int .i64 1,.int .i64 1,.int .i64 2,.bool false,.int .u64 0,.nils,.str [],.nils]] true,.int .u64 9,.nils,.nils]]
def v13:AV:=.tup [.rol [.agg [.rol [.agg [.int .i64 0,.nils],.agg [.int .i64 2,.rol [.int .i64 1] false]] false]] false,.int .i64 0]
def T13:List (Nat×List AV×AV):=(21,a13,v13)::T12
def a14:List AV:=[.rol [.agg [.rol [.agg [.int .i64 0,.nils],.agg [.int .i64 2,.rol [.int .i64 1] false]] false]] false]
def v14:AV:=.tup [.agg [.rol [.agg [.int .i64 0,.nils,.int .i64 0,.rol [.int .i64 1] false,.bool false,.int .i64 (-1)],.agg [.int .i64 0,.nils,.int .i64 0,.rol [.int .i64 2] false,.bool false,.int .i64 (-1)],.agg [.int .i64 2,.rol [.int .i64 1] false,.int .i64 1,.nils,.bool true,.int .i64 0]] false],.int .i64 0]
def T14:List (Nat×List AV×AV):=(12,a14,v14)::T13
def a15:List AV:=[.agg [.int .i64 3,.int .i64 0,.int .i64 0,.int .i64 0,.bool false,.int .u64 0,.nils,.str [],.rol [.agg [.int .i64 1,.int .i64 1,.int .i64 1,.int .i64 0,.bool false,.int .u64 0,.nils,.str [],.nils],.agg [.int .i64 2,.int .i64 0,.int .i64 0,.int .i64 1,.bool false,.int .u64 0,.nils,.str [],.nils],.agg [.int .i64 1,.int .i64 1,.int .i64 1,.int .i64 2,.bool false,.int .u64 0,.nils,.str [],.nils]] true,.int .u64 9,.nils,.nils]]
def v15:AV:=.tup [.agg [.rol [.agg [.int .i64 0,.nils,.int .i64 0,.rol [.int .i64 1] false,.bool false,.int .i64 (-1)],.agg [.int .i64 0,.nils,.int .i64 0,.rol [.int .i64 2] false,.bool false,.int .i64 (-1)],.agg [.int .i64 2,.rol [.int .i64 1] false,.int .i64 1,.nils,.bool true,.int .i64 0]] false],.int .i64 0]
def T15:List (Nat×List AV×AV):=(15,a15,v15)::T14
def a16:List AV:=[.agg [.int .i64 3,.int .i64 0,.int .i64 0,.int .i64 0,.bool false,.int .u64 0,.nils,.str [],.rol [.agg [.int .i64 1,.int .i64 1,.int .i64 1,.int .i64 0,.bool false,.int .u64 0,.nils,.str [],.nils],.agg [.int .i64 2,.int .i64 0,.int .i64 0,.int .i64 1,.bool false,.int .u64 0,.nils,.str [],.nils],.agg [.int .i64 1,.int .i64 1,.int .i64 1,.int .i64 2,.bool false,.int .u64 0,.nils,.str [],.nils]] true,.int .u64 9,.nils,.nils]]
def v16:AV:=.tup [.agg [.rol [.agg [.int .i64 0,.nils,.int .i64 0,.rol [.int .i64 1] false,.bool false,.int .i64 (-1)],.agg [.int .i64 0,.nils,.int .i64 0,.rol [.int .i64 2] false,.bool false,.int .i64 (-1)],.agg [.int .i64 2,.rol [.int .i64 1] false,.int .i64 1,.nils,.bool true,.int .i64 0]] false],.rol [.agg [.int .i64 0,.bool false,.int .u64 0,.nils,.str []],.agg [.int .i64 1,.bool false,.int .u64 0,.nils,.str []],.agg [.int .i64 2,.bool false,.int .u64 0,.nils,.str []]] false,.bool true]
def T16:List (Nat×List AV×AV):=(38,a16,v16)::T15
def a17:List AV:=[.int .i64 0,.int .u64 0]
def v17:AV:=.agg [.int .u64 0,.int .u64 1,.int .u64 1,.int .u64 0,.int .i64 0,.int .i64 0]
def T17:List (Nat×List AV×AV):=(74,a17,v17)::T16
def a18:List AV:=[.agg [.rol [.agg [.int .i64 0,.nils,.int .i64 0,.rol [.int .i64 1] false,.bool false,.int .i64 (-1)],.agg [.int .i64 0,.nils,.int .i64 0,.rol [.int .i64 2] false,.bool false,.int .i64 (-1)],.agg [.int .i64 2,.rol [.int .i64 1] false,.int .i64 1,.nils,.bool true,.int .i64 0]] false]]
def v18:AV:=.int .i64 0
def T18:List (Nat×List AV×AV):=(45,a18,v18)::T17
def a19:List AV:=[.agg [.int .i64 0,.bool false,.int .u64 0,.nils,.str []]]
def v19:AV:=.int .i64 0
def T19:List (Nat×List AV×AV):=(117,a19,v19)::T18
def a20:List AV:=[.agg [.int .i64 1,.bool false,.int .u64 0,.nils,.str []]]
def v20:AV:=.int .i64 0
def T20:List (Nat×List AV×AV):=(117,a20,v20)::T19
def a21:List AV:=[.agg [.int .i64 2,.bool false,.int .u64 0,.nils,.str []]]
def v21:AV:=.int .i64 0
def T21:List (Nat×List AV×AV):=(117,a21,v21)::T20
def a22:List AV:=[.agg [.rol [.agg [.int .i64 0,.nils,.int .i64 0,.rol [.int .i64 1] false,.bool false,.int .i64 (-1)],.agg [.int .i64 0,.nils,.int .i64 0,.rol [.int .i64 2] false,.bool false,.int .i64 (-1)],.agg [.int .i64 2,.rol [.int .i64 1] false,.int .i64 1,.nils,.bool true,.int .i64 0]] false],.rol [.agg [.int .i64 0,.bool false,.int .u64 0,.nils,.str []],.agg [.int .i64 1,.bool false,.int .u64 0,.nils,.str []],.agg [.int .i64 2,.bool false,.int .u64 0,.nils,.str []]] false]
def v22:AV:=.int .i64 0
def T22:List (Nat×List AV×AV):=(76,a22,v22)::T21
def a23:List AV:=[.agg [.rol [.agg [.int .i64 0,.nils,.int .i64 0,.rol [.int .i64 1] false,.bool false,.int .i64 (-1)],.agg [.int .i64 0,.nils,.int .i64 0,.rol [.int .i64 2] false,.bool false,.int .i64 (-1)],.agg [.int .i64 2,.rol [.int .i64 1] false,.int .i64 1,.nils,.bool true,.int .i64 0]] false],.rol [.agg [.int .i64 0,.bool false,.int .u64 0,.nils,.str []],.agg [.int .i64 1,.bool false,.int .u64 0,.nils,.str []],.agg [.int .i64 2,.bool false,.int .u64 0,.nils,.str []]] false,.agg [.int .u64 0,.int .u64 1,.int .u64 1,.int .u64 0,.int .i64 0,.int .i64 0],.int .i64 0]
def v23:AV:=.tup [.rol [.agg [.int .i64 1,.rol [.int .i64 0] false,.int .u64 0,.int .u64 0]] false,.nils,.int .i64 0]
def T23:List (Nat×List AV×AV):=(29,a23,v23)::T22
def a24:List AV:=[]
def v24:AV:=.bool true
theorem ok0:TblOK Tryz.prog gN (tblL T0):=tblL_nil _ _
end Go.Proofs.YtlnpgnipocbfhaaGreatDoor.Rk
