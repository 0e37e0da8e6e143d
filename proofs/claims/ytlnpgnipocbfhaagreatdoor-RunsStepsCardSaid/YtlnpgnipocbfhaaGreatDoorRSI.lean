/- RUNS I: the law RunsSteps and the kit's functions: conditions. -/
import Derived.Test.YtlnpgnipocbfhaaGreatDoorRSH
import Derived.Test.YtlnpgnipocbfhaaGreatDoorNLW
namespace Go.Proofs.YtlnpgnipocbfhaaGreatDoor
open Pw Go
set_option maxRecDepth 100000
def smK (t:List TwigG) (j:Nat):Bool:=decide ((t.getD j twigD).kids.length<=20)&&decide ((t.getD j twigD).slot.gds.length<=20)
def lightR (t:List TwigG) (m:Nat) (A:Ats) (r:RunG):Bool:=(decide (t.length<=60)&&decide (m<=14)&&decide (r.ps.length<=20))&&((List.range t.length).all (smK t)&&(List.range m).all fun j=>decide (A.N j<=10))
def invLg0 (t:List TwigG) (m:Nat) (A:Ats) (r:RunG):Inv:=⟨Nat,20,fun i=>⟨[(1,atmA m A),(3,.ptr 0 0 0 0),(5,.ptr 1 0 0 0),(7,.int .i64 i)],[(0,.row 0 1 true (.lst [treeA t])),(1,.row 0 4 true (.lst [runA r]))]⟩,fun i=>i<=t.length/\i<=61/\∀ j,j<i->smK t j=true,fun i=>t.length - i⟩
def invLg2 (t:List TwigG) (m:Nat) (A:Ats) (r:RunG):Inv:=⟨Nat,30,fun i=>⟨[(1,atmA m A),(3,.ptr 0 0 0 0),(5,.ptr 1 0 0 0),(8,.int .i64 i)],[(0,.row 0 1 true (.lst [treeA t])),(1,.row 0 4 true (.lst [runA r]))]⟩,fun i=>(i<=m/\i<=15)/\(∀ j,j<t.length->j<61->smK t j=true)/\∀ j,j<i->A.N j<=10,fun i=>m - i⟩
noncomputable def ELgR (t:List TwigG) (m:Nat) (A:Ats) (r:RunG):Env:=mkE Tryz.prog (tblOf []) (fun f b=>if f=26/\b=0 then some (invLg0 t m A r) else if f=26/\b=2 then some (invLg2 t m A r) else none)
noncomputable def EOwI:Env:={ mkE Tryz.prog (tblOf []) (fun _ _=>none) with fzs:=fun f=>if f=75 then [3,6000000005] else [] }
noncomputable def EOwR (r:RunG):Env:=mkE Tryz.prog (tblOf [(75,cAs [intsA r.ps] (intsA r.ps))]) (fun _ _=>none)
noncomputable def ESmR (r:RunG):Env:=mkE Tryz.prog (tblOf [(25,cAs [intsA r.ps,intsA r.ps] (.bool true))]) (fun _ _=>none)
def cSmR:Ctr
 | [.agg [.int .i64 a,.rof n f _,.int .u64 c,.int .u64 d],.agg [.int .i64 a',.rof m g _,.int .u64 c',.int .u64 d']]=>some (intsB n f&&intsB m g&&decide (n<=1000000)&&(a==a')&&decide (intsOf' n f=intsOf' m g)&&(c==c')&&(d==d'),.bool true)
 | _=>none
def isPlc:AV->Bool
 | .agg [.int .i64 _,.int .i64 _]=>true
 | _=>false
def plcOf:AV->PlG
 | .agg [.int .i64 a,.int .i64 b]=>(a,b,())
 | _=>(0,0,())
def plcsOf (n:Nat) (f:Nat->AV):MtG:=(List.range n).map fun i=>plcOf (f i)
def cSmM:Ctr
 | [.agg [.rof n f _],.agg [.rof m g _]]=>some ((List.range n).all (fun i=>isPlc (f i))&&(List.range m).all (fun i=>isPlc (g i))&&decide (n<=1000000)&&decide (plcsOf n f=plcsOf m g),.bool true)
 | _=>none
def invSRs (R:List RunG):Inv:=⟨Nat,20,fun i=>⟨[(0,runsA R),(1,runsA R),(5,.int .i64 i)],[]⟩,fun i=>i<=R.length,fun i=>R.length - i⟩
def invSMs (M:List MtG):Inv:=⟨Nat,20,fun i=>⟨[(0,mtcsA M),(1,mtcsA M),(5,.int .i64 i)],[]⟩,fun i=>i<=M.length,fun i=>M.length - i⟩
def invSM (l:MtG):Inv:=⟨Nat,20,fun i=>⟨[(2,.ptr 0 0 0 0),(3,.ptr 1 0 0 0),(5,.int .i64 i)],[(0,.row 0 1 true (.lst [mtcA l])),(1,.row 0 1 true (.lst [mtcA l]))]⟩,fun i=>i<=l.length,fun i=>l.length - i⟩
noncomputable def ESRs (R:List RunG):Env:=mkE Tryz.prog (tblOf [(37,cSmR)]) (fun f b=>if f=31/\b=0 then some (invSRs R) else none)
noncomputable def ESMs (M:List MtG):Env:=mkE Tryz.prog (tblOf [(84,cSmM)]) (fun f b=>if f=32/\b=0 then some (invSMs M) else none)
noncomputable def ESM (l:MtG):Env:=mkE Tryz.prog (tblOf []) (fun f b=>if f=84/\b=0 then some (invSM l) else none)
section
variable (t:List TwigG) (m:Nat) (A:Ats) (r:RunG) (e:StG) (pos w:Int) (lq:Bool) (R1:List RunG) (M1:List MtG) (f1:Int) (R2:List RunG) (M2:List MtG) (f2:Int) (q:RunG) (b:Bool) (f3:Int)
noncomputable def tblSt:List (Nat×Ctr):=[(26,cAs [treeA t,atmA m A,runA r] (.bool lq)),(27,litCtr [([],.bool true)]),(28,cAsIf lq [runA r] (runA r)),
 (29,cAsIf lq [treeA t,atmA m A,stA e,.int .i64 pos] (.tup [runsA R1,mtcsA M1,.int .i64 f1])),(30,cAsIf lq [treeA t,atmA m A,stA e,.int .i64 pos] (.tup [runsA R1,mtcsA M1,.int .i64 f1])),
 (33,cAsIf lq [treeA t,atmA m A,runA r,stA e,.int .i64 pos,.int .u64 w] (.tup [runsA R2,mtcsA M2,.int .i64 f2])),(34,cAsIf lq [treeA t,atmA m A,runA r,stA e,.int .i64 pos,.int .u64 w] (.tup [runsA R2,mtcsA M2,.int .i64 f2])),
 (35,cAsIf lq [treeA t,atmA m A,runA r,stA e] (.tup [runA q,.bool b,.int .i64 f3])),(36,cAsIf lq [treeA t,atmA m A,runA r,stA e] (.tup [runA q,.bool b,.int .i64 f3])),
 (31,fun args=>some (lq&&(asB args [runsA R1,runsA R1]||asB args [runsA R2,runsA R2]),.bool true)),(32,fun args=>some (lq&&(asB args [mtcsA M1,mtcsA M1]||asB args [mtcsA M2,mtcsA M2]),.bool true)),
 (37,fun args=>some (lq&&(asB args [runA q,runA q]||asB args [runA r,runA r]),.bool true))]
noncomputable def ESt:Env:={ mkG Tryz.prog Pd.gN (tblOf (tblSt t m A r e pos w lq R1 M1 f1 R2 M2 f2 q b f3)) (fun _ _=>none) 0 with po:=true }
end
theorem lightR_vc (t:List TwigG) (m:Nat) (A:Ats) (r:RunG) (v:Bool):(vcFun (ELgR t m A r) 20 26 [treeA t,atmA m A,runA r] .nil 0 (retP 3 (.bool v))).sat=(let c0:=(0=0/\(true=true->true=true)/\((r.nd=r.nd/\(r.ps.length=r.ps.length/\(∀ i:Nat,i<r.ps.length->r.ps.getD i (0:Int)=r.ps.getD i (0:Int)/\1=1)/\(false=true->false=true))/\r.fs=r.fs/\r.bl=r.bl/\True)/\4=4)/\True)
 let c1:=(0=0/\0=0/\0=0)
 let c2:=(0=0/\(true=true->true=true)/\((treeA t).sub (treeA t)/\(treeA t).cells.length=(treeA t).cells.length)/\True)
 let c3:=fun i:Nat=> ((i<=m/\i<=15)/\(∀ j:Nat,j<t.length->j<61->smK t j=true)/\∀ j:Nat,j<i->A.N j<=10)
 let c4:=fun i:Nat=> (i<=t.length/\i<=61/\∀ j:Nat,j<i->smK t j=true)
 (∃ i:Nat,(c4 i)/\((atmA m A).sub (atmA m A)/\c1/\c1/\(0:Int)=(i:Int)/\True)/\c2/\c0/\True)/\∀ i:Nat,(c4 i)->VB (decide ((i:Int)<(t.length:Int))&&decide ((i:Int)<(61:Int))) (NB (decide ((0:Int)<=(i:Int)/\(i:Int)<(t.length:Int))) (NB (impB (isW false (decide ((↑(t.getD (i:Int).toNat twigD).kids.length:Int) > (20:Int)))) (decide ((0:Int)<=(i:Int)/\(i:Int)<(t.length:Int)))) (VB (decide ((↑(t.getD (i:Int).toNat twigD).kids.length:Int) > (20:Int))||decide ((↑(t.getD (i:Int).toNat twigD).slot.gds.length:Int) > (20:Int))) (false=v) (∃ i':Nat,(c4 i')/\(invLg0 t m A r).μ i'<(invLg0 t m A r).μ i/\((atmA m A).sub (atmA m A)/\c1/\c1/\IntKind.i64.wrap ((i:Int)+(1:Int))=(i':Int)/\True)/\c2/\c0/\True)))) ((∃ i:Nat,(c3 i)/\((atmA m A).sub (atmA m A)/\c1/\c1/\(0:Int)=(i:Int)/\True)/\c2/\c0/\True)/\∀ i:Nat,(c3 i)->VB (decide ((i:Int)<(m:Int))&&decide ((i:Int)<(15:Int))) (NB (decide ((0:Int)<=(i:Int)/\(i:Int)<(m:Int))) (VB (decide ((↑(A.N (i:Int).toNat):Int) > (10:Int))) (false=v) (∃ i':Nat,(c3 i')/\(invLg2 t m A r).μ i'<(invLg2 t m A r).μ i/\((atmA m A).sub (atmA m A)/\c1/\c1/\IntKind.i64.wrap ((i:Int)+(1:Int))=(i':Int)/\True)/\c2/\c0/\True))) ((decide ((t.length:Int)<=(60:Int))&&decide ((m:Int)<=(14:Int))&&decide ((r.ps.length:Int)<=(20:Int)))=v))):=by
 kernel_rfl
theorem ownI_vc (l:List Int):(vcFun EOwI 20 75 [intsA l] .nil 0 (retP 3 (intsA l))).sat=( NB (l.length==0||true&&room (0+l.length) 8&&(l.length !=0||true)) (0+l.length=l.length/\(∀ i:Nat,i<0+l.length->l.getD i (0:Int)=l.getD i (0:Int)/\1=1)/\(false=true->false=true))):=by
 kernel_rfl
theorem ownR_vc (r:RunG):(vcFun (EOwR r) 20 28 [runA r] .nil 0 (retP 3 (runA r))).sat=( NB (asB [AV.rof r.ps.length (fun k:Nat=> AV.int .i64 (r.ps.getD k (0:Int))) false] [intsA r.ps]) (r.nd=r.nd/\(intsA r.ps).sub (intsA r.ps)/\r.fs=r.fs/\r.bl=r.bl/\True)):=by
 kernel_rfl
theorem smR_vc (r:RunG):(vcFun (ESmR r) 20 37 [runA r,runA r] .nil 0 (retP 3 (.bool true))).sat=( NB (impB (isW true (r.nd==r.nd)) (asB [AV.rof r.ps.length (fun k:Nat=> AV.int .i64 (r.ps.getD k (0:Int))) false,AV.rof r.ps.length (fun k:Nat=> AV.int .i64 (r.ps.getD k (0:Int))) false] [intsA r.ps,intsA r.ps])) ((r.nd==r.nd&&true&&r.fs==r.fs&&r.bl==r.bl)=true)):=by
 kernel_rfl
theorem smM_vc (l:MtG):(vcFun (ESM l) 20 84 [mtcA l,mtcA l] .nil 0 (retP 3 (.bool true))).sat=(let c0:=(0=0/\(true=true->true=true)/\(((plcsA l).sub (plcsA l)/\True)/\1=1)/\True)
 let c1:=(0=0/\0=0/\0=0)
 let c2:=fun i:Nat=> (List.getD l (i:Int).toNat ((0:Int),(0:Int),()))
 let c3:=(↑(List.length l):Int)
 VB (c3 !=c3) (false=true) ((∃ i:Nat,i.le (List.length l)/\(c1/\c1/\(0:Int)=(i:Int)/\True)/\c0/\c0/\True)/\∀ i:Nat,i.le (List.length l)->VB (decide ((i:Int)<c3)) (NB (decide ((0:Int)<=(i:Int)/\(i:Int)<c3)) (NB (decide ((0:Int)<=(i:Int)/\(i:Int)<c3)) (VB (!((c2 i).fst==(c2 i).fst&&((c2 i).snd.fst==(c2 i).snd.fst&&true))) (false=true) (∃ i':Nat,i'.le (List.length l)/\(invSM l).μ i'<(invSM l).μ i/\(c1/\c1/\IntKind.i64.wrap ((i:Int)+(1:Int))=(i':Int)/\True)/\c0/\c0/\True)))) (true=true))):=by
 kernel_rfl
theorem smRs_vc (R:List RunG):(vcFun (ESRs R) 20 31 [runsA R,runsA R] .nil 0 (retP 3 (.bool true))).sat=(let c0:=fun i:Nat=> (R.getD (i:Int).toNat runD)
 VB ((R.length:Int) !=(R.length:Int)) (false=true) ((∃ i:Nat,i.le R.length/\((runsA R).sub (runsA R)/\(runsA R).sub (runsA R)/\(0:Int)=(i:Int)/\True)/\True)/\∀ i:Nat,i.le R.length->VB (decide ((i:Int)<(R.length:Int))) (NB (decide ((0:Int)<=(i:Int)/\(i:Int)<(R.length:Int))) (NB (decide ((0:Int)<=(i:Int)/\(i:Int)<(R.length:Int))) (NB (((intsB (c0 i).ps.length fun k:Nat=> AV.int .i64 ((c0 i).ps.getD k (0:Int)))&&intsB (c0 i).ps.length fun k:Nat=> AV.int .i64 ((c0 i).ps.getD k (0:Int)))&&decide ((c0 i).ps.length<=1000000)&&(c0 i).nd==(c0 i).nd&&decide ((intsOf' (c0 i).ps.length fun k:Nat=> AV.int .i64 ((c0 i).ps.getD k (0:Int)))=intsOf' (c0 i).ps.length fun k:Nat=> AV.int .i64 ((c0 i).ps.getD k (0:Int)))&&(c0 i).fs==(c0 i).fs&&(c0 i).bl==(c0 i).bl) (∃ i':Nat,i'.le R.length/\(invSRs R).μ i'<(invSRs R).μ i/\((runsA R).sub (runsA R)/\(runsA R).sub (runsA R)/\IntKind.i64.wrap ((i:Int)+(1:Int))=(i':Int)/\True)/\True)))) (true=true))):=by
 kernel_rfl
theorem smMs_vc (M:List MtG):(vcFun (ESMs M) 20 32 [mtcsA M,mtcsA M] .nil 0 (retP 3 (.bool true))).sat=(let c0:=fun i:Nat=> (M.getD (i:Int).toNat [])
 let c1:=fun (i:Nat) (i_1:Nat)=>(List.getD (c0 i) i_1 ((0:Int),(0:Int),()))
 VB ((M.length:Int) !=(M.length:Int)) (false=true) ((∃ i:Nat,i.le M.length/\((mtcsA M).sub (mtcsA M)/\(mtcsA M).sub (mtcsA M)/\(0:Int)=(i:Int)/\True)/\True)/\∀ i:Nat,i.le M.length->VB (decide ((i:Int)<(M.length:Int))) (NB (decide ((0:Int)<=(i:Int)/\(i:Int)<(M.length:Int))) (NB (decide ((0:Int)<=(i:Int)/\(i:Int)<(M.length:Int))) (NB ((((List.range (List.length (c0 i))).all fun i_1:Nat=> isPlc (plcA (c1 i i_1)))&&(List.range (List.length (c0 i))).all fun i_1:Nat=> isPlc (plcA (c1 i i_1)))&&decide (List.length (c0 i)<=1000000)&&decide ((plcsOf (List.length (c0 i)) fun k:Nat=> plcA (c1 i k))=plcsOf (List.length (c0 i)) fun k:Nat=> plcA (c1 i k))) (∃ i':Nat,i'.le M.length/\(invSMs M).μ i'<(invSMs M).μ i/\((mtcsA M).sub (mtcsA M)/\(mtcsA M).sub (mtcsA M)/\IntKind.i64.wrap ((i:Int)+(1:Int))=(i':Int)/\True)/\True)))) (true=true))):=by
 kernel_rfl
theorem steps_vc (t:List TwigG) (m:Nat) (A:Ats) (r:RunG) (e:StG) (pos w:Int) (lq:Bool) (R1:List RunG) (M1:List MtG) (f1:Int) (R2:List RunG) (M2:List MtG) (f2:Int) (q:RunG) (b:Bool) (f3:Int):(vcFun (ESt t m A r e pos w lq R1 M1 f1 R2 M2 f2 q b f3) 40 5 [treeA t,atmA m A,runA r,stA e,.int .i64 pos,.int .u64 w] .nil 0 (isBool true)).sat=(let c0:=(fun j:Nat=> AV.agg [AV.int .i64 (A.K j),AV.bool (A.B j),AV.int .u64 (A.O j),AV.rof (A.N j) (fun i:Nat=> AV.agg [AV.int .i64 (A.P j i),AV.int .i64 (A.V j i)]) false,AV.str (A.M j)])
 let c6:=(fun k:Nat=> twigA (t.getD k twigD))
 let c2:=(fun k:Nat=> AV.int .i64 (r.ps.getD k (0:Int)))
 let c1:=(lq&&asB [AV.agg [AV.rof t.length c6 false],AV.rof m c0 false,AV.agg [AV.int .i64 r.nd,AV.rof r.ps.length c2 false,AV.int .u64 r.fs,AV.int .u64 r.bl],AV.agg [AV.int .u64 e.lb,AV.int .u64 e.no,AV.int .u64 e.od,AV.int .u64 e.tk,AV.int .i64 e.kd,AV.int .i64 e.vl],AV.int .i64 pos,AV.int .u64 w] [treeA t,atmA m A,runA r,stA e,AV.int .i64 pos,AV.int .u64 w])
 let c3:=(lq&&asB [AV.agg [AV.rof t.length c6 false],AV.rof m c0 false,AV.agg [AV.int .i64 r.nd,AV.rof r.ps.length c2 false,AV.int .u64 r.fs,AV.int .u64 r.bl],AV.agg [AV.int .u64 e.lb,AV.int .u64 e.no,AV.int .u64 e.od,AV.int .u64 e.tk,AV.int .i64 e.kd,AV.int .i64 e.vl]] [treeA t,atmA m A,runA r,stA e])
 let c4:=(lq&&asB [AV.agg [AV.rof t.length c6 false],AV.rof m c0 false,AV.agg [AV.int .u64 e.lb,AV.int .u64 e.no,AV.int .u64 e.od,AV.int .u64 e.tk,AV.int .i64 e.kd,AV.int .i64 e.vl],AV.int .i64 pos] [treeA t,atmA m A,stA e,AV.int .i64 pos])
 let c5:=(fun k:Nat=> AV.int .i64 (q.ps.getD k (0:Int)))
 let c7:=(fun k:Nat=> runA (R1.getD k runD))
 let c8:=(fun k:Nat=> runA (R2.getD k runD))
 let c9:=(fun k:Nat=> mtcA (M1.getD k []))
 let c10:=(fun k:Nat=> mtcA (M2.getD k []))
 NB (asB [AV.agg [AV.rof t.length c6 false],AV.rof m c0 false,AV.agg [AV.int .i64 r.nd,AV.rof r.ps.length c2 false,AV.int .u64 r.fs,AV.int .u64 r.bl]] [treeA t,atmA m A,runA r]) (VB (!lq) (true=true) (NB (lq&&asB [AV.agg [AV.int .i64 r.nd,AV.rof r.ps.length c2 false,AV.int .u64 r.fs,AV.int .u64 r.bl]] [runA r]) (NB c4 (NB c4 (NB (lq&&(asB [AV.rof R1.length c7 false,AV.rof R1.length c7 false] [runsA R1,runsA R1]||asB [AV.rof R1.length c7 false,AV.rof R1.length c7 false] [runsA R2,runsA R2])) (NB (impB (isW false false) (lq&&(asB [AV.rof M1.length c9 false,AV.rof M1.length c9 false] [mtcsA M1,mtcsA M1]||asB [AV.rof M1.length c9 false,AV.rof M1.length c9 false] [mtcsA M2,mtcsA M2]))) (VB (false||f1 !=f1) (false=true) (NB c1 (NB c1 (NB (lq&&(asB [AV.rof R2.length c8 false,AV.rof R2.length c8 false] [runsA R1,runsA R1]||asB [AV.rof R2.length c8 false,AV.rof R2.length c8 false] [runsA R2,runsA R2])) (NB (impB (isW false false) (lq&&(asB [AV.rof M2.length c10 false,AV.rof M2.length c10 false] [mtcsA M1,mtcsA M1]||asB [AV.rof M2.length c10 false,AV.rof M2.length c10 false] [mtcsA M2,mtcsA M2]))) (VB (false||f2 !=f2) (false=true) (NB c3 (NB c3 (NB (lq&&(asB [AV.agg [AV.int .i64 q.nd,AV.rof q.ps.length c5 false,AV.int .u64 q.fs,AV.int .u64 q.bl],AV.agg [AV.int .i64 q.nd,AV.rof q.ps.length c5 false,AV.int .u64 q.fs,AV.int .u64 q.bl]] [runA q,runA q]||asB [AV.agg [AV.int .i64 q.nd,AV.rof q.ps.length c5 false,AV.int .u64 q.fs,AV.int .u64 q.bl],AV.agg [AV.int .i64 q.nd,AV.rof q.ps.length c5 false,AV.int .u64 q.fs,AV.int .u64 q.bl]] [runA r,runA r])) (NB (impB (isW true (true&&b==b&&f3==f3)) (lq&&(asB [AV.agg [AV.int .i64 r.nd,AV.rof r.ps.length c2 false,AV.int .u64 r.fs,AV.int .u64 r.bl],AV.agg [AV.int .i64 r.nd,AV.rof r.ps.length c2 false,AV.int .u64 r.fs,AV.int .u64 r.bl]] [runA q,runA q]||asB [AV.agg [AV.int .i64 r.nd,AV.rof r.ps.length c2 false,AV.int .u64 r.fs,AV.int .u64 r.bl],AV.agg [AV.int .i64 r.nd,AV.rof r.ps.length c2 false,AV.int .u64 r.fs,AV.int .u64 r.bl]] [runA r,runA r]))) (((true&&b==b&&f3==f3&&true&&true)==true)=true)))))))))))))))))):=by
 kernel_rfl
end Go.Proofs.YtlnpgnipocbfhaaGreatDoor
