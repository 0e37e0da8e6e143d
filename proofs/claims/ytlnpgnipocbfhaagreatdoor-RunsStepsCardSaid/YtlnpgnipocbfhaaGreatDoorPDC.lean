/- RUNS, atoms: lists of atoms. -/
import Derived.Test.YtlnpgnipocbfhaaGreatDoorPD8
namespace Go.Proofs.YtlnpgnipocbfhaaGreatDoor.Pd
open Pw Go
set_option maxRecDepth 100000
noncomputable def tblD:List (Nat×Ctr):=tblC
theorem tblD_ok:TblOK Tryz.prog gN (tblOf tblD):=tblC_ok
structure Ats where
 K:Nat->Int
 B:Nat->Bool
 O:Nat->Int
 N:Nat->Nat
 P:Nat->Nat->Int
 V:Nat->Nat->Int
 M:Nat->List UInt8
def atsAV (m:Nat) (A:Ats):AV:=.rof m (fun j=>.agg [.int .i64 (A.K j),.bool (A.B j),.int .u64 (A.O j),.rof (A.N j) (fun i=>.agg [.int .i64 (A.P j i),.int .i64 (A.V j i)]) false,.str (A.M j)]) false
def checkJ (A:Ats) (j:Nat):Int:=checkE (A.K j) (A.B j) (A.O j) (A.N j) (A.P j) (A.M j)
def matchJ (A:Ats) (l ek x:Int) (j:Nat):Bool:=matchS (A.K j) (A.B j) (A.O j) (A.N j) (A.P j) (A.V j) l ek x
def ckS (A:Ats):Nat->Int
 | 0=>0
 | i+1=>if ckS A i=0 then checkJ A i else ckS A i
def allE (A:Ats) (m:Nat) (ek:Int):Int:=if ckS A m=0 then eventE ek else ckS A m
def whS (A:Ats) (l ek x:Int):Nat->List Int
 | 0=>[]
 | i+1=>if matchJ A l ek x i=true then whS A l ek x i++[(i:Int)] else whS A l ek x i
def whN (A:Ats) (l ek x:Int) (i:Nat):Nat:=(whS A l ek x i).length
def whV (A:Ats) (l ek x:Int) (i k:Nat):Int:=(whS A l ek x i).getD k 0
def evRow (l ek x:Int):Blk:=.row 0 3 true (.lst [.agg [.int .u64 l,.int .i64 ek,.int .i64 x]])
def intRow (g n:Nat) (f:Nat->Int):Blk:=.row g 1 true (.fn n fun k=>.int .i64 (f k))
def invW1 (m:Nat) (A:Ats) (l ek x:Int):Inv:=⟨Nat,20,fun i=>⟨[(0,atsAV m A),(3,.ptr 0 0 0 0),(13,atsAV m A),(14,.int .i64 m),(15,.int .i64 i)],[(0,evRow l ek x)]⟩,fun i=>i<=m/\ckS A i=0,fun i=>m - i⟩
def invW2 (m:Nat) (A:Ats) (l ek x:Int):Inv:=⟨Nat×Nat,40,fun p=>⟨[(3,.ptr 0 0 0 0),(10,.sl 30 p.2 0 (whN A l ek x p.1) none),(30,atsAV m A),(31,.int .i64 m),(32,.int .i64 p.1)],[(0,evRow l ek x),(30,intRow p.2 (whN A l ek x p.1) (whV A l ek x p.1))]⟩,fun p=>p.1<=m,fun p=>m - p.1⟩
theorem whichI_vc (m:Nat) (A:Ats) (l ek x:Int):(vcFun (mkG Tryz.prog gN (tblOf tblD) (fun f b=>if f=128 then (if b=0 then some (invW1 m A l ek x) else if b=2 then some (invW2 m A l ek x) else none) else none) 0) 20 128 [.rof m (fun j=>.agg [.int .i64 (A.K j),.bool (A.B j),.int .u64 (A.O j),.rof (A.N j) (fun i=>.agg [.int .i64 (A.P j i),.int .i64 (A.V j i)]) false,.str (A.M j)]) false,.agg [.int .u64 l,.int .i64 ek,.int .i64 x]] .nil 0 (retP 3 (.tup [.rof (if allE A m ek=0 then whN A l ek x m else 0) (fun k=>.int .i64 (whV A l ek x m k)) false,.int .i64 (allE A m ek)]))).sat=(let c0:=(m=m/\(∀ i:Nat,i<m->(A.K i=A.K i/\A.B i=A.B i/\A.O i=A.O i/\(A.N i=A.N i/\(∀ i_1:Nat,i_1<A.N i->(A.P i i_1=A.P i i_1/\A.V i i_1=A.V i i_1/\True)/\[AV.int .i64 (A.P i i_1),AV.int .i64 (A.V i i_1)].length=[AV.int .i64 (A.P i i_1),AV.int .i64 (A.V i i_1)].length)/\(false=true->false=true))/\A.M i=A.M i/\True)/\[AV.int .i64 (A.K i),AV.bool (A.B i),AV.int .u64 (A.O i),AV.rof (A.N i) (fun i_1:Nat=> AV.agg [AV.int .i64 (A.P i i_1),AV.int .i64 (A.V i i_1)]) false,AV.str (A.M i)].length=[AV.int .i64 (A.K i),AV.bool (A.B i),AV.int .u64 (A.O i),AV.rof (A.N i) (fun i_1:Nat=> AV.agg [AV.int .i64 (A.P i i_1),AV.int .i64 (A.V i i_1)]) false,AV.str (A.M i)].length)/\(false=true->false=true))
 let c1:=(0=0/\(true=true->true=true)/\((l=l/\ek=ek/\x=x/\True)/\[AV.int .u64 l,AV.int .i64 ek,AV.int .i64 x].length=[AV.int .u64 l,AV.int .i64 ek,AV.int .i64 x].length)/\True)
 let c2:=(0=0/\0=0/\0=0)
 let c3:=fun (i_1:Nat) (i:Nat×Nat)=>(if i_1<whN A l ek x i.fst then AV.int .i64 (whV A l ek x i.fst (0+i_1)) else ((Sq.lst [AV.int .i64 (i.fst:Int)]).sub 0 1).get (i_1 - whN A l ek x i.fst))
 (∃ i:Nat,(i<=m/\ckS A i=(0:Int))/\(c0/\c2/\c0/\(m:Int)=(m:Int)/\(0:Int)=(i:Int)/\True)/\c1/\True)/\∀ i:Nat,i<=m/\ckS A i=(0:Int)->VB (decide ((i:Int)<(m:Int))) (NB (decide ((0:Int)<=(i:Int)/\(i:Int)<(m:Int))) (NB ((condsB (A.N (i:Int).toNat) fun i_1:Nat=> AV.agg [AV.int .i64 (A.P (i:Int).toNat i_1),AV.int .i64 (A.V (i:Int).toNat i_1)])&&decide ((A.M (i:Int).toNat).length<=9223372036854775807)) (VB (checkE (A.K (i:Int).toNat) (A.B (i:Int).toNat) (A.O (i:Int).toNat) (A.N (i:Int).toNat) (fun i_1:Nat=> A.P (i:Int).toNat i_1) (A.M (i:Int).toNat) !=(0:Int)) ((if allE A m ek=(0:Int) then whN A l ek x m else 0)=0/\checkE (A.K (i:Int).toNat) (A.B (i:Int).toNat) (A.O (i:Int).toNat) (A.N (i:Int).toNat) (fun i_1:Nat=> A.P (i:Int).toNat i_1) (A.M (i:Int).toNat)=allE A m ek/\True) (∃ i':Nat,(i'<=m/\ckS A i'=(0:Int))/\(invW1 m A l ek x).μ i'<(invW1 m A l ek x).μ i/\(c0/\c2/\c0/\(m:Int)=(m:Int)/\IntKind.i64.wrap ((i:Int)+(1:Int))=(i':Int)/\True)/\c1/\True)))) (VB (eventE ek !=(0:Int)) ((if allE A m ek=(0:Int) then whN A l ek x m else 0)=0/\eventE ek=allE A m ek/\True) ((∃ (i:Nat×Nat),i.fst.le m/\(c2/\(whN A l ek x i.fst=0/\i.snd=i.snd/\whN A l ek x i.fst=0)/\c0/\(m:Int)=(m:Int)/\(0:Int)=(i.fst:Int)/\True)/\c1/\whN A l ek x i.fst=0/\True)/\∀ (i:Nat×Nat),i.fst.le m->VB (decide ((i.fst:Int)<(m:Int))) (NB (decide ((0:Int)<=(i.fst:Int)/\(i.fst:Int)<(m:Int))) (NB (((decide (A.N (i.fst:Int).toNat<=1000000)&&condsB (A.N (i.fst:Int).toNat) fun i_1:Nat=> AV.agg [AV.int .i64 (A.P (i.fst:Int).toNat i_1),AV.int .i64 (A.V (i.fst:Int).toNat i_1)])&&okAll (A.N (i.fst:Int).toNat) fun i_1:Nat=> A.P (i.fst:Int).toNat i_1)&&u64B l&&u64B (A.O (i.fst:Int).toNat)) (VB (matchS (A.K (i.fst:Int).toNat) (A.B (i.fst:Int).toNat) (A.O (i.fst:Int).toNat) (A.N (i.fst:Int).toNat) (fun i_1:Nat=> A.P (i.fst:Int).toNat i_1) (fun i_1:Nat=> A.V (i.fst:Int).toNat i_1) l ek x) (NB (true&&decide (i.snd=i.snd)&&room (whN A l ek x i.fst+1) 8) (∃ (i':Nat×Nat),i'.fst.le m/\(invW2 m A l ek x).μ i'<(invW2 m A l ek x).μ i/\(c2/\(i.snd+1=i'.snd/\0=0/\whN A l ek x i.fst+1=whN A l ek x i'.fst/\(@Eq (Option Nat) none none\/@Eq (Option Nat) none none))/\c0/\(m:Int)=(m:Int)/\IntKind.i64.wrap ((i.fst:Int)+(1:Int))=(i'.fst:Int)/\True)/\c1/\(i.snd+1=i'.snd/\(true=true->true=true)/\whN A l ek x i.fst+1=whN A l ek x i'.fst/\∀ i_1:Nat,i_1<whN A l ek x i.fst+1->(c3 i_1 i).sub (AV.int .i64 (whV A l ek x i'.fst i_1))/\(c3 i_1 i).cells.length=[AV.int .i64 (whV A l ek x i'.fst i_1)].length)/\True)) (∃ (i':Nat×Nat),i'.fst.le m/\(invW2 m A l ek x).μ i'<(invW2 m A l ek x).μ i/\(c2/\(i.snd=i'.snd/\0=0/\whN A l ek x i.fst=whN A l ek x i'.fst/\(@Eq (Option Nat) none none\/@Eq (Option Nat) none none))/\c0/\(m:Int)=(m:Int)/\IntKind.i64.wrap ((i.fst:Int)+(1:Int))=(i'.fst:Int)/\True)/\c1/\(i.snd=i'.snd/\(true=true->true=true)/\whN A l ek x i.fst=whN A l ek x i'.fst/\∀ i_1:Nat,i_1<whN A l ek x i.fst->whV A l ek x i.fst i_1=whV A l ek x i'.fst i_1/\[AV.int .i64 (whV A l ek x i.fst i_1)].length=[AV.int .i64 (whV A l ek x i'.fst i_1)].length)/\True)))) (NB (decide (i.snd=i.snd)&&true) (((whN A l ek x i.fst=if allE A m ek=(0:Int) then whN A l ek x m else 0)/\(∀ i_1:Nat,i_1<whN A l ek x i.fst->whV A l ek x i.fst (0+i_1)=whV A l ek x m i_1/\[AV.int .i64 (whV A l ek x i.fst (0+i_1))].length=[AV.int .i64 (whV A l ek x m i_1)].length)/\(false=true->decide (none=some (whN A l ek x i.fst))=true))/\(0:Int)=allE A m ek/\True))))):=by
 kernel_rfl
theorem sub_int (a b:Int):(AV.int .i64 a).sub (.int .i64 b) ↔ a=b:=by show (if _ then _ else _) ↔ _; rw [if_pos rfl]
theorem one_get (x:AV):((Sq.lst [x]).sub 0 1).get 0=x:=rfl
theorem ckS_succ {A:Ats} {i:Nat} (h:ckS A i=0):ckS A (i+1)=checkJ A i:=by simp [ckS,h]
theorem ckS_stay {A:Ats} {i:Nat} (h:ckS A i≠0):∀ d,ckS A (i+d)=ckS A i
 | 0=>rfl
 | d+1=>by
  have:=ckS_stay h d;show ckS A (i+d+1)=_;simp only [ckS];rw [this,if_neg h]
theorem all_stop {A:Ats} {i m:Nat} {ek:Int} (hi:i<m) (h:ckS A i=0) (hc:checkJ A i≠0):allE A m ek=checkJ A i:=by
 have h1:=ckS_succ h;have h2:=ckS_stay (A:=A) (i:=i+1) (by rw [h1]; exact hc) (m - (i+1))
 rw [show i+1+(m - (i+1))=m by omega,h1] at h2
 rw [allE,if_neg (by rw [h2]; exact hc),h2]
theorem ck_all {A:Ats}:∀ {m:Nat},ckS A m=0->∀ j,j<m->checkJ A j=0
 | 0,_,j,hj=>by omega
 | m+1,h,j,hj=>by
  have h0:ckS A m=0:=by
   refine Classical.byContradiction fun hne=>?_
   have:=ckS_stay hne 1;rw [h] at this;exact hne this.symm
  rcases Nat.lt_or_ge j m with h'|h'
  ·exact ck_all h0 j h'
  ·obtain rfl:j=m:=by omega
   rw [<- ckS_succ h0]; exact h
theorem whN_succ (A:Ats) (l ek x:Int) (i:Nat):whN A l ek x (i+1)=if matchJ A l ek x i=true then whN A l ek x i+1 else whN A l ek x i:=by
 simp only [whN,whS];split <;> simp
theorem whV_succ {A:Ats} {l ek x:Int} {i k:Nat} (h:matchJ A l ek x i=true):whV A l ek x (i+1) k=if k<whN A l ek x i then whV A l ek x i k else if k=whN A l ek x i then (i:Int) else 0:=by
 have hl:(whS A l ek x i).length=whN A l ek x i:=rfl;have e:whV A l ek x (i+1) k=(whS A l ek x i++[(i:Int)]).getD k 0:=by simp only [whV,whS,if_pos h]
 rw [e,List.getD_eq_getElem?_getD];by_cases h1:k<whN A l ek x i
 ·rw [if_pos h1,List.getElem?_append_left (by omega)]
  simp only [whV,List.getD_eq_getElem?_getD]
 ·rw [if_neg h1,List.getElem?_append_right (by omega)]
  by_cases h2:k=whN A l ek x i
  ·rw [if_pos h2,show k - (whS A l ek x i).length=0 by omega]
   rfl
  ·rw [if_neg h2,List.getElem?_eq_none (by simp; omega)]
   rfl
theorem whV_skip {A:Ats} {l ek x:Int} {i:Nat} (h:matchJ A l ek x i=false):whN A l ek x (i+1)=whN A l ek x i/\∀ k,whV A l ek x (i+1) k=whV A l ek x i k:=by
 simp [whN,whV,whS,h]
theorem whN_le (A:Ats) (l ek x:Int):∀ i,whN A l ek x i<=i
 | 0=>Nat.le_refl _
 | i+1=>by
  have:=whN_le A l ek x i;rw [whN_succ];split <;> omega
def atsOK (m:Nat) (A:Ats):Prop:=∀ j,j<m->(A.M j).length<=9223372036854775807/\u64B (A.O j)=true
theorem whichI_pure (m:Nat) (A:Ats) (l ek x:Int) (hm:m<=1000000) (hA:atsOK m A) (hl:u64B l=true):PureC Tryz.prog gN 128 [atsAV m A,.agg (evL l ek x)]
  (.tup [.rof (if allE A m ek=0 then whN A l ek x m else 0) (fun k=>.int .i64 (whV A l ek x m k)) false,.int .i64 (allE A m ek)]):=by
 refine pure_vcG mix tblD_ok ((whichI_vc m A l ek x).mpr ?_);have hc:∀ i,checkE (A.K i) (A.B i) (A.O i) (A.N i) (fun i_1=>A.P i i_1) (A.M i)=checkJ A i:=fun i=>rfl
 have hma:∀ i,matchS (A.K i) (A.B i) (A.O i) (A.N i) (fun i_1=>A.P i i_1) (fun i_1=>A.V i i_1) l ek x=matchJ A l ek x i:=fun i=>rfl
 simp only [EqI,imp_self,true_and,and_true,implies_true,Int.toNat_natCast,List.length_cons,List.length_nil,condsB_agg,hc,hma,hl,decide_true,Bool.and_self,NB_t,or_self,or_true,true_or,Nat.zero_add,Bool.true_and,Bool.and_true]
 refine ⟨⟨0,by simp [ckS]⟩,fun i hi=>?_⟩
 obtain ⟨hi1,hi2⟩:=hi;refine VB_intro (fun hlt=>?_) (fun hlt=>?_)
 ·have hlt':i<m:=by have:=of_decide_eq_true hlt; omega
  refine NB_intro (decide_eq_true (by omega)) (NB_intro (decide_eq_true (hA i hlt').1) (VB_intro (fun hb=>?_) (fun hb=>?_)))
  ·have hb':checkJ A i≠0:=by simpa using hb
   have:=all_stop (ek:=ek) hlt' hi2 hb';rw [this,if_neg hb'];exact ⟨rfl,rfl⟩
  ·have hb':checkJ A i=0:=by simpa using hb
   exact ⟨i+1,⟨by omega,by rw [ckS_succ hi2,hb']⟩,by simp only [invW1]; omega,by rw [wrap_i64_id (by omega) (by omega)]; omega⟩
 ·have hie:i=m:=by have:=of_decide_eq_false hlt; omega
  subst hie;have hall:=ck_all hi2;have hE:allE A i ek=eventE ek:=by rw [allE,if_pos hi2]
  rw [hE];refine VB_intro (fun hb=>?_) (fun hb=>?_)
  ·have hb':eventE ek≠0:=by simpa using hb
   rw [if_neg hb'];exact ⟨rfl,rfl⟩
  ·have hb':eventE ek=0:=by simpa using hb
   rw [if_pos hb',hb'];refine ⟨⟨(0,0),by simp,by simp [whN,whS]⟩,fun p hp=>?_⟩
   obtain ⟨q,g⟩:=p;simp only at hp ⊢;replace hp:q<=i:=hp;have hle:=whN_le A l ek x q;refine VB_intro (fun hq=>?_) (fun hq=>?_)
   ·have hq':q<i:=by have:=of_decide_eq_true hq; omega
    obtain ⟨c1,c2,_⟩:=check_zero (hall q hq');have e1:okAll (A.N q) (fun i_1=>A.P q i_1)=true:=c2
    refine NB_intro (decide_eq_true (by omega)) (NB_intro (by rw [decide_eq_true (show A.N q<=1000000 by omega),e1,(hA q hq').2]; rfl) (VB_intro (fun hmt=>?_) (fun hmt=>?_)))
    ·refine NB_intro (by simp only [room]; exact decide_eq_true (by omega)) ?_
     have hN:whN A l ek x (q+1)=whN A l ek x q+1:=by rw [whN_succ,if_pos hmt]
     refine ⟨(q+1,g+1),by show q+1<=i; omega,by simp only [invW2]; omega,⟨⟨rfl,hN.symm⟩,by rw [wrap_i64_id (by omega) (by omega)]; simp⟩,rfl,hN.symm,fun k hk=>?_⟩
     have hV:=whV_succ (k:=k) hmt;simp only;by_cases hk1:k<whN A l ek x q
     ·rw [if_pos hk1,hV,if_pos hk1];exact ⟨(sub_int _ _).2 rfl,rfl⟩
     ·rw [if_neg hk1,show k - whN A l ek x q=0 by omega,one_get,hV,if_neg hk1,if_pos (by omega)]
      exact ⟨(sub_int _ _).2 rfl,rfl⟩
    ·obtain ⟨s1,s2⟩:=whV_skip hmt;refine ⟨(q+1,g),by show q+1<=i; omega,by simp only [invW2]; omega,⟨⟨rfl,s1.symm⟩,by rw [wrap_i64_id (by omega) (by omega)]; simp⟩,rfl,s1.symm,fun k hk=>(s2 k).symm⟩
   ·have hqe:q=i:=by have:=of_decide_eq_false hq; omega
    subst hqe;simp
def aK:AV->Int
 | .agg [.int _ k,_,_,_,_]=>k
 | _=>0
def aB:AV->Bool
 | .agg [_,.bool b,_,_,_]=>b
 | _=>false
def aO:AV->Int
 | .agg [_,_,.int _ b,_,_]=>b
 | _=>0
def aN:AV->Nat
 | .agg [_,_,_,.rof n _ _,_]=>n
 | _=>0
def aF:AV->Nat->AV
 | .agg [_,_,_,.rof _ f _,_],i=>f i
 | _,_=>.undef
def aM:AV->List UInt8
 | .agg [_,_,_,_,.str s]=>s
 | _=>[]
def isAtom:AV->Bool
 | .agg [.int .i64 _,.bool _,.int .u64 _,.rof n f _,.str _]=>condsB n f
 | _=>false
def atsB (m:Nat) (f:Nat->AV):Bool:=(List.range m).all fun j=>isAtom (f j)
def atsOf (f:Nat->AV):Ats:=⟨fun j=>aK (f j),fun j=>aB (f j),fun j=>aO (f j),fun j=>aN (f j),fun j i=>opOf (aF (f j) i),fun j i=>valOf (aF (f j) i),fun j=>aM (f j)⟩
theorem ats_sub {m:Nat} {f:Nat->AV} {ex:Bool} (h:atsB m f=true):(AV.rof m f ex).sub (atsAV m (atsOf f)):=by
 refine ⟨rfl,fun j hj=>?_,by simp⟩
 have:=List.all_eq_true.1 h j (by simpa using hj)
 show (f j).sub (.agg [.int .i64 (aK (f j)),.bool (aB (f j)),.int .u64 (aO (f j)),.rof (aN (f j)) (fun i=>.agg [.int .i64 (opOf (aF (f j) i)),.int .i64 (valOf (aF (f j) i))]) false,.str (aM (f j))])/\(f j).cells.length=5
 generalize f j=x at this;unfold isAtom at this;split at this
 ·exact ⟨⟨rfl,rfl,rfl,rof_cond_sub this,rfl,trivial⟩,rfl⟩
 ·cases this
theorem atsOf_at (A:Ats):atsOf (fun j=>.agg [.int .i64 (A.K j),.bool (A.B j),.int .u64 (A.O j),.rof (A.N j) (fun i=>.agg [.int .i64 (A.P j i),.int .i64 (A.V j i)]) false,.str (A.M j)])=A:=rfl
theorem atsB_at (m:Nat) (A:Ats):atsB m (fun j=>.agg [.int .i64 (A.K j),.bool (A.B j),.int .u64 (A.O j),.rof (A.N j) (fun i=>.agg [.int .i64 (A.P j i),.int .i64 (A.V j i)]) false,.str (A.M j)])=true:=by
 simp [atsB,isAtom,condsB_agg]
def okAts (m:Nat) (A:Ats):Bool:=(List.range m).all fun j=>nmB (A.M j)&&u64B (A.O j)
theorem okAts_iff {m:Nat} {A:Ats}:okAts m A=true ↔ atsOK m A:=by simp [okAts,atsOK,nmB]
def iOf:AV->Int
 | .int _ n=>n
 | _=>0
def isI:AV->Bool
 | .int .i64 _=>true
 | _=>false
def intsB (n:Nat) (f:Nat->AV):Bool:=(List.range n).all fun k=>isI (f k)
theorem ints_sub {n:Nat} {f:Nat->AV} {ex:Bool} (h:intsB n f=true):(AV.rof n f ex).sub (.rof n (fun k=>.int .i64 (iOf (f k))) false):=by
 refine ⟨rfl,fun j hj=>?_,by simp⟩
 have:=List.all_eq_true.1 h j (by simpa using hj)
 show (f j).sub (.int .i64 (iOf (f j)))/\(f j).cells.length=1;generalize f j=x at this;unfold isI at this;split at this
 ·exact ⟨rfl,rfl⟩
 ·cases this
theorem intsB_at (n:Nat) (f:Nat->Int):intsB n (fun k=>.int .i64 (f k))=true:=by simp [intsB,isI]
def WhAV (A:Ats) (m:Nat) (l ek x:Int):AV:=.tup [.rof (if allE A m ek=0 then whN A l ek x m else 0) (fun k=>.int .i64 (whV A l ek x m k)) false,.int .i64 (allE A m ek)]
def cWhich:Ctr
 | [.rof m f _,.agg [.int .u64 l,.int .i64 ek,.int .i64 x]]=>some (decide (m<=1000000)&&atsB m f&&okAts m (atsOf f)&&u64B l,WhAV (atsOf f) m l ek x)
 | _=>none
theorem whichI_ok:PureG Tryz.prog gN 128 cWhich:=by
 intro args nd v he hnd;unfold cWhich at he;split at he <;> cases he
 simp only [Bool.and_eq_true,decide_eq_true_eq] at hnd;exact args2 (ats_sub hnd.1.1.2) (ev_sub _ _ _) (whichI_pure _ _ _ _ _ hnd.1.1.1 (okAts_iff.1 hnd.1.2) hnd.2)
def erS (m:Nat) (w:Nat->Int):Nat->Int
 | 0=>0
 | i+1=>if erS m w i=0 then (if w i<0\/w i>=m then 2 else 0) else erS m w i
def anS (A:Ats) (w:Nat->Int) (l ek x:Int):Nat->Bool
 | 0=>false
 | i+1=>anS A w l ek x i||matchJ A l ek x (w i).toNat
def anyE (A:Ats) (m:Nat) (w:Nat->Int) (c:Nat) (ek:Int):Int:=if allE A m ek=0 then erS m w c else allE A m ek
def anyB (A:Ats) (m:Nat) (w:Nat->Int) (c:Nat) (l ek x:Int):Bool:=decide (allE A m ek=0)&&decide (erS m w c=0)&&anS A w l ek x c
noncomputable def tblE:List (Nat×Ctr):=(128,cWhich)::tblD
theorem tblE_ok:TblOK Tryz.prog gN (tblOf tblE):=tblG_cons whichI_ok tblD_ok
def wAV (c:Nat) (w:Nat->Int):AV:=.rof c (fun k=>.int .i64 (w k)) false
def invAI (m c:Nat) (A:Ats) (w:Nat->Int) (l ek x:Int):Inv:=⟨Nat,40,fun i=>⟨[(0,atsAV m A),(5,.ptr 0 0 0 0),(10,.bool (anS A w l ek x i)),(22,wAV c w),(23,.int .i64 c),(24,.int .i64 i)],[(0,evRow l ek x)]⟩,fun i=>i<=c/\erS m w i=0,fun i=>c - i⟩
theorem anyI_vc (m c:Nat) (A:Ats) (w:Nat->Int) (l ek x:Int):(vcFun (mkG Tryz.prog gN (tblOf tblE) (fun f b=>if f=88/\b=0 then some (invAI m c A w l ek x) else none) 0) 20 88 [.rof m (fun j=>.agg [.int .i64 (A.K j),.bool (A.B j),.int .u64 (A.O j),.rof (A.N j) (fun i=>.agg [.int .i64 (A.P j i),.int .i64 (A.V j i)]) false,.str (A.M j)]) false,.rof c (fun k=>.int .i64 (w k)) false,.agg [.int .u64 l,.int .i64 ek,.int .i64 x]] .nil 0 (retP 3 (.tup [.bool (anyB A m w c l ek x),.int .i64 (anyE A m w c ek)]))).sat=(let c3:=fun j:Nat=> (fun i:Nat=> AV.agg [AV.int .i64 (A.P j i),AV.int .i64 (A.V j i)])
 let c0:=(m=m/\(∀ i:Nat,i<m->(A.K i=A.K i/\A.B i=A.B i/\A.O i=A.O i/\(A.N i=A.N i/\(∀ i_1:Nat,i_1<A.N i->(A.P i i_1=A.P i i_1/\A.V i i_1=A.V i i_1/\True)/\[AV.int .i64 (A.P i i_1),AV.int .i64 (A.V i i_1)].length=[AV.int .i64 (A.P i i_1),AV.int .i64 (A.V i i_1)].length)/\(false=true->false=true))/\A.M i=A.M i/\True)/\[AV.int .i64 (A.K i),AV.bool (A.B i),AV.int .u64 (A.O i),AV.rof (A.N i) (c3 i) false,AV.str (A.M i)].length=[AV.int .i64 (A.K i),AV.bool (A.B i),AV.int .u64 (A.O i),AV.rof (A.N i) (c3 i) false,AV.str (A.M i)].length)/\(false=true->false=true))
 let c1:=(atsOf fun j:Nat=> AV.agg [AV.int .i64 (A.K j),AV.bool (A.B j),AV.int .u64 (A.O j),AV.rof (A.N j) (c3 j) false,AV.str (A.M j)])
 let c2:=(0=0/\(true=true->true=true)/\((l=l/\ek=ek/\x=x/\True)/\[AV.int .u64 l,AV.int .i64 ek,AV.int .i64 x].length=[AV.int .u64 l,AV.int .i64 ek,AV.int .i64 x].length)/\True)
 let c4:=(c=c/\(∀ i:Nat,i<c->w i=w i/\[AV.int .i64 (w i)].length=[AV.int .i64 (w i)].length)/\(false=true->false=true))
 NB ((decide (m<=1000000)&&atsB m fun j:Nat=> AV.agg [AV.int .i64 (A.K j),AV.bool (A.B j),AV.int .u64 (A.O j),AV.rof (A.N j) (c3 j) false,AV.str (A.M j)])&&okAts m c1&&u64B l) (VB (allE c1 m ek !=(0:Int)) (false=anyB A m w c l ek x/\allE c1 m ek=anyE A m w c ek/\True) ((∃ i:Nat,(i<=c/\erS m w i=(0:Int))/\(c0/\(0=0/\0=0/\0=0)/\false=anS A w l ek x i/\c4/\(c:Int)=(c:Int)/\(0:Int)=(i:Int)/\True)/\c2/\True)/\∀ i:Nat,i<=c/\erS m w i=(0:Int)->VB (decide ((i:Int)<(c:Int))) (NB (decide ((0:Int)<=(i:Int)/\(i:Int)<(c:Int))) (VB (decide (w (i:Int).toNat<(0:Int))||decide (w (i:Int).toNat>=(m:Int))) (false=anyB A m w c l ek x/\(2:Int)=anyE A m w c ek/\True) (NB (impB (isW false (anS A w l ek x i)) (decide ((0:Int)<=w (i:Int).toNat/\w (i:Int).toNat<(m:Int)))) (NB (impB (isW false (anS A w l ek x i)) (((decide (A.N (w (i:Int).toNat).toNat<=1000000)&&condsB (A.N (w (i:Int).toNat).toNat) fun i_1:Nat=> AV.agg [AV.int .i64 (A.P (w (i:Int).toNat).toNat i_1),AV.int .i64 (A.V (w (i:Int).toNat).toNat i_1)])&&okAll (A.N (w (i:Int).toNat).toNat) fun i_1:Nat=> A.P (w (i:Int).toNat).toNat i_1)&&u64B l&&u64B (A.O (w (i:Int).toNat).toNat))) (∃ i':Nat,(i'<=c/\erS m w i'=(0:Int))/\(invAI m c A w l ek x).μ i'<(invAI m c A w l ek x).μ i/\(c0/\(0=0/\0=0/\0=0)/\(anS A w l ek x i||matchS (A.K (w (i:Int).toNat).toNat) (A.B (w (i:Int).toNat).toNat) (A.O (w (i:Int).toNat).toNat) (A.N (w (i:Int).toNat).toNat) (fun i_1:Nat=> A.P (w (i:Int).toNat).toNat i_1) (fun i_1:Nat=> A.V (w (i:Int).toNat).toNat i_1) l ek x)=anS A w l ek x i'/\c4/\(c:Int)=(c:Int)/\IntKind.i64.wrap ((i:Int)+(1:Int))=(i':Int)/\True)/\c2/\True))))) (anS A w l ek x i=anyB A m w c l ek x/\(0:Int)=anyE A m w c ek/\True)))):=by
 kernel_rfl
theorem er_succ {m:Nat} {w:Nat->Int} {i:Nat} (h:erS m w i=0):erS m w (i+1)=if w i<0\/w i>=m then 2 else 0:=by simp [erS,h]
theorem er_stay {m:Nat} {w:Nat->Int} {i:Nat} (h:erS m w i≠0):∀ d,erS m w (i+d)=erS m w i
 | 0=>rfl
 | d+1=>by
  have:=er_stay h d;show erS m w (i+d+1)=_;simp only [erS];rw [this,if_neg h]
theorem er_stop {m c:Nat} {w:Nat->Int} {i:Nat} (hi:i<c) (h:erS m w i=0) (hc:w i<0\/w i>=m):erS m w c=2:=by
 have h1:=er_succ h;rw [if_pos hc] at h1;have h2:=er_stay (m:=m) (w:=w) (i:=i+1) (by rw [h1]; decide) (c - (i+1))
 rw [show i+1+(c - (i+1))=c by omega,h1] at h2
 exact h2
theorem ck_of_all {A:Ats} {m:Nat} {ek:Int} (h:allE A m ek=0):ckS A m=0:=by
 refine Classical.byContradiction fun hne=>?_
 rw [allE,if_neg hne] at h;exact hne h
theorem anyI_pure (m c:Nat) (A:Ats) (w:Nat->Int) (l ek x:Int) (hm:m<=1000000) (hcn:c<=1000000) (hA:atsOK m A) (hl:u64B l=true):PureC Tryz.prog gN 88 [atsAV m A,wAV c w,.agg (evL l ek x)] (.tup [.bool (anyB A m w c l ek x),.int .i64 (anyE A m w c ek)]):=by
 refine pure_vcG mix tblE_ok ((anyI_vc m c A w l ek x).mpr ?_);have hma:∀ i,matchS (A.K i) (A.B i) (A.O i) (A.N i) (fun i_1=>A.P i i_1) (fun i_1=>A.V i i_1) l ek x=matchJ A l ek x i:=fun i=>rfl
 simp only [EqI,imp_self,true_and,and_true,implies_true,Int.toNat_natCast,List.length_cons,List.length_nil,condsB_agg,atsOf_at,atsB_at,okAts_iff.2 hA,hm,hma,hl,decide_true,Bool.and_self,NB_t,or_self,or_true,true_or,Nat.zero_add,Bool.true_and,Bool.and_true]
 refine VB_intro (fun hb=>?_) (fun hb=>?_)
 ·have hb':allE A m ek≠0:=by simpa using hb
  simp [anyB,anyE,hb']
 ·have hb':allE A m ek=0:=by simpa using hb
  have hall:=ck_all (ck_of_all hb');refine ⟨⟨0,by simp [erS],by simp [anS]⟩,fun i hi=>?_⟩
  obtain ⟨hi1,hi2⟩:=hi;refine VB_intro (fun hlt=>?_) (fun hlt=>?_)
  ·have hlt':i<c:=by have:=of_decide_eq_true hlt; omega
   refine NB_intro (decide_eq_true (by omega)) (VB_intro (fun hr=>?_) (fun hr=>?_))
   ·simp only [Bool.or_eq_true,decide_eq_true_eq] at hr;have:=er_stop hlt' hi2 hr;simp [anyB,anyE,hb',this]
   ·simp only [Bool.or_eq_false_iff,decide_eq_false_iff_not] at hr;have hj:(w i).toNat<m:=by omega
    obtain ⟨c1,c2,_⟩:=check_zero (hall _ hj);have e1:okAll (A.N (w i).toNat) (fun i_1=>A.P (w i).toNat i_1)=true:=c2
    rw [decide_eq_true (show (0:Int)<=w i/\w i<m by omega),decide_eq_true (show A.N (w i).toNat<=1000000 by omega),e1,(hA _ hj).2]
    refine NB_intro (by simp [impB_t]) (NB_intro (by simp [impB_t]) ?_)
    exact ⟨i+1,⟨by omega,by rw [er_succ hi2,if_neg (by omega)]⟩,by simp only [invAI]; omega,rfl,by rw [wrap_i64_id (by omega) (by omega)]; omega⟩
  ·have hie:i=c:=by have:=of_decide_eq_false hlt; omega
   subst hie;simp [anyB,anyE,hb',hi2]
end Go.Proofs.YtlnpgnipocbfhaaGreatDoor.Pd
