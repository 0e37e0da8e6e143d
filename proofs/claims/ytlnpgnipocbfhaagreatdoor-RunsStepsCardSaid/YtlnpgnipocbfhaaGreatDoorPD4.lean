/- RUNS, atoms: names. -/
import Derived.Test.YtlnpgnipocbfhaaGreatDoorPD1
namespace Go.Proofs.YtlnpgnipocbfhaaGreatDoor.Pd
open Pw Go
set_option maxRecDepth 100000
def gN:Nat->AV:=strsG 0 [[99,111,117,110,116],[115,117,109],[109,105,110],[109,97,120],[102,105,114,115,116],[108,97,115,116]]
def lowC (s:List UInt8) (i:Nat):Bool:=decide (97<=((s.getD i 0).toNat:Int))&&decide (((s.getD i 0).toNat:Int)<=122)
def invN1 (s:List UInt8):Inv:=⟨Nat,1,fun i=>⟨[(0,.str s),(13,.rof s.length (fun i=>.int .u8 ((s.getD i 0).toNat)) false),(14,.int .i64 s.length),(15,.int .i64 i)],[]⟩,fun i=>i<=s.length/\∀ j,j<i->lowC s j=true,fun i=>s.length - i⟩
def invN2 (s:List UInt8):Inv:=⟨Nat,1,fun i=>⟨[(0,.str s),(3,.int .i64 i)],[]⟩,fun i=>i<=s.length/\∀ j,j<i->lowC s j=true,fun i=>s.length - i⟩
theorem nameI_vc (s:List UInt8) (r:Bool):(vcFun (mkG Tryz.prog gN (tblOf []) (fun f b=>if f=248/\b=0 then some (invN1 s) else none) 8) 20 248 [.str s] .nil 0 (retP 3 (.bool r))).sat=(let c0:=(VB (s==[(99:UInt8),(111:UInt8),(117:UInt8),(110:UInt8),(116:UInt8)]) (false=r) (VB (s==[(115:UInt8),(117:UInt8),(109:UInt8)]) (false=r) (VB (s==[(109:UInt8),(105:UInt8),(110:UInt8)]) (false=r) (VB (s==[(109:UInt8),(97:UInt8),(120:UInt8)]) (false=r) (VB (s==[(102:UInt8),(105:UInt8),(114:UInt8),(115:UInt8),(116:UInt8)]) (false=r) (VB (s==[(108:UInt8),(97:UInt8),(115:UInt8),(116:UInt8)]) (false=r) (true=r)))))))
 let c1:=(s.length=s.length/\(∀ i:Nat,i<s.length->(↑(s.getD i (0:UInt8)).toNat:Int)=(↑(s.getD i (0:UInt8)).toNat:Int)/\[AV.int .u8 (↑(s.getD i (0:UInt8)).toNat:Int)].length=[AV.int .u8 (↑(s.getD i (0:UInt8)).toNat:Int)].length)/\(false=true->false=true))
 let c2:=(s==[(119:UInt8),(105:UInt8),(116:UInt8),(104:UInt8),(105:UInt8),(110:UInt8)])
 let c3:=(s==[(104:UInt8),(97:UInt8),(118:UInt8),(105:UInt8),(110:UInt8),(103:UInt8)])
 VB (s==[]||decide ((s.length:Int) > (8:Int))) (false=r) (NB (decide (s.length<=9223372036854775807)) ((∃ i:Nat,(i<=s.length/\∀ j:Nat,j<i->lowC s j=true)/\(s=s/\c1/\(s.length:Int)=(s.length:Int)/\(0:Int)=(i:Int)/\True)/\True)/\∀ i:Nat,(i<=s.length/\∀ j:Nat,j<i->lowC s j=true)->VB (decide ((i:Int)<(s.length:Int))) (NB (decide ((0:Int)<=(i:Int)/\(i:Int)<(s.length:Int))) (VB (decide ((↑(s.getD (i:Int).toNat (0:UInt8)).toNat:Int)<(97:Int))||decide ((↑(s.getD (i:Int).toNat (0:UInt8)).toNat:Int) > (122:Int))) (false=r) (∃ i':Nat,(i'<=s.length/\∀ j:Nat,j<i'->lowC s j=true)/\(invN1 s).μ i'<(invN1 s).μ i/\(s=s/\c1/\(s.length:Int)=(s.length:Int)/\IntKind.i64.wrap ((i:Int)+(1:Int))=(i':Int)/\True)/\True))) (VB c2 (VB c2 (false=r) c0) (VB c3 (VB c3 (false=r) c0) (VB (s==[(97:UInt8),(110:UInt8),(100:UInt8)]) (VB (s==[(97:UInt8),(110:UInt8),(100:UInt8)]) (false=r) c0) (VB (s==[(101:UInt8),(109:UInt8),(105:UInt8),(116:UInt8)]) (VB (s==[(101:UInt8),(109:UInt8),(105:UInt8),(116:UInt8)]) (false=r) c0) (VB (s==[(110:UInt8),(111:UInt8),(116:UInt8)]) (false=r) c0)))))))):=by
 kernel_rfl
theorem nameR_vc (s:List UInt8) (r:Bool):(vcFun (mkG Tryz.prog gN (tblOf []) (fun f b=>if f=245/\b=0 then some (invN2 s) else none) 13) 20 245 [.str s] .nil 0 (retP 3 (.bool r))).sat=(VB (decide ((s.length:Int)<(1:Int))||decide ((s.length:Int) > (8:Int))) (false=r) ((∃ i:Nat,(i<=s.length/\∀ j:Nat,j<i->lowC s j=true)/\(s=s/\(0:Int)=(i:Int)/\True)/\True)/\∀ i:Nat,(i<=s.length/\∀ j:Nat,j<i->lowC s j=true)->VB (decide ((i:Int)<(s.length:Int))) (NB (decide ((0:Int)<=(i:Int)/\(i:Int)<(s.length:Int))) (NB (impB (isW false (decide ((↑(s.getD (i:Int).toNat (0:UInt8)).toNat:Int)<(97:Int)))) (decide ((0:Int)<=(i:Int)/\(i:Int)<(s.length:Int)))) (VB (decide ((↑(s.getD (i:Int).toNat (0:UInt8)).toNat:Int)<(97:Int))||decide ((↑(s.getD (i:Int).toNat (0:UInt8)).toNat:Int) > (122:Int))) (false=r) (∃ i':Nat,(i'<=s.length/\∀ j:Nat,j<i'->lowC s j=true)/\(invN2 s).μ i'<(invN2 s).μ i/\(s=s/\IntKind.i64.wrap ((i:Int)+(1:Int))=(i':Int)/\True)/\True)))) (VB ([(119:UInt8),(105:UInt8),(116:UInt8),(104:UInt8),(105:UInt8),(110:UInt8)]==s) (false=r) (VB ([(104:UInt8),(97:UInt8),(118:UInt8),(105:UInt8),(110:UInt8),(103:UInt8)]==s) (false=r) (VB ([(97:UInt8),(110:UInt8),(100:UInt8)]==s) (false=r) (VB ([(101:UInt8),(109:UInt8),(105:UInt8),(116:UInt8)]==s) (false=r) (VB ([(110:UInt8),(111:UInt8),(116:UInt8)]==s) (false=r) (VB ([(99:UInt8),(111:UInt8),(117:UInt8),(110:UInt8),(116:UInt8)]==s) (false=r) (VB ([(115:UInt8),(117:UInt8),(109:UInt8)]==s) (false=r) (VB ([(109:UInt8),(105:UInt8),(110:UInt8)]==s) (false=r) (VB ([(109:UInt8),(97:UInt8),(120:UInt8)]==s) (false=r) (VB ([(102:UInt8),(105:UInt8),(114:UInt8),(115:UInt8),(116:UInt8)]==s) (false=r) (VB ([(108:UInt8),(97:UInt8),(115:UInt8),(116:UInt8)]==s) (false=r) (true=r)))))))))))))):=by
 kernel_rfl
def kwsL:List (List UInt8):=[[119,105,116,104,105,110],[104,97,118,105,110,103],[97,110,100],[101,109,105,116],[110,111,116],[99,111,117,110,116],[115,117,109],[109,105,110],[109,97,120],[102,105,114,115,116],[108,97,115,116]]
def nameS (s:List UInt8):Bool:=!(s==[])&&decide (s.length<=8)&&(List.range s.length).all (lowC s)&&!(kwsL.any fun w=>w==s)
theorem kw_true {s w:List UInt8} (hw:w∈kwsL) (h:w=s):(kwsL.any fun w=>w==s)=true:=List.any_eq_true.2 ⟨w,hw,by simpa using h⟩
theorem kw1 {s w:List UInt8} {r:Bool} {Q:Prop} (hr:r=!(kwsL.any fun w=>w==s)) (hw:w∈kwsL) (h:(s==w)=false->Q):VB (s==w) (false=r) Q :=
 VB_intro (fun e=>by rw [hr,kw_true hw (by simpa using (beq_iff_eq.1 e).symm)]; rfl) h
theorem kw2 {s w:List UInt8} {r:Bool} {X Q:Prop} (hr:r=!(kwsL.any fun w=>w==s)) (hw:w∈kwsL) (h:(s==w)=false->Q):VB (s==w) (VB (s==w) (false=r) X) Q :=
 VB_intro (fun e=>kw1 hr hw (fun e'=>by rw [e] at e'; cases e')) h
theorem kw3 {s w:List UInt8} {r:Bool} {Q:Prop} (hr:r=!(kwsL.any fun w=>w==s)) (hw:w∈kwsL) (h:(s==w)=false->Q):VB (w==s) (false=r) Q :=
 VB_intro (fun e=>by rw [hr,kw_true hw (by simpa using e)]; rfl) (fun e=>h (by rw [Bool.eq_false_iff] at e ⊢; intro e'; exact e (by simpa using (beq_iff_eq.1 e').symm)))
theorem kw_false {s:List UInt8} (h:∀ w∈kwsL,(s==w)=false):true=!(kwsL.any fun w=>w==s):=by
 have:(kwsL.any fun w=>w==s)=false:=by
  rw [Bool.eq_false_iff];intro hc;obtain ⟨w,hw,e⟩:=List.any_eq_true.1 hc;have:=h w hw;rw [Bool.eq_false_iff] at this;exact this (by simpa using (beq_iff_eq.1 e).symm)
 rw [this]; rfl
theorem name_at {s:List UInt8} (h1:s≠[]) (h8:s.length<=8) (hl:∀ j,j<s.length->lowC s j=true):nameS s=!(kwsL.any fun w=>w==s):=by
 have e1:(s==[])=false:=by simpa using h1
 have e2:(List.range s.length).all (lowC s)=true:=by simpa using hl
 simp only [nameS,e1,e2,h8,decide_true,Bool.not_false,Bool.true_and]
theorem name_low {s:List UInt8} {j:Nat} (hj:j<s.length) (hl:lowC s j=false):false=nameS s:=by
 have e2:(List.range s.length).all (lowC s)=false:=by
  rw [Bool.eq_false_iff];intro hc;have:=List.all_eq_true.1 hc j (by simpa using hj)
  rw [hl] at this; cases this
 simp [nameS,e2]
theorem nameI_pure (s:List UInt8) (hm:s.length<=9223372036854775807):PureC Tryz.prog gN 248 [.str s] (.bool (nameS s)):=by
 refine pure_vcG mix (tblG_nil _ _) ((nameI_vc s _).mpr ?_);simp only [EqI,imp_self,true_and,and_true,implies_true,Int.toNat_natCast,List.length_cons,List.length_nil];refine VB_intro (fun h=>?_) (fun h=>?_)
 ·simp only [Bool.or_eq_true,beq_iff_eq,decide_eq_true_eq] at h;rcases h with h|h
  ·subst h; rfl
  ·have:¬ s.length<=8:=by omega
   simp [nameS,this]
 ·simp only [Bool.or_eq_false_iff,beq_eq_false_iff_ne,decide_eq_false_iff_not] at h;refine NB_intro (decide_eq_true hm) ⟨⟨0,⟨by omega,fun j hj=>by omega⟩,by simp⟩,fun i hi=>?_⟩
  obtain ⟨hi1,hi2⟩:=hi;refine VB_intro (fun hlt=>?_) (fun hlt=>?_)
  ·have hlt':i<s.length:=by have:=of_decide_eq_true hlt; omega
   refine NB_intro (decide_eq_true (by omega)) (VB_intro (fun hb=>?_) (fun hb=>?_))
   ·refine name_low hlt' ?_;simp only [Bool.or_eq_true,decide_eq_true_eq] at hb;simp only [lowC,Bool.and_eq_false_iff,decide_eq_false_iff_not];omega
   ·simp only [Bool.or_eq_false_iff,decide_eq_false_iff_not] at hb;refine ⟨i+1,⟨by omega,fun j hj=>?_⟩,by simp only [invN1]; omega,by rw [wrap_i64_id (by omega) (by omega)]; omega⟩
    rcases Nat.lt_or_ge j i with h'|h'
    ·exact hi2 j h'
    ·obtain rfl:j=i:=by omega
     simp only [lowC,Bool.and_eq_true,decide_eq_true_eq];omega
  ·have hie:i=s.length:=by have:=of_decide_eq_false hlt; omega
   subst hie;have hr:=name_at h.1 (by omega) hi2
   refine kw2 hr (by decide) fun h1=>kw2 hr (by decide) fun h2=>kw2 hr (by decide) fun h3=>kw2 hr (by decide) fun h4=>kw1 hr (by decide) fun h5 =>
    kw1 hr (by decide) fun h6=>kw1 hr (by decide) fun h7=>kw1 hr (by decide) fun h8=>kw1 hr (by decide) fun h9=>kw1 hr (by decide) fun h10=>kw1 hr (by decide) fun h11=>?_
   rw [hr];exact kw_false (by simp only [kwsL,List.forall_mem_cons]; exact ⟨h1,h2,h3,h4,h5,h6,h7,h8,h9,h10,h11,fun _ h=>by cases h⟩)
theorem nameR_pure (s:List UInt8):PureC Tryz.prog gN 245 [.str s] (.bool (nameS s)):=by
 refine pure_vcG mix (tblG_nil _ _) ((nameR_vc s _).mpr ?_);simp only [EqI,imp_self,true_and,and_true,implies_true,Int.toNat_natCast,List.length_cons,List.length_nil];refine VB_intro (fun h=>?_) (fun h=>?_)
 ·simp only [Bool.or_eq_true,decide_eq_true_eq] at h;rcases h with h|h
  ·have:s=[]:=List.eq_nil_of_length_eq_zero (by omega)
   subst this; rfl
  ·have:¬ s.length<=8:=by omega
   simp [nameS,this]
 ·simp only [Bool.or_eq_false_iff,decide_eq_false_iff_not] at h;refine ⟨⟨0,⟨by omega,fun j hj=>by omega⟩,by simp⟩,fun i hi=>?_⟩
  obtain ⟨hi1,hi2⟩:=hi;refine VB_intro (fun hlt=>?_) (fun hlt=>?_)
  ·have hlt':i<s.length:=by have:=of_decide_eq_true hlt; omega
   have hd:decide ((0:Int)<=(i:Int)/\(i:Int)<(s.length:Int))=true:=decide_eq_true (by omega)
   rw [hd];refine NB_intro rfl (NB_intro (by simp [impB_t]) (VB_intro (fun hb=>?_) (fun hb=>?_)))
   ·refine name_low hlt' ?_;simp only [Bool.or_eq_true,decide_eq_true_eq] at hb;simp only [lowC,Bool.and_eq_false_iff,decide_eq_false_iff_not];omega
   ·simp only [Bool.or_eq_false_iff,decide_eq_false_iff_not] at hb;refine ⟨i+1,⟨by omega,fun j hj=>?_⟩,by simp only [invN2]; omega,by rw [wrap_i64_id (by omega) (by omega)]; omega⟩
    rcases Nat.lt_or_ge j i with h'|h'
    ·exact hi2 j h'
    ·obtain rfl:j=i:=by omega
     simp only [lowC,Bool.and_eq_true,decide_eq_true_eq];omega
  ·have hie:i=s.length:=by have:=of_decide_eq_false hlt; omega
   subst hie;have hr:=name_at (fun e=>by rw [e] at h; simp at h) (by omega) hi2
   refine kw3 hr (by decide) fun h1=>kw3 hr (by decide) fun h2=>kw3 hr (by decide) fun h3=>kw3 hr (by decide) fun h4=>kw3 hr (by decide) fun h5 =>
    kw3 hr (by decide) fun h6=>kw3 hr (by decide) fun h7=>kw3 hr (by decide) fun h8=>kw3 hr (by decide) fun h9=>kw3 hr (by decide) fun h10=>kw3 hr (by decide) fun h11=>?_
   rw [hr];exact kw_false (by simp only [kwsL,List.forall_mem_cons]; exact ⟨h1,h2,h3,h4,h5,h6,h7,h8,h9,h10,h11,fun _ h=>by cases h⟩)
def cName:Ctr
 | [.str s]=>some (decide (s.length<=9223372036854775807),.bool (nameS s))
 | _=>none
theorem nameI_ok:PureG Tryz.prog gN 248 cName:=by
 intro args nd v he hnd;unfold cName at he;split at he <;> cases he
 exact nameI_pure _ (of_decide_eq_true hnd)
theorem nameR_ok:PureG Tryz.prog gN 245 cName:=by
 intro args nd v he hnd;unfold cName at he;split at he <;> cases he
 exact nameR_pure _
def tblN:List (Nat×Ctr):=[(248,cName),(245,cName)]
theorem tblN_ok:TblOK Tryz.prog gN (tblOf tblN):=tblG_cons nameI_ok (tblG_cons nameR_ok (tblG_nil _ _))
def atomL (k:Int) (bd:Bool) (bo:Int) (n:Nat) (o v:Nat->Int) (nm:List UInt8):List AV:=[.int .i64 k,.bool bd,.int .u64 bo,condsAV n o v,.str nm]
def invCF (n:Nat) (o v:Nat->Int):Inv:=⟨Nat,50,fun i=>⟨[(0,condsAV n o v),(1,.fn (.func 255) [] []),(7,.int .i64 n),(8,.int .i64 i)],[]⟩,fun i=>i<=n/\∀ j,j<i->okOp (o j)=true,fun i=>n - i⟩
def invAR (k:Int) (bd:Bool) (bo:Int) (n:Nat) (o v:Nat->Int) (nm:List UInt8):Inv:=⟨Nat,50,fun i=>⟨[(1,.ptr 0 0 0 0),(3,.int .i64 i)],[(0,.row 0 5 true (.lst [.agg (atomL k bd bo n o v nm)]))]⟩,fun i=>i<=n/\∀ j,j<i->okOp (o j)=true,fun i=>n - i⟩
def bitS (a:Int) (i:Nat):Bool:=andI .u64 (shrI .u64 a i) 1==1
def invBL (a b:Int):Inv:=⟨Nat,1,fun i=>⟨[(0,.int .u64 a),(1,.int .u64 b),(5,.int .i64 i)],[]⟩,fun i=>i<=64/\∀ j,j<i->(bitS a j=true->bitS b j=true),fun i=>64 - i⟩
theorem atomI_vc (k:Int) (bd:Bool) (bo:Int) (n:Nat) (o v:Nat->Int) (nm:List UInt8) (r:Bool):(vcFun (mkG Tryz.prog gN (tblOf tblN) (fun f b=>if f=264/\b=0 then some (invCF n o v) else none) 0) 20 221 [.agg [.int .i64 k,.bool bd,.int .u64 bo,.rof n (fun i=>.agg [.int .i64 (o i),.int .i64 (v i)]) false,.str nm]] .nil 0 (retP 3 (.bool r))).sat=(let c0:=(n=n/\(∀ i:Nat,i<n->(o i=o i/\v i=v i/\True)/\[AV.int .i64 (o i),AV.int .i64 (v i)].length=[AV.int .i64 (o i),AV.int .i64 (v i)].length)/\(false=true->false=true))
 let c1:=((decide (k>=(0:Int))&&decide (k<=(25:Int))&&(bd||bo==(0:Int))&&(nm==[]||nameS nm)&&true)=r)
 NB (impB (isW true (decide (k>=(0:Int))&&decide (k<=(25:Int))&&(bd||bo==(0:Int)))&&isW false (nm==[])) (decide (nm.length<=9223372036854775807))) (VB (isW true (decide (k>=(0:Int))&&decide (k<=(25:Int))&&(bd||bo==(0:Int))&&(nm==[]||nameS nm))) ((∃ i:Nat,(i<=n/\∀ j:Nat,j<i->okOp (o j)=true)/\(c0/\(Fn.func 255=Fn.func (255:FuncId)/\True/\True)/\(n:Int)=(n:Int)/\(0:Int)=(i:Int)/\True)/\True)/\∀ i:Nat,(i<=n/\∀ j:Nat,j<i->okOp (o j)=true)->VB (decide ((i:Int)<(n:Int))) (NB (decide ((0:Int)<=(i:Int)/\(i:Int)<(n:Int))) (VB (!(decide (o (i:Int).toNat>=(1:Int))&&decide (o (i:Int).toNat<=(6:Int)))) ((decide (k>=(0:Int))&&decide (k<=(25:Int))&&(bd||bo==(0:Int))&&(nm==[]||nameS nm)&&!decide ((i:Int)>=(0:Int)))=r) (∃ i':Nat,(i'<=n/\∀ j:Nat,j<i'->okOp (o j)=true)/\(invCF n o v).μ i'<(invCF n o v).μ i/\(c0/\(Fn.func (255:FuncId)=Fn.func (255:FuncId)/\True/\True)/\(n:Int)=(n:Int)/\IntKind.i64.wrap ((i:Int)+(1:Int))=(i':Int)/\True)/\True))) c1) c1)):=by
 kernel_rfl
theorem atomR_vc (k:Int) (bd:Bool) (bo:Int) (n:Nat) (o v:Nat->Int) (nm:List UInt8) (r:Bool):(vcFun (mkG Tryz.prog gN (tblOf tblN) (fun f b=>if f=225/\b=0 then some (invAR k bd bo n o v nm) else none) 0) 20 225 [.agg [.int .i64 k,.bool bd,.int .u64 bo,.rof n (fun i=>.agg [.int .i64 (o i),.int .i64 (v i)]) false,.str nm]] .nil 0 (retP 3 (.bool r))).sat=(let c0:=(k=k/\bd=bd/\bo=bo/\(n=n/\(∀ i:Nat,i<n->(o i=o i/\v i=v i/\True)/\[AV.int .i64 (o i),AV.int .i64 (v i)].length=[AV.int .i64 (o i),AV.int .i64 (v i)].length)/\(false=true->false=true))/\nm=nm/\True)
 (∃ i:Nat,(i<=n/\∀ j:Nat,j<i->okOp (o j)=true)/\((0=0/\0=0/\0=0)/\(0:Int)=(i:Int)/\True)/\(0=0/\(true=true->true=true)/\(c0/\[AV.int .i64 k,AV.bool bd,AV.int .u64 bo,AV.rof n (fun i:Nat=> AV.agg [AV.int .i64 (o i),AV.int .i64 (v i)]) false,AV.str nm].length=[AV.int .i64 k,AV.bool bd,AV.int .u64 bo,condsAV n o v,AV.str nm].length)/\True)/\True)/\∀ i:Nat,(i<=n/\∀ j:Nat,j<i->okOp (o j)=true)->VB (decide ((i:Int)<(n:Int))) (NB (decide ((0:Int)<=(i:Int)/\(i:Int)<(n:Int))) (VB (!(decide (o (i:Int).toNat>=(1:Int))&&decide (o (i:Int).toNat<=(6:Int)))) (false=r) (∃ i':Nat,(i'<=n/\∀ j:Nat,j<i'->okOp (o j)=true)/\(invAR k bd bo n o v nm).μ i'<(invAR k bd bo n o v nm).μ i/\((0=0/\0=0/\0=0)/\IntKind.i64.wrap ((i:Int)+(1:Int))=(i':Int)/\True)/\(0=0/\(true=true->true=true)/\(c0/\[AV.int .i64 k,AV.bool bd,AV.int .u64 bo,condsAV n o v,AV.str nm].length=[AV.int .i64 k,AV.bool bd,AV.int .u64 bo,condsAV n o v,AV.str nm].length)/\True)/\True))) (NB (impB (isW true (decide (k>=(0:Int))&&decide (k<=(25:Int))&&(bd||bo==(0:Int)))&&isW false (nm==[])) (decide (nm.length<=9223372036854775807))) ((decide (k>=(0:Int))&&decide (k<=(25:Int))&&(bd||bo==(0:Int))&&(nm==[]||nameS nm))=r))):=by
 kernel_rfl
theorem below_vc (a b:Int) (r:Bool):(vcFun (mkG Tryz.prog gN (tblOf tblN) (fun f b'=>if f=192/\b'=0 then some (invBL a b) else none) 0) 20 192 [.int .u64 a,.int .u64 b] .nil 0 (retP 3 (.bool r))).sat=(let c1:=fun i:Nat=> (i<=64/\∀ j:Nat,j<i->bitS a j=true->bitS b j=true)
 let c0:=fun i:Nat=> (∃ i':Nat,(c1 i')/\(invBL a b).μ i'<(invBL a b).μ i/\(a=a/\b=b/\IntKind.i64.wrap ((i:Int)+(1:Int))=(i':Int)/\True)/\True)
 (∃ i:Nat,(c1 i)/\(a=a/\b=b/\(0:Int)=(i:Int)/\True)/\True)/\∀ i:Nat,(c1 i)->VB (decide ((i:Int)<(64:Int))) (VB (isW true (andI .u64 (shrI .u64 a (IntKind.u64.wrap (i:Int))) (1:Int)==(1:Int))) (VB (andI .u64 (shrI .u64 a (IntKind.u64.wrap (i:Int))) (1:Int)==(1:Int)&&!andI .u64 (shrI .u64 b (IntKind.u64.wrap (i:Int))) (1:Int)==(1:Int)) (false=r) (c0 i)) (VB (andI .u64 (shrI .u64 a (IntKind.u64.wrap (i:Int))) (1:Int)==(1:Int)&&true) (false=r) (c0 i))) (true=r)):=by
 kernel_rfl
def atomS (k:Int) (bd:Bool) (bo:Int) (n:Nat) (o:Nat->Int) (nm:List UInt8):Bool:=decide (k>=0)&&decide (k<=25)&&(bd||bo==0)&&(nm==[]||nameS nm)&&okAll n o
def belowS (a b:Int):Bool:=(List.range 64).all fun i=>!bitS a i||bitS b i
theorem belowS_iff {a b:Int}:belowS a b=true ↔ ∀ j,j<64->(bitS a j=true->bitS b j=true):=by
 simp only [belowS,List.all_eq_true,List.mem_range,Bool.or_eq_true,Bool.not_eq_true'];constructor
 ·intro h j hj hb;rcases h j hj with h|h
  ·rw [hb] at h; cases h
  ·exact h
 ·intro h j hj;cases hb:bitS a j with
  | false=>exact .inl rfl
  | true=>exact .inr (h j hj hb)
theorem bitS_nat (A:Nat) (i:Nat) (hA:A<2 ^ 64) (hi:i<64):bitS (A:Int) i=A.testBit i:=by
 have e1:shrI .u64 (A:Int) (i:Int)=((A / 2 ^ i:Nat):Int):=by
  simp only [shrI,Int.toNat_natCast];rw [show min i IntKind.u64.bits=i by simp [IntKind.bits]; omega,Int.fdiv_eq_ediv_of_nonneg _ (Int.le_of_lt (Int.pow_pos (by decide)))]
  simp
 simp only [bitS,e1,andI];have e2:BitVec.ofInt IntKind.u64.bits ((A / 2 ^ i:Nat):Int)=BitVec.ofNat 64 (A / 2 ^ i):=by
  show BitVec.ofInt 64 _=_;exact BitVec.ofInt_natCast 64 _
 have e3:BitVec.ofInt IntKind.u64.bits 1=BitVec.ofNat 64 1:=rfl;have hlt:A / 2 ^ i<2 ^ 64:=Nat.lt_of_le_of_lt (Nat.div_le_self _ _) hA
 have e4:(BitVec.ofInt IntKind.u64.bits ((A / 2 ^ i:Nat):Int) &&& BitVec.ofInt IntKind.u64.bits 1).toNat=A / 2 ^ i % 2:=by
  rw [e2,e3];show (BitVec.ofNat 64 (A / 2 ^ i) &&& BitVec.ofNat 64 1).toNat=_;rw [BitVec.toNat_and,BitVec.toNat_ofNat,BitVec.toNat_ofNat,Nat.mod_eq_of_lt hlt,show 1 % 2 ^ 64=1 from rfl,Nat.and_one_is_mod]
 rw [e4,wrap_u64,Nat.testBit_eq_decide_div_mod_eq];have h2:A / 2 ^ i % 2<2:=Nat.mod_lt _ (by decide)
 generalize A / 2 ^ i % 2=q at h2;have:q=0\/q=1:=by omega
 rcases this with rfl|rfl <;> rfl
theorem below_bits {a b:Int} (ha:0<=a/\a<=18446744073709551615) (hb:0<=b/\b<=18446744073709551615):(andNotI .u64 a b==0)=belowS a b:=by
 obtain ⟨A,rfl⟩:=Int.eq_ofNat_of_zero_le ha.1;obtain ⟨B,rfl⟩:=Int.eq_ofNat_of_zero_le hb.1;have hA:A<2 ^ 64:=by omega
 have hB:B<2 ^ 64:=by omega
 have e:andNotI .u64 (A:Int) (B:Int)=((BitVec.ofNat 64 A &&& ~~~BitVec.ofNat 64 B).toNat:Int):=by
  simp only [andNotI];rw [wrap_u64];have e1:BitVec.ofInt IntKind.u64.bits (A:Int)=BitVec.ofNat 64 A:=BitVec.ofInt_natCast 64 _;have e2:BitVec.ofInt IntKind.u64.bits (B:Int)=BitVec.ofNat 64 B:=BitVec.ofInt_natCast 64 _;rw [e1,e2]
  have:=(BitVec.ofNat 64 A &&& ~~~BitVec.ofNat 64 B).isLt;show ((BitVec.ofNat 64 A &&& ~~~BitVec.ofNat 64 B).toNat:Int) % 18446744073709551616=_;omega
 rw [e,Bool.eq_iff_iff,belowS_iff];simp only [beq_iff_eq];have key:∀ j,j<64->(BitVec.ofNat 64 A &&& ~~~BitVec.ofNat 64 B).getLsbD j=(A.testBit j&&!B.testBit j):=fun j hj=>by
  rw [BitVec.getLsbD_and,BitVec.getLsbD_not,BitVec.getLsbD_ofNat,BitVec.getLsbD_ofNat];simp [hj]
 constructor
 ·intro h j hj hbj;have h0:BitVec.ofNat 64 A &&& ~~~BitVec.ofNat 64 B=0#64:=by
   apply BitVec.eq_of_toNat_eq;rw [show (0#64).toNat=0 from rfl];omega
  have:=key j hj;rw [h0] at this;rw [bitS_nat A j hA hj] at hbj;rw [bitS_nat B j hB hj];simp [hbj] at this;exact this
 ·intro h;have h0:BitVec.ofNat 64 A &&& ~~~BitVec.ofNat 64 B=0#64:=by
   apply BitVec.eq_of_getLsbD_eq;intro j hj;rw [key j hj];have:=h j hj;rw [bitS_nat A j hA hj,bitS_nat B j hB hj] at this;cases hq:A.testBit j
   ·simp
   ·simp [this hq]
  rw [h0];rfl
theorem below_pure (a b:Int):PureC Tryz.prog gN 192 [.int .u64 a,.int .u64 b] (.bool (belowS a b)):=by
 refine pure_vcG mix tblN_ok ((below_vc a b _).mpr ?_);simp only [EqI,imp_self,true_and,and_true,implies_true,isW_t];refine ⟨⟨0,⟨by omega,fun j hj=>by omega⟩,by simp⟩,fun i hi=>?_⟩
 obtain ⟨hi1,hi2⟩:=hi;refine VB_intro (fun h=>?_) (fun h=>?_)
 ·have hlt:i<64:=by have:=of_decide_eq_true h; omega
  have hw:IntKind.u64.wrap (i:Int)=i:=wrap_u64_id (by omega) (by omega)
  have hw2:IntKind.i64.wrap ((i:Int)+1)=((i+1:Nat):Int):=by rw [wrap_i64_id (by omega) (by omega)]; omega
  rw [hw];show VB (bitS a i) (VB (bitS a i&&!bitS b i) _ _) (VB (bitS a i&&true) _ _)
  have next:(bitS a i=true->bitS b i=true)->∃ i',(i'<=64/\∀ j,j<i'->bitS a j=true->bitS b j=true)/\(invBL a b).μ i'<(invBL a b).μ i/\IntKind.i64.wrap ((i:Int)+1)=(i':Int):=fun hn =>
   ⟨i+1,⟨by omega,fun j hj=>by
    rcases Nat.lt_or_ge j i with h'|h'
    ·exact hi2 j h'
    ·obtain rfl:j=i:=by omega
     exact hn⟩,by simp only [invBL]; omega,hw2⟩
  cases ha:bitS a i with
  | false=>exact next (fun h=>by rw [ha] at h; cases h)
  | true =>
   cases hb:bitS b i with
   | true=>exact next (fun _=>hb)
   | false =>
    show false=belowS a b;cases hq:belowS a b with
    | false=>rfl
    | true =>
     have:=belowS_iff.1 hq i hlt ha;rw [hb] at this; cases this
 ·have hie:i=64:=by have:=of_decide_eq_false h; omega
  subst hie;exact (belowS_iff.2 hi2).symm
def cBelow:Ctr
 | [.int .u64 a,.int .u64 b]=>some (true,.bool (belowS a b))
 | _=>none
theorem below_ok:PureG Tryz.prog gN 192 cBelow:=by
 intro args nd v he hnd;unfold cBelow at he;split at he <;> cases he
 exact below_pure _ _
theorem okAll_no {n:Nat} {o:Nat->Int} {i:Nat} (hi:i<n) (h:okOp (o i)=false):okAll n o=false:=by
 rw [Bool.eq_false_iff];intro hc;have:=okAll_iff.1 hc i hi;rw [h] at this; cases this
end Go.Proofs.YtlnpgnipocbfhaaGreatDoor.Pd
