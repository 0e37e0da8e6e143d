/- TREES E: slots, nodes and trees that are equal: conditions. -/
import Derived.Test.YtlnpgnipocbfhaaGreatDoorNL8
namespace Go.Proofs.YtlnpgnipocbfhaaGreatDoor
open Pw Go
set_option maxRecDepth 100000
def isTwig:AV->Bool
 | .agg [.int .i64 _,.rof n f _,.int .i64 _,.rof m g _,.bool _,.int .i64 _]=>intsB n f&&intsB m g
 | _=>false
def twigOf:AV->TwigG
 | .agg [.int _ a,.rof n f _,.int _ p,.rof m g _,.bool e,.int _ z]=>((a,intsOf' n f,()),p,intsOf' m g,e,z,())
 | _=>twigD
def few2 (x:TwigG):Bool:=decide (x.slot.gds.length<=1000000)&&decide (x.kids.length<=1000000)
def cEqI:Ctr
 | [.rof n f _,.rof m g _]=>some (decide (n<=1000000)&&decide (m<=1000000)&&intsB n f&&intsB m g,.bool (decide (intsOf' n f=intsOf' m g)))
 | _=>none
def cSameI:Ctr
 | [.rof n f _,.rof m g _,.fn (.func h) [] []]=>some (decide (n<=1000000)&&decide (m<=1000000)&&decide (h=169)&&intsB n f&&intsB m g,.bool (decide (intsOf' n f=intsOf' m g)))
 | _=>none
def cSameT:Ctr
 | [.agg x,.agg y]=>some (isTwig (.agg x)&&isTwig (.agg y)&&few2 (twigOf (.agg x))&&few2 (twigOf (.agg y)),.bool (decide (twigOf (.agg x)=twigOf (.agg y))))
 | _=>none
def invEq (l m:List Int):Inv:=⟨Nat,10,fun i=>⟨[(0,intsA l),(1,intsA m),(11,intsA l),(12,.int .i64 l.length),(13,.int .i64 i)],[]⟩,fun i=>i<=l.length/\∀ j,j<i->l.getD j 0=m.getD j 0,fun i=>l.length - i⟩
def invSI (l m:List Int):Inv:=⟨Nat,10,fun i=>⟨[(0,intsA l),(1,intsA m),(2,.fn (.func 169) [] []),(15,intsA l),(16,.int .i64 l.length),(17,.int .i64 i)],[]⟩,fun i=>i<=l.length/\∀ j,j<i->l.getD j 0=m.getD j 0,fun i=>l.length - i⟩
def invST (l m:List TwigG):Inv:=⟨Nat,10,fun i=>⟨[(0,twigsA l),(1,twigsA m),(2,.fn (.func 138) [] []),(15,twigsA l),(16,.int .i64 l.length),(17,.int .i64 i)],[]⟩,fun i=>i<=l.length/\∀ j,j<i->l.getD j twigD=m.getD j twigD,fun i=>l.length - i⟩
noncomputable def EEq (l m:List Int):Env:=mkE Tryz.prog (tblOf []) (fun f b=>if f=197/\b=0 then some (invEq l m) else if f=198/\b=0 then some (invSI l m) else none)
noncomputable def ETw:Env:=mkE Tryz.prog (tblOf [(197,cEqI),(168,cSameI)]) (fun _ _=>none)
noncomputable def EST (l m:List TwigG):Env:=mkE Tryz.prog (tblOf [(138,cSameT)]) (fun f b=>if f=166/\b=0 then some (invST l m) else none)
theorem eqI_vc (l m:List Int) (v:Bool):(vcFun (EEq l m) 20 197 [intsA l,intsA m] .nil 0 (retP 3 (.bool v))).sat=(let c0:=fun i:Nat=> (i<=l.length/\∀ j:Nat,j<i->l.getD j (0:Int)=m.getD j (0:Int))
 VB ((l.length:Int) !=(m.length:Int)) (false=v) ((∃ i:Nat,(c0 i)/\((intsA l).sub (intsA l)/\(intsA m).sub (intsA m)/\(intsA l).sub (intsA l)/\(l.length:Int)=(l.length:Int)/\(0:Int)=(i:Int)/\True)/\True)/\∀ i:Nat,(c0 i)->VB (decide ((i:Int)<(l.length:Int))) (NB (decide ((0:Int)<=(i:Int)/\(i:Int)<(l.length:Int))) (NB (decide ((0:Int)<=(i:Int)/\(i:Int)<(m.length:Int))) (VB (l.getD (i:Int).toNat (0:Int) !=m.getD (i:Int).toNat (0:Int)) (false=v) (∃ i':Nat,(c0 i')/\(invEq l m).μ i'<(invEq l m).μ i/\((intsA l).sub (intsA l)/\(intsA m).sub (intsA m)/\(intsA l).sub (intsA l)/\(l.length:Int)=(l.length:Int)/\IntKind.i64.wrap ((i:Int)+(1:Int))=(i':Int)/\True)/\True)))) (true=v))):=by
 kernel_rfl
theorem sameI_vc (l m:List Int) (v:Bool):(vcFun (EEq l m) 20 168 [intsA l,intsA m,.fn (.func 169) [] []] .nil 0 (retP 3 (.bool v))).sat=(let c0:=fun i:Nat=> (i<=l.length/\∀ j:Nat,j<i->l.getD j (0:Int)=m.getD j (0:Int))
 VB ((l.length:Int) !=(m.length:Int)) (false=v) ((∃ i:Nat,(c0 i)/\((intsA l).sub (intsA l)/\(intsA m).sub (intsA m)/\(Fn.func (169:FuncId)=Fn.func (169:FuncId)/\True/\True)/\(intsA l).sub (intsA l)/\(l.length:Int)=(l.length:Int)/\(0:Int)=(i:Int)/\True)/\True)/\∀ i:Nat,(c0 i)->VB (decide ((i:Int)<(l.length:Int))) (NB (decide ((0:Int)<=(i:Int)/\(i:Int)<(l.length:Int))) (NB (decide ((0:Int)<=(i:Int)/\(i:Int)<(m.length:Int))) (VB (!l.getD (i:Int).toNat (0:Int)==m.getD (i:Int).toNat (0:Int)) (false=v) (∃ i':Nat,(c0 i')/\(invSI l m).μ i'<(invSI l m).μ i/\((intsA l).sub (intsA l)/\(intsA m).sub (intsA m)/\(Fn.func (169:FuncId)=Fn.func (169:FuncId)/\True/\True)/\(intsA l).sub (intsA l)/\(l.length:Int)=(l.length:Int)/\IntKind.i64.wrap ((i:Int)+(1:Int))=(i':Int)/\True)/\True)))) (true=v))):=by
 kernel_rfl
theorem sameTw_vc (x y:TwigG) (v:Bool):(vcFun ETw 20 138 [twigA x,twigA y] .nil 0 (retP 3 (.bool v))).sat=(let c0:=((intsOf' x.slot.gds.length fun k:Nat=> AV.int .i64 (x.slot.gds.getD k (0:Int)))=intsOf' y.slot.gds.length fun k:Nat=> AV.int .i64 (y.slot.gds.getD k (0:Int)))
 NB (impB (isW true (x.slot.fst==y.slot.fst)) ((decide (x.slot.gds.length<=1000000)&&decide (y.slot.gds.length<=1000000)&&intsB x.slot.gds.length fun k:Nat=> AV.int .i64 (x.slot.gds.getD k (0:Int)))&&intsB y.slot.gds.length fun k:Nat=> AV.int .i64 (y.slot.gds.getD k (0:Int)))) (NB (impB (isW true (x.slot.fst==y.slot.fst&&decide c0&&x.par==y.par)) ((decide (x.kids.length<=1000000)&&decide (y.kids.length<=1000000)&&true&&intsB x.kids.length fun k:Nat=> AV.int .i64 (x.kids.getD k (0:Int)))&&intsB y.kids.length fun k:Nat=> AV.int .i64 (y.kids.getD k (0:Int)))) ((x.slot.fst==y.slot.fst&&decide c0&&x.par==y.par&&decide ((intsOf' x.kids.length fun k:Nat=> AV.int .i64 (x.kids.getD k (0:Int)))=intsOf' y.kids.length fun k:Nat=> AV.int .i64 (y.kids.getD k (0:Int)))&&x.ends==y.ends&&x.line==y.line)=v))):=by
 kernel_rfl
theorem sameTs_vc (l m:List TwigG) (v:Bool):(vcFun (EST l m) 20 137 [twigsA l,twigsA m,.fn (.func 138) [] []] .nil 0 (retP 3 (.bool v))).sat=(let c2:=fun i:Nat=> (l.getD (i:Int).toNat twigD)
 let c0:=fun i:Nat=> (AV.agg [AV.int .i64 (c2 i).slot.fst,AV.rof (c2 i).slot.gds.length (fun k:Nat=> AV.int .i64 ((c2 i).slot.gds.getD k (0:Int))) false,AV.int .i64 (c2 i).par,AV.rof (c2 i).kids.length (fun k:Nat=> AV.int .i64 ((c2 i).kids.getD k (0:Int))) false,AV.bool (c2 i).ends,AV.int .i64 (c2 i).line])
 let c3:=fun i:Nat=> (m.getD (i:Int).toNat twigD)
 let c1:=fun i:Nat=> (AV.agg [AV.int .i64 (c3 i).slot.fst,AV.rof (c3 i).slot.gds.length (fun k:Nat=> AV.int .i64 ((c3 i).slot.gds.getD k (0:Int))) false,AV.int .i64 (c3 i).par,AV.rof (c3 i).kids.length (fun k:Nat=> AV.int .i64 ((c3 i).kids.getD k (0:Int))) false,AV.bool (c3 i).ends,AV.int .i64 (c3 i).line])
 let c4:=fun i:Nat=> (i<=l.length/\∀ j:Nat,j<i->l.getD j twigD=m.getD j twigD)
 VB ((l.length:Int) !=(m.length:Int)) (false=v) ((∃ i:Nat,(c4 i)/\((twigsA l).sub (twigsA l)/\(twigsA m).sub (twigsA m)/\(Fn.func (138:FuncId)=Fn.func (138:FuncId)/\True/\True)/\(twigsA l).sub (twigsA l)/\(l.length:Int)=(l.length:Int)/\(0:Int)=(i:Int)/\True)/\True)/\∀ i:Nat,(c4 i)->VB (decide ((i:Int)<(l.length:Int))) (NB (decide ((0:Int)<=(i:Int)/\(i:Int)<(l.length:Int))) (NB (decide ((0:Int)<=(i:Int)/\(i:Int)<(m.length:Int))) (NB (isTwig (c0 i)&&isTwig (c1 i)&&few2 (twigOf (c0 i))&&few2 (twigOf (c1 i))) (VB (!decide (twigOf (c0 i)=twigOf (c1 i))) (false=v) (∃ i':Nat,(c4 i')/\(invST l m).μ i'<(invST l m).μ i/\((twigsA l).sub (twigsA l)/\(twigsA m).sub (twigsA m)/\(Fn.func (138:FuncId)=Fn.func (138:FuncId)/\True/\True)/\(twigsA l).sub (twigsA l)/\(l.length:Int)=(l.length:Int)/\IntKind.i64.wrap ((i:Int)+(1:Int))=(i':Int)/\True)/\True))))) (true=v))):=by
 kernel_rfl
theorem list_ext {α:Type} (d:α) {l m:List α} (h:l.length=m.length) (hj:∀ j,j<l.length->l.getD j d=m.getD j d):l=m:=by
 refine List.ext_getElem h fun i h1 h2=>?_
 have:=hj i h1;simpa [List.getD,h1,h2] using this
theorem EEq_ok (l m:List Int):CtrOK (EEq l m):=mkE_ctr (tbl_nil _)
theorem eqI_pure (l m:List Int) (hl:l.length<=1000000):PureC Tryz.prog gU 197 [intsA l,intsA m] (.bool (decide (l=m))):=by
 refine PureC.of_vc (E:=EEq l m) (k:=20) (d:=3) mix (EEq_ok l m) ((eqI_vc l m _).mpr (VB_intro (fun h=>?_) (fun h=>⟨⟨0,⟨Nat.zero_le _,fun j hj=>by omega⟩,⟨sub_ints _,sub_ints _,sub_ints _,rfl,rfl,trivial⟩,trivial⟩,fun i hpre=>?_⟩)))
 ·refine (decide_eq_false fun e=>?_).symm
  rw [e] at h;simp at h
 have hlen:l.length=m.length:=by
  have:((l.length:Int)==(m.length:Int))=true:=by simpa [bne] using h
  have:=eq_of_beq this;omega
 obtain ⟨hi,hpre⟩:=hpre;refine VB_intro (fun h1=>?_) (fun h1=>?_)
 ·have h2:i<l.length:=by simpa using h1
  refine NB_intro (by simp; omega) (NB_intro (by simp; omega) (VB_intro (fun h3=>?_) (fun h3=>?_)))
  ·refine (decide_eq_false fun e=>?_).symm
   rw [e] at h3;simp at h3
  ·have h4:l.getD i 0=m.getD i 0:=by
    have h5:(l.getD i 0==m.getD i 0)=true:=by
     have h6:(!(l.getD i 0==m.getD i 0))=false:=h3;simpa only [Bool.not_eq_false'] using h6
    exact eq_of_beq h5
   refine ⟨i+1,⟨by omega,fun j hj=>?_⟩,by simp only [invEq]; omega,⟨sub_ints _,sub_ints _,sub_ints _,rfl,by rw [wrap_i64_id (by omega) (by omega)]; omega,trivial⟩,trivial⟩
   rcases Nat.lt_or_ge j i with h5|h5
   ·exact hpre j h5
   ·obtain rfl:j=i:=by omega
    exact h4
 ·have h2:¬ i<l.length:=by simpa using h1
  exact (decide_eq_true (list_ext 0 hlen fun j hj=>hpre j (by omega))).symm
theorem sameI_pure (l m:List Int) (hl:l.length<=1000000):PureC Tryz.prog gU 168 [intsA l,intsA m,.fn (.func 169) [] []] (.bool (decide (l=m))):=by
 refine PureC.of_vc (E:=EEq l m) (k:=20) (d:=3) mix (EEq_ok l m) ((sameI_vc l m _).mpr (VB_intro (fun h=>?_) (fun h=>⟨⟨0,⟨Nat.zero_le _,fun j hj=>by omega⟩,⟨sub_ints _,sub_ints _,⟨rfl,trivial,trivial⟩,sub_ints _,rfl,rfl,trivial⟩,trivial⟩,fun i hpre=>?_⟩)))
 ·refine (decide_eq_false fun e=>?_).symm
  rw [e] at h;simp at h
 have hlen:l.length=m.length:=by
  have:((l.length:Int)==(m.length:Int))=true:=by simpa [bne] using h
  have:=eq_of_beq this;omega
 obtain ⟨hi,hpre⟩:=hpre;refine VB_intro (fun h1=>?_) (fun h1=>?_)
 ·have h2:i<l.length:=by simpa using h1
  refine NB_intro (by simp; omega) (NB_intro (by simp; omega) (VB_intro (fun h3=>?_) (fun h3=>?_)))
  ·refine (decide_eq_false fun e=>?_).symm
   rw [e] at h3;simp at h3
  ·have h4:l.getD i 0=m.getD i 0:=by
    have h5:(l.getD i 0==m.getD i 0)=true:=by
     have h6:(!(l.getD i 0==m.getD i 0))=false:=h3;simpa only [Bool.not_eq_false'] using h6
    exact eq_of_beq h5
   refine ⟨i+1,⟨by omega,fun j hj=>?_⟩,by simp only [invSI]; omega,⟨sub_ints _,sub_ints _,⟨rfl,trivial,trivial⟩,sub_ints _,rfl,by rw [wrap_i64_id (by omega) (by omega)]; omega,trivial⟩,trivial⟩
   rcases Nat.lt_or_ge j i with h5|h5
   ·exact hpre j h5
   ·obtain rfl:j=i:=by omega
    exact h4
 ·have h2:¬ i<l.length:=by simpa using h1
  exact (decide_eq_true (list_ext 0 hlen fun j hj=>hpre j (by omega))).symm
theorem eqI_ok:PureF Tryz.prog 197 cEqI:=by
 intro args nd v he hnd;unfold cEqI at he;split at he <;> cases he
 rename_i n f ex m g ex';simp only [Bool.and_eq_true,decide_eq_true_eq] at hnd;obtain ⟨⟨⟨h1,h2⟩,h3⟩,h4⟩:=hnd
 refine PureC.args (args':=[intsA (intsOf' n f),intsA (intsOf' m g)]) rfl (fun i hi=>?_) (eqI_pure _ _ (by rw [intsOf_len]; exact h1))
 match i,hi with
 | 0,_=>exact ints_sub h3
 | 1,_=>exact ints_sub h4
theorem sameI_ok:PureF Tryz.prog 168 cSameI:=by
 intro args nd v he hnd;unfold cSameI at he;split at he <;> cases he
 rename_i n f ex m g ex' h;simp only [Bool.and_eq_true,decide_eq_true_eq] at hnd;obtain ⟨⟨⟨⟨h1,h2⟩,rfl⟩,h3⟩,h4⟩:=hnd
 refine PureC.args (args':=[intsA (intsOf' n f),intsA (intsOf' m g),.fn (.func 169) [] []]) rfl (fun i hi=>?_) (sameI_pure _ _ (by rw [intsOf_len]; exact h1))
 match i,hi with
 | 0,_=>exact ints_sub h3
 | 1,_=>exact ints_sub h4
 | 2,_=>exact ⟨rfl,trivial,trivial⟩
theorem ETw_ok:CtrOK ETw:=mkE_ctr (tbl_cons eqI_ok (tbl_cons sameI_ok (tbl_nil _)))
theorem impB_of' {m need:Bool} (h:need=true):impB m need=true:=by rw [h]; rfl
theorem sameTw_pure (x y:TwigG) (hx:few2 x=true) (hy:few2 y=true):PureC Tryz.prog gU 138 [twigA x,twigA y] (.bool (decide (x=y))):=by
 simp only [few2,Bool.and_eq_true,decide_eq_true_eq] at hx hy;refine PureC.of_vc (E:=ETw) (k:=20) (d:=3) mix ETw_ok ((sameTw_vc x y _).mpr ?_);refine NB_intro (impB_of' ?_) (NB_intro (impB_of' ?_) ?_)
 ·rw [intsB_self,intsB_self,decide_eq_true hx.1,decide_eq_true hy.1];rfl
 ·rw [intsB_self,intsB_self,decide_eq_true hx.2,decide_eq_true hy.2];rfl
 ·rw [intsOf_self,intsOf_self,intsOf_self,intsOf_self];obtain ⟨⟨a,g,u⟩,p,k,b,z,w⟩:=x;obtain ⟨⟨a',g',u'⟩,p',k',b',z',w'⟩:=y;rw [Bool.eq_iff_iff]
  simp only [TwigG.slot,SlotG.gds,TwigG.par,TwigG.kids,TwigG.ends,TwigG.line,Bool.and_eq_true,decide_eq_true_eq,beq_iff_eq,Prod.mk.injEq];constructor
  ·rintro ⟨⟨⟨⟨⟨h1,h2⟩,h3⟩,h4⟩,h5⟩,h6⟩;exact ⟨⟨h1,h2,trivial⟩,h3,h4,h5,h6,trivial⟩
  ·rintro ⟨⟨h1,h2,_⟩,h3,h4,h5,h6,_⟩;exact ⟨⟨⟨⟨⟨h1,h2⟩,h3⟩,h4⟩,h5⟩,h6⟩
theorem twig_self (x:TwigG):twigOf (twigA x)=x:=by
 obtain ⟨⟨a,g,u⟩,p,k,b,z,w⟩:=x;show ((a,intsOf' g.length (fun i=>.int .i64 (g.getD i 0)),()),p,intsOf' k.length (fun i=>.int .i64 (k.getD i 0)),b,z,())=_
 rw [intsOf_self,intsOf_self]
theorem isTwig_self (x:TwigG):isTwig (twigA x)=true:=by
 show (intsB x.slot.gds.length (fun k=>.int .i64 (x.slot.gds.getD k 0))&&intsB x.kids.length (fun k=>.int .i64 (x.kids.getD k 0)))=true
 rw [intsB_self,intsB_self];rfl
theorem twig_sub {x:AV} (h:isTwig x=true):x.sub (twigA (twigOf x)):=by
 unfold isTwig at h;split at h
 ·simp only [Bool.and_eq_true] at h;exact ⟨by simp [AV.sub,twigOf],ints_sub h.1,by simp [AV.sub,twigOf],ints_sub h.2,by simp [AV.sub,twigOf],by simp [AV.sub,twigOf],trivial⟩
 ·cases h
theorem sameT_ok:PureF Tryz.prog 138 cSameT:=by
 intro args nd v he hnd;unfold cSameT at he;split at he <;> cases he
 rename_i x y;simp only [Bool.and_eq_true] at hnd;obtain ⟨⟨⟨h1,h2⟩,h3⟩,h4⟩:=hnd;refine PureC.args (args':=[twigA (twigOf (.agg x)),twigA (twigOf (.agg y))]) rfl (fun i hi=>?_) (sameTw_pure _ _ h3 h4)
 match i,hi with
 | 0,_=>exact twig_sub h1
 | 1,_=>exact twig_sub h2
theorem EST_ok (l m:List TwigG):CtrOK (EST l m):=mkE_ctr (tbl_cons sameT_ok (tbl_nil _))
theorem sub_twigs (t:List TwigG):(twigsA t).sub (twigsA t):=⟨rfl,fun _ _=>⟨⟨rfl,sub_ints _,rfl,sub_ints _,rfl,rfl,trivial⟩,rfl⟩,fun h=>h⟩
def few2s (l:List TwigG):Bool:=decide (l.length<=1000000)&&l.all few2
theorem few2s_at {l:List TwigG} (h:few2s l=true) {i:Nat} (hi:i<l.length):few2 (l.getD i twigD)=true:=by
 simp only [few2s,Bool.and_eq_true,List.all_eq_true] at h;exact h.2 _ (getD_mem hi)
theorem sameTs_pure (l m:List TwigG) (hl:few2s l=true) (hm:few2s m=true):PureC Tryz.prog gU 137 [twigsA l,twigsA m,.fn (.func 138) [] []] (.bool (decide (l=m))):=by
 have hll:l.length<=1000000:=by simp only [few2s,Bool.and_eq_true,decide_eq_true_eq] at hl; exact hl.1
 refine PureC.of_vc (E:=EST l m) (k:=20) (d:=3) mix (EST_ok l m) ((sameTs_vc l m _).mpr (VB_intro (fun h=>?_) (fun h=>⟨⟨0,⟨Nat.zero_le _,fun j hj=>by omega⟩,⟨sub_twigs _,sub_twigs _,⟨rfl,trivial,trivial⟩,sub_twigs _,rfl,rfl,trivial⟩,trivial⟩,fun i hpre=>?_⟩)))
 ·refine (decide_eq_false fun e=>?_).symm
  rw [e] at h;simp at h
 have hlen:l.length=m.length:=by
  have:((l.length:Int)==(m.length:Int))=true:=by simpa [bne] using h
  have:=eq_of_beq this;omega
 obtain ⟨hi,hpre⟩:=hpre;refine VB_intro (fun h1=>?_) (fun h1=>?_)
 ·have h2:i<l.length:=by simpa using h1
  have hnb:(isTwig (twigA (l.getD i twigD))&&isTwig (twigA (m.getD i twigD))&&few2 (twigOf (twigA (l.getD i twigD)))&&few2 (twigOf (twigA (m.getD i twigD))))=true:=by
   rw [isTwig_self,isTwig_self,twig_self,twig_self,few2s_at hl h2,few2s_at hm (by omega)]
   rfl
  refine NB_intro (by simp; omega) (NB_intro (by simp; omega) (NB_intro hnb (VB_intro (fun h3=>?_) (fun h3=>?_))))
  ·have h4:(!decide (twigOf (twigA (l.getD i twigD))=twigOf (twigA (m.getD i twigD))))=true:=h3;refine (decide_eq_false fun e=>?_).symm
   rw [e] at h4;simp at h4
  ·have h4:(!decide (twigOf (twigA (l.getD i twigD))=twigOf (twigA (m.getD i twigD))))=false:=h3;rw [twig_self,twig_self] at h4;have h5:l.getD i twigD=m.getD i twigD:=by
    simp only [Bool.not_eq_false'] at h4;exact of_decide_eq_true h4
   refine ⟨i+1,⟨by omega,fun j hj=>?_⟩,by simp only [invST]; omega,⟨sub_twigs _,sub_twigs _,⟨rfl,trivial,trivial⟩,sub_twigs _,rfl,by rw [wrap_i64_id (by omega) (by omega)]; omega,trivial⟩,trivial⟩
   rcases Nat.lt_or_ge j i with h6|h6
   ·exact hpre j h6
   ·obtain rfl:j=i:=by omega
    exact h5
 ·have h2:¬ i<l.length:=by simpa using h1
  exact (decide_eq_true (list_ext twigD hlen fun j hj=>hpre j (by omega))).symm
end Go.Proofs.YtlnpgnipocbfhaaGreatDoor
