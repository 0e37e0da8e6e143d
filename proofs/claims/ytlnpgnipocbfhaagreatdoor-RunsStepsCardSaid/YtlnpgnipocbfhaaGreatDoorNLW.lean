/- TREES W: the document's up: conditions. -/
import Derived.Test.YtlnpgnipocbfhaaGreatDoorNLU
import Derived.Test.YtlnpgnipocbfhaaGreatDoorNLE
import Derived.Test.YtlnpgnipocbfhaaGreatDoorNLG
namespace Go.Proofs.YtlnpgnipocbfhaaGreatDoor
open Pw Go
set_option maxRecDepth 100000
def invRU (t:List TwigG) (m:Nat):Inv:=⟨Nat×Nat×List SlotG,30,fun p=>⟨[(1,.int .i64 p.1),(2,.ptr 0 0 0 0),(4,.ptr 1 0 0 0),(5,.ptr 2 0 0 0)],[(0,.row 0 1 true (.lst [treeA t])),(1,.row 0 1 true (.lst [.agg [.nils]])),(2,.row 0 1 false (.lst [.agg [slotsA p.2.2]]))]⟩,
 fun p=>(p.1=0\/p.1<t.length)/\p.2.2.reverse++upR t (m - p.2.2.length) p.1=upR t m m/\p.2.2.length+p.1<=m,fun p=>p.1⟩
noncomputable def ERu (t:List TwigG) (m:Nat):Env:={ mkE Tryz.prog (tblOf [(55,cOwnS)]) (fun f b=>if f=159/\b=0 then some (invRU t m) else none) with fzs:=fun f=>if f=159 then [15,18,6000000018] else [] }
theorem rup_vc (t:List TwigG) (m:Nat) (l:List SlotG):(vcFun (ERu t m) 20 159 [treeA t,.int .i64 m] .nil 0 (retP 3 (lineA l))).sat=(let c6:=fun (i:Nat×Nat×List SlotG)=>(t.getD (i.fst:Int).toNat twigD)
 let c0:=fun (i:Nat×Nat×List SlotG)=>(AV.agg [AV.int .i64 (c6 i).slot.fst,AV.rof (c6 i).slot.gds.length (fun k:Nat=> AV.int .i64 ((c6 i).slot.gds.getD k (0:Int))) false])
 let c1:=(0=0/\0=0/\0=0)
 let c2:=fun (i:Nat×Nat×List SlotG)=>(Sq.lst [AV.agg [AV.int .i64 (c6 i).slot.fst,AV.rof (slotOf (c0 i)).gds.length (fun k:Nat=> AV.int .i64 ((slotOf (c0 i)).gds.getD k (0:Int))) false]])
 let c3:=(0=0/\(true=true->true=true)/\((treeA t).sub (treeA t)/\(treeA t).cells.length=(treeA t).cells.length)/\True)
 let c4:=fun (i:Nat×Nat×List SlotG)=>((i.fst=0\/i.fst<t.length)/\i.snd.snd.reverse++upR t (m - i.snd.snd.length) i.fst=upR t m m/\i.snd.snd.length+i.fst<=m)
 let c5:=(0=0/\(true=true->true=true)/\((True/\True)/\1=1)/\True)
 (∃ (i:Nat×Nat×List SlotG),(c4 i)/\((m:Int)=(i.fst:Int)/\c1/\c1/\c1/\True)/\c3/\c5/\(0=0/\(false=true->true=true)/\((i.snd.snd.length=0/\True)/\1=1)/\True)/\True)/\∀ (i:Nat×Nat×List SlotG),(i.fst=0\/i.fst<t.length)/\i.snd.snd.reverse++upR t (m - i.snd.snd.length) i.fst=upR t m m/\i.snd.snd.length+i.fst<=m->VB (decide ((i.fst:Int) > (0:Int))) (NB (decide ((0:Int)<=(i.fst:Int)/\(i.fst:Int)<(t.length:Int))) (NB (isSlot (c0 i)&&fewG (slotOf (c0 i))) (NB (i.snd.snd.length==0||true&&room (1+i.snd.snd.length) 32&&(i.snd.snd.length !=0||1==0)) (NB (decide ((0:Int)<=(i.fst:Int)/\(i.fst:Int)<(t.length:Int))) (∃ (i':Nat×Nat×List SlotG),(c4 i')/\(invRU t m).μ i'<(invRU t m).μ i/\((c6 i).par=(i'.fst:Int)/\c1/\c1/\c1/\True)/\c3/\c5/\(0=0/\(false=true->false=true)/\(((1+i.snd.snd.length=i'.snd.snd.length/\(∀ i_1:Nat,i_1<1+i.snd.snd.length->(if i_1<1 then (c2 i).get i_1 else AV.agg [AV.int .i64 (i.snd.snd.getD (i_1 - 1) slotD').fst,intsA (i.snd.snd.getD (i_1 - 1) slotD').gds]).sub (AV.agg [AV.int .i64 (i'.snd.snd.getD i_1 slotD').fst,intsA (i'.snd.snd.getD i_1 slotD').gds])/\(if i_1<1 then (c2 i).get i_1 else slotA (i.snd.snd.getD (i_1 - 1) slotD')).cells.length=[AV.int .i64 (i'.snd.snd.getD i_1 slotD').fst,intsA (i'.snd.snd.getD i_1 slotD').gds].length)/\(false=true->false=true))/\True)/\1=1)/\True)/\True))))) ((i.snd.snd.length=l.length/\(∀ i_1:Nat,i_1<i.snd.snd.length->((i.snd.snd.getD i_1 slotD').fst=(l.getD i_1 slotD').fst/\((i.snd.snd.getD i_1 slotD').gds.length=(l.getD i_1 slotD').gds.length/\(∀ i_2:Nat,i_2<(i.snd.snd.getD i_1 slotD').gds.length->(i.snd.snd.getD i_1 slotD').gds.getD i_2 (0:Int)=(l.getD i_1 slotD').gds.getD i_2 (0:Int)/\1=1)/\(false=true->false=true))/\True)/\2=2)/\(false=true->false=true))/\True)):=by
 kernel_rfl
def invAk (l m:List TwigG):Inv:=⟨Nat,20,fun i=>⟨[(2,.ptr 0 0 0 0),(3,.ptr 1 0 0 0),(5,.int .i64 i)],[(0,.row 0 1 true (.lst [treeA l])),(1,.row 0 1 true (.lst [treeA m]))]⟩,
 fun i=>i<=l.length/\∀ j,j<i->l.getD j twigD=m.getD j twigD,fun i=>l.length - i⟩
def invAk2 (l m:List TwigG) (i:Int):Inv:=⟨Nat,30,fun k=>⟨[(2,.ptr 0 0 0 0),(3,.ptr 1 0 0 0),(5,.int .i64 i),(6,.rptr (twigA (l.getD i.toNat twigD)) 0),(7,.rptr (twigA (m.getD i.toNat twigD)) 0),(8,.int .i64 k)],[(0,.row 0 1 true (.lst [treeA l])),(1,.row 0 1 true (.lst [treeA m]))]⟩,
 fun k=>k<=(l.getD i.toNat twigD).kids.length/\∀ j,j<k->(l.getD i.toNat twigD).kids.getD j 0=(m.getD i.toNat twigD).kids.getD j 0,fun k=>(l.getD i.toNat twigD).kids.length - k⟩
noncomputable def EAk (l m:List TwigG):Env:={ mkE Tryz.prog (tblOf [(54,cSameS)]) (fun f b=>if f=156/\b=0 then some (invAk l m) else none) with
 fzs:=fun f=>if f=156 then [70006,70007] else []
 invS:=fun f c s=>if f=156/\c=2 then (match s.tmf 5 with|.int _ i=>some (invAk2 l m i)|_=>none) else none }
theorem alike_vc (l m:List TwigG) (v:Bool):(vcFun (EAk l m) 20 156 [treeA l,treeA m] .nil 0 (retP 3 (.bool v))).sat=(let c1:=fun i:Nat=> (l.getD (i:Int).toNat twigD)
 let c9:=fun i:Nat=> (AV.agg [AV.int .i64 (c1 i).slot.fst,AV.rof (c1 i).slot.gds.length (fun k:Nat=> AV.int .i64 ((c1 i).slot.gds.getD k (0:Int))) false])
 let c2:=fun i:Nat=> (m.getD (i:Int).toNat twigD)
 let c10:=fun i:Nat=> (AV.agg [AV.int .i64 (c2 i).slot.fst,AV.rof (c2 i).slot.gds.length (fun k:Nat=> AV.int .i64 ((c2 i).slot.gds.getD k (0:Int))) false])
 let c11:=fun (i_1:Nat) (i:Nat)=>(i_1<=(c1 i).kids.length/\∀ j:Nat,j<i_1->(c1 i).kids.getD j (0:Int)=(c2 i).kids.getD j (0:Int))
 let c6:=(0=0/\0=0/\0=0)
 let c4:=fun i:Nat=> ((((c1 i).slot.fst=(c1 i).slot.fst/\((c1 i).slot.gds.length=(c1 i).slot.gds.length/\(∀ i_2:Nat,i_2<(c1 i).slot.gds.length->(c1 i).slot.gds.getD i_2 (0:Int)=(c1 i).slot.gds.getD i_2 (0:Int)/\1=1)/\(false=true->false=true))/\(c1 i).par=(c1 i).par/\((c1 i).kids.length=(c1 i).kids.length/\(∀ i_2:Nat,i_2<(c1 i).kids.length->(c1 i).kids.getD i_2 (0:Int)=(c1 i).kids.getD i_2 (0:Int)/\1=1)/\(false=true->false=true))/\(c1 i).ends=(c1 i).ends/\(c1 i).line=(c1 i).line/\True)/\6=6)/\0=0)
 let c5:=fun i:Nat=> ((((c2 i).slot.fst=(c2 i).slot.fst/\((c2 i).slot.gds.length=(c2 i).slot.gds.length/\(∀ i_2:Nat,i_2<(c2 i).slot.gds.length->(c2 i).slot.gds.getD i_2 (0:Int)=(c2 i).slot.gds.getD i_2 (0:Int)/\1=1)/\(false=true->false=true))/\(c2 i).par=(c2 i).par/\((c2 i).kids.length=(c2 i).kids.length/\(∀ i_2:Nat,i_2<(c2 i).kids.length->(c2 i).kids.getD i_2 (0:Int)=(c2 i).kids.getD i_2 (0:Int)/\1=1)/\(false=true->false=true))/\(c2 i).ends=(c2 i).ends/\(c2 i).line=(c2 i).line/\True)/\6=6)/\0=0)
 let c7:=(0=0/\(true=true->true=true)/\((treeA l).sub (treeA l)/\(treeA l).cells.length=(treeA l).cells.length)/\True)
 let c8:=(0=0/\(true=true->true=true)/\((treeA m).sub (treeA m)/\(treeA m).cells.length=(treeA m).cells.length)/\True)
 let c12:=fun i:Nat=> (i<=l.length/\∀ j:Nat,j<i->l.getD j twigD=m.getD j twigD)
 let c0:=fun i:Nat=> (VB (!decide (slotOf (c9 i)=slotOf (c10 i))||(c1 i).par !=(c2 i).par||!(c1 i).ends==(c2 i).ends||(c1 i).line !=(c2 i).line||(↑(c1 i).kids.length:Int) !=(↑(c2 i).kids.length:Int)) (false=v) ((∃ i_1:Nat,(c11 i_1 i)/\(c6/\c6/\(i:Int)=(i:Int)/\(c4 i)/\(c5 i)/\(0:Int)=(i_1:Int)/\True)/\c7/\c8/\True)/\∀ i_1:Nat,(c11 i_1 i)->VB (decide ((i_1:Int)<(↑(c1 i).kids.length:Int))) (NB (decide ((0:Int)<=(i_1:Int)/\(i_1:Int)<(↑(c1 i).kids.length:Int))) (NB (decide ((0:Int)<=(i_1:Int)/\(i_1:Int)<(↑(c2 i).kids.length:Int))) (VB ((c1 i).kids.getD (i_1:Int).toNat (0:Int) !=(c2 i).kids.getD (i_1:Int).toNat (0:Int)) (false=v) (∃ i':Nat,(c11 i' i)/\(invAk2 l m (i:Int)).μ i'<(invAk2 l m (i:Int)).μ i_1/\(c6/\c6/\(i:Int)=(i:Int)/\(c4 i)/\(c5 i)/\IntKind.i64.wrap ((i_1:Int)+(1:Int))=(i':Int)/\True)/\c7/\c8/\True)))) (∃ i':Nat,(c12 i')/\(invAk l m).μ i'<(invAk l m).μ i/\(c6/\c6/\IntKind.i64.wrap ((i:Int)+(1:Int))=(i':Int)/\True)/\c7/\c8/\True)))
 let c3:=fun i:Nat=> (isSlot (c9 i)&&isSlot (c10 i)&&fewG (slotOf (c9 i))&&fewG (slotOf (c10 i)))
 VB ((l.length:Int) !=(m.length:Int)) (false=v) ((∃ i:Nat,(c12 i)/\(c6/\c6/\(0:Int)=(i:Int)/\True)/\c7/\c8/\True)/\∀ i:Nat,(c12 i)->VB (decide ((i:Int)<(l.length:Int))) (NB (decide ((0:Int)<=(i:Int)/\(i:Int)<(l.length:Int))) (NB (decide ((0:Int)<=(i:Int)/\(i:Int)<(m.length:Int))) (NB (c3 i) (c0 i)/\NB (c3 i) (c0 i)))) (true=v))):=by
 kernel_rfl
def invKI (l m:List Int):Inv:=⟨Nat,20,fun i=>⟨[(0,intsA l),(1,intsA m),(5,.int .i64 i)],[]⟩,fun i=>i<=l.length/\∀ j,j<i->l.getD j 0=m.getD j 0,fun i=>l.length - i⟩
noncomputable def EKI (l m:List Int):Env:=mkE Tryz.prog (tblOf []) (fun f b=>if f=25/\b=0 then some (invKI l m) else none)
theorem kInts_vc (l m:List Int) (v:Bool):(vcFun (EKI l m) 20 25 [intsA l,intsA m] .nil 0 (retP 3 (.bool v))).sat=(let c0:=fun i:Nat=> (i<=l.length/\∀ j:Nat,j<i->l.getD j (0:Int)=m.getD j (0:Int))
 VB ((l.length:Int) !=(m.length:Int)) (false=v) ((∃ i:Nat,(c0 i)/\((intsA l).sub (intsA l)/\(intsA m).sub (intsA m)/\(0:Int)=(i:Int)/\True)/\True)/\∀ i:Nat,(c0 i)->VB (decide ((i:Int)<(l.length:Int))) (NB (decide ((0:Int)<=(i:Int)/\(i:Int)<(l.length:Int))) (NB (decide ((0:Int)<=(i:Int)/\(i:Int)<(m.length:Int))) (VB (l.getD (i:Int).toNat (0:Int) !=m.getD (i:Int).toNat (0:Int)) (false=v) (∃ i':Nat,(c0 i')/\(invKI l m).μ i'<(invKI l m).μ i/\((intsA l).sub (intsA l)/\(intsA m).sub (intsA m)/\IntKind.i64.wrap ((i:Int)+(1:Int))=(i':Int)/\True)/\True)))) (true=v))):=by
 kernel_rfl
theorem EKI_ok (l m:List Int):CtrOK (EKI l m):=mkE_ctr (tbl_nil _)
theorem kInts_pure (l m:List Int) (hl:l.length<=1000000):PureC Tryz.prog gU 25 [intsA l,intsA m] (.bool (decide (l=m))):=by
 refine PureC.of_vc (E:=EKI l m) (k:=20) (d:=3) mix (EKI_ok l m) ?_
 refine (kInts_vc l m _).mpr (VB_intro (fun h=>?_) (fun h=>⟨⟨0,⟨Nat.zero_le _,fun j hj=>absurd hj (Nat.not_lt_zero _)⟩,⟨sub_ints _,sub_ints _,rfl,trivial⟩,trivial⟩,fun i hpre=>?_⟩))
 ·refine (decide_eq_false fun e=>?_).symm
  rw [e] at h;simp at h
 have hlen:l.length=m.length:=by
  simp only [bne_eq_false_iff_eq] at h;omega
 obtain ⟨hi,hpre⟩:=hpre;refine VB_intro (fun h1=>?_) (fun h1=>?_)
 ·have h2:i<l.length:=by
   have:=of_decide_eq_true h1;omega
  refine NB_intro (by simp; omega) (NB_intro (by simp; omega) (VB_intro (fun h3=>?_) (fun h3=>?_)))
  ·refine (decide_eq_false fun e=>?_).symm
   rw [e] at h3;simp at h3
  ·have h4:l.getD i 0=m.getD i 0:=by
    have h5:(l.getD i 0 !=m.getD i 0)=false:=h3;simpa only [bne_eq_false_iff_eq] using h5
   refine ⟨i+1,⟨by omega,fun j hj=>?_⟩,(show l.length - (i+1)<l.length - i by omega),⟨sub_ints _,sub_ints _,by rw [wrap_i64_id (by omega) (by omega)]; omega,trivial⟩,trivial⟩
   rcases Nat.lt_or_ge j i with h5|h5
   ·exact hpre j h5
   ·obtain rfl:j=i:=by omega
    exact h4
 ·have h2:i=l.length:=by
   have:=of_decide_eq_false h1;omega
  exact (decide_eq_true (list_ext 0 hlen fun j hj=>hpre j (by omega))).symm
theorem twig_eq_iff (x y:TwigG):x=y ↔ x.slot=y.slot/\x.par=y.par/\x.kids=y.kids/\x.ends=y.ends/\x.line=y.line:=by
 obtain ⟨s,p,k,e,l,u⟩:=x;obtain ⟨s',p',k',e',l',u'⟩:=y;refine ⟨fun h=>(by rw [h]; exact ⟨rfl,rfl,rfl,rfl,rfl⟩),fun ⟨h1,h2,h3,h4,h5⟩=>?_⟩
 have h1:s=s':=h1;have h2:p=p':=h2;have h3:k=k':=h3;have h4:e=e':=h4;have h5:l=l':=h5;rw [h1,h2,h3,h4,h5]
theorem few2_at {l:List TwigG} (h:few2s l=true) {i:Nat} (hi:i<l.length):(l.getD i twigD).slot.gds.length<=1000000/\(l.getD i twigD).kids.length<=1000000:=by
 simp only [few2s,Bool.and_eq_true,List.all_eq_true] at h;have:=h.2 _ (getD_mem (d:=twigD) hi);simpa only [few2,Bool.and_eq_true,decide_eq_true_eq] using this
theorem ERu_ok (t:List TwigG) (m:Nat):CtrOK (ERu t m):=⟨(mkE_ctr (P:=Tryz.prog) (inv:=fun _ _=>none) (tbl_cons ownS_ok (tbl_nil _))).1,itr_none rfl⟩
theorem rup_pure (t:List TwigG) (m:Nat) (hp:parOK t=true) (hg:gdsOK t=true) (ht:t.length<=1000000) (hm:m=0\/m<t.length):PureC Tryz.prog gU 159 [treeA t,.int .i64 m] (lineA (upR t m m).reverse):=by
 refine PureC.of_vc (E:=ERu t m) (k:=20) (d:=3) mix (ERu_ok t m) ((rup_vc t m _).mpr ⟨?_,fun p hpre=>?_⟩)
 ·refine ⟨(m,0,[]),⟨hm,rfl,by simp⟩,?_⟩
  repeat' (first|exact sub_tree _|exact trivial|exact rfl|exact fun h=>h|exact fun _=>rfl|refine And.intro ?_ ?_)
 obtain ⟨i,z,acc⟩:=p;obtain ⟨h1,h2,h3⟩:=hpre;have h1:i=0\/i<t.length:=h1;have h2:acc.reverse++upR t (m - acc.length) i=upR t m m:=h2;have h3:acc.length+i<=m:=h3;dsimp only;rw [show (Int.toNat (i:Int))=i from rfl]
 refine VB_intro (fun h=>?_) (fun h=>?_)
 ·have h0:0<i:=by
   have:=of_decide_eq_true h;omega
  have hi:i<t.length:=by omega
  obtain ⟨p1,p2⟩:=parOK_at hp h0 hi;have hgi:=gdsOK_at hg hi;have hroom:room (1+acc.length) 32=true:=decide_eq_true ⟨by omega,by omega⟩
  have hst:upR t (m - acc.length) i=(t.getD i twigD).slot::upR t (m - (acc.length+1)) (t.getD i twigD).par.toNat:=by
   rw [show m - acc.length=(m - (acc.length+1))+1 by omega]
   conv=>lhs; unfold upR
   rw [if_neg (by omega)]
  have hnb:(isSlot (slotA (t.getD i twigD).slot)&&fewG (slotOf (slotA (t.getD i twigD).slot)))=true:=by
   rw [isSlot_self,slot_self,fewG,decide_eq_true hgi];rfl
  refine NB_intro (by simp; omega) (NB_intro hnb (NB_intro (by rw [hroom]; cases acc <;> simp) (NB_intro (by simp; omega) ⟨((t.getD i twigD).par.toNat,z,(t.getD i twigD).slot::acc),⟨?_,?_,?_⟩,?_,?_⟩)))
  ·show (t.getD i twigD).par.toNat=0\/(t.getD i twigD).par.toNat<t.length;omega
  ·show ((t.getD i twigD).slot::acc).reverse++upR t (m - (acc.length+1)) (t.getD i twigD).par.toNat=_;rw [<- h2,hst,List.reverse_cons,List.append_assoc];rfl
  ·show acc.length+1+(t.getD i twigD).par.toNat<=m;omega
  ·show (t.getD i twigD).par.toNat<i;omega
  have hpar:(t.getD i twigD).par=(((t.getD i twigD).par.toNat:Nat):Int):=by omega
  have hlen:1+acc.length=((t.getD i twigD).slot::acc).length:=by rw [List.length_cons]; omega
  repeat' (first|exact sub_tree _|exact trivial|exact rfl|exact hpar|exact hlen|exact fun h=>h|refine And.intro ?_ ?_)
  intro k hk;by_cases hin:k<1
  ·obtain rfl:k=0:=by omega
   repeat rw [if_pos hin]
   have e:=slot_self (t.getD i twigD).slot;show (AV.agg [.int .i64 (t.getD i twigD).slot.1,intsA (slotOf (slotA (t.getD i twigD).slot)).gds]).sub (slotA (t.getD i twigD).slot)/\_;rw [e];exact ⟨sub_slot _,rfl⟩
  ·obtain ⟨j,rfl⟩:∃ j,k=j+1:=⟨k - 1,by omega⟩
   repeat rw [if_neg hin]
   exact ⟨sub_slot (acc.getD j slotD'),rfl⟩
 ·have h0:i=0:=by
   have:=of_decide_eq_false h;omega
  subst h0;rw [upR_zero,List.append_nil] at h2;rw [<- h2,List.reverse_reverse];exact ⟨⟨rfl,fun _ _=>⟨⟨rfl,⟨rfl,fun _ _=>⟨rfl,rfl⟩,fun h=>h⟩,trivial⟩,rfl⟩,fun h=>h⟩,trivial⟩
theorem rup_ok:PureF Tryz.prog 159 cUp:=by
 intro args nd v he hnd;unfold cUp at he;split at he <;> cases he
 rename_i X m;simp only [Bool.and_eq_true,decide_eq_true_eq] at hnd;obtain ⟨⟨⟨⟨⟨h1,h2⟩,h3⟩,h4⟩,h5⟩,h6⟩:=hnd;refine PureC.args (args':=[treeA (treeDec X),.int .i64 (m.toNat:Nat)]) rfl (fun i hi=>?_) (rup_pure _ _ h2 h3 h4 (by omega))
 match i,hi with
 | 0,_=>exact tree_sub h1
 | 1,_ =>
  show (AV.int .i64 m).sub (.int .i64 (m.toNat:Nat));rw [show ((m.toNat:Nat):Int)=m by omega]
  exact rfl
theorem EAk_ok (l m:List TwigG):CtrOK (EAk l m):=⟨(mkE_ctr (P:=Tryz.prog) (inv:=fun _ _=>none) (tbl_cons sameS_ok (tbl_nil _))).1,itr_none rfl⟩
theorem sameS_need {x y:SlotG} (hx:x.gds.length<=1000000) (hy:y.gds.length<=1000000):(isSlot (slotA x)&&isSlot (slotA y)&&fewG (slotOf (slotA x))&&fewG (slotOf (slotA y)))=true:=by
 rw [isSlot_self,isSlot_self,slot_self,slot_self,fewG,fewG,decide_eq_true hx,decide_eq_true hy];rfl
theorem alike_pure (l m:List TwigG) (hl:few2s l=true) (hm:few2s m=true):PureC Tryz.prog gU 156 [treeA l,treeA m] (.bool (decide (l=m))):=by
 have hll:l.length<=1000000:=by simp only [few2s,Bool.and_eq_true,decide_eq_true_eq] at hl; exact hl.1
 refine PureC.of_vc (E:=EAk l m) (k:=20) (d:=3) mix (EAk_ok l m) ?_;refine (alike_vc l m _).mpr ?_
 conv=>zeta
 refine VB_intro (fun h=>?_) (fun h=>?_)
 ·refine (decide_eq_false fun e=>?_).symm
  rw [e] at h;simp at h
 have hlen:l.length=m.length:=by
  simp only [bne_eq_false_iff_eq] at h;omega
 refine ⟨⟨0,⟨Nat.zero_le _,fun j hj=>absurd hj (Nat.not_lt_zero _)⟩,?_⟩,fun i hpre=>?_⟩
 ·repeat' (first|exact sub_tree _|exact trivial|exact rfl|exact Or.inr rfl|exact fun h=>h|exact fun _ _=>rfl|refine And.intro ?_ ?_)
 obtain ⟨hi,hpre⟩:=hpre;refine VB_intro (fun h1=>?_) (fun h1=>?_)
 ·have h2:i<l.length:=by
   have:=of_decide_eq_true h1;omega
  obtain ⟨k1,k2⟩:=few2_at hl h2;obtain ⟨k3,k4⟩:=few2_at hm (i:=i) (by omega)
  refine NB_intro (by simp; omega) (NB_intro (by simp; omega) (and_self_iff.2 ?_))
  have hs1:=slot_self (l.getD i twigD).slot;have hs2:=slot_self (m.getD i twigD).slot;refine NB_intro (sameS_need (x:=(l.getD i twigD).slot) (y:=(m.getD i twigD).slot) k1 k3) (VB_intro (fun h3=>?_) (fun h3=>?_))
  ·refine (decide_eq_false fun e=>?_).symm
   have h4:(!decide (slotOf (slotA (l.getD i twigD).slot)=slotOf (slotA (m.getD i twigD).slot))||(l.getD i twigD).par !=(m.getD i twigD).par||!((l.getD i twigD).ends==(m.getD i twigD).ends)||(l.getD i twigD).line !=(m.getD i twigD).line||((l.getD i twigD).kids.length:Int) !=((m.getD i twigD).kids.length:Int))=true:=h3
   rw [e] at h4;simp at h4
  have h4:(!decide (slotOf (slotA (l.getD i twigD).slot)=slotOf (slotA (m.getD i twigD).slot))||(l.getD i twigD).par !=(m.getD i twigD).par||!((l.getD i twigD).ends==(m.getD i twigD).ends)||(l.getD i twigD).line !=(m.getD i twigD).line||((l.getD i twigD).kids.length:Int) !=((m.getD i twigD).kids.length:Int))=false:=h3
  rw [hs1,hs2] at h4;simp only [Bool.or_eq_false_iff,Bool.not_eq_false',bne_eq_false_iff_eq,decide_eq_true_eq,beq_iff_eq] at h4;obtain ⟨⟨⟨⟨q1,q2⟩,q4⟩,q5⟩,q3⟩:=h4;have q3:(l.getD i twigD).kids.length=(m.getD i twigD).kids.length:=by omega
  rw [show (Int.toNat (i:Int))=i from rfl];refine ⟨⟨0,⟨Nat.zero_le _,fun j hj=>absurd hj (Nat.not_lt_zero _)⟩,?_⟩,fun k hk=>?_⟩
  ·repeat' (first|exact sub_tree _|exact trivial|exact rfl|exact fun h=>h|exact fun _ _=>⟨rfl,rfl⟩|refine And.intro ?_ ?_)
  obtain ⟨hk1,hk2⟩:=hk;rw [show (Int.toNat (k:Int))=k from rfl];refine VB_intro (fun h5=>?_) (fun h5=>?_)
  ·have h6:k<(l.getD i twigD).kids.length:=by
    have:=of_decide_eq_true h5;omega
   refine NB_intro (by simp only [decide_eq_true_eq]; omega) (NB_intro (by simp only [decide_eq_true_eq]; omega) (VB_intro (fun h7=>?_) (fun h7=>?_)))
   ·refine (decide_eq_false fun e=>?_).symm
    rw [e] at h7;simp at h7
   ·simp only [bne_eq_false_iff_eq] at h7;refine ⟨k+1,⟨by omega,fun j hj=>?_⟩,(show (l.getD i twigD).kids.length - (k+1)<(l.getD i twigD).kids.length - k by omega),?_⟩
    ·rcases Nat.lt_or_ge j k with h8|h8
     ·exact hk2 j h8
     ·obtain rfl:j=k:=by omega
      exact h7
    have hW:IntKind.i64.wrap ((k:Int)+1)=((k+1:Nat):Int):=by rw [wrap_i64_id (by omega) (by omega)]; omega
    repeat' (first|exact sub_tree _|exact trivial|exact rfl|exact hW|exact fun h=>h|exact fun _ _=>⟨rfl,rfl⟩|refine And.intro ?_ ?_)
  ·have h6:k=(l.getD i twigD).kids.length:=by
    have:=of_decide_eq_false h5;omega
   have q6:(l.getD i twigD).kids=(m.getD i twigD).kids:=list_ext 0 q3 fun j hj=>hk2 j (by omega)
   have h5:l.getD i twigD=m.getD i twigD:=(twig_eq_iff _ _).2 ⟨q1,q2,q6,q4,q5⟩;refine ⟨i+1,⟨by omega,fun j hj=>?_⟩,(show l.length - (i+1)<l.length - i by omega),?_⟩
   ·rcases Nat.lt_or_ge j i with h6|h6
    ·exact hpre j h6
    ·obtain rfl:j=i:=by omega
     exact h5
   have hW:IntKind.i64.wrap ((i:Int)+1)=((i+1:Nat):Int):=by rw [wrap_i64_id (by omega) (by omega)]; omega
   repeat' (first|exact sub_tree _|exact trivial|exact rfl|exact Or.inr rfl|exact fun h=>h|exact fun _ _=>rfl|refine And.intro ?_ ?_)
   all_goals exact hW
 ·have h2:i=l.length:=by
   have:=of_decide_eq_false h1;omega
  exact (decide_eq_true (list_ext twigD hlen fun j hj=>hpre j (by omega))).symm
def cTreeE:Ctr
 | [.agg [.rof n f _],.agg [.rof m g _]]=>some (isTree (.agg [.rof n f false])&&isTree (.agg [.rof m g false])&&few2s (treeDec (.agg [.rof n f false]))&&few2s (treeDec (.agg [.rof m g false])),.bool (decide (treeDec (.agg [.rof n f false])=treeDec (.agg [.rof m g false]))))
 | _=>none
theorem alike_ok:PureF Tryz.prog 156 cTreeE:=by
 intro args nd v he hnd;unfold cTreeE at he;split at he <;> cases he
 rename_i n f ex m g ex';simp only [Bool.and_eq_true] at hnd;obtain ⟨⟨⟨h1,h2⟩,h3⟩,h4⟩:=hnd
 refine PureC.args (args':=[treeA (treeDec (.agg [.rof n f false])),treeA (treeDec (.agg [.rof m g false]))]) rfl (fun i hi=>?_) (alike_pure _ _ h3 h4)
 match i,hi with
 | 0,_=>exact tree_sub (x:=.agg [.rof n f ex]) h1
 | 1,_=>exact tree_sub (x:=.agg [.rof m g ex']) h2
end Go.Proofs.YtlnpgnipocbfhaaGreatDoor
