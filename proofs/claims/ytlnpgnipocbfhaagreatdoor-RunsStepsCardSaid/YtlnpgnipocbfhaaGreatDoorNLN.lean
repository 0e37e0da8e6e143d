/- TREES N: the document's slots and lines: conditions. -/
import Derived.Test.YtlnpgnipocbfhaaGreatDoorNLL
namespace Go.Proofs.YtlnpgnipocbfhaaGreatDoor
open Pw Go
set_option maxRecDepth 100000
def fewG (s:SlotG):Bool:=decide (s.gds.length<=1000000)
def cSameS:Ctr
 | [.agg x,.agg y]=>some (isSlot (.agg x)&&isSlot (.agg y)&&fewG (slotOf (.agg x))&&fewG (slotOf (.agg y)),.bool (decide (slotOf (.agg x)=slotOf (.agg y))))
 | _=>none
def cOwnS:Ctr
 | [.agg x]=>some (isSlot (.agg x)&&fewG (slotOf (.agg x)),slotA (slotOf (.agg x)))
 | _=>none
def invSS (x y:SlotG):Inv:=⟨Nat,20,fun i=>⟨[(2,.ptr 0 0 0 0),(3,.ptr 1 0 0 0),(5,.int .i64 i)],[(0,.row 0 2 true (.lst [slotA x])),(1,.row 0 2 true (.lst [slotA y]))]⟩,
 fun i=>i<=x.gds.length/\∀ j,j<i->x.gds.getD j 0=y.gds.getD j 0,fun i=>x.gds.length - i⟩
def invEL (l m:List SlotG):Inv:=⟨Nat,20,fun i=>⟨[(2,.ptr 0 0 0 0),(3,.ptr 1 0 0 0),(5,.int .i64 i)],[(0,.row 0 1 true (.lst [lineA l])),(1,.row 0 1 true (.lst [lineA m]))]⟩,
 fun i=>i<=l.length/\∀ j,j<i->l.getD j slotD'=m.getD j slotD',fun i=>l.length - i⟩
noncomputable def ESS (x y:SlotG):Env:=mkE Tryz.prog (tblOf []) (fun f b=>if f=54/\b=0 then some (invSS x y) else none)
noncomputable def EEL (l m:List SlotG):Env:=mkE Tryz.prog (tblOf [(54,cSameS)]) (fun f b=>if f=101/\b=0 then some (invEL l m) else none)
theorem sameS_vc (x y:SlotG) (v:Bool):(vcFun (ESS x y) 20 54 [slotA x,slotA y] .nil 0 (retP 3 (.bool v))).sat=(let c0:=(0=0/\0=0/\0=0)
 let c1:=fun i:Nat=> (i<=x.gds.length/\∀ j:Nat,j<i->x.gds.getD j (0:Int)=y.gds.getD j (0:Int))
 let c2:=(0=0/\(true=true->true=true)/\((slotA x).sub (slotA x)/\(slotA x).cells.length=(slotA x).cells.length)/\True)
 let c3:=(0=0/\(true=true->true=true)/\((slotA y).sub (slotA y)/\(slotA y).cells.length=(slotA y).cells.length)/\True)
 VB (x.fst !=y.fst||(x.gds.length:Int) !=(y.gds.length:Int)) (false=v) ((∃ i:Nat,(c1 i)/\(c0/\c0/\(0:Int)=(i:Int)/\True)/\c2/\c3/\True)/\∀ i:Nat,(c1 i)->VB (decide ((i:Int)<(x.gds.length:Int))) (NB (decide ((0:Int)<=(i:Int)/\(i:Int)<(x.gds.length:Int))) (NB (decide ((0:Int)<=(i:Int)/\(i:Int)<(y.gds.length:Int))) (VB (x.gds.getD (i:Int).toNat (0:Int) !=y.gds.getD (i:Int).toNat (0:Int)) (false=v) (∃ i':Nat,(c1 i')/\(invSS x y).μ i'<(invSS x y).μ i/\(c0/\c0/\IntKind.i64.wrap ((i:Int)+(1:Int))=(i':Int)/\True)/\c2/\c3/\True)))) (true=v))):=by
 kernel_rfl
theorem ownS_vc (x:SlotG):(vcFun (ESS x x) 20 55 [slotA x] .nil 0 (retP 3 (slotA x))).sat=( NB (true&&room (0+x.gds.length) 8&&true&&(x.gds.length !=0||true)) (x.fst=x.fst/\(0+x.gds.length=x.gds.length/\(∀ i:Nat,i<0+x.gds.length->x.gds.getD (0+i) (0:Int)=x.gds.getD i (0:Int)/\1=1)/\(false=true->decide (none=some (0+x.gds.length))=true))/\True)):=by
 kernel_rfl
theorem eqL_vc (l m:List SlotG) (v:Bool):(vcFun (EEL l m) 20 101 [lineA l,lineA m] .nil 0 (retP 3 (.bool v))).sat=(let c0:=fun i:Nat=> (AV.agg [AV.int .i64 (l.getD (i:Int).toNat slotD').fst,AV.rof (l.getD (i:Int).toNat slotD').gds.length (fun k:Nat=> AV.int .i64 ((l.getD (i:Int).toNat slotD').gds.getD k (0:Int))) false])
 let c1:=fun i:Nat=> (AV.agg [AV.int .i64 (m.getD (i:Int).toNat slotD').fst,AV.rof (m.getD (i:Int).toNat slotD').gds.length (fun k:Nat=> AV.int .i64 ((m.getD (i:Int).toNat slotD').gds.getD k (0:Int))) false])
 let c2:=(0=0/\0=0/\0=0)
 let c3:=(0=0/\(true=true->true=true)/\((lineA l).sub (lineA l)/\(lineA l).cells.length=(lineA l).cells.length)/\True)
 let c4:=(0=0/\(true=true->true=true)/\((lineA m).sub (lineA m)/\(lineA m).cells.length=(lineA m).cells.length)/\True)
 let c5:=fun i:Nat=> (i<=l.length/\∀ j:Nat,j<i->l.getD j slotD'=m.getD j slotD')
 VB ((l.length:Int) !=(m.length:Int)) (false=v) ((∃ i:Nat,(c5 i)/\(c2/\c2/\(0:Int)=(i:Int)/\True)/\c3/\c4/\True)/\∀ i:Nat,(c5 i)->VB (decide ((i:Int)<(l.length:Int))) (NB (decide ((0:Int)<=(i:Int)/\(i:Int)<(l.length:Int))) (NB (decide ((0:Int)<=(i:Int)/\(i:Int)<(m.length:Int))) (NB (isSlot (c0 i)&&isSlot (c1 i)&&fewG (slotOf (c0 i))&&fewG (slotOf (c1 i))) (VB (!decide (slotOf (c0 i)=slotOf (c1 i))) (false=v) (∃ i':Nat,(c5 i')/\(invEL l m).μ i'<(invEL l m).μ i/\(c2/\c2/\IntKind.i64.wrap ((i:Int)+(1:Int))=(i':Int)/\True)/\c3/\c4/\True))))) (true=v))):=by
 kernel_rfl
theorem ESS_ok (x y:SlotG):CtrOK (ESS x y):=mkE_ctr (tbl_nil _)
theorem sameS_pure (x y:SlotG) (hx:x.gds.length<=1000000):PureC Tryz.prog gU 54 [slotA x,slotA y] (.bool (decide (x=y))):=by
 refine PureC.of_vc (E:=ESS x y) (k:=20) (d:=3) mix (ESS_ok x y) ?_;refine (sameS_vc x y _).mpr ?_;refine VB_intro (fun h=>?_) (fun h=>?_)
 ·refine (decide_eq_false fun e=>?_).symm
  rw [e] at h;simp at h
 simp only [Bool.or_eq_false_iff,bne_eq_false_iff_eq] at h;have hlen:x.gds.length=y.gds.length:=by omega
 refine ⟨⟨0,⟨Nat.zero_le _,fun j hj=>absurd hj (Nat.not_lt_zero _)⟩,?_⟩,fun i hpre=>?_⟩
 ·repeat' (first|exact sub_slot _|exact sub_line _|exact trivial|exact rfl|exact Or.inr rfl|exact fun h=>h|exact fun _ _=>rfl|refine And.intro ?_ ?_)
 obtain ⟨hi,hpre⟩:=hpre;refine VB_intro (fun h1=>?_) (fun h1=>?_)
 ·have h2:i<x.gds.length:=by
   have:=of_decide_eq_true h1;omega
  refine NB_intro (by simp; omega) (NB_intro (by simp; omega) (VB_intro (fun h3=>?_) (fun h3=>?_)))
  ·refine (decide_eq_false fun e=>?_).symm
   rw [e] at h3;simp at h3
  ·have h4:x.gds.getD i 0=y.gds.getD i 0:=by
    have h5:(x.gds.getD i 0 !=y.gds.getD i 0)=false:=h3;simpa only [bne_eq_false_iff_eq] using h5
   refine ⟨i+1,⟨by omega,fun j hj=>?_⟩,(show x.gds.length - (i+1)<x.gds.length - i by omega),?_⟩
   ·rcases Nat.lt_or_ge j i with h5|h5
    ·exact hpre j h5
    ·obtain rfl:j=i:=by omega
     exact h4
   have hW:IntKind.i64.wrap ((i:Int)+1)=((i+1:Nat):Int):=by rw [wrap_i64_id (by omega) (by omega)]; omega
   repeat' (first|exact sub_slot _|exact sub_line _|exact trivial|exact rfl|exact Or.inr rfl|exact fun h=>h|exact fun _ _=>rfl|refine And.intro ?_ ?_)
   all_goals exact hW
 ·have h2:i=x.gds.length:=by
   have:=of_decide_eq_false h1;omega
  have h3:x.gds=y.gds:=list_ext 0 hlen fun j hj=>hpre j (by omega)
  refine (decide_eq_true ?_).symm;obtain ⟨a,g,u⟩:=x;obtain ⟨a',g',u'⟩:=y;have h4:a=a':=h.1;have h5:g=g':=h3;rw [h4,h5]
theorem sameS_ok:PureF Tryz.prog 54 cSameS:=by
 intro args nd v he hnd;unfold cSameS at he;split at he <;> cases he
 rename_i x y;simp only [Bool.and_eq_true,fewG,decide_eq_true_eq] at hnd;obtain ⟨⟨⟨h1,h2⟩,h3⟩,h4⟩:=hnd;refine PureC.args (args':=[slotA (slotOf (.agg x)),slotA (slotOf (.agg y))]) rfl (fun i hi=>?_) (sameS_pure _ _ h3)
 match i,hi with
 | 0,_=>exact (slot_sub h1).1
 | 1,_=>exact (slot_sub h2).1
theorem ownS_pure (x:SlotG) (hx:x.gds.length<=1000000):PureC Tryz.prog gU 55 [slotA x] (slotA x):=by
 refine PureC.of_vc (E:=ESS x x) (k:=20) (d:=3) mix (ESS_ok x x) ?_;refine (ownS_vc x).mpr ?_;have hroom:room (0+x.gds.length) 8=true:=decide_eq_true ⟨by omega,by omega⟩
 refine NB_intro (by rw [hroom]; simp) ⟨rfl,⟨Nat.zero_add _,fun k hk=>?_,fun h=>by cases h⟩,trivial⟩
 rw [Nat.zero_add];exact ⟨rfl,rfl⟩
theorem ownS_ok:PureF Tryz.prog 55 cOwnS:=by
 intro args nd v he hnd;unfold cOwnS at he;split at he <;> cases he
 rename_i x;simp only [Bool.and_eq_true,fewG,decide_eq_true_eq] at hnd;refine PureC.args (args':=[slotA (slotOf (.agg x))]) rfl (fun i hi=>?_) (ownS_pure _ hnd.2)
 match i,hi with
 | 0,_=>exact (slot_sub hnd.1).1
theorem EEL_ok (l m:List SlotG):CtrOK (EEL l m):=mkE_ctr (tbl_cons sameS_ok (tbl_nil _))
theorem eqL_pure (l m:List SlotG) (hl:fewS l=true) (hm:fewS m=true):PureC Tryz.prog gU 101 [lineA l,lineA m] (.bool (decide (l=m))):=by
 have hll:l.length<=1000:=by simp only [fewS,Bool.and_eq_true,decide_eq_true_eq] at hl; exact hl.1
 refine PureC.of_vc (E:=EEL l m) (k:=20) (d:=3) mix (EEL_ok l m) ?_;refine (eqL_vc l m _).mpr ?_;refine VB_intro (fun h=>?_) (fun h=>?_)
 ·refine (decide_eq_false fun e=>?_).symm
  rw [e] at h;simp at h
 have hlen:l.length=m.length:=by
  simp only [bne_eq_false_iff_eq] at h;omega
 refine ⟨⟨0,⟨Nat.zero_le _,fun j hj=>absurd hj (Nat.not_lt_zero _)⟩,?_⟩,fun i hpre=>?_⟩
 ·repeat' (first|exact sub_slot _|exact sub_line _|exact trivial|exact rfl|exact Or.inr rfl|exact fun h=>h|exact fun _ _=>rfl|refine And.intro ?_ ?_)
 obtain ⟨hi,hpre⟩:=hpre;refine VB_intro (fun h1=>?_) (fun h1=>?_)
 ·have h2:i<l.length:=by
   have:=of_decide_eq_true h1;omega
  have k1:=fewS_at hl h2;have k2:=fewS_at hm (i:=i) (by omega)
  have hnb:(isSlot (slotA (l.getD i slotD'))&&isSlot (slotA (m.getD i slotD'))&&fewG (slotOf (slotA (l.getD i slotD')))&&fewG (slotOf (slotA (m.getD i slotD'))))=true:=by
   rw [isSlot_self,isSlot_self,slot_self,slot_self,fewG,fewG,decide_eq_true (by omega),decide_eq_true (by omega)]
   rfl
  refine NB_intro (by simp; omega) (NB_intro (by simp; omega) (NB_intro hnb (VB_intro (fun h3=>?_) (fun h3=>?_))))
  ·have h4:(!decide (slotOf (slotA (l.getD i slotD'))=slotOf (slotA (m.getD i slotD'))))=true:=h3;refine (decide_eq_false fun e=>?_).symm
   rw [e] at h4;simp at h4
  ·have h4:(!decide (slotOf (slotA (l.getD i slotD'))=slotOf (slotA (m.getD i slotD'))))=false:=h3;rw [slot_self,slot_self] at h4;have h5:l.getD i slotD'=m.getD i slotD':=by
    simp only [Bool.not_eq_false'] at h4;exact of_decide_eq_true h4
   refine ⟨i+1,⟨by omega,fun j hj=>?_⟩,(show l.length - (i+1)<l.length - i by omega),?_⟩
   ·rcases Nat.lt_or_ge j i with h6|h6
    ·exact hpre j h6
    ·obtain rfl:j=i:=by omega
     exact h5
   have hW:IntKind.i64.wrap ((i:Int)+1)=((i+1:Nat):Int):=by rw [wrap_i64_id (by omega) (by omega)]; omega
   repeat' (first|exact sub_slot _|exact sub_line _|exact trivial|exact rfl|exact Or.inr rfl|exact fun h=>h|exact fun _ _=>rfl|refine And.intro ?_ ?_)
   all_goals exact hW
 ·have h2:i=l.length:=by
   have:=of_decide_eq_false h1;omega
  exact (decide_eq_true (list_ext slotD' hlen fun j hj=>hpre j (by omega))).symm
def cEqL:Ctr
 | [.agg [.rof n f _],.agg [.rof m g _]]=>some (slotsB n f&&slotsB m g&&fewS (slotsOf' n f)&&fewS (slotsOf' m g),.bool (decide (slotsOf' n f=slotsOf' m g)))
 | _=>none
theorem eqL_ok:PureF Tryz.prog 101 cEqL:=by
 intro args nd v he hnd;unfold cEqL at he;split at he <;> cases he
 rename_i n f ex m g ex';simp only [Bool.and_eq_true] at hnd;obtain ⟨⟨⟨h1,h2⟩,h3⟩,h4⟩:=hnd;refine PureC.args (args':=[lineA (slotsOf' n f),lineA (slotsOf' m g)]) rfl (fun i hi=>?_) (eqL_pure _ _ h3 h4)
 match i,hi with
 | 0,_=>exact ⟨slots_sub h1,trivial⟩
 | 1,_=>exact ⟨slots_sub h2,trivial⟩
def invR0 (l:List SlotG) (a:Int):Inv:=⟨Nat,20,fun i=>⟨[(1,.int .i64 a),(2,.ptr 0 0 0 0),(5,.int .i64 i)],[(0,.row 0 1 true (.lst [lineA l]))]⟩,fun i=>i<=l.length/\∀ j,j<i->outS a (l.getD j slotD')=false,fun i=>l.length - i⟩
def invR2 (l:List SlotG) (a:Int) (i:Int):Inv:=⟨Nat,30,fun k=>⟨[(1,.int .i64 a),(2,.ptr 0 0 0 0),(5,.int .i64 i),(6,.ptr 20 0 0 0),(7,.int .i64 k)],[(0,.row 0 1 true (.lst [lineA l])),(20,.row 0 2 true (.lst [slotA (l.getD i.toNat slotD')]))]⟩,
 fun k=>k<=(l.getD i.toNat slotD').gds.length/\∀ j,j<k->outN a ((l.getD i.toNat slotD').gds.getD j 0)=false,fun k=>(l.getD i.toNat slotD').gds.length - k⟩
def invR4 (l:List SlotG):Inv:=⟨Nat,40,fun i=>⟨[(2,.ptr 0 0 0 0),(8,.int .i64 i)],[(0,.row 0 1 true (.lst [lineA l]))]⟩,fun i=>i<=l.length/\∀ j,j<i->ascB (l.getD j slotD').gds=true,fun i=>l.length - i⟩
def invR6 (l:List SlotG) (i:Int):Inv:=⟨Nat,50,fun k=>⟨[(2,.ptr 0 0 0 0),(8,.int .i64 i),(9,intsA (l.getD i.toNat slotD').gds),(10,.int .i64 (k+1:Nat))],[(0,.row 0 1 true (.lst [lineA l]))]⟩,
 fun k=>k<=(l.getD i.toNat slotD').gds.length - 1/\∀ j,j<k->(l.getD i.toNat slotD').gds.getD j 0<(l.getD i.toNat slotD').gds.getD (j+1) 0,fun k=>(l.getD i.toNat slotD').gds.length - k⟩
noncomputable def ERc (l:List SlotG) (a:Int):Env:={ mkE Tryz.prog (tblOf []) (fun f b=>if f=100 then (if b=0 then some (invR0 l a) else if b=4 then some (invR4 l) else none) else none) with
 invS:=fun f c s=>if f=100 then (if c=2 then (match s.tmf 5 with|.int _ i=>some (invR2 l a i)|_=>none) else if c=6 then (match s.tmf 8 with|.int _ i=>some (invR6 l i)|_=>none) else none) else none }
theorem rchk_vc (l:List SlotG) (a:Int) (r:Int):(vcFun (ERc l a) 20 100 [lineA l,.int .i64 a] .nil 0 (retP 3 (.int .i64 r))).sat=(let c0:=fun i:Nat=> (l.getD (i:Int).toNat slotD')
 let c1:=(0=0/\(true=true->true=true)/\((lineA l).sub (lineA l)/\(lineA l).cells.length=(lineA l).cells.length)/\True)
 let c2:=(0=0/\0=0/\0=0)
 let c3:=fun (i_1:Nat) (i:Nat)=>(i_1<=(c0 i).gds.length - 1/\∀ j:Nat,j<i_1->(c0 i).gds.getD j (0:Int)<(c0 i).gds.getD (j+1) (0:Int))
 let c4:=fun i_1:Nat=> (↑(i_1+1):Int)
 let c5:=fun (i_1:Nat) (i:Nat)=>(i_1<=(c0 i).gds.length/\∀ j:Nat,j<i_1->outN a ((c0 i).gds.getD j (0:Int))=false)
 let c6:=fun i:Nat=> (0=0/\(true=true->true=true)/\((slotA (c0 i)).sub (slotA (c0 i))/\(slotA (c0 i)).cells.length=(slotA (c0 i)).cells.length)/\True)
 let c7:=fun i:Nat=> (i<=l.length/\∀ j:Nat,j<i->ascB (l.getD j slotD').gds=true)
 let c8:=fun i:Nat=> (i<=l.length/\∀ j:Nat,j<i->outS a (l.getD j slotD')=false)
 let c9:=fun i:Nat=> (↑(c0 i).gds.length:Int)
 NB (impB (isW false ((l.length:Int)==(0:Int))) (decide ((0:Int)<=(0:Int)/\(0:Int)<(l.length:Int)))) (VB ((l.length:Int)==(0:Int)||decide ((↑(l.getD (Int.toNat (0:Int)) slotD').gds.length:Int) > (0:Int))) ((3:Int)=r) (VB (decide (a<(0:Int))||decide (a > (12:Int))) ((2:Int)=r) ((∃ i:Nat,(c8 i)/\(a=a/\c2/\(0:Int)=(i:Int)/\True)/\c1/\True)/\∀ i:Nat,(c8 i)->VB (decide ((i:Int)<(l.length:Int))) (NB (decide ((0:Int)<=(i:Int)/\(i:Int)<(l.length:Int))) (VB (decide ((c0 i).fst<(0:Int))||decide ((c0 i).fst>=a)) ((2:Int)=r) ((∃ i_1:Nat,(c5 i_1 i)/\(a=a/\c2/\(i:Int)=(i:Int)/\c2/\(0:Int)=(i_1:Int)/\True)/\c1/\(c6 i)/\True)/\∀ i_1:Nat,(c5 i_1 i)->VB (decide ((i_1:Int)<(c9 i))) (NB (decide ((0:Int)<=(i_1:Int)/\(i_1:Int)<(c9 i))) (NB (impB (isW false (decide ((c0 i).gds.getD (i_1:Int).toNat (0:Int)<(0:Int)))) (decide ((0:Int)<=(i_1:Int)/\(i_1:Int)<(c9 i)))) (VB (decide ((c0 i).gds.getD (i_1:Int).toNat (0:Int)<(0:Int))||decide ((c0 i).gds.getD (i_1:Int).toNat (0:Int)>=a)) ((2:Int)=r) (∃ i':Nat,(c5 i' i)/\(invR2 l a (i:Int)).μ i'<(invR2 l a (i:Int)).μ i_1/\(a=a/\c2/\(i:Int)=(i:Int)/\c2/\IntKind.i64.wrap ((i_1:Int)+(1:Int))=(i':Int)/\True)/\c1/\(c6 i)/\True)))) (∃ i':Nat,(c8 i')/\(invR0 l a).μ i'<(invR0 l a).μ i/\(a=a/\c2/\IntKind.i64.wrap ((i:Int)+(1:Int))=(i':Int)/\True)/\c1/\True)))) ((∃ i:Nat,(c7 i)/\(c2/\(0:Int)=(i:Int)/\True)/\c1/\True)/\∀ i:Nat,(c7 i)->VB (decide ((i:Int)<(l.length:Int))) (NB (decide ((0:Int)<=(i:Int)/\(i:Int)<(l.length:Int))) ((∃ i_1:Nat,(c3 i_1 i)/\(c2/\(i:Int)=(i:Int)/\(intsA (c0 i).gds).sub (intsA (c0 i).gds)/\(1:Int)=(c4 i_1)/\True)/\c1/\True)/\∀ i_1:Nat,(c3 i_1 i)->VB (decide ((c4 i_1)<(c9 i))) (NB (decide ((0:Int)<=(c4 i_1)/\(c4 i_1)<(c9 i))) (NB (decide ((0:Int)<=IntKind.i64.wrap ((c4 i_1) - (1:Int))/\IntKind.i64.wrap ((c4 i_1) - (1:Int))<(c9 i))) (VB (decide ((c0 i).gds.getD (c4 i_1).toNat (0:Int)<=(c0 i).gds.getD (IntKind.i64.wrap ((c4 i_1) - (1:Int))).toNat (0:Int))) ((3:Int)=r) (∃ i':Nat,(c3 i' i)/\(invR6 l (i:Int)).μ i'<(invR6 l (i:Int)).μ i_1/\(c2/\(i:Int)=(i:Int)/\(intsA (c0 i).gds).sub (intsA (c0 i).gds)/\IntKind.i64.wrap ((c4 i_1)+(1:Int))=(c4 i')/\True)/\c1/\True)))) (∃ i':Nat,(c7 i')/\(invR4 l).μ i'<(invR4 l).μ i/\(c2/\IntKind.i64.wrap ((i:Int)+(1:Int))=(i':Int)/\True)/\c1/\True))) ((0:Int)=r)))))):=by
 kernel_rfl
theorem ERc_ok (l:List SlotG) (a:Int):CtrOK (ERc l a):=⟨(mkE_ctr (P:=Tryz.prog) (inv:=fun _ _=>none) (tbl_nil _)).1,itr_none rfl⟩
theorem rchk_pure (l:List SlotG) (a:Int) (hf:fewS l=true):PureC Tryz.prog gU 100 [lineA l,.int .i64 a] (.int .i64 (chkL a l)):=by
 have hl:l.length<=1000:=by simp only [fewS,Bool.and_eq_true,decide_eq_true_eq] at hf; exact hf.1
 refine PureC.of_vc (E:=ERc l a) (k:=20) (d:=3) mix (ERc_ok l a) ?_;refine (rchk_vc l a _).mpr ?_
 conv=>zeta
 refine NB_intro (by rcases Nat.eq_zero_or_pos l.length with h|h <;> simp [impB,isW,h]) (VB_intro (fun h=>?_) (fun h=>?_))
 ·have:l.length=0\/0<(l.getD 0 slotD').gds.length:=by simpa using h
  rw [chkL,if_pos this]
 have h0:¬ (l.length=0\/0<(l.getD 0 slotD').gds.length):=by simpa using h
 refine VB_intro (fun h1=>?_) (fun h1=>?_)
 ·have:a<0\/12<a:=by simpa using h1
  rw [chkL,if_neg h0,if_pos this]
 have h2:¬ (a<0\/12<a):=by simpa using h1
 refine ⟨⟨0,⟨Nat.zero_le _,fun j hj=>by omega⟩,?_⟩,fun i hpre=>?_⟩
 ·repeat' (first|exact sub_slot _|exact sub_line _|exact sub_ints _|exact trivial|exact rfl|exact Or.inr rfl|exact fun h=>h|exact fun _ _=>rfl|refine And.intro ?_ ?_)
 obtain ⟨hi,hpre⟩:=hpre;refine VB_intro (fun h3=>?_) (fun h3=>?_)
 ·have h4:i<l.length:=by simpa using h3
  have hg:=fewS_at hf h4;rw [show (Int.toNat (i:Int))=i from rfl];have hbad:outS a (l.getD i slotD')=true->chkL a l=2:=fun h5=>by
   rw [chkL,if_neg h0,if_neg h2,if_pos (any_at (d:=slotD') h4 h5)]
  have hW:IntKind.i64.wrap ((i:Int)+1)=((i+1:Nat):Int):=by rw [wrap_i64_id (by omega) (by omega)]; omega
  generalize hs:l.getD i slotD'=s at hg hbad ⊢;refine NB_intro (by simp; omega) (VB_intro (fun h5=>?_) (fun h5=>?_))
  ·have h6:outN a s.1=true:=by simpa [outN] using h5
   rw [hbad (by rw [outS,h6]; rfl)]
  have h6:outN a s.1=false:=by simpa [outN] using h5
  refine ⟨⟨0,⟨Nat.zero_le _,fun j hj=>by omega⟩,?_⟩,fun k hk=>?_⟩
  ·repeat' (first|exact sub_slot _|exact sub_line _|exact sub_ints _|exact trivial|exact rfl|exact Or.inr rfl|exact fun h=>h|exact fun _ _=>rfl|refine And.intro ?_ ?_)
  obtain ⟨hk1,hk2⟩:=hk;refine VB_intro (fun h7=>?_) (fun h7=>?_)
  ·have h8:k<s.gds.length:=by simpa using h7
   rw [show (Int.toNat (k:Int))=k from rfl];refine NB_intro (by simp; omega) (NB_intro (impB_of' (by simp; omega)) (VB_intro (fun h9=>?_) (fun h9=>?_)))
   ·have h10:outN a (s.gds.getD k 0)=true:=h9;rw [hbad (by rw [outS,any_at (d:=0) h8 h10]; simp)]
   ·have h10:outN a (s.gds.getD k 0)=false:=h9;refine ⟨k+1,⟨by omega,fun j hj=>?_⟩,?_,?_⟩
    ·rcases Nat.lt_or_ge j k with h11|h11
     ·exact hk2 j h11
     ·obtain rfl:j=k:=by omega
      exact h10
    ·simp only [invR2,Int.toNat_natCast,hs];omega
    have hWk:IntKind.i64.wrap ((k:Int)+1)=((k+1:Nat):Int):=by rw [wrap_i64_id (by omega) (by omega)]; omega
    repeat' (first|exact sub_slot _|exact sub_line _|exact sub_ints _|exact trivial|exact rfl|exact Or.inr rfl|exact fun h=>h|exact fun _ _=>rfl|refine And.intro ?_ ?_)
    all_goals exact hWk
  ·have h8:¬ k<s.gds.length:=by simpa using h7
   have h9:outS a s=false:=by
    rw [outS,h6,any_none (d:=0) (fun j hj=>hk2 j (by omega))]
    rfl
   refine ⟨i+1,⟨by omega,fun j hj=>?_⟩,by simp only [invR0]; omega,?_⟩
   ·rcases Nat.lt_or_ge j i with h11|h11
    ·exact hpre j h11
    ·obtain rfl:j=i:=by omega
     rw [hs];exact h9
   repeat' (first|exact sub_slot _|exact sub_line _|exact sub_ints _|exact trivial|exact rfl|exact Or.inr rfl|exact fun h=>h|exact fun _ _=>rfl|refine And.intro ?_ ?_)
   all_goals exact hW
 have h4:¬ i<l.length:=by simpa using h3
 have hany:¬ (l.any (outS a)=true):=by rw [any_none (d:=slotD') (fun j hj=>hpre j (by omega))]; simp
 refine ⟨⟨0,⟨Nat.zero_le _,fun j hj=>by omega⟩,?_⟩,fun i hpre=>?_⟩
 ·repeat' (first|exact sub_slot _|exact sub_line _|exact sub_ints _|exact trivial|exact rfl|exact Or.inr rfl|exact fun h=>h|exact fun _ _=>rfl|refine And.intro ?_ ?_)
 obtain ⟨hi,hpre⟩:=hpre;refine VB_intro (fun h3=>?_) (fun h3=>?_)
 ·have h4:i<l.length:=by simpa using h3
  have hg:=fewS_at hf h4;rw [show (Int.toNat (i:Int))=i from rfl];have hW:IntKind.i64.wrap ((i:Int)+1)=((i+1:Nat):Int):=by rw [wrap_i64_id (by omega) (by omega)]; omega
  generalize hs:l.getD i slotD'=s at hg ⊢;refine NB_intro (by simp; omega) ⟨⟨0,⟨Nat.zero_le _,fun j hj=>by omega⟩,?_⟩,fun k hk=>?_⟩
  ·repeat' (first|exact sub_slot _|exact sub_line _|exact sub_ints _|exact trivial|exact rfl|exact Or.inr rfl|exact fun h=>h|exact fun _ _=>rfl|refine And.intro ?_ ?_)
  obtain ⟨hk1,hk2⟩:=hk;have hsub:IntKind.i64.wrap (((k+1:Nat):Int) - 1)=k:=by rw [wrap_i64_id (by omega) (by omega)]; omega
  rw [hsub];refine VB_intro (fun h5=>?_) (fun h5=>?_)
  ·have h6:k+1<s.gds.length:=by simp at h5; omega
   refine NB_intro (by simp; omega) (NB_intro (by simp; omega) (VB_intro (fun h7=>?_) (fun h7=>?_)))
   ·have h8:¬ s.gds.getD k 0<s.gds.getD (k+1) 0:=by
     have h9:s.gds.getD (k+1) 0<=s.gds.getD k 0:=by simpa only [decide_eq_true_eq,Int.toNat_natCast] using h7
     omega
    have h10:ascB s.gds=false:=by
     unfold ascB;rw [List.all_eq_false];exact ⟨k,by simp; omega,by simpa using h8⟩
    rw [chkL,if_neg h0,if_neg h2,if_neg hany,if_neg (by rw [all_not (d:=slotD') h4 (by simp only [hs]; exact h10)]; simp)]
   ·have h8:s.gds.getD k 0<s.gds.getD (k+1) 0:=by
     have h9:¬ s.gds.getD (k+1) 0<=s.gds.getD k 0:=by simpa only [decide_eq_false_iff_not,Int.toNat_natCast] using h7
     omega
    refine ⟨k+1,⟨by omega,fun j hj=>?_⟩,by simp only [invR6,Int.toNat_natCast,hs]; omega,?_⟩
    ·rcases Nat.lt_or_ge j k with h11|h11
     ·exact hk2 j h11
     ·obtain rfl:j=k:=by omega
      exact h8
    have hWk:IntKind.i64.wrap (((k+1:Nat):Int)+1)=((k+1+1:Nat):Int):=by rw [wrap_i64_id (by omega) (by omega)]; omega
    repeat' (first|exact sub_slot _|exact sub_line _|exact sub_ints _|exact trivial|exact rfl|exact Or.inr rfl|exact fun h=>h|exact fun _ _=>rfl|refine And.intro ?_ ?_)
    all_goals exact hWk
  ·have h6:¬ k+1<s.gds.length:=by simp at h5; omega
   refine ⟨i+1,⟨by omega,fun j hj=>?_⟩,by simp only [invR4]; omega,?_⟩
   ·rcases Nat.lt_or_ge j i with h7|h7
    ·exact hpre j h7
    ·obtain rfl:j=i:=by omega
     rw [hs];simp only [ascB,List.all_eq_true,List.mem_range,decide_eq_true_eq];exact fun q hq=>hk2 q (by omega)
   repeat' (first|exact sub_slot _|exact sub_line _|exact sub_ints _|exact trivial|exact rfl|exact Or.inr rfl|exact fun h=>h|exact fun _ _=>rfl|refine And.intro ?_ ?_)
   all_goals exact hW
 ·have h4:¬ i<l.length:=by simpa using h3
  rw [chkL,if_neg h0,if_neg h2,if_neg hany,if_pos (all_at (d:=slotD') (fun j hj=>hpre j (by omega)))]
theorem rchk_ok:PureF Tryz.prog 100 cChk:=by
 intro args nd v he hnd;unfold cChk at he;split at he <;> cases he
 rename_i n f ex a;simp only [Bool.and_eq_true] at hnd;refine PureC.args (args':=[lineA (slotsOf' n f),.int .i64 a]) rfl (fun i hi=>?_) (rchk_pure _ a hnd.2)
 match i,hi with
 | 0,_=>exact ⟨slots_sub hnd.1,trivial⟩
 | 1,_=>exact rfl
end Go.Proofs.YtlnpgnipocbfhaaGreatDoor
