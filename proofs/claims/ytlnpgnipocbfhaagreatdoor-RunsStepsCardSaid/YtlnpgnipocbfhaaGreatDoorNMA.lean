/- TREES, document A: lines, Atoms: conditions. -/
import Derived.Test.YtlnpgnipocbfhaaGreatDoorNLW
import Derived.Test.YtlnpgnipocbfhaaGreatDoorNLL
namespace Go.Proofs.YtlnpgnipocbfhaaGreatDoor
open Pw Go
set_option maxRecDepth 100000
def okR (t:List TwigG) (j:Nat):Bool:=okN t j&&decide (-1<=(t.getD j twigD).line)
def nE (t:List TwigG):Nat->Nat
 | 0=>0
 | n+1=>if (t.getD n twigD).ends then nE t n+1 else nE t n
def atK (t:List TwigG):Nat->Int->Option Nat
 | 0,_=>none
 | j+1,k=>if (t.getD j twigD).line=k then some j else atK t j k
def outK (t:List TwigG) (j:Nat) (k:Int):List SlotG:=match atK t j k with
 | some i=>upL t i
 | none=>[]
def seenK (t:List TwigG) (j:Nat) (k:Int):Bool:=(atK t j k).isSome
def fitK (t:List TwigG) (n j:Nat):Bool:=decide ((t.getD j twigD).line<0)||(decide ((t.getD j twigD).line<n)&&!seenK t j (t.getD j twigD).line)
def linesD (t:List TwigG):List (List SlotG)×Bool :=
 if t.length<2\/769<t.length then ([],false)
 else if (List.range t.length).all (okR t) then
  (if (List.range t.length).all (fitK t (nE t t.length)) then ((List.range (nE t t.length)).map fun (k:Nat)=>outK t t.length (k:Int),true) else ([],false))
 else ([],false)
def invD0 (t:List TwigG):Inv:=⟨Nat,30,fun i=>⟨[(1,.ptr 0 0 0 0),(4,.int .i64 (nE t i:Nat)),(5,.int .i64 i)],[(0,.row 0 1 true (.lst [treeA t]))]⟩,fun i=>i<=t.length/\∀ j,j<i->okR t j=true,fun i=>t.length - i⟩
def invD2 (t:List TwigG) (n:Nat):Inv:=⟨Nat,40,fun i=>⟨[(1,.ptr 0 0 0 0),(4,.int .i64 n),(7,.sl 30 0 0 n (some n)),(8,.sl 31 0 0 n (some n)),(9,.int .i64 i)],
  [(0,.row 0 1 true (.lst [treeA t])),(30,.row 0 1 true (.fn n fun k=>lineA (outK t i (k:Int)))),(31,.row 0 1 true (.fn n fun k=>.bool (seenK t i (k:Int))))]⟩,fun i=>i<=t.length/\∀ j,j<i->fitK t n j=true,fun i=>t.length - i⟩
noncomputable def EDl (t:List TwigG) (n:Nat):Env:=mkE Tryz.prog (tblOf [(159,cUp)]) (fun f b=>if f=155 then (if b=0 then some (invD0 t) else if b=2 then some (invD2 t n) else none) else none)
def invDA (l:List SlotG):Inv:=⟨Nat×Nat,30,fun p=>⟨[(1,.ptr 0 0 0 0),(3,.sl 20 p.2 0 p.1 none),(4,.int .i64 p.1)],[(0,.row 0 1 true (.lst [lineA l])),(20,.row p.2 1 true (.fn p.1 fun k=>.int .i64 (l.getD k slotD').1))]⟩,
 fun p=>p.1<=l.length,fun p=>l.length - p.1⟩
noncomputable def EDA (l:List SlotG):Env:=mkE Tryz.prog (tblOf []) (fun f b=>if f=158/\b=0 then some (invDA l) else none)
theorem dlines_vc (t:List TwigG) (n:Nat) (L:List (List SlotG)) (b:Bool):(vcFun (EDl t n) 20 155 [treeA t] .nil 0 (retP 3 (.tup [linesA L,.bool b]))).sat=(let c7:=(true=true->true=true)
 let c0:=(0=0/\c7/\((treeA t).sub (treeA t)/\(treeA t).cells.length=(treeA t).cells.length)/\True)
 let c1:=(treeDec (AV.agg [AV.rof t.length (fun k:Nat=> twigA (t.getD k twigD)) false]))
 let c2:=fun i:Nat=> (t.getD (i:Int).toNat twigD)
 let c3:=(0=0/\0=0/\0=0)
 let c4:=fun (i:Nat) (i_1:Nat) (i_2:Nat)=>((outK t i (i_1:Int)).getD i_2 slotD')
 let c5:=(0=0/\0=0/\n=n/\(some n=some n\/some n=none))
 let c6:=fun i:Nat=> (!(c2 i).ends==decide ((c2 i).line>=(0:Int))||decide ((c2 i).line<(-1:Int))||decide ((i:Int) > (0:Int))&&(decide ((c2 i).par<(0:Int))||decide ((c2 i).par>=(i:Int))))
 let c8:=fun i_1:Nat=> (i_1<=t.length/\∀ j:Nat,j<i_1->fitK t n j=true)
 let c9:=fun i:Nat=> (i<=t.length/\∀ j:Nat,j<i->okR t j=true)
 let c10:=(L.length=0/\false=b/\True)
 let c11:=fun i:Nat=> (0=0/\0=0/\(↑(nE t i):Int).toNat=n/\(some (↑(nE t i):Int).toNat=some n\/some n=none))
 let c12:=fun i:Nat=> (true&&decide ((0:Int)<=(c2 i).line/\(c2 i).line<(n:Int)))
 let c13:=(false=true->false=true)
 let c14:=fun (i:Nat) (i_1:Nat)=>(outK t i (↑(0+i_1):Int))
 VB (decide ((t.length:Int)<(2:Int))||decide ((t.length:Int) > (769:Int))) c10 ((∃ i:Nat,(c9 i)/\(c3/\(0:Int)=(↑(nE t i):Int)/\(0:Int)=(i:Int)/\True)/\c0/\True)/\∀ i:Nat,(c9 i)->VB (decide ((i:Int)<(t.length:Int))) (NB (decide ((0:Int)<=(i:Int)/\(i:Int)<(t.length:Int))) (VB (c2 i).ends (VB (c6 i) c10 (∃ i':Nat,(c9 i')/\(invD0 t).μ i'<(invD0 t).μ i/\(c3/\IntKind.i64.wrap ((↑(nE t i):Int)+(1:Int))=(↑(nE t i'):Int)/\IntKind.i64.wrap ((i:Int)+(1:Int))=(i':Int)/\True)/\c0/\True)) (VB (c6 i) c10 (∃ i':Nat,(c9 i')/\(invD0 t).μ i'<(invD0 t).μ i/\(c3/\(↑(nE t i):Int)=(↑(nE t i'):Int)/\IntKind.i64.wrap ((i:Int)+(1:Int))=(i':Int)/\True)/\c0/\True)))) (NB (decide ((0:Int)<=(↑(nE t i):Int)/\(↑(nE t i):Int)=(↑(nE t i):Int)/\(↑(nE t i):Int) * (24:Int)<=(140737488355328:Int)/\(↑(nE t i):Int)<=(9223372036854775807:Int))) (NB (decide ((0:Int)<=(↑(nE t i):Int)/\(↑(nE t i):Int)=(↑(nE t i):Int)/\(↑(nE t i):Int) * (1:Int)<=(140737488355328:Int)/\(↑(nE t i):Int)<=(9223372036854775807:Int))) ((∃ i_1:Nat,(c8 i_1)/\(c3/\(↑(nE t i):Int)=(n:Int)/\(c11 i)/\(c11 i)/\(0:Int)=(i_1:Int)/\True)/\c0/\(0=0/\c7/\(↑(nE t i):Int).toNat=n/\∀ i_2:Nat,i_2<(↑(nE t i):Int).toNat->((outK t i_1 (i_2:Int)).length=0/\True)/\1=1)/\(0=0/\c7/\(↑(nE t i):Int).toNat=n/\∀ i_2:Nat,i_2<(↑(nE t i):Int).toNat->false=seenK t i_1 (i_2:Int)/\1=1)/\True)/\∀ i:Nat,(c8 i)->VB (decide ((i:Int)<(t.length:Int))) (NB (decide ((0:Int)<=(i:Int)/\(i:Int)<(t.length:Int))) (VB (decide ((c2 i).line<(0:Int))) (∃ i':Nat,(c8 i')/\(invD2 t n).μ i'<(invD2 t n).μ i/\(c3/\(n:Int)=(n:Int)/\c5/\c5/\IntKind.i64.wrap ((i:Int)+(1:Int))=(i':Int)/\True)/\c0/\(0=0/\c7/\n=n/\∀ i_1:Nat,i_1<n->(((outK t i (i_1:Int)).length=(outK t i' (i_1:Int)).length/\(∀ i_2:Nat,i_2<(outK t i (i_1:Int)).length->((c4 i i_1 i_2).fst=(c4 i' i_1 i_2).fst/\((c4 i i_1 i_2).gds.length=(c4 i' i_1 i_2).gds.length/\(∀ i_3:Nat,i_3<(c4 i i_1 i_2).gds.length->(c4 i i_1 i_2).gds.getD i_3 (0:Int)=(c4 i' i_1 i_2).gds.getD i_3 (0:Int)/\1=1)/\c13)/\True)/\2=2)/\c13)/\True)/\1=1)/\(0=0/\c7/\n=n/\∀ i_1:Nat,i_1<n->seenK t i (i_1:Int)=seenK t i' (i_1:Int)/\1=1)/\True) (NB (impB (isW false (decide ((c2 i).line>=(n:Int)))) (c12 i)) (VB (decide ((c2 i).line>=(n:Int))||seenK t i (↑(0+(c2 i).line.toNat):Int)) c10 (NB (c12 i) (NB (isTree (AV.agg [AV.rof t.length (fun k:Nat=> twigA (t.getD k twigD)) false])&&parOK c1&&gdsOK c1&&decide (c1.length<=1000000)&&decide ((0:Int)<=(i:Int))&&decide ((i:Int)<(c1.length:Int))) (NB (c12 i) (∃ i':Nat,(c8 i')/\(invD2 t n).μ i'<(invD2 t n).μ i/\(c3/\(n:Int)=(n:Int)/\c5/\c5/\IntKind.i64.wrap ((i:Int)+(1:Int))=(i':Int)/\True)/\c0/\(0=0/\c7/\n=n/\∀ i_1:Nat,i_1<n->(((if i_1=0+(c2 i).line.toNat then (upL c1 (i:Int)).length else (outK t i (i_1:Int)).length)=(outK t i' (i_1:Int)).length/\(∀ i_2:Nat,(i_2<if i_1=0+(c2 i).line.toNat then (upL c1 (i:Int)).length else (outK t i (i_1:Int)).length)->(if i_1=0+(c2 i).line.toNat then AV.agg [AV.int .i64 ((upL c1 (i:Int)).getD i_2 slotD').fst,intsA ((upL c1 (i:Int)).getD i_2 slotD').gds] else AV.agg [AV.int .i64 (c4 i i_1 i_2).fst,intsA (c4 i i_1 i_2).gds]).sub (AV.agg [AV.int .i64 (c4 i' i_1 i_2).fst,intsA (c4 i' i_1 i_2).gds])/\(if i_1=0+(c2 i).line.toNat then slotA ((upL c1 (i:Int)).getD i_2 slotD') else slotA (c4 i i_1 i_2)).cells.length=[AV.int .i64 (c4 i' i_1 i_2).fst,intsA (c4 i' i_1 i_2).gds].length)/\c13)/\True)/\1=1)/\(0=0/\c7/\n=n/\∀ i_1:Nat,i_1<n->(if i_1=0+(c2 i).line.toNat then true else seenK t i (i_1:Int))=seenK t i' (i_1:Int)/\1=1)/\True)))))))) ((n=L.length/\(∀ i_1:Nat,i_1<n->(((c14 i i_1).length=(L.getD i_1 []).length/\(∀ i_2:Nat,i_2<(c14 i i_1).length->(((c14 i i_1).getD i_2 slotD').fst=((L.getD i_1 []).getD i_2 slotD').fst/\(((c14 i i_1).getD i_2 slotD').gds.length=((L.getD i_1 []).getD i_2 slotD').gds.length/\(∀ i_3:Nat,i_3<((c14 i i_1).getD i_2 slotD').gds.length->((c14 i i_1).getD i_2 slotD').gds.getD i_3 (0:Int)=((L.getD i_1 []).getD i_2 slotD').gds.getD i_3 (0:Int)/\1=1)/\c13)/\True)/\2=2)/\c13)/\True)/\1=1)/\(false=true->decide (some n=some n)=true))/\true=b/\True)))))):=by
 kernel_rfl
theorem datoms_vc (l:List SlotG) (v:List Int):(vcFun (EDA l) 20 158 [lineA l] .nil 0 (retP 3 (intsA v))).sat=(let c0:=fun (i_1:Nat) (i:Nat×Nat)=>(if i_1<i.fst then AV.int .i64 (l.getD (0+i_1) slotD').fst else ((Sq.lst [AV.int .i64 (l.getD (i.fst:Int).toNat slotD').fst]).sub 0 1).get (i_1 - i.fst))
 let c1:=(0=0/\(true=true->true=true)/\((lineA l).sub (lineA l)/\(lineA l).cells.length=(lineA l).cells.length)/\True)
 (∃ (i:Nat×Nat),i.fst.le l.length/\((0=0/\0=0/\0=0)/\(i.fst=0/\i.snd=i.snd/\i.fst=0)/\(0:Int)=(i.fst:Int)/\True)/\c1/\i.fst=0/\True)/\∀ (i:Nat×Nat),i.fst.le l.length->VB (decide ((i.fst:Int)<(l.length:Int))) (NB (decide ((0:Int)<=(i.fst:Int)/\(i.fst:Int)<(l.length:Int))) (NB (true&&decide (i.snd=i.snd)&&room (i.fst+1) 8) (∃ (i':Nat×Nat),i'.fst.le l.length/\(invDA l).μ i'<(invDA l).μ i/\((0=0/\0=0/\0=0)/\(i.snd+1=i'.snd/\0=0/\i.fst+1=i'.fst/\(@Eq (Option Nat) none none\/@Eq (Option Nat) none none))/\IntKind.i64.wrap ((i.fst:Int)+(1:Int))=(i'.fst:Int)/\True)/\c1/\(i.snd+1=i'.snd/\(true=true->true=true)/\i.fst+1=i'.fst/\∀ i_1:Nat,i_1<i.fst+1->(c0 i_1 i).sub (AV.int .i64 (l.getD i_1 slotD').fst)/\(c0 i_1 i).cells.length=[AV.int .i64 (l.getD i_1 slotD').fst].length)/\True))) (NB (decide (i.snd=i.snd)) (i.fst=v.length/\(∀ i_1:Nat,i_1<i.fst->(l.getD (0+i_1) slotD').fst=v.getD i_1 (0:Int)/\1=1)/\(false=true->decide (none=some i.fst)=true)))):=by
 kernel_rfl
theorem nE_le (t:List TwigG):∀ n,nE t n<=n
 | 0=>Nat.le_refl _
 | n+1=>by
  have:=nE_le t n;unfold nE;split <;> omega
theorem atK_skip {t:List TwigG} {j:Nat} {k:Int} (h:(t.getD j twigD).line≠k):atK t (j+1) k=atK t j k:=by
 show (if _ then _ else _)=_
 rw [if_neg h]
theorem atK_hit {t:List TwigG} {j:Nat} {k:Int} (h:(t.getD j twigD).line=k):atK t (j+1) k=some j:=by
 show (if _ then _ else _)=_
 rw [if_pos h]
theorem EDl_ok (t:List TwigG) (n:Nat):CtrOK (EDl t n):=mkE_ctr (tbl_cons rup_ok (tbl_nil _))
theorem okR_iff {t:List TwigG} {i:Nat}:(!((t.getD i twigD).ends==decide ((t.getD i twigD).line>=0))||decide ((t.getD i twigD).line < -1)||(decide ((i:Int) > 0)&&(decide ((t.getD i twigD).par<0)||decide ((t.getD i twigD).par>=(i:Int)))))=!okR t i:=by
 unfold okR okN;have e1:decide ((t.getD i twigD).line>=0)=decide (0<=(t.getD i twigD).line):=rfl;rw [e1];have e2:decide ((t.getD i twigD).line < -1)=!decide (-1<=(t.getD i twigD).line):=by
  by_cases h:-1<=(t.getD i twigD).line
  ·rw [decide_eq_true h,decide_eq_false (by omega)]
   rfl
  ·rw [decide_eq_false h,decide_eq_true (by omega)]
   rfl
 have e3:decide ((i:Int) > 0)=!decide (i=0):=by
  by_cases h:i=0
  ·rw [decide_eq_true h,decide_eq_false (by omega)]
   rfl
  ·rw [decide_eq_false h,decide_eq_true (by omega)]
   rfl
 have e4:decide ((t.getD i twigD).par<0)=!decide (0<=(t.getD i twigD).par):=by
  by_cases h:0<=(t.getD i twigD).par
  ·rw [decide_eq_true h,decide_eq_false (by omega)]
   rfl
  ·rw [decide_eq_false h,decide_eq_true (by omega)]
   rfl
 have e5:decide ((t.getD i twigD).par>=(i:Int))=!decide ((t.getD i twigD).par<(i:Int)):=by
  by_cases h:(t.getD i twigD).par<(i:Int)
  ·rw [decide_eq_true h,decide_eq_false (by omega)]
   rfl
  ·rw [decide_eq_false h,decide_eq_true (by omega)]
   rfl
 rw [e2,e3,e4,e5];generalize decide (-1<=(t.getD i twigD).line)=a;generalize ((t.getD i twigD).ends==decide (0<=(t.getD i twigD).line))=b;generalize decide (i=0)=c;generalize decide (0<=(t.getD i twigD).par)=d
 generalize decide ((t.getD i twigD).par<(i:Int))=e;cases a <;> cases b <;> cases c <;> cases d <;> cases e <;> rfl
theorem dlines_pure (t:List TwigG) (L:List (List SlotG)) (b:Bool) (hg:gdsOK t=true) (hr:linesD t=(L,b)):PureC Tryz.prog gU 155 [treeA t] (.tup [linesA L,.bool b]):=by
 refine PureC.of_vc (E:=EDl t (nE t t.length)) (k:=20) (d:=3) mix (EDl_ok t _) ((dlines_vc t _ L b).mpr ?_)
 conv=>zeta
 have hT:treeDec (AV.agg [AV.rof t.length (fun (k:Nat)=>twigA (t.getD k twigD)) false])=t:=treeDec_self t
 have hI:isTree (AV.agg [AV.rof t.length (fun (k:Nat)=>twigA (t.getD k twigD)) false])=true:=isTree_self t
 show VB _ _ _;rw [hT,hI];have no:([],false)=(L,b)->L.length=0/\false=b/\True:=fun e=>by
  simp only [Prod.mk.injEq] at e;obtain ⟨rfl,rfl⟩:=e;exact ⟨rfl,rfl,trivial⟩
 unfold linesD at hr;refine VB_intro (fun h=>?_) (fun h=>?_)
 ·simp only [Bool.or_eq_true,decide_eq_true_eq] at h;rw [if_pos (by omega)] at hr
  exact no hr
 simp only [Bool.or_eq_false_iff,decide_eq_false_iff_not] at h;rw [if_neg (by omega)] at hr
 refine ⟨⟨0,⟨Nat.zero_le _,fun j hj=>absurd hj (Nat.not_lt_zero _)⟩,?_⟩,fun i hpre=>?_⟩
 ·repeat' (first|exact sub_tree _|exact trivial|exact rfl|exact fun h=>h|refine And.intro ?_ ?_)
 obtain ⟨hi,hpre⟩:=hpre;have hle:=nE_le t i;refine VB_intro (fun h1=>?_) (fun h1=>?_)
 ·have h2:i<t.length:=by
   have:=of_decide_eq_true h1;omega
  have hW:IntKind.i64.wrap ((i:Int)+1)=((i+1:Nat):Int):=by rw [wrap_i64_id (by omega) (by omega)]; omega
  have bad:okR t i=false->L.length=0/\false=b/\True:=fun e=>by
   rw [if_neg] at hr
   ·exact no hr
   ·intro hall;have:=List.all_eq_true.1 hall i (by simpa using h2)
    rw [e] at this;cases this
  have good:okR t i=true->∀ j,j<i+1->okR t j=true:=fun e j hj=>by
   rcases Nat.lt_or_ge j i with h5|h5
   ·exact hpre j h5
   ·obtain rfl:j=i:=by omega
    exact e
  rw [show (Int.toNat (i:Int))=i from rfl,okR_iff];refine NB_intro (by simp; omega) (VB_intro (fun h3=>?_) (fun h3=>?_))
  ·have hn:nE t (i+1)=nE t i+1:=by
    show (if _ then _ else _)=_
    rw [if_pos h3]
   have hN:IntKind.i64.wrap (((nE t i:Nat):Int)+1)=((nE t (i+1):Nat):Int):=by rw [hn,wrap_i64_id (by omega) (by omega)]; omega
   refine VB_intro (fun h4=>bad (by simpa using h4)) (fun h4=>⟨i+1,⟨by omega,good (by simpa using h4)⟩,(show t.length - (i+1)<t.length - i by omega),?_⟩)
   repeat' (first|exact sub_tree _|exact trivial|exact rfl|exact hN|exact hW|exact fun h=>h|refine And.intro ?_ ?_)
  ·have hn:nE t (i+1)=nE t i:=by
    show (if _ then _ else _)=_
    rw [if_neg (by rw [h3]; simp)]
   have hN:((nE t i:Nat):Int)=((nE t (i+1):Nat):Int):=by rw [hn]
   refine VB_intro (fun h4=>bad (by simpa using h4)) (fun h4=>⟨i+1,⟨by omega,good (by simpa using h4)⟩,(show t.length - (i+1)<t.length - i by omega),?_⟩)
   repeat' (first|exact sub_tree _|exact trivial|exact hN|exact rfl|exact hW|exact fun h=>h|refine And.intro ?_ ?_)
 have h2:i=t.length:=by
  have:=of_decide_eq_false h1;omega
 subst h2;have hall:(List.range t.length).all (okR t)=true:=List.all_eq_true.2 fun j hj=>hpre j (by simpa using hj)
 rw [if_pos hall] at hr;have hpar:parOK t=true:=parOK_of fun j hj=>by
  have:=hpre j hj;unfold okR at this;exact (Bool.and_eq_true_iff.1 this).1
 generalize hn:nE t t.length=n at *
 refine NB_intro (decide_eq_true ⟨by omega,rfl,by omega,by omega⟩) (NB_intro (decide_eq_true ⟨by omega,rfl,by omega,by omega⟩) ⟨⟨0,⟨Nat.zero_le _,fun j hj=>absurd hj (Nat.not_lt_zero _)⟩,?_⟩,fun i hpre2=>?_⟩)
 ·repeat' (first|exact sub_tree _|exact trivial|exact rfl|exact Or.inl rfl|exact fun h=>h|exact fun _ _=>⟨⟨rfl,trivial⟩,rfl⟩|exact fun _ _=>⟨rfl,rfl⟩|refine And.intro ?_ ?_)
 obtain ⟨hi,hpre2⟩:=hpre2;refine VB_intro (fun h3=>?_) (fun h3=>?_)
 ·have h4:i<t.length:=by
   have:=of_decide_eq_true h3;omega
  have hW:IntKind.i64.wrap ((i:Int)+1)=((i+1:Nat):Int):=by rw [wrap_i64_id (by omega) (by omega)]; omega
  have bad:fitK t n i=false->L.length=0/\false=b/\True:=fun e=>by
   rw [if_neg] at hr
   ·exact no hr
   ·intro hall;have:=List.all_eq_true.1 hall i (by simpa using h4)
    rw [e] at this;cases this
  have good:fitK t n i=true->∀ j,j<i+1->fitK t n j=true:=fun e j hj=>by
   rcases Nat.lt_or_ge j i with h5|h5
   ·exact hpre2 j h5
   ·obtain rfl:j=i:=by omega
    exact e
  rw [show (Int.toNat (i:Int))=i from rfl];refine NB_intro (by simp; omega) (VB_intro (fun h5=>?_) (fun h5=>?_))
  ·have h6:(t.getD i twigD).line<0:=of_decide_eq_true h5;have hf:fitK t n i=true:=by
    unfold fitK;rw [h5];rfl
   have e1:∀ k:Nat,outK t (i+1) (k:Int)=outK t i (k:Int):=fun k=>by
    unfold outK;rw [atK_skip (by omega)]
   have e2:∀ k:Nat,seenK t (i+1) (k:Int)=seenK t i (k:Int):=fun k=>by
    unfold seenK;rw [atK_skip (by omega)]
   refine ⟨i+1,⟨by omega,good hf⟩,(show t.length - (i+1)<t.length - i by omega),?_⟩
   repeat' (first|exact sub_tree _|exact trivial|exact rfl|exact hW|exact Or.inl rfl|exact fun h=>h|refine And.intro ?_ ?_)
   ·intro k hk;rw [e1];exact ⟨⟨⟨rfl,fun _ _=>⟨⟨rfl,⟨rfl,fun _ _=>⟨rfl,rfl⟩,fun h=>h⟩,trivial⟩,rfl⟩,fun h=>h⟩,trivial⟩,rfl⟩
   ·intro k hk;rw [e2];exact ⟨rfl,rfl⟩
  ·have h6:¬ (t.getD i twigD).line<0:=of_decide_eq_false h5;have h7:((0+(t.getD i twigD).line.toNat:Nat):Int)=(t.getD i twigD).line:=by omega
   rw [h7];refine NB_intro (impB_of fun h8=>?_) (VB_intro (fun h8=>?_) (fun h8=>?_))
   ·have:¬ (t.getD i twigD).line>=(n:Int):=by
     intro h9;rw [decide_eq_true h9] at h8;cases h8
    exact decide_eq_true ⟨by omega,by omega⟩
   ·refine bad ?_;unfold fitK;rw [h5,Bool.false_or];by_cases h9:(t.getD i twigD).line<n
    ·rw [decide_eq_false (by omega),Bool.false_or] at h8
     rw [h8,Bool.not_true,Bool.and_false]
    ·rw [decide_eq_false h9,Bool.false_and]
   ·simp only [Bool.or_eq_false_iff,decide_eq_false_iff_not] at h8;obtain ⟨h8,h9⟩:=h8;have hf:fitK t n i=true:=by
     unfold fitK;rw [h9,decide_eq_true (show (t.getD i twigD).line<(n:Int) by omega)]
     simp
    have hb:(true&&decide ((0:Int)<=(t.getD i twigD).line/\(t.getD i twigD).line<(n:Int)))=true:=decide_eq_true ⟨by omega,by omega⟩
    refine NB_intro hb (NB_intro (by rw [hpar,hg,decide_eq_true (show t.length<=1000000 by omega),decide_eq_true (show (0:Int)<=(i:Int) by omega),decide_eq_true (show (i:Int)<(t.length:Int) by omega)]; rfl) (NB_intro hb ⟨i+1,⟨by omega,good hf⟩,(show t.length - (i+1)<t.length - i by omega),?_⟩))
    repeat' (first|exact sub_tree _|exact trivial|exact rfl|exact hW|exact Or.inl rfl|exact fun h=>h|refine And.intro ?_ ?_)
    ·intro k hk;by_cases hkl:k=0+(t.getD i twigD).line.toNat
     ·have e:outK t (i+1) (k:Int)=upL t i:=by
       unfold outK;rw [atK_hit (by omega)]
      rw [e];simp only [if_pos hkl]
      repeat' (first|exact trivial|exact rfl|exact fun h=>h|exact fun _ _=>⟨sub_slot _,rfl⟩|exact fun _ _=>⟨sub_slot _,trivial⟩|refine And.intro ?_ ?_)
     ·have e:outK t (i+1) (k:Int)=outK t i (k:Int):=by
       unfold outK;rw [atK_skip (by omega)]
      rw [e];simp only [if_neg hkl]
      repeat' (first|exact trivial|exact rfl|exact fun h=>h|exact fun _ _=>⟨sub_slot _,rfl⟩|exact fun _ _=>⟨sub_slot _,trivial⟩|refine And.intro ?_ ?_)
    ·intro k hk;refine ⟨?_,rfl⟩;by_cases hkl:k=0+(t.getD i twigD).line.toNat
     ·rw [if_pos hkl];unfold seenK;rw [atK_hit (by omega)]
      rfl
     ·rw [if_neg hkl];unfold seenK;rw [atK_skip (by omega)]
 ·have h4:i=t.length:=by
   have:=of_decide_eq_false h3;omega
  subst h4;have hall2:(List.range t.length).all (fitK t n)=true:=List.all_eq_true.2 fun j hj=>hpre2 j (by simpa using hj)
  rw [if_pos hall2] at hr;simp only [Prod.mk.injEq] at hr;obtain ⟨rfl,rfl⟩:=hr;refine ⟨⟨by simp,fun k hk=>?_,fun h=>by cases h⟩,rfl,trivial⟩
  have e:((List.range n).map fun (k:Nat)=>outK t t.length (k:Int)).getD k []=outK t t.length (k:Int):=by simp [List.getD,hk]
  rw [Nat.zero_add,e];exact ⟨⟨⟨rfl,fun _ _=>⟨⟨rfl,⟨rfl,fun _ _=>⟨rfl,rfl⟩,fun h=>h⟩,trivial⟩,rfl⟩,fun h=>h⟩,trivial⟩,rfl⟩
def cLinesD:Ctr
 | [X]=>some (isTree X&&gdsOK (treeDec X),.tup [linesA (linesD (treeDec X)).1,.bool (linesD (treeDec X)).2])
 | _=>none
theorem dlines_ok:PureF Tryz.prog 155 cLinesD:=by
 intro args nd v he hnd;unfold cLinesD at he;split at he <;> cases he
 rename_i X;simp only [Bool.and_eq_true] at hnd;refine PureC.args (args':=[treeA (treeDec X)]) rfl (fun i hi=>?_) (dlines_pure _ _ _ hnd.2 rfl)
 match i,hi with
 | 0,_=>exact tree_sub hnd.1
theorem EDA_ok (l:List SlotG):CtrOK (EDA l):=mkE_ctr (tbl_nil _)
theorem datoms_pure (l:List SlotG) (hl:l.length<=1000000):PureC Tryz.prog gU 158 [lineA l] (intsA (atomsL l)):=by
 refine PureC.of_vc (E:=EDA l) (k:=20) (d:=3) mix (EDA_ok l) ((datoms_vc l _).mpr ⟨?_,fun p hpre=>?_⟩)
 ·refine ⟨(0,0),Nat.zero_le _,?_⟩
  repeat' (first|exact sub_line _|exact trivial|exact rfl|exact Or.inr rfl|exact fun h=>h|refine And.intro ?_ ?_)
 obtain ⟨i,g⟩:=p;have hi:i<=l.length:=hpre;dsimp only;refine VB_intro (fun h=>?_) (fun h=>?_)
 ·have h1:i<l.length:=by
   have:=of_decide_eq_true h;omega
  have hroom:room (i+1) 8=true:=decide_eq_true ⟨by omega,by omega⟩
  rw [show (Int.toNat (i:Int))=i from rfl];refine NB_intro (by simp; omega) (NB_intro (by rw [hroom]; simp) ⟨(i+1,g+1),(show i+1<=l.length by omega),(show l.length - (i+1)<l.length - i by omega),?_⟩)
  have hW:IntKind.i64.wrap ((i:Int)+1)=((i+1:Nat):Int):=by rw [wrap_i64_id (by omega) (by omega)]; omega
  repeat' (first|exact sub_line _|exact trivial|exact rfl|exact Or.inr rfl|exact hW|exact fun h=>h|refine And.intro ?_ ?_)
  ·intro k hk;by_cases hin:k<i
   ·repeat rw [if_pos hin]
    rw [Nat.zero_add];exact ⟨rfl,rfl⟩
   ·obtain rfl:k=i:=by omega
    repeat rw [if_neg hin]
    rw [Nat.sub_self];exact ⟨rfl,rfl⟩
 ·have h1:i=l.length:=by
   have:=of_decide_eq_false h;omega
  subst h1;refine NB_intro (by simp) ⟨by simp [atomsL],fun k hk=>?_,fun h=>by cases h⟩
  rw [Nat.zero_add];have h2:(atomsL l).getD k 0=(l.getD k slotD').1:=by simp [atomsL,List.getD,hk]
  exact ⟨h2.symm,rfl⟩
theorem datoms_ok:PureF Tryz.prog 158 cAtoms:=by
 intro args nd v he hnd;unfold cAtoms at he;split at he <;> cases he
 rename_i n f ex;simp only [Bool.and_eq_true,decide_eq_true_eq] at hnd;refine PureC.args (args':=[lineA (slotsOf' n f)]) rfl (fun i hi=>?_) (datoms_pure _ (by rw [slotsOf_len]; exact hnd.1))
 match i,hi with
 | 0,_=>exact ⟨slots_sub hnd.2,trivial⟩
def cROf:Ctr
 | [.rof n f _]=>some ((List.range n).all (fun i=>isLineL (f i))&&(linesOf' n f).all fewS,.tup [treeA (rofT (linesOf' n f)).1,.int .i64 (rofT (linesOf' n f)).2])
 | _=>none
noncomputable def ECd:Env:=mkE Tryz.prog (tblOf [(155,cLinesD),(13,cROf),(156,cTreeE)]) (fun _ _=>none)
noncomputable def EPd:Env:=mkE Tryz.prog (tblOf [(122,cCheckT),(159,cUp),(158,cAtoms)]) (fun _ _=>none)
theorem dcheck_vc (t:List TwigG) (r:Int):(vcFun ECd 20 122 [treeA t] .nil 0 (retP 3 (.int .i64 r))).sat=(let c1:=(AV.agg [AV.rof t.length (fun k:Nat=> twigA (t.getD k twigD)) false])
 let c0:=(linesOf' (linesD (treeDec c1)).fst.length fun k:Nat=> lineA ((linesD (treeDec c1)).fst.getD k []))
 let c2:=(AV.agg [AV.rof (rofT c0).fst.length (fun k:Nat=> twigA ((rofT c0).fst.getD k twigD)) false])
 NB (isTree c1&&gdsOK (treeDec c1)) (VB (!(linesD (treeDec c1)).snd) ((3:Int)=r) (NB (((List.range (linesD (treeDec c1)).fst.length).all fun i:Nat=> isLineL (lineA ((linesD (treeDec c1)).fst.getD i [])))&&c0.all fewS) (NB (impB (isW false ((rofT c0).snd !=(0:Int))) (isTree c2&&isTree c1&&few2s (treeDec c2)&&few2s (treeDec c1))) (VB ((rofT c0).snd !=(0:Int)||!decide (treeDec c2=treeDec c1)) ((3:Int)=r) ((0:Int)=r)))))):=by
 kernel_rfl
theorem dpath_vc (t:List TwigG) (m:Int) (L:List Int) (r:Int):(vcFun EPd 20 127 [treeA t,.int .i64 m] .nil 0 (retP 3 (.tup [intsA L,.int .i64 r]))).sat=(let c2:=(AV.agg [AV.rof t.length (fun k:Nat=> twigA (t.getD k twigD)) false])
 let c0:=(treeDec c2)
 let c1:=(atomsL (slotsOf' (upL c0 m).length fun k:Nat=> slotA ((upL c0 m).getD k slotD')))
 NB (isTree c2&&shortT c0) (VB (checkE c0==(0:Int)&&(decide (m<(0:Int))||decide (m>=(t.length:Int)))) (L.length=0/\(2:Int)=r/\True) (VB (checkE c0 !=(0:Int)) (L.length=0/\checkE c0=r/\True) (NB (isTree c2&&parOK c0&&gdsOK c0&&decide (c0.length<=1000000)&&decide ((0:Int)<=m)&&decide (m<(c0.length:Int))) (NB (decide ((upL c0 m).length<=1000000)&&slotsB (upL c0 m).length fun k:Nat=> slotA ((upL c0 m).getD k slotD')) ((c1.length=L.length/\(∀ i:Nat,i<c1.length->c1.getD i (0:Int)=L.getD i (0:Int)/\1=1)/\(false=true->false=true))/\(0:Int)=r/\True)))))):=by
 kernel_rfl
end Go.Proofs.YtlnpgnipocbfhaaGreatDoor
