/- ENGINE, part G1: from the engine's word to a row's. -/
import Derived.Test.YtlnpgnipocbfhaaGreatDoorPwF14
import Derived.ProofKit
import Derived.OpenShut
import Derived.Carry
import Derived.Deep.Slices
namespace Pw
open Go Go.ChangeShapes Go.WideShapes Go.ChangeAt Go.RowKit
theorem Keep.below {W W':World} (h:Keep (fun _=>True) W W'):Below W.heap.size W W':=⟨h.os,h.tape,h.output,h.size,fun k hk=>h.block k trivial hk⟩
section
variable {H:Type} {enc:TypeId×Value->H} {P:Program}
theorem trodAll_kept (hl:laidOutB P=true) {W W':World} (hb:Below W.heap.size W W'):∀ (ts:List TypeId) (vs:List Value) (ds:List (DataW H)) (ps:List MemPlace),(ts.all fun t=>P.readableRec t&&decide (t<P.types.size))=true ->
  DataW.TrodAll enc P W 0 (fun _=>true) true ts vs ds ps->(∀ x∈ps,x.block<W.heap.size)->DataW.TrodAll enc P W' 0 (fun b=>decide (b<W.heap.size)) true ts vs ds ps
 | [],vs,ds,ps,_,h,_=>by
  cases vs <;> cases ds <;> simp [DataW.TrodAll] at h ⊢
  exact h
 | t::ts,vs,ds,ps,hr,h,hlt=>by
  simp only [List.all_cons,Bool.and_eq_true,decide_eq_true_eq] at hr;obtain ⟨v,vs',d,ds',p,q,rfl,rfl,rfl,h1,h2⟩:=trodAll_cons h
  exact trodAll_cons_mk (Below.trod hl hr.1.1 hr.1.2 h1 hb (fun x hx=>hlt x (List.mem_append_left _ hx))) (trodAll_kept hl hb ts vs' ds' q (by simpa using hr.2) h2 (fun x hx=>hlt x (List.mem_append_right _ hx)))
theorem post_true {f:Func} {s:ChangeSpec} {fresh handsOn:Bool} {W W':World} {args:Array Value} {ds gs:List (DataW H)} {before:List MemPlace}
  (hl:laidOutB P=true) (hr:(f.params.toList.all fun t=>P.readableRec t&&decide (t<P.types.size))=true) (hvars:s.vars=[]) (hargs:(s.fn H (ds++gs)).args=ds) (hres:(s.fn H (ds++gs)).results=[.lit (.bool true)]) (hv:(s.fn H (ds++gs)).vars=[])
  {tb:TypeId} (hb:f.resultTypes=#[tb]) (htb:P.underlying tb=some .bool)
  (hW:DataW.Whole enc P f.params.toList s.vars false W args.toList ds gs before) (hk:Keep (fun _=>True) W W'):s.post enc P f false fresh handsOn false W args (.bool true) W':=by
 have hlt:=hW.lt;obtain ⟨p,q,hA,hV,hpq,hfz,hnd⟩:=id hW;refine ⟨ds,gs,before,[],p,[],hW,?_,?_,?_,Below.frame hk.below _,fun h=>by cases h⟩
 ·rw [hres,hb];exact trodAll_mk1 (shut_bool htb _)
 ·rw [hargs];exact trodAll_kept hl hk.below _ _ _ _ hr hA (fun x hx=>hlt x (by rw [hpq]; exact List.mem_append_left _ hx))
 ·rw [hv,hvars];rfl
end
theorem start_pure {E:Env} {f:FuncId} {k:Nat} {M:Mem} {W:World} {vals:Array Value} {args:List AV} {K:AV->T Blk->Nat->VT} (hm:E.P.follows .mixedOrders=true) (hctr:CtrOK E) (hG:GlobOK M E.gl)
  (hM:∀ B i v,M B i=some v->W.cell? ⟨B,i,none⟩=some v/\v.oneCell'=true) (hargs:ArgsRel (fun _ _=>none) M vals args) (hs:(vcFun E k f args .nil 0 K).sat) :
  Calls E.P f vals W fun e W'=>∃ v x ρ' M' hpt nx',e=.returned v/\Rel ρ' M' v x/\Keep (fun _=>True) W W'/\(K x hpt nx').sat:=by
 have hS:SRel ⟨fun _=>True,M,false,false⟩ W 0 (fun _ _=>none) M (fun _=>.undef) (fun b=>(T.nil:T Blk).get .dead b) 0 { tmps:=#[],defers:=[] } W:=SRel.empty hM
 obtain ⟨_,hc⟩:=vcFun_sound hm hctr k hs _ W 0 _ M _ _ W vals hG hS (fun r hr=>by cases hr) hargs
 exact hc.mono fun e W' ⟨v,x,ρ',M',hp',nx',h1,h2,h3,h4,h5,hpt,h6,h7⟩=>⟨v,x,ρ',M',hpt,nx',h1,h4,h5.keep,h7⟩
theorem isBool_sat {b:Bool} {x:AV} {hp:T Blk} {nx:Nat} (h:(isBool b x hp nx).sat):x=.bool b:=by
 cases x <;> simp [isBool,VT.sat] at h
 subst h; rfl
end Pw
namespace Pw
open Go
inductive Ty where
 | bool
 | int (k:IntKind)
 | str
 | slice (e:Ty)
 | strct (fs:List Ty)
 | tree (fs:List Ty)
inductive TreeG (α:Type) where
 | mk (val:α) (kids:List (TreeG α))
def TreeG.val {α:Type}:TreeG α->α
 | .mk v _=>v
def TreeG.kids {α:Type}:TreeG α->List (TreeG α)
 | .mk _ l=>l
def treeA {α:Type} (av:α->List AV) (n:Nat) (d:α):Nat->TreeG α->AV
 | 0,_=>.agg (List.replicate (n+1) .undef)
 | f+1,x=>.agg (av x.val++[.rof x.kids.length (fun i=>treeA av n d f (x.kids.getD i (.mk d []))) false])
def treeW {α:Type} (W:α->Prop) (d:α):Nat->TreeG α->Prop
 | 0,_=>True
 | f+1,x=>W x.val/\x.kids.length<=maxLen/\∀ i,i<x.kids.length->treeW W d f (x.kids.getD i (.mk d []))
mutual
def Ty.sz:Ty->Nat
 | .strct fs=>Ty.szL fs
 | .tree fs=>Ty.szL fs+1
 | _=>1
def Ty.szL:List Ty->Nat
 | []=>0
 | t::l=>Ty.sz t+Ty.szL l
end
mutual
def Gen:Ty->Type
 | .bool=>Bool
 | .int _=>Int
 | .str=>List UInt8
 | .slice e=>List (Gen e)
 | .strct fs=>GenL fs
 | .tree fs=>TreeG (GenL fs)
def GenL:List Ty->Type
 | []=>Unit
 | t::l=>Gen t×GenL l
end
mutual
def Ty.dflt:(T:Ty)->Gen T
 | .bool=>false
 | .int _=>(0:Int)
 | .str=>([]:List UInt8)
 | .slice e=>([]:List (Gen e))
 | .strct fs=>Ty.dfltL fs
 | .tree fs=>TreeG.mk (Ty.dfltL fs) []
def Ty.dfltL:(l:List Ty)->GenL l
 | []=>()
 | t::l=>(Ty.dflt t,Ty.dfltL l)
end
mutual
def Ty.av:(T:Ty)->Gen T->AV
 | .bool,b=>.bool b
 | .int k,n=>.int k n
 | .str,s=>.str s
 | .slice e,l=>.rof (List.length (α:=Gen e) l) (fun i=>Ty.av e (List.getD (α:=Gen e) l i (Ty.dflt e))) false
 | .strct fs,g=>.agg (Ty.avL fs g)
 | .tree fs,g=>treeA (Ty.avL fs) (Ty.szL fs) (Ty.dfltL fs) 16 g
def Ty.avL:(l:List Ty)->GenL l->List AV
 | [],_=>[]
 | t::l,g=>(Ty.av t g.1).cells++Ty.avL l g.2
end
mutual
def Ty.wf:(T:Ty)->Gen T->Prop
 | .bool,_=>True
 | .int k,n=>(Lit.int k n).wf=true
 | .str,s=>List.length (α:=UInt8) s<=maxLen
 | .slice e,l=>List.length (α:=Gen e) l<=maxLen/\∀ i,i<List.length (α:=Gen e) l->Ty.wf e (List.getD (α:=Gen e) l i (Ty.dflt e))
 | .strct fs,g=>Ty.wfL fs g
 | .tree fs,g=>∀ f,treeW (Ty.wfL fs) (Ty.dfltL fs) f g
def Ty.wfL:(l:List Ty)->GenL l->Prop
 | [],_=>True
 | t::l,g=>Ty.wf t g.1/\Ty.wfL l g.2
end
def tyFs (rec:TypeId->Option Ty) (P:Program):List Field->Nat->Option (List Ty)
 | [],_=>some []
 | f::r,k =>
  if f.offset=k then
   match rec f.type with
   | some T=>if T.sz=P.cellsOf f.type then (tyFs rec P r (k+P.cellsOf f.type)).map (T::·) else none
   | none=>none
  else none
def treeFs (P:Program) (t:TypeId) (fs:List Field):Option (List Field×Field) :=
 match fs.getLast? with
 | some f =>
  match P.underlying f.type with
  | some (.slice e)=>if e=t then some (fs.dropLast,f) else none
  | _=>none
 | none=>none
def tyOf (P:Program):Nat->TypeId->Option Ty
 | 0,_=>none
 | d+1,t =>
  match P.underlying t with
  | some .bool=>some .bool
  | some (.int k)=>some (.int k)
  | some .string=>some .str
  | some (.slice e) =>
   match tyOf P d e with
   | some T=>if T.sz=P.cellsOf e/\0<T.sz then some (.slice T) else none
   | none=>none
  | some (.struct fs) =>
   match treeFs P t fs.toList with
   | some (pre,f) =>
    match tyFs (tyOf P d) P pre 0 with
    | some l=>if Ty.szL l+1=P.cellsOf t/\f.offset=Ty.szL l/\P.cellsOf f.type=1 then some (.tree l) else none
    | none=>none
   | none =>
   match tyFs (tyOf P d) P fs.toList 0 with
   | some l=>if Ty.szL l=P.cellsOf t then some (.strct l) else none
   | none=>none
  | _=>none
end Pw
namespace Pw
open Go Go.ChangeShapes Go.Deep
def CellsAre (M:Mem) (T:Ty) (cs:List Value) (g:Gen T):Prop :=
 cs.length=T.sz/\(Ty.av T g).cells.length=T.sz/\∀ i,i<T.sz->(cs.getD i undef).oneCell'=true/\RelP M (cs.getD i undef) ((Ty.av T g).cells.getD i .undef)
def CellsAreL (M:Mem) (l:List Ty) (cs:List Value) (g:GenL l):Prop :=
 cs.length=Ty.szL l/\(Ty.avL l g).length=Ty.szL l/\∀ i,i<Ty.szL l->(cs.getD i undef).oneCell'=true/\RelP M (cs.getD i undef) ((Ty.avL l g).getD i .undef)
theorem CellsAre.one {M:Mem} {T:Ty} {v:Value} {g:Gen T} (hs:T.sz=1) (hx:(Ty.av T g).cells=[Ty.av T g]) (hv:v.oneCell'=true) (h:RelP M v (Ty.av T g)):CellsAre M T [v] g:=by
 refine ⟨by rw [hs]; rfl,by rw [hx,hs]; rfl,fun i hi=>?_⟩
 obtain rfl:i=0:=by omega
 rw [hx];exact ⟨hv,h⟩
section
variable {H:Type} {enc:TypeId×Value->H} {P:Program} {W:World}
theorem CellsAreL.cons {M:Mem} {T:Ty} {l:List Ty} {c1 c2:List Value} {g:Gen T} {gl:GenL l} (h1:CellsAre M T c1 g) (h2:CellsAreL M l c2 gl):CellsAreL M (T::l) (c1++c2) (g,gl):=by
 obtain ⟨a1,a2,a3⟩:=h1;obtain ⟨b1,b2,b3⟩:=h2;refine ⟨by simp [Ty.szL,a1,b1],by simp [Ty.avL,Ty.szL,a2,b2],fun i hi=>?_⟩
 simp only [Ty.szL] at hi;by_cases h:i<T.sz
 ·have:=a3 i h;simp only [Ty.avL,List.getD_eq_getElem?_getD] at this ⊢;rw [List.getElem?_append_left (by omega),List.getElem?_append_left (by omega)]
  exact this
 ·have:=b3 (i - T.sz) (by omega)
  simp only [Ty.avL,List.getD_eq_getElem?_getD] at this ⊢;rw [List.getElem?_append_right (by omega),List.getElem?_append_right (by omega),a1,a2]
  exact this
theorem fields_link {d n:Nat} (ih:∀ (t:TypeId) (T:Ty),tyOf P d t=some T->∀ (cs:List Value) (x:DataW H×List MemPlace),DataW.trod enc P W 0 (fun _=>true) true n t cs=some x->∃ g:Gen T,T.wf g/\CellsAre (memOf W) T cs g) :
  ∀ (fs:List Field) (l:List Ty) (k:Nat) (cs:List Value),tyFs (tyOf P d) P fs k=some l ->
   (∀ (f:Field),f∈fs->∃ x,DataW.trod enc P W 0 (fun _=>true) true n f.type ((cs.drop f.offset).take (P.cellsOf f.type))=some x) ->
   ∃ g:GenL l,Ty.wfL l g/\CellsAreL (memOf W) l ((cs.drop k).take (Ty.szL l)) g
 | [],l,k,cs,h,_=>by
  simp [tyFs] at h;subst h;exact ⟨(),trivial,by simp [Ty.szL],rfl,fun i hi=>by simp [Ty.szL] at hi⟩
 | f::r,l,k,cs,h,hx=>by
  simp only [tyFs] at h;split at h
  ·rename_i ho;split at h
   ·rename_i T hT;split at h
    ·rename_i hc;obtain ⟨l',hl',rfl⟩:=Option.map_eq_some_iff.1 h;obtain ⟨x,hx0⟩:=hx f (by simp)
     obtain ⟨g,hw,hg⟩:=ih _ _ hT _ _ hx0;obtain ⟨gl,hwl,hgl⟩:=fields_link ih r l' _ cs hl' (fun f' hf'=>hx f' (by simp [hf']))
     refine ⟨(g,gl),⟨hw,hwl⟩,?_⟩;have:(cs.drop k).take (Ty.szL (T::l'))=(cs.drop f.offset).take (P.cellsOf f.type)++(cs.drop (k+P.cellsOf f.type)).take (Ty.szL l'):=by
      rw [Ty.szL,List.take_add,List.drop_drop,ho,hc]
     rw [this];exact CellsAreL.cons hg hgl
    ·cases h
   ·cases h
  ·cases h
theorem trod_bool' {fuel:Nat} {t:TypeId} {cs:List Value} {x:DataW H×List MemPlace} (ht:P.underlying t=some .bool) (h:DataW.trod enc P W 0 (fun _=>true) true fuel t cs=some x):∃ b,cs=[.bool b]:=by
 cases fuel with
 | zero=>simp [DataW.trod] at h
 | succ n =>
  unfold DataW.trod at h;rw [ht] at h;split at h <;> simp_all
theorem elems_choose {T:Ty}:∀ (len:Nat) (p:Nat->Gen T->Prop),(∀ i,i<len->∃ g,p i g)->∃ l:List (Gen T),l.length=len/\∀ i,i<len->p i (l.getD i (Ty.dflt T))
 | 0,p,_=>⟨[],rfl,fun i hi=>by omega⟩
 | len+1,p,h=>by
  obtain ⟨l,hl,hp⟩:=elems_choose len p (fun i hi=>h i (by omega))
  obtain ⟨g,hg⟩:=h len (by omega)
  refine ⟨l++[g],by simp [hl],fun i hi=>?_⟩
  by_cases hi':i<len
  ·have:=hp i hi';simp only [List.getD_eq_getElem?_getD] at this ⊢;rw [List.getElem?_append_left (by omega)]
   exact this
  ·obtain rfl:i=len:=by omega
   simp only [List.getD_eq_getElem?_getD];rw [List.getElem?_append_right (by omega)]
   simpa [hl] using hg
def CellsRel (M:Mem) (sz:Nat) (cs:List Value) (x:AV):Prop :=
 cs.length=sz/\x.cells.length=sz/\∀ i,i<sz->(cs.getD i undef).oneCell'=true/\RelP M (cs.getD i undef) (x.cells.getD i .undef)
theorem rof_rel {a:Addr} {len m sz:Nat} (hl:len<=m) (hm:m<=maxLen) (F:Nat->AV) (hel:∀ i,i<len->∃ cs',W.cells? 0 (a.add (i * sz)) sz=some cs'/\CellsRel (memOf W) sz cs' (F i)) (hsz:0<sz) :
  RelP (memOf W) (.slice (some a) len m) (.rof len F false):=by
 cases len with
 | zero=>exact .rof0 (some a) m _ false hm (by simp) (by simp)
 | succ len' =>
  obtain ⟨cs0,h0,hc0⟩:=hel 0 (by omega)
  obtain ⟨-,hcl0,hg0⟩:=World.cells?_some h0;have hspot:a.spot=none:=by
   have:=hg0 0 (by omega)
   rw [List.getElem?_eq_getElem (by omega)] at this
   unfold World.cell? at this;split at this
   ·split at this
    ·cases this
    ·rename_i hs;simpa [Addr.add] using hs
   ·cases this
  obtain ⟨B,o,sp⟩:=a;obtain rfl:sp=none:=hspot;have key:∀ i j,i<len'+1->j<sz->∃ v,memOf W B (o+i * sz+j)=some v/\RelP (memOf W) v ((F i).cells.getD j .undef):=fun i j hi hj=>by
   obtain ⟨cs',h1,h2,h3,h4⟩:=hel i hi;obtain ⟨-,hc1,hg1⟩:=World.cells?_some h1;have h5:=hg1 j (by omega)
   rw [List.getElem?_eq_getElem (by omega)] at h5
   have h6:=h4 j hj;rw [List.getD_eq_getElem?_getD,List.getElem?_eq_getElem (by omega),Option.getD_some] at h6
   refine ⟨cs'[j]'(by omega),memOf_mk ?_ h6.1,h6.2⟩
   rw [<- h5];congr 1;simp only [Addr.add];split <;> split <;> simp_all [Nat.add_assoc]
  exact RelP.rof (M:=memOf W) B o m sz (len'+1) F false (fun i j=>(memOf W B (o+i * sz+j)).getD undef) hl hm (by simp)
   (fun i hi=>by obtain ⟨cs',h1,h2⟩:=hel i hi; exact h2.2.1)
   (fun i j hi hj=>by obtain ⟨v,hv,_⟩:=key i j hi hj; rw [hv]; rfl)
   (fun i j hi hj=>by obtain ⟨v,hv,hr⟩:=key i j hi hj; rw [hv]; exact hr)
theorem elems_choose' {α:Type} (d:α):∀ (len:Nat) (p:Nat->α->Prop),(∀ i,i<len->∃ g,p i g)->∃ l:List α,l.length=len/\∀ i,i<len->p i (l.getD i d)
 | 0,p,_=>⟨[],rfl,fun i hi=>by omega⟩
 | len+1,p,h=>by
  obtain ⟨l,hl,hp⟩:=elems_choose' d len p (fun i hi=>h i (by omega))
  obtain ⟨g,hg⟩:=h len (by omega)
  refine ⟨l++[g],by simp [hl],fun i hi=>?_⟩
  by_cases hi':i<len
  ·have:=hp i hi';simp only [List.getD_eq_getElem?_getD] at this ⊢;rw [List.getElem?_append_left (by omega)]
   exact this
  ·obtain rfl:i=len:=by omega
   simp only [List.getD_eq_getElem?_getD];rw [List.getElem?_append_right (by omega)]
   simpa [hl] using hg
theorem open_slice_lt {t e:TypeId} {fuel:Nat} {cs:List Value} {x:DataW H×List MemPlace} (ht:P.underlying t=some (.slice e)) (h:DataW.trod enc P W 0 (fun _=>true) true fuel t cs=some x) :
  cs=[.slice none 0 0]\/∃ (a:Addr) (len cap n:Nat) (D:Nat->DataW H×List MemPlace),cs=[.slice (some a) len cap]/\n<fuel/\len<=cap/\cap<=maxLen /\
   ∀ i,i<len->∃ cs',W.cells? 0 (a.add (i * P.cellsOf e)) (P.cellsOf e)=some cs'/\DataW.trod enc P W 0 (fun _=>true) true n e cs'=some (D i):=by
 rcases DataW.trod_slice ht h with h0|⟨a,len,cap,elems,rest,n,hf,rfl,rfl,hb,hl,hm,hlen,hel,hsp,hns⟩
 ·exact Or.inl h0.1
 refine Or.inr ⟨a,len,cap,n,fun i=>elems.getD i (.nil,[]),rfl,by omega,hl,hm,fun i hi=>?_⟩
 have h1:=hel i hi;rw [List.getElem?_eq_getElem (by omega)] at h1
 obtain ⟨cs',k1,k2⟩:=Option.bind_eq_some_iff.1 h1;exact ⟨cs',k1,by rw [k2]; simp [List.getD_eq_getElem?_getD,hlen,hi]⟩
theorem tree_link {d:Nat} {t:TypeId} {l:List Ty} {fs:Array Field} {pre:List Field} {fl:Field} (hu:P.underlying t=some (.struct fs)) (hfs:fs.toList=pre++[fl]) (he:P.underlying fl.type=some (.slice t)) (hl:tyFs (tyOf P d) P pre 0=some l)
  (hsz:Ty.szL l+1=P.cellsOf t) (hoff:fl.offset=Ty.szL l) (hc1:P.cellsOf fl.type=1)
  (ih:∀ (n:Nat) (t:TypeId) (T:Ty),tyOf P d t=some T->∀ (cs:List Value) (x:DataW H×List MemPlace),DataW.trod enc P W 0 (fun _=>true) true n t cs=some x->∃ g:Gen T,T.wf g/\CellsAre (memOf W) T cs g) :
  ∀ (n:Nat) (cs:List Value) (x:DataW H×List MemPlace),DataW.trod enc P W 0 (fun _=>true) true n t cs=some x ->
   ∃ g:TreeG (GenL l),(∀ f,treeW (Ty.wfL l) (Ty.dfltL l) f g)/\∀ f,CellsRel (memOf W) (Ty.szL l+1) cs (treeA (Ty.avL l) (Ty.szL l) (Ty.dfltL l) f g):=by
 intro n;induction n using Nat.strongRecOn with
 | _ n IH =>
 intro cs x hx;obtain ⟨xs,n',hn',_,hcl,hxl,hf⟩:=DataW.trod_struct hu hx;have at':∀ f∈fs.toList,∃ y,DataW.trod enc P W 0 (fun _=>true) true n' f.type ((cs.drop f.offset).take (P.cellsOf f.type))=some y:=fun f hf'=>by
  obtain ⟨i,hi⟩:=List.getElem?_of_mem hf';have hi':fs[i]?=some f:=by simpa using hi
  have:=hf i f hi';have hlt:i<xs.length:=by rw [hxl]; exact (Array.getElem?_eq_some_iff.1 hi').1
  exact ⟨_,this.trans (List.getElem?_eq_getElem hlt)⟩
 obtain ⟨gl,hwl,h1,h2,h3⟩:=fields_link (fun t T hT cs x hx=>ih n' t T hT cs x hx) pre l 0 cs hl (fun f hf'=>at' f (by rw [hfs]; simp [hf']))
 obtain ⟨y,hy⟩:=at' fl (by rw [hfs]; simp)
 have hcs:cs.length=Ty.szL l+1:=by rw [hcl,hsz]
 have hsplit:cs=cs.take (Ty.szL l)++(cs.drop fl.offset).take (P.cellsOf fl.type):=by
  rw [hoff,hc1];have:(cs.drop (Ty.szL l)).take 1=cs.drop (Ty.szL l):=List.take_of_length_le (by simp; omega)
  rw [this,List.take_append_drop]
 rw [List.drop_zero] at h1 h3;have hlen1:(cs.take (Ty.szL l)).length=Ty.szL l:=by simp; omega
 have kid:∃ v,(cs.drop fl.offset).take (P.cellsOf fl.type)=[v]/\v.oneCell'=true/\∃ ks:List (TreeG (GenL l)),ks.length<=maxLen/\(∀ i,i<ks.length->∀ f,treeW (Ty.wfL l) (Ty.dfltL l) f (ks.getD i (.mk (Ty.dfltL l) []))) /\
   ∀ f,RelP (memOf W) v (.rof ks.length (fun i=>treeA (Ty.avL l) (Ty.szL l) (Ty.dfltL l) f (ks.getD i (.mk (Ty.dfltL l) []))) false):=by
  rcases open_slice_lt he hy with hv|⟨a,len,m,n'',D,hv,hlt,hll,hm,hel⟩
  ·exact ⟨_,hv,rfl,[],by simp,fun i hi=>by simp at hi,fun f=>.rof0 none 0 _ false (by simp) (by simp) (fun _=>rfl)⟩
  ·obtain ⟨ks,hkl,hp⟩:=elems_choose' (TreeG.mk (Ty.dfltL l) []) len (fun i g=>(∀ f,treeW (Ty.wfL l) (Ty.dfltL l) f g)/\∃ cs',W.cells? 0 (a.add (i * P.cellsOf t)) (P.cellsOf t)=some cs'/\∀ f,CellsRel (memOf W) (Ty.szL l+1) cs' (treeA (Ty.avL l) (Ty.szL l) (Ty.dfltL l) f g)) (fun i hi=>by
    obtain ⟨cs',k1,k2⟩:=hel i hi;obtain ⟨g,hw,hg⟩:=IH n'' (by omega) cs' _ k2
    exact ⟨g,hw,cs',k1,hg⟩)
   refine ⟨_,hv,rfl,ks,by omega,fun i hi=>(hp i (by omega)).1,fun f=>?_⟩
   rw [hkl];exact rof_rel (sz:=P.cellsOf t) hll hm _ (fun i hi=>by
    obtain ⟨-,cs',k1,k2⟩:=hp i hi;exact ⟨cs',k1,by rw [<- hsz]; exact k2 f⟩) (by omega)
 obtain ⟨v,hv,hv1,ks,hkl,hkw,hkr⟩:=kid;rw [hv] at hsplit;have cell:∀ i,i<Ty.szL l+1->(cs.getD i undef).oneCell'=true/\(i<Ty.szL l->RelP (memOf W) (cs.getD i undef) ((Ty.avL l gl).getD i .undef))/\(i=Ty.szL l->cs.getD i undef=v):=by
  intro i hi;by_cases hlt:i<Ty.szL l
  ·have e:cs.getD i undef=(cs.take (Ty.szL l)).getD i undef:=by simp [List.getD_eq_getElem?_getD,hlt]
   rw [e];exact ⟨(h3 i hlt).1,fun _=>(h3 i hlt).2,fun h=>by omega⟩
  ·obtain rfl:i=Ty.szL l:=by omega
   have e:cs.getD (Ty.szL l) undef=v:=by
    rw [hsplit,List.getD_eq_getElem?_getD,List.getElem?_append_right (by omega),hlen1]
    simp
   exact ⟨by rw [e]; exact hv1,fun h=>by omega,fun _=>e⟩
 refine ⟨.mk gl ks,fun f=>?_,fun f=>?_⟩
 ·cases f with
  | zero=>trivial
  | succ f=>exact ⟨hwl,hkl,fun i hi=>hkw i hi f⟩
 ·cases f with
  | zero=>exact ⟨hcs,by simp [treeA,AV.cells],fun i hi=>⟨(cell i hi).1,by simp [treeA,AV.cells,List.getD,hi]; exact .undef _⟩⟩
  | succ f =>
   refine ⟨hcs,by simp [treeA,AV.cells,h2,TreeG.val],fun i hi=>⟨(cell i hi).1,?_⟩⟩
   show RelP _ _ ((Ty.avL l gl++[AV.rof ks.length (fun i=>treeA (Ty.avL l) (Ty.szL l) (Ty.dfltL l) f (ks.getD i (.mk (Ty.dfltL l) []))) false]).getD i .undef)
   by_cases hlt:i<Ty.szL l
   ·have e:∀ (A:List AV) (b:AV),i<A.length->(A++[b]).getD i .undef=A.getD i .undef:=fun A b hA=>by
     simp [List.getD_eq_getElem?_getD,List.getElem?_append_left hA]
    rw [e _ _ (by omega)]
    exact (cell i hi).2.1 hlt
   ·obtain rfl:i=Ty.szL l:=by omega
    have e:∀ (A:List AV) (b:AV),Ty.szL l=A.length->(A++[b]).getD (Ty.szL l) .undef=b:=fun A b hA=>by
     simp [List.getD_eq_getElem?_getD,hA]
    rw [(cell _ hi).2.2 rfl,e _ _ h2.symm];exact hkr f
theorem link:∀ (d n:Nat) (t:TypeId) (T:Ty),tyOf P d t=some T->∀ (cs:List Value) (x:DataW H×List MemPlace),DataW.trod enc P W 0 (fun _=>true) true n t cs=some x ->
  ∃ g:Gen T,T.wf g/\CellsAre (memOf W) T cs g
 | 0,_,_,_,h,_,_,_=>by simp [tyOf] at h
 | d+1,n,t,T,h,cs,x,hx=>by
  simp only [tyOf] at h;split at h
  ·rename_i hu;cases h;obtain ⟨b,rfl⟩:=trod_bool' hu hx;exact ⟨b,trivial,CellsAre.one rfl rfl rfl (.bool b)⟩
  ·rename_i k hu;cases h;obtain ⟨m,rfl,_,hw⟩:=DataW.trod_int hu hx;exact ⟨m,hw,CellsAre.one rfl rfl rfl (.int k m)⟩
  ·rename_i hu;cases h;obtain ⟨s,rfl,_,hw⟩:=DataW.trod_string hu hx;exact ⟨s.data.toList,by simpa [Ty.wf] using hw,CellsAre.one rfl rfl rfl (.str s.data.toList)⟩
  ·rename_i e hu;split at h
   ·rename_i T' hT;split at h
    ·rename_i hsz;cases h;rcases open_slice hu hx with ⟨rfl,_⟩|⟨a,len,cap,m,n',D,Pl,rfl,hb,hl,hm,hmm,_,hel⟩
     ·refine ⟨([]:List (Gen T')),⟨by simp,fun i hi=>by simp at hi⟩,CellsAre.one rfl rfl rfl ?_⟩
      exact .rof0 none 0 _ false (by simp) (by simp) (fun _=>rfl)
     ·simp only [if_true] at hmm;subst hmm;obtain ⟨l,hll,hp⟩:=elems_choose (T:=T') len (fun i g=>T'.wf g/\∃ cs',W.cells? 0 (a.add (i * P.cellsOf e)) (P.cellsOf e)=some cs'/\CellsAre (memOf W) T' cs' g) (fun i hi=>by
       obtain ⟨cs',h1,h2⟩:=hel i (by omega)
       obtain ⟨g,hw,hg⟩:=link d n' e T' hT cs' _ h2;exact ⟨g,hw,cs',h1,hg⟩)
      refine ⟨l,⟨by omega,fun i hi=>(hp i (by omega)).1⟩,CellsAre.one rfl rfl rfl ?_⟩
      cases len with
      | zero =>
       have:l=[]:=List.eq_nil_of_length_eq_zero hll;subst this;exact .rof0 (some a) m _ false hm (by simp) (by simp)
      | succ len' =>
       obtain ⟨-,cs0,h0,hc0⟩:=hp 0 (by omega)
       obtain ⟨-,hcl0,hg0⟩:=World.cells?_some h0;have hspot:a.spot=none:=by
        have:=hg0 0 (by omega)
        rw [List.getElem?_eq_getElem (by omega)] at this
        unfold World.cell? at this;split at this
        ·split at this
         ·cases this
         ·rename_i hs;simpa [Addr.add] using hs
        ·cases this
       obtain ⟨B,o,sp⟩:=a;obtain rfl:sp=none:=hspot;have key:∀ i j,i<len'+1->j<T'.sz->∃ v,memOf W B (o+i * T'.sz+j)=some v/\RelP (memOf W) v ((Ty.av T' (l.getD i (Ty.dflt T'))).cells.getD j .undef):=fun i j hi hj=>by
        obtain ⟨-,cs',h1,h2,h3,h4⟩:=hp i hi;obtain ⟨-,hc1,hg1⟩:=World.cells?_some h1;have h5:=hg1 j (by omega)
        rw [List.getElem?_eq_getElem (by omega)] at h5
        have h6:=h4 j hj;rw [List.getD_eq_getElem?_getD,List.getElem?_eq_getElem (by omega),Option.getD_some] at h6
        refine ⟨cs'[j]'(by omega),memOf_mk ?_ h6.1,h6.2⟩
        rw [<- h5,hsz.1];congr 1;simp only [Addr.add];split <;> split <;> simp_all [Nat.add_assoc]
       have:=RelP.rof (M:=memOf W) B o m T'.sz (len'+1) (fun i=>Ty.av T' (l.getD i (Ty.dflt T'))) false (fun i j=>(memOf W B (o+i * T'.sz+j)).getD undef) hl hm (by simp)
        (fun i hi=>by obtain ⟨-,cs',h1,h2⟩:=hp i hi; exact h2.2.1)
        (fun i j hi hj=>by obtain ⟨v,hv,_⟩:=key i j hi hj; rw [hv]; rfl)
        (fun i j hi hj=>by obtain ⟨v,hv,hr⟩:=key i j hi hj; rw [hv]; exact hr)
       show RelP _ _ (.rof (List.length (α:=Gen T') l) _ false);rw [hll];exact this
    ·cases h
   ·cases h
  ·rename_i fs hu;split at h
   ·rename_i pre fl htr;split at h
    case h_2=>cases h
    rename_i l hl;split at h
    case isFalse=>cases h
    rename_i hc;cases h;obtain ⟨hsz,hoff,hc1⟩:=hc;have hshape:fs.toList=pre++[fl]/\P.underlying fl.type=some (.slice t):=by
     unfold treeFs at htr;split at htr
     ·rename_i f hlast;split at htr
      ·rename_i e hue;split at htr
       ·rename_i hte;simp only [Option.some.injEq,Prod.mk.injEq] at htr;obtain ⟨rfl,rfl⟩:=htr;refine ⟨?_,by rw [<- hte]; exact hue⟩
        obtain ⟨ys,hys⟩:=List.getLast?_eq_some_iff.1 hlast;rw [hys]; simp
       ·cases htr
      ·cases htr
     ·cases htr
    obtain ⟨g,hw,hg⟩:=tree_link hu hshape.1 hshape.2 hl hsz hoff hc1 (fun n t T hT cs x hx=>link d n t T hT cs x hx) n cs x hx
    exact ⟨g,hw,hg 16⟩
   ·split at h
    ·rename_i l hl;split at h
     ·rename_i hsz;cases h;obtain ⟨xs,n',hn',_,hcl,hxl,hf⟩:=DataW.trod_struct hu hx;obtain ⟨g,hw,h1,h2,h3⟩:=fields_link (fun t T hT cs x hx=>link d n' t T hT cs x hx) fs.toList l 0 cs hl (fun f hf'=>by
       obtain ⟨i,hi⟩:=List.getElem?_of_mem hf';have hi':fs[i]?=some f:=by simpa using hi
       have:=hf i f hi';have hlt:i<xs.length:=by rw [hxl]; exact (Array.getElem?_eq_some_iff.1 hi').1
       exact ⟨_,this.trans (List.getElem?_eq_getElem hlt)⟩)
      have hall:(cs.drop 0).take (Ty.szL l)=cs:=by rw [hsz,<- hcl]; simp
      rw [hall] at h1 h3;exact ⟨g,hw,h1,h2,h3⟩
     ·cases h
    ·cases h
  ·cases h
theorem link_val {d:Nat} {base:Nat} {t:TypeId} {T:Ty} {v:Value} {x:DataW H} {ps:List MemPlace} (hT:tyOf P d t=some T) (hok:Value.okWide P W .any base t v) (hx:DataW.Trod enc P W 0 (fun _=>true) true t v x ps) :
  ∃ g:Gen T,T.wf g/\RelP (memOf W) v (Ty.av T g):=by
 obtain ⟨n,hx⟩:=hx;obtain ⟨g,hw,h1,h2,h3⟩:=link _ _ _ _ hT _ _ hx;refine ⟨g,hw,?_⟩;cases d with
 | zero=>simp [tyOf] at hT
 | succ d =>
  have one:∀ (hs:T.sz=1) (hc:(Ty.av T g).cells=[Ty.av T g]) (hv:v.cells=#[v]),RelP (memOf W) v (Ty.av T g):=fun hs hc hv=>by
   have:=(h3 0 (by omega)).2
   rw [hc,hv] at this;exact this
  simp only [tyOf] at hT;simp only [Value.okWide] at hok;split at hT <;> rename_i hu <;> try simp only [hu] at hok
  ·cases hT;refine one rfl rfl ?_;cases v <;> simp [Cell.okWide,Cell.ok,hu] at hok <;> rfl
  ·cases hT;refine one rfl rfl ?_;cases v <;> simp [Cell.okWide,Cell.ok,hu] at hok <;> rfl
  ·cases hT;refine one rfl rfl ?_;cases v <;> simp [Cell.okWide,Cell.ok,hu] at hok <;> rfl
  ·have:∃ T',T=.slice T':=by
    split at hT
    ·split at hT
     ·cases hT; exact ⟨_,rfl⟩
     ·cases hT
    ·cases hT
   obtain ⟨T',rfl⟩:=this;refine one rfl rfl ?_;cases v <;> simp [Cell.okWide,Cell.ok,hu] at hok <;> rfl
  ·have:∃ L,Ty.av T g=.agg L:=by
    split at hT
    ·split at hT
     ·split at hT
      ·cases hT; exact ⟨_,rfl⟩
      ·cases hT
     ·cases hT
    ·split at hT
     ·split at hT
      ·cases hT; exact ⟨_,rfl⟩
      ·cases hT
     ·cases hT
   obtain ⟨L,hL⟩:=this;rw [hL] at h2 h3 ⊢;obtain ⟨cs,rfl,hcs,_⟩:=hok;have e1:cs.size=L.length:=by
    have a1:L.length=T.sz:=h2;have a2:(Value.agg cs).cells.toList.length=T.sz:=h1;simpa [Value.cells,a1] using a2
   refine .agg cs _ e1 fun i hi=>?_
   have:=(h3 i (by have a1:L.length=T.sz:=h2; omega)).2
   have e2:(Value.agg cs).cells.toList.getD i undef=cs.getD i undef:=by simp [Value.cells,Array.getD_eq_getD_getElem?]
   rw [e2] at this;exact this
  ·cases hT
def Ty.avs:(l:List Ty)->GenL l->List AV
 | [],_=>[]
 | t::l,g=>Ty.av t g.1::Ty.avs l g.2
def tysOf (P:Program) (d:Nat):List TypeId->Option (List Ty)
 | []=>some []
 | t::l=>match tyOf P d t,tysOf P d l with
  | some T,some L=>some (T::L)
  | _,_=>none
theorem link_args {d base:Nat}:∀ (ts:List TypeId) (L:List Ty) (vs:List Value) (ds:List (DataW H)) (ps:List MemPlace),tysOf P d ts=some L ->
  (∀ (j:Nat) t v,ts[j]?=some t->vs[j]?=some v->Value.okWide P W .any base t v)->DataW.TrodAll enc P W 0 (fun _=>true) true ts vs ds ps ->
  ∃ g:GenL L,Ty.wfL L g/\vs.length=(Ty.avs L g).length/\∀ i,i<(Ty.avs L g).length->RelP (memOf W) (vs.getD i undef) ((Ty.avs L g).getD i .undef)
 | [],L,vs,ds,ps,hT,_,h=>by
  cases hT;cases vs <;> cases ds <;> simp [DataW.TrodAll] at h
  exact ⟨(),trivial,rfl,fun i hi=>by simp [Ty.avs] at hi⟩
 | t::ts,L,vs,ds,ps,hT,hok,h=>by
  simp only [tysOf] at hT;split at hT
  ·rename_i T L' h1 h2;cases hT;obtain ⟨v,vs',d',ds',p,q,rfl,rfl,rfl,hx,h'⟩:=trodAll_cons h;obtain ⟨g,hw,hg⟩:=link_val h1 (hok 0 t v rfl rfl) hx
   obtain ⟨gl,hwl,hl,hgl⟩:=link_args ts L' vs' ds' q h2 (fun j t v h1 h2=>hok (j+1) t v (by simpa using h1) (by simpa using h2)) h'
   refine ⟨(g,gl),⟨hw,hwl⟩,by simp [Ty.avs,hl],fun i hi=>?_⟩
   cases i with
   | zero=>simpa [Ty.avs] using hg
   | succ i=>simpa [Ty.avs] using hgl i (by simpa [Ty.avs] using hi)
  ·cases hT
theorem link_row {d base:Nat} {f:Func} {args:Array Value} {L:List Ty} {ds gs:List (DataW H)} {ps:List MemPlace} {vars:List String} {apart:Bool} (hT:tysOf P d f.params.toList=some L)
  (hok:∀ (j:Nat) t v,f.params[j]?=some t->args[j]?=some v->Value.okWide P W .any base t v) (hW:DataW.Whole enc P f.params.toList vars apart W args.toList ds gs ps) :
  ∃ g:GenL L,Ty.wfL L g/\ArgsRel (fun _ _=>none) (memOf W) args (Ty.avs L g):=by
 obtain ⟨p,q,hA,-⟩:=hW;obtain ⟨g,hw,hl,hr⟩:=link_args f.params.toList L args.toList ds p hT (fun j t v h1 h2=>hok j t v (by simpa using h1) (by simpa using h2)) hA
 refine ⟨g,hw,by simpa using hl,fun i hi=>.pure ?_⟩
 have:=hr i hi;simpa [Array.getD_eq_getD_getElem?] using this
end
end Pw
namespace Pw
open Go
theorem PureC.of_vc {E:Env} {f:FuncId} {k d:Nat} {args:List AV} {v:AV} (hm:E.P.follows .mixedOrders=true) (hctr:CtrOK E)
  (hs:(vcFun E k f args .nil 0 fun x hp _=>.need (gensX (fun b=>hp.get .dead b) x) (.leaf ((frzX d (fun b=>hp.get .dead b) x).sub v))).sat):PureC E.P E.gl f args v:=by
 intro M W vals hG hM hargs;have hS:SRel ⟨fun _=>True,M,false,false⟩ W 0 (fun _ _=>none) M (fun _=>.undef) (fun b=>(T.nil:T Blk).get .dead b) 0 { tmps:=#[],defers:=[] } W:=SRel.empty hM
 obtain ⟨hfn,hc⟩:=vcFun_sound hm hctr k hs _ W 0 _ M _ _ W vals hG hS (fun r hr=>by cases hr) ⟨hargs.1,fun i hi=>.pure (hargs.2 i hi)⟩
 refine ⟨hfn,hc.mono fun e W' ⟨u,x,ρ',M',hp',nx',h1,h2,h3,h4,h5,hpt,h6,h7⟩=>?_⟩
 have h6':(fun b=>hpt.get .dead b)=hp':=funext h6
 rw [h6'] at h7;obtain ⟨hgn,h7⟩:=NB.inv h7;rw [frzX_eq hgn] at h7;refine ⟨u,fun B i=>if W.heap.size<=B then memOf W' B i else M B i,h1,?_,?_,?_,?_,h5.keep⟩
 ·have hext:MExt M' (fun B i=>if W.heap.size<=B then memOf W' B i else M B i):=fun B i v hv=>by
   show (if W.heap.size<=B then memOf W' B i else M B i)=some v
   split
   ·exact memOf_mk (h5.hok.mem B i v hv).1 (h5.hok.mem B i v hv).2
   ·rcases h5.memN B i v hv with h8|h8|h8
    ·exact h8
    ·exact absurd h8 ‹_›
    ·exact absurd trivial h8
  refine RelP.sub (frz_rel h5.hok hext (fun b g sz pu s L hb hL hv i c hc hc1=>?_) d u x h4) v h7
  have:=h5.own b g sz pu s L hb hL hv trivial;show (if W.heap.size<=L.B then memOf W' L.B i else M L.B i)=some c
  rw [if_pos this];exact memOf_mk hc hc1
 ·intro B i v hv;show (if W.heap.size<=B then memOf W' B i else M B i)=some v
  have:=World.block_lt_of_cell? W ⟨B,i,none⟩ (hM B i v hv).1;rw [if_neg (by simp at this; omega)]
  exact hv
 ·intro B i v hv;simp only [] at hv;split at hv
  ·exact memOf_some hv
  ·refine ⟨?_,(hM B i v hv).2⟩;rw [cell_congr (h5.keep.block B trivial (by omega))]
   exact (hM B i v hv).1
 ·intro B i v hv;simp only [] at hv;split at hv
  ·exact .inr ‹_›
  ·exact .inl hv
def AV.flatC:AV->Bool
 | .int ..|.bool _|.str _|.nils|.nilp|.nilf|.nilm=>true
 | .fn _ [] []=>true
 | _=>false
def AV.flatE:AV->Bool
 | .agg l=>l.all AV.flatC
 | x=>x.flatC
def AV.flat:AV->Bool
 | .tup l=>l.all AV.flatE
 | x=>x.flatE
theorem RelP.flatC {M M':Mem} {v:Value} {x:AV} (h:RelP M v x) (hx:x.flatC=true):RelP M' v x:=by
 cases h with
 | fnc f fs cs fl cl h1 h2 _ _ =>
  cases fl <;> cases cl <;> simp [AV.flatC] at hx
  simp at h1 h2;subst h1; subst h2;exact .fn f
 | _=>first|(simp [AV.flatC] at hx; done)|constructor
theorem RelP.flatE {M M':Mem} {v:Value} {x:AV} (h:RelP M v x) (hx:x.flatE=true):RelP M' v x:=by
 cases x with
 | agg l =>
  cases h with
  | agg cs _ hs hr=>exact .agg cs l hs fun i hi=>(hr i hi).flatC (all_getD hx hi)
 | _=>exact h.flatC hx
theorem RelP.flat {M M':Mem} {v:Value} {x:AV} (h:RelP M v x) (hx:x.flat=true):RelP M' v x:=by
 cases x with
 | tup l =>
  cases h with
  | tup cs _ hs hr=>exact .tup cs l hs fun i hi=>(hr i hi).flatE (all_getD hx hi)
 | _=>exact h.flatE hx
abbrev Tbl:=FuncId->List AV->Option (Bool×AV)
def TblOK (P:Program) (gl:Nat->AV) (t:Tbl):Prop:=∀ f args nd v,t f args=some (nd,v)->nd=true->PureC P gl f args v
def ctrOf (t:Tbl) (f:FuncId) (args:List AV) (hp:Nat->Blk) (_:Nat):Option Out :=
 match args.all AV.isPure with
 | true=>(t f args).map fun q=>.ret q.1 q.2 []
 | false=>match t f (args.map (frzX 9 hp)) with
  | some (nd,v)=>match v.flat with|true=>some (.ret (nd&&gensAll hp args) v [])|false=>none
  | none=>none
theorem ctrOf_ok {E:Env} {t:Tbl} (ht:TblOK E.P E.gl t) (he:E.ctr=ctrOf t) (hi:ItrOK E:=by exact itr_none rfl):CtrOK E:=by
 refine ⟨?_,hi⟩;intro f args hp nx out ho U w0 n ρ M tm a w vals hG hS hA;rw [he] at ho;unfold ctrOf at ho;split at ho
 ·rename_i hpu;obtain ⟨⟨nd,v⟩,h1,rfl⟩:=Option.map_eq_some_iff.1 ho;intro hnd _;obtain ⟨hfn,hc⟩:=ht f args nd v h1 hnd M w vals (fun g=>(hG g).mono hS.memE) hS.hok.mem (hA.pureP hpu)
  exact ⟨hfn,hc.mono fun e w' ⟨u,M',h2,h3,h4,h5,h6,h7⟩=>⟨u,ρ,M',h2,RX.refl ρ hp nx,h4,.pure h3,hS.frame h7 h4 h5 h6⟩⟩
 ·split at ho
  ·rename_i nd v h1;split at ho
   ·rename_i hfl;cases ho;intro hnd _;simp only [Bool.and_eq_true] at hnd;obtain ⟨hnd,hgn⟩:=hnd;rw [frzX_map hgn] at h1;have hext:MExt M (memOf w):=fun B i v hv=>memOf_mk (hS.hok.mem B i v hv).1 (hS.hok.mem B i v hv).2
    have hA':ArgsP (memOf w) vals (args.map (frz 9 hp)):=by
     refine ⟨by simpa using hA.1,fun i hi=>?_⟩
     have hi':i<args.length:=by simpa using hi
     have:=frz_rel hS.hok hext (fun b g sz pu s L _ _ _ i v h1 h2=>memOf_mk h1 h2) 9 _ _ (hA.2 i hi')
     simpa [List.getD_eq_getElem?_getD,hi'] using this
    obtain ⟨hfn,hc⟩:=ht f _ nd v h1 hnd (memOf w) w vals (fun g=>((hG g).mono hS.memE).mono hext) (fun B i v h=>memOf_some h) hA'
    refine ⟨hfn,hc.mono fun e w' ⟨u,M',h2,h3,h4,h5,h6,h7⟩=>⟨u,ρ,M,h2,RX.refl ρ hp nx,MExt.refl M,.pure (h3.flat hfl),hS.frame h7 (MExt.refl M) (fun B i v hv=>h5 B i v (h4 B i v (hext B i v hv))) fun B i v hv=>.inl hv⟩⟩
   ·cases ho
  ·cases ho
end Pw
