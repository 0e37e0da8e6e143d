/- ENGINE, part G5: tables of contracts; conditions, as propositions. -/
import Derived.Test.YtlnpgnipocbfhaaGreatDoorPwG1
import Derived.JoinedCond
import Derived.KernelRfl
import Derived.Laws.BitsLemmas
import Derived.Laws.Bits64
import Derived.MakeChecks
namespace Pw
open Go
abbrev EqI (a b:Int):Prop:=a=b
abbrev Ctr:=List AV->Option (Bool×AV)
def tblOf:List (Nat×Ctr)->Tbl
 | [],_,_=>none
 | (g,c)::r,f,args=>if f=g then c args else tblOf r f args
def PureF (P:Program) (g:Nat) (c:Ctr):Prop:=∀ args nd v,c args=some (nd,v)->nd=true->PureC P (fun _=>.undef) g args v
theorem tbl_nil (P:Program):TblOK P (fun _=>.undef) (tblOf []):=fun _ _ _ _ h=>by cases h
theorem tbl_cons {P:Program} {g:Nat} {c:Ctr} {r:List (Nat×Ctr)} (h:PureF P g c) (hr:TblOK P (fun _=>.undef) (tblOf r)):TblOK P (fun _=>.undef) (tblOf ((g,c)::r)):=by
 intro f args nd v e hnd;simp only [tblOf] at e;split at e
 ·rename_i hf;subst hf;exact h args nd v e hnd
 ·exact hr f args nd v e hnd
def mkE (P:Program) (t:Tbl) (inv:FuncId->Nat->Option Inv):Env:={ P:=P,gl:=fun _=>.undef,ctr:=ctrOf t,inv:=inv,fuelL:=0,cl:=false }
theorem mkE_ctr {P:Program} {t:Tbl} {inv:FuncId->Nat->Option Inv} (ht:TblOK P (fun _=>.undef) t):CtrOK (mkE P t inv):=ctrOf_ok ht rfl
abbrev retP (d:Nat) (v:AV):AV->T Blk->Nat->VT:=fun x hp _=>.need (gensX (fun b=>hp.get .dead b) x) (.leaf ((frzX d (fun b=>hp.get .dead b) x).sub v))
theorem pure_vc {P:Program} {t:Tbl} {inv:FuncId->Nat->Option Inv} {f:FuncId} {k d:Nat} {args:List AV} {v:AV} (hm:P.follows .mixedOrders=true) (ht:TblOK P (fun _=>.undef) t)
  (hs:(vcFun (mkE P t inv) k f args .nil 0 (retP d v)).sat):PureC P (fun _=>.undef) f args v:=PureC.of_vc (E:=mkE P t inv) hm (mkE_ctr ht) hs
theorem VB_iff {b:Bool} {p q:Prop}:VB b p q ↔ ((b=true->p)/\(b=false->q)):=by cases b <;> simp [VB]
theorem NB_iff {b:Bool} {p:Prop}:NB b p ↔ (b=true/\p):=by cases b <;> simp [NB]
theorem VB_intro {b:Bool} {p q:Prop} (h1:b=true->p) (h2:b=false->q):VB b p q:=VB_iff.2 ⟨h1,h2⟩
theorem NB_intro {b:Bool} {p:Prop} (h1:b=true) (h2:p):NB b p:=NB_iff.2 ⟨h1,h2⟩
theorem VB_t {p q:Prop}:VB true p q=p:=rfl
theorem VB_f {p q:Prop}:VB false p q=q:=rfl
theorem NB_t {p:Prop}:NB true p=p:=rfl
theorem wrap_i64 (n:Int):IntKind.i64.wrap n=(n+9223372036854775808) % 18446744073709551616 - 9223372036854775808:=IntKind.wrap_i64 n
theorem wrap_i64_id {n:Int} (h0:-9223372036854775808<=n) (h1:n<=9223372036854775807):IntKind.i64.wrap n=n:=by rw [wrap_i64]; omega
theorem wrap_u64_id {n:Int} (h0:0<=n) (h1:n<=18446744073709551615):IntKind.u64.wrap n=n:=by rw [IntKind.wrap_u64]; omega
theorem wrap_u64 (n:Int):IntKind.u64.wrap n=n % 18446744073709551616:=IntKind.wrap_u64 n
def mkF (P:Program) (t:Tbl) (inv:FuncId->Nat->Option Inv) (n:Nat):Env:={ P:=P,gl:=fun _=>.undef,ctr:=ctrOf t,inv:=inv,fuelL:=n,cl:=false }
theorem mkF_ctr {P:Program} {t:Tbl} {inv:FuncId->Nat->Option Inv} {n:Nat} (ht:TblOK P (fun _=>.undef) t):CtrOK (mkF P t inv n):=ctrOf_ok ht rfl
theorem pure_vcF {P:Program} {t:Tbl} {inv:FuncId->Nat->Option Inv} {n:Nat} {f:FuncId} {k d:Nat} {args:List AV} {v:AV} (hm:P.follows .mixedOrders=true) (ht:TblOK P (fun _=>.undef) t)
  (hs:(vcFun (mkF P t inv n) k f args .nil 0 (retP d v)).sat):PureC P (fun _=>.undef) f args v:=PureC.of_vc (E:=mkF P t inv n) hm (mkF_ctr ht) hs
theorem PureC.args {P:Program} {gl:Nat->AV} {f:FuncId} {args args':List AV} {v:AV} (hl:args.length=args'.length) (h:∀ i,i<args.length->(args.getD i .undef).sub (args'.getD i .undef)) (hc:PureC P gl f args' v):PureC P gl f args v :=
 fun M W vals hG hM hA=>hc M W vals hG hM ⟨hA.1.trans hl,fun i hi=>(hA.2 i (by omega)).sub _ (h i (by omega))⟩
theorem NB_intro' {b:Bool} {p:Prop} (h1:b=true) (h2:b=true->p):NB b p:=NB_iff.2 ⟨h1,h2 h1⟩
theorem isW_t (c:Bool):isW true c=c:=rfl
theorem isW_f (c:Bool):isW false c=!c:=rfl
theorem impB_t {a b:Bool}:impB a b=true ↔ (a=true->b=true):=by cases a <;> cases b <;> simp [impB]
theorem impB_f {a b:Bool}:impB a b=false ↔ (a=true/\b=false):=by cases a <;> cases b <;> simp [impB]
theorem wf_i64 {n:Int} (h:(Lit.int .i64 n).wf=true):-9223372036854775808<=n/\n<=9223372036854775807:=by
 simpa [Lit.wf,IntKind.min,IntKind.max,IntKind.bits,IntKind.signed] using h
theorem wf_u64 {n:Int} (h:(Lit.int .u64 n).wf=true):0<=n/\n<=18446744073709551615:=by
 simpa [Lit.wf,IntKind.min,IntKind.max,IntKind.bits,IntKind.signed] using h
end Pw
namespace Pw
open Go Go.ChangeShapes Go.WideShapes Go.ChangeAt Go.RowKit
def PureG (P:Program) (gl:Nat->AV) (g:Nat) (c:Ctr):Prop:=∀ args nd v,c args=some (nd,v)->nd=true->PureC P gl g args v
theorem PureC.up {P:Program} {gl:Nat->AV} {f:FuncId} {args:List AV} {v:AV} (h:PureC P (fun _=>.undef) f args v):PureC P gl f args v :=
 fun M W vals _ hM hA=>h M W vals (fun _=>.undef _) hM hA
theorem PureF.up {P:Program} {gl:Nat->AV} {g:Nat} {c:Ctr} (h:PureF P g c):PureG P gl g c:=fun args nd v e hnd=>(h args nd v e hnd).up
theorem tblG_nil (P:Program) (gl:Nat->AV):TblOK P gl (tblOf []):=fun _ _ _ _ h=>by cases h
theorem tblG_cons {P:Program} {gl:Nat->AV} {g:Nat} {c:Ctr} {r:List (Nat×Ctr)} (h:PureG P gl g c) (hr:TblOK P gl (tblOf r)):TblOK P gl (tblOf ((g,c)::r)):=by
 intro f args nd v e hnd;simp only [tblOf] at e;split at e
 ·rename_i hf;subst hf;exact h args nd v e hnd
 ·exact hr f args nd v e hnd
def mkG (P:Program) (gl:Nat->AV) (t:Tbl) (inv:FuncId->Nat->Option Inv) (n:Nat):Env:={ P:=P,gl:=gl,ctr:=ctrOf t,inv:=inv,fuelL:=n,cl:=false }
theorem mkG_ctr {P:Program} {gl:Nat->AV} {t:Tbl} {inv:FuncId->Nat->Option Inv} {n:Nat} (ht:TblOK P gl t):CtrOK (mkG P gl t inv n):=ctrOf_ok ht rfl
theorem pure_vcG {P:Program} {gl:Nat->AV} {t:Tbl} {inv:FuncId->Nat->Option Inv} {n:Nat} {f:FuncId} {k d:Nat} {args:List AV} {v:AV} (hm:P.follows .mixedOrders=true) (ht:TblOK P gl t)
  (hs:(vcFun (mkG P gl t inv n) k f args .nil 0 (retP d v)).sat):PureC P gl f args v:=PureC.of_vc (E:=mkG P gl t inv n) hm (mkG_ctr ht) hs
theorem TblOK.up {P:Program} {gl:Nat->AV} {t:Tbl} (h:TblOK P (fun _=>.undef) t):TblOK P gl t:=fun f args nd v e hnd=>(h f args nd v e hnd).up
def strsG (g0:Nat) (l:List (List UInt8)):Nat->AV:=fun g=>if g=g0 then .rptr (.agg (l.map .str)) 0 else .undef
theorem laidVars_mem {P:Program} {w:World} {n:String} {d:DataW Unit}:∀ (l:List (String×DataW Unit)) (ps:List MemPlace),DataW.LaidVars P w l ps->(n,d)∈l ->
  ∃ g t cs fuel p,P.globalNamed n=some g/\(P.globals[g]?).map (·.type)=some t/\w.var? P n=some cs/\DataW.trod (fun _=>()) P w 0 (fun _=>true) false fuel t cs.toList=some (d,p)
 | [],_,_,hm=>by cases hm
 | (n',d')::r,ps,h,hm=>by
  obtain ⟨g,t,cs,fuel,p,q,h1,h2,h3,h4,h5,_⟩:=h;rcases List.mem_cons.1 hm with e|e
  ·cases e;exact ⟨g,t,cs,fuel,p,h1,h2,h3,h4⟩
  ·exact laidVars_mem r q h5 e
theorem glob_strs {P:Program} {W:World} {laid:List (String×DataW Unit)} {name:String} {l:List (List UInt8)} {g0 t e:Nat} (h:laidMet P laid W) (hm:(name,.agg (l.map fun s=>.lit (.string s)))∈laid)
  (hg:P.globalNamed name=some g0) (ht:(P.globals[g0]?).map (·.type)=some t) (hu:P.underlying t=some (.array l.length e)) (he:P.underlying e=some .string) (h1:P.cellsOf e=1):GlobOK (memOf W) (strsG g0 l):=by
 obtain ⟨ps,hL,_⟩:=h;obtain ⟨g,t',cs,fuel,p,k1,k2,k3,k4⟩:=laidVars_mem laid ps hL hm;rw [hg] at k1; cases k1;rw [ht] at k2; cases k2;obtain ⟨xs,m,_,ex,_,hl,hel⟩:=DataW.trod_array hu k4
 have hmap:xs.map (·.1)=l.map fun s=>(DataW.lit (.string s):DataW Unit):=(DataW.agg.inj (Prod.mk.inj ex).1).symm
 have cell:∀ i (hi:i<l.length),memOf W g0 i=some (.string ⟨⟨l[i]⟩⟩):=fun i hi=>by
  have hE:=hel i hi;rw [h1,Nat.mul_one,List.getElem?_eq_getElem (by omega)] at hE
  obtain ⟨s,e1,e2,_⟩:=DataW.trod_string he hE;have e4:(xs.map (·.1))[i]?=(l.map fun s=>(DataW.lit (.string s):DataW Unit))[i]?:=by rw [hmap]
  rw [List.getElem?_map,List.getElem?_map,List.getElem?_eq_getElem (by omega:i<xs.length),List.getElem?_eq_getElem hi,e2] at e4
  simp only [Option.map_some,Option.some.injEq,DataW.lit.injEq,Lit.string.injEq] at e4;have hc:cs.toList[i]?=some (.string s):=by
   have h0:((cs.toList.drop i).take 1)[0]?=some (.string s):=by rw [e1]; rfl
   simpa using h0
  refine memOf_mk ?_ rfl;rw [World.var?_cell hg k3 i];rw [<- e4];have:cs[i]?=some (.string s):=by simpa using hc
  rw [this]
 intro g;unfold strsG;split
 ·rename_i hgg;subst hgg;refine .rptr g 0 0 (.agg (l.map .str)) (fun i=>.string ⟨⟨l.getD i []⟩⟩) (fun i hi=>?_) (fun i hi=>?_)
  ·have hi':i<l.length:=by simpa [AV.cells] using hi
   rw [Nat.zero_add,cell i hi'];simp [List.getD,hi']
  ·have hi':i<l.length:=by simpa [AV.cells] using hi
   have:(AV.agg (l.map .str)).cells.getD i .undef=.str (l.getD i []):=by simp [AV.cells,List.getD,hi']
   rw [this];exact .str _
 ·exact .undef _
end Pw
namespace Pw
open Go
def frzFC:Nat->(Nat->Blk)->AV->AV
 | 0,_,x=>bif x.flatC then x else .undef
 | d+1,hp,x =>
  match x with
  | .sl b g i len c =>
   match hp b with
   | .row g' _ _ s=>if g=g' then ((s.sub i len).map fun y=>match y with|.agg l=>.agg (l.map (frzFC d hp))|y=>frzFC d hp y).ro (decide (c=some len)) else .undef
   | _=>.undef
  | x=>bif x.flatC then x else .undef
def frzFE (d:Nat) (hp:Nat->Blk):AV->AV
 | .agg l=>.agg (l.map (frzFC d hp))
 | y=>frzFC d hp y
def frzF (d:Nat) (hp:Nat->Blk):AV->AV
 | .tup l=>.tup (l.map (frzFE d hp))
 | y=>frzFE d hp y
def frzGC (d:Nat) (hp:Nat->Blk):AV->AV
 | .sl b _ i len c =>
  match d with
  | 0=>.undef
  | d+1 =>
   match hp b with
   | .row _ _ _ s=>((s.sub i len).map fun y=>match y with|.agg l=>.agg (l.map (frzFC d hp))|y=>frzFC d hp y).ro (decide (c=some len))
   | _=>.undef
 | x=>frzFC d hp x
def frzGE (d:Nat) (hp:Nat->Blk):AV->AV
 | .agg l=>.agg (l.map (frzGC d hp))
 | y=>frzGC d hp y
def frzG (d:Nat) (hp:Nat->Blk):AV->AV
 | .tup l=>.tup (l.map (frzGE d hp))
 | y=>frzGE d hp y
theorem frzGC_eq {d:Nat} {hp:Nat->Blk} {x:AV} (h:gensC hp x=true):frzGC d hp x=frzFC d hp x:=by
 cases x with
 | sl b g i len c =>
  cases d with
  | zero=>rfl
  | succ d =>
   simp only [gensC] at h;simp only [frzGC,frzFC];split
   ·rename_i hb;rw [hb] at h;rw [if_pos (of_decide_eq_true h)]
   ·rfl
 | _=>rfl
theorem frzGC_map {d:Nat} {hp:Nat->Blk}:∀ {l:List AV},gensCL hp l=true->l.map (frzGC d hp)=l.map (frzFC d hp)
 | [],_=>rfl
 | x::l,h=>by
  simp only [gensCL,Bool.and_eq_true] at h;rw [List.map_cons,List.map_cons,frzGC_eq h.1,frzGC_map h.2]
theorem frzGE_eq {d:Nat} {hp:Nat->Blk} {x:AV} (h:gensE hp x=true):frzGE d hp x=frzFE d hp x:=by
 cases x
 case agg l=>exact congrArg AV.agg (frzGC_map h)
 case sl b g i len c=>exact frzGC_eq (x:=.sl b g i len c) h
 all_goals rfl
theorem frzGE_map {d:Nat} {hp:Nat->Blk}:∀ {l:List AV},gensEL hp l=true->l.map (frzGE d hp)=l.map (frzFE d hp)
 | [],_=>rfl
 | x::l,h=>by
  simp only [gensEL,Bool.and_eq_true] at h;rw [List.map_cons,List.map_cons,frzGE_eq h.1,frzGE_map h.2]
theorem frzG_eq {d:Nat} {hp:Nat->Blk} {x:AV} (h:gensX hp x=true):frzG d hp x=frzF d hp x:=by
 cases x
 case tup l=>exact congrArg AV.tup (frzGE_map h)
 case agg l=>exact frzGE_eq (x:=.agg l) h
 case sl b g i len c=>exact frzGE_eq (x:=.sl b g i len c) h
 all_goals rfl
theorem flatC_pure {x:AV} (h:x.flatC=true):x.isPureCell=true:=by
 cases x <;> first|(simp [AV.flatC] at h; done)|rfl|skip
 rename_i f a b;cases a <;> cases b <;> first|(simp [AV.flatC] at h; done)|rfl
theorem flat_cell {x:AV} (h:x.flatC=true):x.cells=[x]:=by
 cases x <;> first|(simp [AV.flatC] at h; done)|rfl
theorem frzFC_cells (d:Nat) (hp:Nat->Blk) (x:AV):(frzFC d hp x).cells=[frzFC d hp x]:=by
 have pc:∀ y:AV,(bif y.flatC then y else AV.undef).cells=[bif y.flatC then y else AV.undef]:=fun y=>by
  cases h:y.flatC
  ·rfl
  ·exact flat_cell h
 cases d with
 | zero=>exact pc x
 | succ d =>
  cases x with
  | sl b g i len c =>
   simp only [frzFC];split
   ·split
    ·exact Sq.ro_cells _ _
    ·rfl
   ·rfl
  | _=>simp only [frzFC]; exact pc _
theorem frzFE_cells (d:Nat) (hp:Nat->Blk) (x:AV):(frzFE d hp x).cells=x.cells.map (frzFC d hp):=by
 cases x with
 | agg l=>rfl
 | _=>simp only [frzFE]; rw [frzFC_cells]; rfl
section
variable {ρ:Rho} {M M2:Mem} {hp:Nat->Blk} {w:World}
theorem frzFC_rel (hok:HOK ρ M hp w) (hrow:∀ b g sz pu s L,hp b=.row g sz pu s->ρ b g=some L->L.virt=false->∀ i v,w.cell? ⟨L.B,i,none⟩=some v->v.oneCell'=true->M2 L.B i=some v) :
  ∀ (d:Nat) (v:Value) (x:AV),Rel ρ M v x->RelP M2 v (frzFC d hp x):=by
 have pc:∀ (v:Value) (y:AV),Rel ρ M v y->RelP M2 v (bif y.flatC then y else AV.undef):=fun v y hr=>by
  cases h:y.flatC
  ·exact .undef v
  ·exact (hr.pureCell (flatC_pure h)).flatC h
 intro d;induction d with
 | zero=>exact fun v x hr=>pc v x hr
 | succ d ih =>
  have el:∀ b g sz pu s,hp b=.row g sz pu s->∀ L,ρ b g=some L->L.virt=false->∀ i,i<s.len->∀ y,y=frzFE d hp (s.get i) ->
    y.cells.length=sz/\∀ j,j<sz->∃ v,M2 L.B (L.o+i * sz+j)=some v/\RelP M2 v (y.cells.getD j .undef):=by
   intro b g sz pu s hb L hL hv i hi y hy;obtain ⟨L',e1,e2,e3,e4⟩:=hok.row b g sz pu s hb;rw [hL] at e1;cases e1;rcases e4 with e4|⟨_,c,e,h5,h6,h7,h8,h9⟩
   ·rw [hv] at e4;cases e4.1
   obtain ⟨k1,k2⟩:=h9 i hi;have hcells:y.cells=(s.get i).cells.map (frzFC d hp):=by rw [hy]; exact frzFE_cells d hp (s.get i)
   refine ⟨by rw [hcells]; simp [k1],fun j hj=>?_⟩
   obtain ⟨v,m1,m2,m3,m4⟩:=k2 j hj;refine ⟨v,hrow b g sz pu s L hb hL hv _ v ?_ m2,?_⟩
   ·simp [World.cell?,h5,m1]
   ·rw [hcells];have hlt:j<(s.get i).cells.length:=by omega
    have:=ih v _ m3;simpa [List.getD_eq_getElem?_getD,hlt] using this
  intro v x hr;cases x with
  | sl b g i len c =>
   simp only [frzFC];cases hb:hp b with
   | dead=>exact .undef v
   | loop st r=>exact .undef v
   | fam d=>exact .undef v
   | row g' sz pu s =>
    simp only [];by_cases hg:g=g'
    ·subst hg;simp only [if_true];cases hr with
     | pure h=>cases h
     | sl L _ _ _ _ cap _ h hv hl hc hbb hcm hn =>
      obtain ⟨L',e1,e2,e3,e4⟩:=hok.row b g sz pu s hb;rw [h] at e1;cases e1;have hsub:i+len<=s.len:=by omega
      have hl':=(Sq.map_len (fun y=>match y with|.agg l=>.agg (l.map (frzFC d hp))|y=>frzFC d hp y) (s.sub i len)).trans (Sq.sub_len s i len hsub)
      subst e2;generalize hq:((s.sub i len).map fun y=>match y with|.agg l=>.agg (l.map (frzFC d hp))|y=>frzFC d hp y)=q at hl' ⊢
      have get:∀ k,k<len->q.get k=frzFE d hp (s.get (i+k)):=fun k hk=>by
       rw [<- hq,Sq.map_get _ _ _ (by rw [Sq.sub_len s i len hsub]; exact hk),Sq.sub_get s i len k hk]
       cases s.get (i+k) <;> rfl
      have hres:=ro_rel (M:=M2) (B:=L.B) (o:=L.o+i * L.sz) (cap:=cap) (sz:=L.sz) (s:=q) (ex:=decide (c=some len)) (by omega) hcm (fun hex=>by
        rw [hl'];exact hc len (of_decide_eq_true hex))
       (fun k hk=>(el b g L.sz pu s hb L h hv (i+k) (by omega) _ (get k (by omega))).1)
       (fun k j hk hj=>by
        obtain ⟨v,hv1,hv2⟩:=(el b g L.sz pu s hb L h hv (i+k) (by omega) _ (get k (by omega))).2 j hj
        refine ⟨v,?_,hv2⟩;rw [<- hv1];congr 1;rw [Nat.add_mul];omega)
      rw [hl'] at hres;exact hres
     | slv L a _ _ _ _ h hc =>
      refine ro_rel0 ((Sq.map_len _ _).trans ?_);cases s <;> simp [Sq.sub,Sq.len]
    ·simp only [hg,if_false];exact .undef v
  | _=>simp only [frzFC]; exact pc v _ hr
theorem frzFE_rel (hok:HOK ρ M hp w) (hrow:∀ b g sz pu s L,hp b=.row g sz pu s->ρ b g=some L->L.virt=false->∀ i v,w.cell? ⟨L.B,i,none⟩=some v->v.oneCell'=true->M2 L.B i=some v)
  (d:Nat) (v:Value) (x:AV) (h:Rel ρ M v x):RelP M2 v (frzFE d hp x):=by
 cases x with
 | agg l =>
  obtain ⟨cs,rfl,hs,hr⟩:=h.aggInv;refine .agg cs _ (by simp [hs]) fun i hi=>?_
  have hi':i<l.length:=by simpa using hi
  have:=frzFC_rel hok hrow d _ _ (hr i hi');simpa [List.getD_eq_getElem?_getD,hi'] using this
 | _=>simp only [frzFE]; exact frzFC_rel hok hrow d v _ h
theorem frzF_rel (hok:HOK ρ M hp w) (hrow:∀ b g sz pu s L,hp b=.row g sz pu s->ρ b g=some L->L.virt=false->∀ i v,w.cell? ⟨L.B,i,none⟩=some v->v.oneCell'=true->M2 L.B i=some v)
  (d:Nat) (v:Value) (x:AV) (h:Rel ρ M v x):RelP M2 v (frzF d hp x):=by
 cases x with
 | tup l =>
  obtain ⟨cs,rfl,hs,hr⟩:=h.tupInv;refine .tup cs _ (by simp [hs]) fun i hi=>?_
  have hi':i<l.length:=by simpa using hi
  have:=frzFE_rel hok hrow d _ _ (hr i hi');simpa [List.getD_eq_getElem?_getD,hi'] using this
 | _=>simp only [frzF]; exact frzFE_rel hok hrow d v _ h
end
def newM (W W':World):Mem:=fun B i=>if W.heap.size<=B then memOf W' B i else none
def PureN (P:Program) (gl:Nat->AV) (f:FuncId) (args:List AV) (v:AV):Prop :=
 ∀ M W vals,GlobOK M gl->MemOK M W->ArgsP M vals args->FnOK P f/\Calls P f vals W fun e W' =>
  ∃ u,e=.returned u/\RelP (newM W W') u v/\Keep (fun _=>True) W W'
abbrev retN (d:Nat) (v:AV):AV->T Blk->Nat->VT:=fun x hp _=>.need (gensX (fun b=>hp.get .dead b) x) (.leaf ((frzG d (fun b=>hp.get .dead b) x).sub v))
theorem PureN.of_vc {E:Env} {f:FuncId} {k d:Nat} {args:List AV} {v:AV} (hm:E.P.follows .mixedOrders=true) (hctr:CtrOK E) (hs:(vcFun E k f args .nil 0 (retN d v)).sat):PureN E.P E.gl f args v:=by
 intro M W vals hG hM hargs;have hS:SRel ⟨fun _=>True,M,false,false⟩ W 0 (fun _ _=>none) M (fun _=>.undef) (fun b=>(T.nil:T Blk).get .dead b) 0 { tmps:=#[],defers:=[] } W:=SRel.empty hM
 obtain ⟨hfn,hc⟩:=vcFun_sound hm hctr k hs _ W 0 _ M _ _ W vals hG hS (fun r hr=>by cases hr) ⟨hargs.1,fun i hi=>.pure (hargs.2 i hi)⟩
 refine ⟨hfn,hc.mono fun e W' ⟨u,x,ρ',M',hp',nx',h1,h2,h3,h4,h5,hpt,h6,h7⟩=>?_⟩
 have h6':(fun b=>hpt.get .dead b)=hp':=funext h6
 obtain ⟨hgn,h7⟩:=NB.inv (show NB (gensX (fun b=>hpt.get .dead b) x) ((frzG d (fun b=>hpt.get .dead b) x).sub v) from h7)
 rw [h6'] at hgn h7;rw [frzG_eq hgn] at h7;refine ⟨u,h1,?_,h5.keep⟩;refine RelP.sub (frzF_rel h5.hok (fun b g sz pu s L hb hL hv i c hc hc1=>?_) d u x h4) v h7
 have:=h5.own b g sz pu s L hb hL hv trivial;show (if W.heap.size<=L.B then memOf W' L.B i else none)=some c
 rw [if_pos this];exact memOf_mk hc hc1
theorem PureN.args {P:Program} {gl:Nat->AV} {f:FuncId} {args args':List AV} {v:AV} (hl:args.length=args'.length) (h:∀ i,i<args.length->(args.getD i .undef).sub (args'.getD i .undef)) (hc:PureN P gl f args' v):PureN P gl f args v :=
 fun M W vals hG hM hA=>hc M W vals hG hM ⟨hA.1.trans hl,fun i hi=>(hA.2 i (by omega)).sub _ (h i (by omega))⟩
mutual
def AV.eqB:AV->AV->Bool
 | .int k n,.int k' m=>decide (k=k')&&n==m
 | .bool a,.bool b=>a==b
 | .str s,.str t=>s==t
 | .nils,.nils=>true
 | .nilp,.nilp=>true
 | .nilf,.nilf=>true
 | .nilm,.nilm=>true
 | .rol l e,.rol m e'=>e==e'&&AV.eqBL l m
 | .agg l,.agg m=>AV.eqBL l m
 | .tup l,.tup m=>AV.eqBL l m
 | _,_=>false
def AV.eqBL:List AV->List AV->Bool
 | [],[]=>true
 | x::l,y::m=>AV.eqB x y&&AV.eqBL l m
 | _,_=>false
end
mutual
theorem AV.eqB_eq:∀ (x y:AV),AV.eqB x y=true->x=y
 | .int k n,y,h=>by
  cases y <;> simp only [AV.eqB,reduceCtorEq,Bool.false_eq_true,Bool.and_eq_true,decide_eq_true_eq,beq_iff_eq] at h
  rw [h.1,h.2]
 | .bool a,y,h=>by
  cases y <;> simp only [AV.eqB,reduceCtorEq,Bool.false_eq_true,beq_iff_eq] at h
  rw [h]
 | .str s,y,h=>by
  cases y <;> simp only [AV.eqB,reduceCtorEq,Bool.false_eq_true,beq_iff_eq] at h
  rw [h]
 | .nils,y,h=>by cases y <;> first|rfl|(simp [AV.eqB] at h; done)
 | .nilp,y,h=>by cases y <;> first|rfl|(simp [AV.eqB] at h; done)
 | .nilf,y,h=>by cases y <;> first|rfl|(simp [AV.eqB] at h; done)
 | .nilm,y,h=>by cases y <;> first|rfl|(simp [AV.eqB] at h; done)
 | .rol l e,y,h=>by
  cases y <;> simp only [AV.eqB,reduceCtorEq,Bool.false_eq_true,Bool.and_eq_true,beq_iff_eq] at h
  rw [h.1,AV.eqBL_eq l _ h.2]
 | .agg l,y,h=>by
  cases y <;> simp only [AV.eqB,reduceCtorEq,Bool.false_eq_true] at h
  rw [AV.eqBL_eq l _ h]
 | .tup l,y,h=>by
  cases y <;> simp only [AV.eqB,reduceCtorEq,Bool.false_eq_true] at h
  rw [AV.eqBL_eq l _ h]
 | .undef,y,h=>by simp [AV.eqB] at h
 | .ptr ..,y,h=>by simp [AV.eqB] at h
 | .rptr ..,y,h=>by simp [AV.eqB] at h
 | .sl ..,y,h=>by simp [AV.eqB] at h
 | .rof ..,y,h=>by simp [AV.eqB] at h
 | .fn ..,y,h=>by simp [AV.eqB] at h
 | .map _,y,h=>by simp [AV.eqB] at h
 | .yld _,y,h=>by simp [AV.eqB] at h
 | .sla ..,y,h=>by simp [AV.eqB] at h
 | .opt ..,y,h=>by simp [AV.eqB] at h
theorem AV.eqBL_eq:∀ (l m:List AV),AV.eqBL l m=true->l=m
 | [],m,h=>by cases m <;> first|rfl|(simp [AV.eqBL] at h; done)
 | x::l,m,h=>by
  cases m with
  | nil=>simp [AV.eqBL] at h
  | cons y m =>
   simp only [AV.eqBL,Bool.and_eq_true] at h;rw [AV.eqB_eq x y h.1,AV.eqBL_eq l m h.2]
end
def retEq (d:Nat) (v:AV):AV->T Blk->Nat->VT:=fun x hp _=>.need (gensX (fun b=>hp.get .dead b) x) (.leafB (AV.eqB (frzX d (fun b=>hp.get .dead b) x) v))
theorem PureC.of_run {E:Env} {f:FuncId} {k d:Nat} {args:List AV} {v:AV} (hm:E.P.follows .mixedOrders=true) (hctr:CtrOK E)
  (hs:(vcFun E k f args .nil 0 (retEq d v)).chk=true):PureC E.P E.gl f args v:=by
 intro M W vals hG hM hargs;have hS:SRel ⟨fun _=>True,M,false,false⟩ W 0 (fun _ _=>none) M (fun _=>.undef) (fun b=>(T.nil:T Blk).get .dead b) 0 { tmps:=#[],defers:=[] } W:=SRel.empty hM
 obtain ⟨hfn,hc⟩:=vcFun_sound hm hctr k (VT.sat_of_chk _ hs) _ W 0 _ M _ _ W vals hG hS (fun r hr=>by cases hr) ⟨hargs.1,fun i hi=>.pure (hargs.2 i hi)⟩
 refine ⟨hfn,hc.mono fun e W' ⟨u,x,ρ',M',hp',nx',h1,h2,h3,h4,h5,hpt,h6,h7⟩=>?_⟩
 have h6':(fun b=>hpt.get .dead b)=hp':=funext h6
 unfold retEq at h7;rw [h6'] at h7;obtain ⟨hgn,h7⟩:=NB.inv h7;rw [frzX_eq hgn] at h7;have h7:=AV.eqB_eq _ _ h7;refine ⟨u,fun B i=>if W.heap.size<=B then memOf W' B i else M B i,h1,?_,?_,?_,?_,h5.keep⟩
 ·have hext:MExt M' (fun B i=>if W.heap.size<=B then memOf W' B i else M B i):=fun B i v hv=>by
   show (if W.heap.size<=B then memOf W' B i else M B i)=some v
   split
   ·exact memOf_mk (h5.hok.mem B i v hv).1 (h5.hok.mem B i v hv).2
   ·rcases h5.memN B i v hv with h8|h8|h8
    ·exact h8
    ·exact absurd h8 ‹_›
    ·exact absurd trivial h8
  rw [<- h7];refine frz_rel h5.hok hext (fun b g sz pu s L hb hL hv i c hc hc1=>?_) d u x h4
  have:=h5.own b g sz pu s L hb hL hv trivial;show (if W.heap.size<=L.B then memOf W' L.B i else M L.B i)=some c
  rw [if_pos this];exact memOf_mk hc hc1
 ·intro B i v hv;show (if W.heap.size<=B then memOf W' B i else M B i)=some v
  have:=World.block_lt_of_cell? W ⟨B,i,none⟩ (hM B i v hv).1;rw [if_neg (by simp at this; omega)]
  exact hv
 ·intro B i v hv;simp only [] at hv;split at hv
  ·exact memOf_some hv
  ·refine ⟨?_,(hM B i v hv).2⟩;rw [cell_congr (h5.keep.block B trivial (by omega))]
   exact (hM B i v hv).1
 ·intro B i v hv;simp only [] at hv;split at hv
  ·exact .inr ‹_›
  ·exact .inl hv
def litCtr:List (List AV×AV)->Ctr
 | [],_=>none
 | c::r,args=>match AV.eqBL args c.1 with|true=>some (true,c.2)|false=>litCtr r args
theorem litCtr_nil (P:Program) (gl:Nat->AV) (f:FuncId):PureG P gl f (litCtr []):=fun _ _ _ h _=>by cases h
theorem litCtr_cons {P:Program} {gl:Nat->AV} {f:FuncId} {args:List AV} {v:AV} {r:List (List AV×AV)} (h:PureC P gl f args v) (hr:PureG P gl f (litCtr r)):PureG P gl f (litCtr ((args,v)::r)):=by
 intro as nd u e hnd;simp only [litCtr] at e;split at e
 ·rename_i he;cases e;rw [AV.eqBL_eq _ _ he];exact h
 ·exact hr as nd u e hnd
def clT (P:Program) (gl:Nat->AV) (t:Tbl):Env:={ P:=P,gl:=gl,ctr:=ctrOf t,inv:=fun _ _=>none,fuelL:=1000,cl:=true }
theorem pure_runT {P:Program} {gl:Nat->AV} {t:Tbl} {f:FuncId} {k d:Nat} {args:List AV} {v:AV} (hm:P.follows .mixedOrders=true) (ht:TblOK P gl t) (h:(vcFun (clT P gl t) k f args .nil 0 (retEq d v)).chk=true):PureC P gl f args v :=
 PureC.of_run (E:=clT P gl t) hm (ctrOf_ok ht rfl) h
def tblL:List (Nat×List AV×AV)->Tbl
 | [],_,_=>none
 | (g,as,v)::r,f,args=>match f==g with
  | true=>(match AV.eqBL args as with|true=>some (true,v)|false=>tblL r f args)
  | false=>tblL r f args
theorem tblL_nil (P:Program) (gl:Nat->AV):TblOK P gl (tblL []):=fun _ _ _ _ h=>by cases h
theorem tblL_cons {P:Program} {gl:Nat->AV} {g:Nat} {as:List AV} {v:AV} {r:List (Nat×List AV×AV)} (h:PureC P gl g as v) (hr:TblOK P gl (tblL r)):TblOK P gl (tblL ((g,as,v)::r)):=by
 intro f args nd u e hnd;simp only [tblL] at e;split at e
 ·rename_i hf;rw [beq_iff_eq] at hf;subst hf;split at e
  ·rename_i he;cases e;rw [AV.eqBL_eq _ _ he];exact h
  ·exact hr f args nd u e hnd
 ·exact hr f args nd u e hnd
def retI (it:Itr):AV->T Blk->Nat->VT:=fun x hp _ =>
 match hp.get .dead 0 with
 | .loop (.abs k on _) _=>match on with
  | true=>.leaf (x.sub it.v1/\k=it.len)
  | false=>.leaf (x.sub it.v2)
 | _ => .fail 71 ""
def AbsS.of (P:Program) (it:Itr) (l n0:Nat) (M0:Nat->Nat->Option Value) (Φ Ψ:Nat->(Nat->Prop)->(Nat->Prop)->World->Prop):AbsS:=⟨P,l,it.len,it.el,n0,M0,Φ,Ψ⟩
theorem getD_three {α:Type} (fs cs:Array α) (x d:α) (i:Nat):(fs++#[x]++cs).getD i d=if i<fs.size then fs.getD i d else if i=fs.size then x else cs.getD (i - fs.size - 1) d:=by
 simp only [Array.getD_eq_getD_getElem?,Array.getElem?_append];split
 ·rename_i h;simp only [Array.size_append,List.size_toArray,List.length_cons,List.length_nil] at h;split
  ·rfl
  ·rw [if_pos (by omega)]
   have:i - fs.size=0:=by omega
   simp [this]
 ·rename_i h;simp only [Array.size_append,List.size_toArray,List.length_cons,List.length_nil] at h;rw [if_neg (by omega),if_neg (by omega)]
  simp [show i - (fs.size+1)=i - fs.size - 1 by omega]
theorem getDL_three {α:Type} (fs cs:List α) (x d:α) (i:Nat):(fs++x::cs).getD i d=if i<fs.length then fs.getD i d else if i=fs.length then x else cs.getD (i - fs.length - 1) d:=by
 simp only [List.getD_eq_getElem?_getD,List.getElem?_append];split
 ·rfl
 ·split
  ·rename_i h; subst h; simp
  ·rename_i h1 h2;obtain ⟨j,hj⟩:∃ j,i - fs.length=j+1:=⟨i - fs.length - 1,by omega⟩
   rw [hj];simp
theorem IterC.of_vc {E:Env} {h:FuncId} {n:Nat} {first cap:List AV} {it:Itr} (hm:E.P.follows .mixedOrders=true) (hctr:CtrOK E) (hv1:it.v1.flat=true) (hv2:it.v2.flat=true) (hp1:it.v1.isPure=true) (hp2:it.v2.isPure=true)
  (hs:∀ l n0 M0 Φ Ψ,(vcFun E n h (first++.yld 0::cap) (.node (.loop (.abs 0 true (AbsS.of E.P it l n0 M0 Φ Ψ)) noRec) .nil .nil) 1 (retI it)).sat):IterC E.P E.gl h first cap it:=by
 intro M W fs cs sp k C T0 hG hM hfs hcs hst hlaw hP hn0 hC hCl hlp hMC hMn hT hΦ hlen hel
 let sp2:AbsS:=AbsS.of E.P it sp.l W.heap.size M (fun j=>sp.Φ (k+j)) (fun j=>sp.Ψ (k+j))
 let hp0:T Blk:=.node (.loop (.abs 0 true sp2) noRec) .nil .nil
 have hget:∀ b,hp0.get .dead b=if b=0 then .loop (.abs 0 true sp2) noRec else .dead:=by
  intro b;show (T.node (Blk.loop (.abs 0 true sp2) noRec) .nil .nil).get .dead b=_;simp only [T.get];split
  ·rfl
  ·split <;> rfl
 let L:Loc:=⟨sp.l,0,0,0,0,false,none⟩
 let ρ0:Rho:=fun b g=>if b=0/\g=0 then some L else none
 have hρ0:ρ0 0 0=some L:=rfl;have hst2:sp2.Stable:=fun j C T w w' hk=>hst (k+j) C T w w' ⟨hk.os,hk.tape,hk.output,hk.size,fun B hB hlt=>hk.block B (by
  rcases hB with h1|h1|h1
  ·exact .inl h1
  ·exact .inr (.inl h1)
  ·exact .inr (.inr (Nat.lt_of_lt_of_le h1 hn0))) hlt⟩
 have hlaw2:sp2.Law:=by
  intro j C1 T1 W1 M1 vals hj hΦ1 hM1 hMC1 hMn1 hT1 hC1 hn1 ha
  have:=hlaw (k+j) C1 T1 W1 M1 vals (Nat.lt_of_lt_of_le (Nat.add_lt_add_left hj k) hlen) hΦ1 hM1 hMC1 (fun B i v hv hlt=>hMn B i v (hMn1 B i v hv (Nat.lt_of_lt_of_le hlt hn0)) hlt) hT1 hC1 (Nat.le_trans hn0 hn1) (hel j M1 vals hj ha)
  rw [hP] at this;exact this
 have hS:SRel ⟨fun B=>¬ C B,M,false,false⟩ W 0 ρ0 M (fun _=>.undef) (fun b=>hp0.get .dead b) 1 { tmps:=#[],defers:=[] } W:=by
  have nrow:∀ b g sz pu s,hp0.get .dead b≠.row g sz pu s:=by
   intro b g sz pu s e;rw [hget] at e;split at e <;> cases e
  have nloop:∀ b st r,hp0.get .dead b=.loop st r->b=0/\st=.abs 0 true sp2/\r=noRec:=by
   intro b st r e;rw [hget] at e;split at e
   ·cases e; exact ⟨‹_›,rfl,rfl⟩
   ·cases e
  refine ⟨rfl,fun t=>.undef _,⟨hM,fun b g sz pu s h=>absurd h (nrow _ _ _ _ _),fun b b' g g' sz sz' pu pu' s s' L L' h=>absurd h (nrow _ _ _ _ _),fun b g sz pu s h=>absurd h (nrow _ _ _ _ _),fun b st r h=>?_,fun b b' st st' r r' L L' h h' _ _ _=>by rw [(nloop _ _ _ h).1,(nloop _ _ _ h').1]⟩,
   fun b hb=>?_,fun b g hb=>?_,Keep.refl _ W,fun B i v h=>.inl h,MExt.refl M,fun b g sz pu s L h=>absurd h (nrow _ _ _ _ _),
   Nat.zero_le _,fun b st r L' h hL hU=>?_,rfl,⟨List.nodup_nil,fun r hr=>(by cases hr)⟩,fun e=>(by cases e),fun e=>(by cases e),fun b k' on sp' r h=>?_,fun b d h=>?_⟩
  case refine_6 =>
   have h':hp0.get .dead b=.fam d:=h;rw [hget] at h';split at h' <;> cases h'
  ·obtain ⟨rfl,rfl,rfl⟩:=nloop _ _ _ h;obtain ⟨lp,hlp⟩:=hlp;exact .inr (.inr ⟨L,0,true,sp2,lp,rfl,hρ0,rfl,rfl,hlp⟩)
  ·rw [hget,if_neg (by omega)]
  ·show (if b=0/\g=0 then some L else none)=none
   rw [if_neg (by omega)]
  ·obtain ⟨rfl,rfl,rfl⟩:=nloop _ _ _ h;rw [hρ0] at hL;cases hL;exact absurd hCl hU
  ·obtain ⟨rfl,e,rfl⟩:=nloop _ _ _ h;cases e
   refine ⟨C,T0,hst2,hlaw2,Nat.le_refl _,hC,hΦ,fun b' g sz pu s L h=>absurd h (nrow _ _ _ _ _),fun b' st r L' hne h=>absurd (nloop _ _ _ h).1 hne,fun b' k' on' sp' r' h=>(nloop _ _ _ h).1,hCl,hMC,fun B i v hv _=>hv,hT,fun r hr=>(by cases hr),fun B hB hU=>absurd hB hU⟩
 have hargs:ArgsRel ρ0 M (fs++#[.func (.yield sp.l) #[] #[]]++cs) (first++.yld 0::cap):=by
  refine ⟨by simp [hfs.1,hcs.1]; omega,fun i hi=>?_⟩
  rw [getD_three,getDL_three,hfs.1];split
  ·exact .pure (hfs.2 i ‹_›)
  ·split
   ·exact .yld L 0 hρ0
   ·refine .pure (hcs.2 _ ?_);simp at hi;omega
 obtain ⟨hfn,hc⟩:=vcFun_sound hm hctr n (hs sp.l W.heap.size M (fun j=>sp.Φ (k+j)) (fun j=>sp.Ψ (k+j))) _ W 0 ρ0 M _ _ W _ hG hS (fun r hr=>by cases hr) hargs
 refine ⟨hfn,hc.mono fun e W' ⟨u,x,ρ',M',hp',nx',h1,h2,h3,h4,h5,hpt,h6,h7⟩=>?_⟩
 unfold retI at h7;rw [h6 0] at h7;split at h7
 ·rename_i k' on sp' r' hb;obtain ⟨k0,on0,r0,e0⟩:=h2.abs 0 k' on sp' r' hb;have esp:sp'=sp2:=by
   rw [hget,if_pos rfl] at e0;cases e0;rfl
  subst esp;obtain ⟨C',T',hA⟩:=h5.ext.1 0 k' on sp2 r' hb;refine ⟨C',T',u,M',h1,h3,h5.hok.mem,fun B i v hv=>?_,fun B hB=>?_,hA.tm,hA.me,hA.lt,?_,h5.keep,?_⟩
  ·rcases Nat.lt_or_ge B W.heap.size with h8|h8
   ·exact .inl (hA.memB B i v hv h8)
   ·exact .inr ⟨h8,hA.mem B i v hv⟩
  ·by_cases hc:C B
   ·exact .inl hc
   ·exact .inr (hA.own B hB hc)
  ·obtain ⟨L',_,_,_,lp,e0,e1,e2,e3,e4⟩:=(h5.hok.loop 0 _ r' hb).absOK;cases e0;rw [e3] at e4;exact ⟨lp,e4⟩
  ·cases on
   ·have hΨ:=hA.now;exact .inr ⟨((h4.sub _ h7).isPure hp2).flat hv2,_,hΨ⟩
   ·obtain ⟨h7,h8⟩:=h7;have hΦ':=hA.now;rw [h8] at hΦ';exact .inl ⟨((h4.sub _ h7).isPure hp1).flat hv1,hΦ'⟩
 ·exact h7.elim
theorem IterY.of_vc {E:Env} {h:FuncId} {l n:Nat} {args:List AV} {it:Itr} (hm:E.P.follows .mixedOrders=true) (hctr:CtrOK E) (hv1:it.v1.flat=true) (hv2:it.v2.flat=true) (hp1:it.v1.isPure=true) (hp2:it.v2.isPure=true)
  (hs:∀ n0 M0 Φ Ψ,(vcFun E n h args (.node (.loop (.abs 0 true (AbsS.of E.P it l n0 M0 Φ Ψ)) noRec) .nil .nil) 1 (retI it)).sat):IterY E.P E.gl h l args it:=by
 rintro M W vals sp k C T0 rfl hG hM hargs0 hst hlaw hP hn0 hC hCl hlp hMC hMn hT hΦ hlen hel
 let sp2:AbsS:=AbsS.of E.P it sp.l W.heap.size M (fun j=>sp.Φ (k+j)) (fun j=>sp.Ψ (k+j))
 let hp0:T Blk:=.node (.loop (.abs 0 true sp2) noRec) .nil .nil
 have hget:∀ b,hp0.get .dead b=if b=0 then .loop (.abs 0 true sp2) noRec else .dead:=by
  intro b;show (T.node (Blk.loop (.abs 0 true sp2) noRec) .nil .nil).get .dead b=_;simp only [T.get];split
  ·rfl
  ·split <;> rfl
 let L:Loc:=⟨sp.l,0,0,0,0,false,none⟩
 let ρ0:Rho:=fun b g=>if b=0/\g=0 then some L else none
 have hρ0:ρ0 0 0=some L:=rfl;have hst2:sp2.Stable:=fun j C T w w' hk=>hst (k+j) C T w w' ⟨hk.os,hk.tape,hk.output,hk.size,fun B hB hlt=>hk.block B (by
  rcases hB with h1|h1|h1
  ·exact .inl h1
  ·exact .inr (.inl h1)
  ·exact .inr (.inr (Nat.lt_of_lt_of_le h1 hn0))) hlt⟩
 have hlaw2:sp2.Law:=by
  intro j C1 T1 W1 M1 vals hj hΦ1 hM1 hMC1 hMn1 hT1 hC1 hn1 ha
  have:=hlaw (k+j) C1 T1 W1 M1 vals (Nat.lt_of_lt_of_le (Nat.add_lt_add_left hj k) hlen) hΦ1 hM1 hMC1 (fun B i v hv hlt=>hMn B i v (hMn1 B i v hv (Nat.lt_of_lt_of_le hlt hn0)) hlt) hT1 hC1 (Nat.le_trans hn0 hn1) (hel j M1 vals hj ha)
  rw [hP] at this;exact this
 have hS:SRel ⟨fun B=>¬ C B,M,false,false⟩ W 0 ρ0 M (fun _=>.undef) (fun b=>hp0.get .dead b) 1 { tmps:=#[],defers:=[] } W:=by
  have nrow:∀ b g sz pu s,hp0.get .dead b≠.row g sz pu s:=by
   intro b g sz pu s e;rw [hget] at e;split at e <;> cases e
  have nloop:∀ b st r,hp0.get .dead b=.loop st r->b=0/\st=.abs 0 true sp2/\r=noRec:=by
   intro b st r e;rw [hget] at e;split at e
   ·cases e; exact ⟨‹_›,rfl,rfl⟩
   ·cases e
  refine ⟨rfl,fun t=>.undef _,⟨hM,fun b g sz pu s h=>absurd h (nrow _ _ _ _ _),fun b b' g g' sz sz' pu pu' s s' L L' h=>absurd h (nrow _ _ _ _ _),fun b g sz pu s h=>absurd h (nrow _ _ _ _ _),fun b st r h=>?_,fun b b' st st' r r' L L' h h' _ _ _=>by rw [(nloop _ _ _ h).1,(nloop _ _ _ h').1]⟩,
   fun b hb=>?_,fun b g hb=>?_,Keep.refl _ W,fun B i v h=>.inl h,MExt.refl M,fun b g sz pu s L h=>absurd h (nrow _ _ _ _ _),
   Nat.zero_le _,fun b st r L' h hL hU=>?_,rfl,⟨List.nodup_nil,fun r hr=>(by cases hr)⟩,fun e=>(by cases e),fun e=>(by cases e),fun b k' on sp' r h=>?_,fun b d h=>?_⟩
  case refine_6 =>
   have h':hp0.get .dead b=.fam d:=h;rw [hget] at h';split at h' <;> cases h'
  ·obtain ⟨rfl,rfl,rfl⟩:=nloop _ _ _ h;obtain ⟨lp,hlp⟩:=hlp;exact .inr (.inr ⟨L,0,true,sp2,lp,rfl,hρ0,rfl,rfl,hlp⟩)
  ·rw [hget,if_neg (by omega)]
  ·show (if b=0/\g=0 then some L else none)=none
   rw [if_neg (by omega)]
  ·obtain ⟨rfl,rfl,rfl⟩:=nloop _ _ _ h;rw [hρ0] at hL;cases hL;exact absurd hCl hU
  ·obtain ⟨rfl,e,rfl⟩:=nloop _ _ _ h;cases e
   refine ⟨C,T0,hst2,hlaw2,Nat.le_refl _,hC,hΦ,fun b' g sz pu s L h=>absurd h (nrow _ _ _ _ _),fun b' st r L' hne h=>absurd (nloop _ _ _ h).1 hne,fun b' k' on' sp' r' h=>(nloop _ _ _ h).1,hCl,hMC,fun B i v hv _=>hv,hT,fun r hr=>(by cases hr),fun B hB hU=>absurd hB hU⟩
 have hargs:ArgsRel ρ0 M vals args:=⟨hargs0.1,fun i hi=>.pure (hargs0.2 i hi)⟩
 obtain ⟨hfn,hc⟩:=vcFun_sound hm hctr n (hs W.heap.size M (fun j=>sp.Φ (k+j)) (fun j=>sp.Ψ (k+j))) _ W 0 ρ0 M _ _ W _ hG hS (fun r hr=>by cases hr) hargs
 refine ⟨hfn,hc.mono fun e W' ⟨u,x,ρ',M',hp',nx',h1,h2,h3,h4,h5,hpt,h6,h7⟩=>?_⟩
 unfold retI at h7;rw [h6 0] at h7;split at h7
 ·rename_i k' on sp' r' hb;obtain ⟨k0,on0,r0,e0⟩:=h2.abs 0 k' on sp' r' hb;have esp:sp'=sp2:=by
   rw [hget,if_pos rfl] at e0;cases e0;rfl
  subst esp;obtain ⟨C',T',hA⟩:=h5.ext.1 0 k' on sp2 r' hb;refine ⟨C',T',u,M',h1,h3,h5.hok.mem,fun B i v hv=>?_,fun B hB=>?_,hA.tm,hA.me,hA.lt,?_,h5.keep,?_⟩
  ·rcases Nat.lt_or_ge B W.heap.size with h8|h8
   ·exact .inl (hA.memB B i v hv h8)
   ·exact .inr ⟨h8,hA.mem B i v hv⟩
  ·by_cases hc:C B
   ·exact .inl hc
   ·exact .inr (hA.own B hB hc)
  ·obtain ⟨L',_,_,_,lp,e0,e1,e2,e3,e4⟩:=(h5.hok.loop 0 _ r' hb).absOK;cases e0;rw [e3] at e4;exact ⟨lp,e4⟩
  ·cases on
   ·have hΨ:=hA.now;exact .inr ⟨((h4.sub _ h7).isPure hp2).flat hv2,_,hΨ⟩
   ·obtain ⟨h7,h8⟩:=h7;have hΦ':=hA.now;rw [h8] at hΦ';exact .inl ⟨((h4.sub _ h7).isPure hp1).flat hv1,hΦ'⟩
 ·exact h7.elim
def CellAt (M:Mem) (W:World) (B o csz:Nat) (x:AV):Prop :=
 ∃ c e,W.heap[B]?=some (.cells c e (0,0))/\c.size=csz/\o+x.cells.length<=csz/\(∀ i,M B i=none)/\∀ j,j<x.cells.length->∃ v,c[o+j]?=some v/\v.oneCell'=true/\RelP M v (x.cells.getD j .undef)
def StOK (P:Program) (gl:Nat->AV) (f:FuncId) (extra:List AV) (x v y:AV):Prop :=
 ∀ (M:Mem) (W:World) (vals:Array Value) (B o csz:Nat),GlobOK M gl->MemOK M W->ArgsP M vals extra->CellAt M W B o csz x->1<=x.cells.length ->
  FnOK P f/\Calls P f (#[.pointer (some ⟨B,o,none⟩)]++vals) W fun e W'=>∃ u M',e=.returned u/\RelP M' u v/\MExt M M'/\MemOK M' W'/\(∀ B' i q,M' B' i=some q->M B' i=some q\/W.heap.size<=B')/\Keep (fun B'=>B'≠B) W W'/\CellAt M' W' B o csz y/\y.cells.length=x.cells.length
def no0 (hp:Nat->Blk):Nat->Blk
 | 0=>.dead
 | n+1=>match hp (n+1) with
  | .row g sz pu s=>.row g sz pu s
  | _=>.dead
def rowIsS (d:Nat) (y:AV) (hp:Nat->Blk):Prop:=match hp 0 with
 | .row 0 _ _ (.lst [z])=>(frzE d (no0 hp) z).sub y/\z.cells.length=y.cells.length
 | _=>False
abbrev retS (d:Nat) (v y:AV):AV->T Blk->Nat->VT:=fun r hp _=>.need (gensX (no0 fun b=>hp.get .dead b) r) (.and ((frzX d (no0 fun b=>hp.get .dead b) r).sub v) (.leaf (rowIsS d y fun b=>hp.get .dead b)))
theorem StOK.of_vc {E:Env} {f:FuncId} {k d:Nat} {extra:List AV} {x v y:AV} (hm:E.P.follows .mixedOrders=true) (hctr:CtrOK E) (hpu:(x.cells.all AV.isCell&&x.isPure)=true)
  (hs:(vcFun E k f (.ptr 0 0 0 0::extra) ((T.nil:T Blk).set .dead 0 (.row 0 x.cells.length true (.lst [x]))) 1 (retS d v y)).sat):StOK E.P E.gl f extra x v y:=by
 intro M W vals B o csz hG hM hA hcell h1;obtain ⟨c,e,hc1,hc2,hc3,hc4,hc5⟩:=hcell;simp only [Bool.and_eq_true] at hpu;obtain ⟨L,hL⟩:∃ L:Loc,L=⟨B,o,csz,x.cells.length,1,false,none⟩:=⟨_,rfl⟩
 obtain ⟨ρ,hρ⟩:∃ ρ:Rho,ρ=updR (fun _ _=>none) 0 0 L:=⟨_,rfl⟩
 have hρ0:ρ 0 0=some L:=by rw [hρ]; exact updR_same _ _ _ _
 have hρn:∀ b g L',ρ b g=some L'->b=0/\g=0:=fun b g L' h=>by
  rw [hρ] at h;by_cases hh:b=0/\g=0
  ·exact hh
  ·rw [updR_ne _ _ _ _ hh] at h; cases h
 have hget:∀ b,((T.nil:T Blk).set .dead 0 (.row 0 x.cells.length true (.lst [x]))).get .dead b=if b=0 then .row 0 x.cells.length true (.lst [x]) else .dead:=fun b=>by
  rw [T.set_get]; rfl
 have hrow:∀ b g sz pu s,((T.nil:T Blk).set .dead 0 (.row 0 x.cells.length true (.lst [x]))).get .dead b=.row g sz pu s->b=0/\g=0/\sz=x.cells.length/\pu=true/\s=.lst [x]:=fun b g sz pu s h=>by
  rw [hget b] at h;split at h
  ·cases h; exact ⟨‹_›,rfl,rfl,rfl,rfl⟩
  ·cases h
 have hnl:∀ b st r,((T.nil:T Blk).set .dead 0 (.row 0 x.cells.length true (.lst [x]))).get .dead b≠.loop st r:=fun b st r h=>by
  rw [hget b] at h;split at h <;> cases h
 have hS:SRel ⟨fun B'=>B'≠B,M,false,false⟩ W 0 ρ M (fun _=>.undef) (fun b=>((T.nil:T Blk).set .dead 0 (.row 0 x.cells.length true (.lst [x]))).get .dead b) 1 { tmps:=#[],defers:=[] } W:=by
  refine ⟨rfl,fun t=>.undef _,⟨hM,fun b g sz pu s h=>?_,fun b b' g g' sz sz' pu pu' s s' L1 L2 e1 e2 _ _ _ _ _=>?_,fun b g sz pu s h g' hg=>?_,fun b st r h=>absurd h (hnl b st r),fun b _ st _ r _ _ _ h=>absurd h (hnl b st r)⟩,fun b hb=>?_,fun b g hb=>?_,Keep.refl _ W,fun B i v h=>.inl h,MExt.refl M,fun b g sz pu s L' h1 h2 h3 h4=>?_,
   Nat.zero_le _,fun b st r L h=>absurd h (hnl b st r),rfl,⟨List.nodup_nil,fun r hr=>(by cases hr)⟩,fun e=>(by cases e),fun e=>(by cases e),fun b k on sp r h=>absurd h (hnl b _ r),fun b d h=>(by have h':((T.nil:T Blk).set .dead 0 (.row 0 x.cells.length true (.lst [x]))).get .dead b=.fam d:=h; rw [hget b] at h'; split at h' <;> cases h')⟩
  ·obtain ⟨rfl,rfl,rfl,rfl,rfl⟩:=hrow _ _ _ _ _ h;refine ⟨L,hρ0,by rw [hL],⟨h1,by rw [hL]; rfl⟩,.inr ⟨by rw [hL],c,e,by rw [hL]; exact hc1,by rw [hL]; exact hc2,by rw [hL]; simpa [Sq.len] using hc3,by rw [hL]; exact hc4,fun i hi=>?_⟩⟩
   have hi0:i=0:=by simp [Sq.len] at hi; exact hi
   subst hi0;refine ⟨rfl,fun j hj=>?_⟩
   obtain ⟨v,k1,k2,k3⟩:=hc5 j hj;refine ⟨v,?_,k2,.pure k3,fun _=>k3⟩
   rw [hL];simpa using k1
  ·rw [(hrow _ _ _ _ _ e1).1,(hrow _ _ _ _ _ e2).1]
  ·obtain ⟨rfl,rfl,_⟩:=hrow _ _ _ _ _ h;cases hq:ρ 0 g' with
   | none=>rfl
   | some L'=>have:=(hρn _ _ _ hq).2; omega
  ·rw [hget b,if_neg (by omega)]
  ·cases hq:ρ b g with
   | none=>rfl
   | some L'=>have:=(hρn _ _ _ hq).1; omega
  ·obtain ⟨rfl,rfl,_⟩:=hrow _ _ _ _ _ h1;rw [hρ0] at h2; cases h2;exact absurd (by rw [hL]) h4
 have hargs:ArgsRel ρ M (#[.pointer (some ⟨B,o,none⟩)]++vals) (.ptr 0 0 0 0::extra):=by
  have h0:ArgsRel ρ M #[.pointer (some ⟨B,o,none⟩)] [.ptr 0 0 0 0]:=⟨rfl,fun i hi=>by
   have:i=0:=by simp at hi; exact hi
   subst this;have:=Rel.ptr (ρ:=ρ) (M:=M) L 0 0 0 0 hρ0 (by rw [hL]; exact Nat.zero_lt_one)
   rw [hL] at this;simpa using this⟩
  have:=ArgsRel.app h0 (⟨hA.1,fun i hi=>.pure (hA.2 i hi)⟩:ArgsRel ρ M vals extra)
  simpa using this
 obtain ⟨hfn,hcl⟩:=vcFun_sound hm hctr k hs _ W 0 ρ M _ _ W _ hG hS (fun r hr=>by cases hr) hargs
 refine ⟨hfn,hcl.mono fun ee W' ⟨u,r,ρ',M',hp',nx',h2,h3,h4,h5,h6,hpt,h7,h8⟩=>?_⟩
 have h7':(fun b=>hpt.get .dead b)=hp':=funext h7
 obtain ⟨hgn,h8,h9⟩:=NB.inv h8;rw [h7'] at hgn h8 h9;rw [frzX_eq hgn] at h8;have hBlt:B<W.heap.size:=heap_lt hc1;have hext:MExt M' (fun B' i=>if W.heap.size<=B' then memOf W' B' i else M B' i):=fun B' i v hv=>by
  show (if W.heap.size<=B' then memOf W' B' i else M B' i)=some v
  split
  ·exact memOf_mk (h6.hok.mem B' i v hv).1 (h6.hok.mem B' i v hv).2
  ·rcases h6.memN B' i v hv with h10|h10|h10
   ·exact h10
   ·exact absurd h10 ‹_›
   ·have hB':B'=B:=Classical.not_not.1 h10;subst hB';have hr:=h3.rx.ext 0 0 L hρ0;unfold rowIsS at h9;split at h9
    ·rename_i sz pu z hrow0;obtain ⟨_,hno⟩:=h6.rowBlk hrow0 hr (by rw [hL])
     have:=hno i v;rw [hL] at this;exact absurd hv this
    ·exact h9.elim
 have hr0:=h3.rx.ext 0 0 L hρ0;unfold rowIsS at h9;split at h9
 case h_2=>exact h9.elim
 rename_i sz pu z hrow0;obtain ⟨hz,hzl⟩:=h9;have hn0:∀ b g sz pu s,no0 hp' b=.row g sz pu s->b≠0/\hp' b=.row g sz pu s:=by
  intro b g sz pu s e;cases b with
  | zero=>cases e
  | succ b =>
   simp only [no0] at e;split at e
   ·rename_i e2;cases e;exact ⟨by omega,e2⟩
   ·cases e
 have hok2:HOK ρ' M' (no0 hp') W':=h6.hok.only (fun b g sz pu s e=>(hn0 _ _ _ _ _ e).2) (fun b st r e=>by
  cases b with
  | zero=>cases e
  | succ b =>
   simp only [no0] at e;split at e <;> cases e)
 have hrow':∀ b g sz pu s L',no0 hp' b=.row g sz pu s->ρ' b g=some L'->L'.virt=false->∀ i v,W'.cell? ⟨L'.B,i,none⟩=some v->v.oneCell'=true->(if W.heap.size<=L'.B then memOf W' L'.B i else M L'.B i)=some v:=by
  intro b g sz' pu' s L' e1 e2 e3 i v e4 e5;obtain ⟨hne,e1'⟩:=hn0 _ _ _ _ _ e1;have hB:L'.B≠B:=fun hh=>hne (h6.hok.inj b 0 g 0 sz' sz pu' pu s (.lst [z]) L' L e1' hrow0 e2 hr0 e3 (by rw [hL]) (by rw [hh,hL]))
  have:=h6.own b g sz' pu' s L' e1' e2 e3 hB;rw [if_pos this];exact memOf_mk e4 e5
 obtain ⟨Lr,f1,f2,f3,f4⟩:=h6.hok.row 0 0 sz pu (.lst [z]) hrow0;rw [hr0] at f1; cases f1;have hLv:L.virt=false:=by rw [hL]
 rcases f4 with f4|⟨_,c',e',f5,f6,f7,f8,f9⟩
 ·rw [hLv] at f4; cases f4.1
 obtain ⟨f10,f11⟩:=f9 0 (by simp [Sq.len])
 have hzsz:z.cells.length=sz:=f10;have hszx:sz=x.cells.length:=by rw [<- f2,hL]
 refine ⟨u,fun B' i=>if W.heap.size<=B' then memOf W' B' i else M B' i,h2,(frz_rel hok2 hext hrow' d u r h5).sub v h8,?_,?_,?_,h6.keep,⟨c',e',?_,?_,?_,?_,?_⟩,?_⟩
 ·intro B' i v hv;show (if W.heap.size<=B' then memOf W' B' i else M B' i)=some v
  have:=World.block_lt_of_cell? W ⟨B',i,none⟩ (hM B' i v hv).1;rw [if_neg (by simp at this; omega)]
  exact hv
 ·intro B' i v hv;simp only [] at hv;split at hv
  ·exact memOf_some hv
  ·refine ⟨?_,(hM B' i v hv).2⟩;have hne:B'≠B:=fun hh=>by rw [hh,hc4 i] at hv; cases hv
   rw [cell_congr (h6.keep.block B' hne (by omega))]
   exact (hM B' i v hv).1
 ·intro B' i v hv;simp only [] at hv;split at hv
  ·exact .inr ‹_›
  ·exact .inl hv
 ·rw [hL] at f5; exact f5
 ·rw [hL] at f6; exact f6
 ·rw [hL] at f7;simp only [Sq.len,List.length_cons,List.length_nil,Nat.zero_add,Nat.one_mul] at f7;rw [<- hzl,hzsz]; exact f7
 ·intro i;show (if W.heap.size<=B then memOf W' B i else M B i)=none
  rw [if_neg (by omega)]
  exact hc4 i
 ·intro j hj;obtain ⟨v,k1,k2,k3,_⟩:=f11 j (by omega)
  have hlen:(frzE d (no0 hp') z).cells.length=y.cells.length:=by rw [frzE_cells,List.length_map,hzl]
  have hsub:=sub_cells hz hlen j (by omega)
  refine ⟨v,?_,k2,?_⟩
  ·rw [hL] at k1;simpa using k1
  ·have hzj:z.cells.getD j .undef=(Sq.get (.lst [z]) 0).cells.getD j .undef:=rfl;have h11:=frzC_rel hok2 hext hrow' d v _ k3;rw [<- hzj] at h11;have e1:(frzE d (no0 hp') z).cells.getD j .undef=frzC d (no0 hp') (z.cells.getD j .undef):=by
    rw [frzE_cells];have hjz:j<z.cells.length:=by omega
    simp [List.getD,hjz]
   rw [<- e1] at h11;exact h11.sub _ hsub
 ·rw [<- hzl,hzsz,hszx]
end Pw
