/- ENGINE, part GE: contracts of functions that turn the row of integers that they are given. -/
import Derived.Test.YtlnpgnipocbfhaaGreatDoorPwG5
namespace Pw
open Go
def IntRow (M:Mem) (W:World) (B o csz:Nat) (l:List Int):Prop :=
 ∃ c e,W.heap[B]?=some (.cells c e (0,0))/\c.size=csz/\o+l.length<=csz/\(∀ i,M B i=none)/\∀ j,j<l.length->c[o+j]?=some (.int .i64 (l.getD j 0))
def RowF (P:Program) (gl:Nat->AV) (f:FuncId) (extra:List AV) (l l':List Int):Prop :=
 l'.length=l.length/\∀ (M:Mem) (W:World) (vals:Array Value),GlobOK M gl->MemOK M W->ArgsP M vals extra->FnOK P f /\
  (l=[]->∀ p cap,Calls P f (#[.slice p 0 cap]++vals) W fun e W'=>e=.returned (.tuple #[])/\W'=W) /\
  (∀ B o csz cap,l≠[]->IntRow M W B o csz l->Calls P f (#[.slice (some ⟨B,o,none⟩) l.length cap]++vals) W fun e W'=>e=.returned (.tuple #[])/\MemOK M W'/\Keep (fun B'=>B'≠B) W W'/\IntRow M W' B o csz l')
def i64V:AV->Int
 | .int _ n=>n
 | _=>0
def i64B:AV->Bool
 | .int .i64 _=>true
 | _=>false
theorem i64B_eq {x:AV} (h:i64B x=true):x=.int .i64 (i64V x):=by
 cases x <;> simp only [i64B,Bool.false_eq_true] at h
 rename_i k n;cases k <;> first|rfl|(simp at h)
def pureFn:AV->Bool
 | .fn _ a b=>a.all AV.isPureCell&&b.all AV.isPureCell
 | x=>x.isPure
theorem Rel.pureFn {ρ:Rho} {M:Mem} {v:Value} {x:AV} (h:Rel ρ M v x) (hx:Pw.pureFn x=true):RelP M v x:=by
 cases h with
 | pure h=>exact h
 | fn f fs cs fl cl h1 h2 hr1 hr2 =>
  simp only [Pw.pureFn,Bool.and_eq_true] at hx;exact .fnc f fs cs fl cl h1 h2 (fun i hi=>(hr1 i hi).pureCell (all_getD hx.1 hi)) (fun i hi=>(hr2 i hi).pureCell (all_getD hx.2 hi))
 | ptr L b g i j h hi=>exact (Rel.ptr L b g i j h hi).isPure hx
 | sl L b g i len cap c h hv hl hc hb hcm hn=>exact (Rel.sl L b g i len cap c h hv hl hc hb hcm hn).isPure hx
 | slv L a b g i c h hc=>exact (Rel.slv L a b g i c h hc).isPure hx
 | yld L b h=>exact (Rel.yld L b h).isPure hx
 | map L b h=>exact (Rel.map L b h).isPure hx
 | fmap L b i h=>exact (Rel.fmap L b i h).isPure hx
 | gro b i n f h h0 hn=>exact (Rel.gro b i n f h h0 hn).isPure hx
 | sla L b g i j len h hi hj=>exact (Rel.sla L b g i j len h hi hj).isPure hx
 | agg cs l h hr=>exact (Rel.agg cs l h hr).isPure hx
 | tup cs l h hr=>exact (Rel.tup cs l h hr).isPure hx
abbrev TblR:=FuncId->List AV->List Int->Option (Bool×List Int)
def TblROK (P:Program) (gl:Nat->AV) (t:TblR):Prop:=∀ f extra l nd l',t f extra l=some (nd,l')->nd=true->RowF P gl f extra l l'
def rowOf (t:TblR) (f:FuncId) (args:List AV) (hp:Nat->Blk):Option Out :=
 match args with
 | .sl b g 0 n _::extra =>
  match hp b with
  | .row g' sz _ s =>
   match extra.all pureFn with
   | true=>(t f extra ((List.range s.len).map fun i=>i64V (s.get i))).map fun q=>.ret (q.1&&decide (g=g')&&decide (sz=1)&&decide (n=s.len)&&(List.range s.len).all fun i=>i64B (s.get i)) (.tup []) [(b,.row g' 1 true (.fn s.len fun i=>.int .i64 (q.2.getD i 0)))]
   | false=>none
  | _=>none
 | _=>none
theorem rowOf_ok {E:Env} {t:TblR} (ht:TblROK E.P E.gl t):∀ f args hp nx out,rowOf t f args hp=some out->∀ U w0 n ρ M tm a w vals,GlobOK U.M0 E.gl->SRel U w0 n ρ M tm hp nx a w->ArgsRel ρ M vals args->OutOK E.P f vals U w0 n ρ M tm hp nx a w out:=by
 intro f args hp nx out ho U w0 n ρ M tm a w vals hG hS hA;unfold rowOf at ho;split at ho
 case h_2=>cases ho
 rename_i b g len cc extra;split at ho
 case h_2=>cases ho
 rename_i g' sz pu s hb;split at ho
 case h_2=>cases ho
 rename_i hpe;obtain ⟨⟨nd,l'⟩,hq,rfl⟩:=Option.map_eq_some_iff.1 ho;intro hnd _;simp only [Bool.and_eq_true,decide_eq_true_eq] at hnd;obtain ⟨⟨⟨⟨hnd,rfl⟩,rfl⟩,rfl⟩,hints⟩:=hnd
 obtain ⟨l,hl⟩:∃ l,l=(List.range s.len).map (fun i=>i64V (s.get i)):=⟨_,rfl⟩
 rw [<- hl] at hq;have hll:l.length=s.len:=by rw [hl]; simp
 have hlg:∀ j,j<s.len->s.get j=.int .i64 (l.getD j 0):=fun j hj=>by
  have h1:=List.all_eq_true.1 hints j (by simpa using hj)
  have h2:l.getD j 0=i64V (s.get j):=by rw [hl]; simp [List.getD,hj]
  rw [h2];exact i64B_eq h1
 obtain ⟨hlen',hrow⟩:=ht f extra l nd l' hq hnd;have h0:=hA.2 0 (by simp)
 obtain ⟨L,hL,hcase⟩:=(show Rel ρ M (vals.getD 0 Go.undef) (.sl b g 0 s.len cc) from h0).slInv;obtain ⟨L',f1,f2,f3,f4⟩:=hS.hok.row b g 1 pu s hb;rw [hL] at f1; cases f1;have hsz:=hA.1;simp only [List.length_cons] at hsz
 have hvals:∀ v0,vals.getD 0 Go.undef=v0->vals=#[v0]++vals.extract 1 vals.size:=by
  intro v0 hv0;apply Array.ext_getElem?;intro j;simp only [Array.getElem?_append,List.size_toArray,List.length_cons,List.length_nil,Array.getElem?_extract];by_cases hj:j=0
  ·subst hj;have:vals[0]?=some v0:=by
    rw [Array.getD_eq_getD_getElem?,Array.getElem?_eq_getElem (by omega)] at hv0
    rw [Array.getElem?_eq_getElem (by omega)]
    simpa using hv0
   rw [this]; simp
  ·rw [if_neg (by omega)]
   by_cases h3:j<vals.size
   ·rw [if_pos (by omega)]; congr 1; omega
   ·rw [if_neg (by omega)]; simp; omega
 have hAe:ArgsP M (vals.extract 1 vals.size) extra:=by
  refine ⟨by simp; omega,fun i hi=>?_⟩
  have:=hA.2 (i+1) (by simp; omega)
  have e5:(AV.sl b g 0 s.len cc::extra).getD (i+1) .undef=extra.getD i .undef:=by simp [List.getD]
  rw [e5] at this;have e6:(vals.extract 1 vals.size).getD i Go.undef=vals.getD (i+1) Go.undef:=by
   simp only [Array.getD_eq_getD_getElem?,Array.getElem?_extract];rw [if_pos (by omega),Nat.add_comm]
  rw [e6];exact this.pureFn (all_getD hpe hi)
 obtain ⟨hfn,hnone,hsome⟩:=hrow M w _ (fun g=>(hG g).mono hS.memE) hS.hok.mem hAe
 refine ⟨hfn,?_⟩;by_cases hz:s.len=0
 ·-- no element
  have hv0:∃ p cap,vals.getD 0 Go.undef=.slice p 0 cap:=by
   rcases hcase with ⟨_,cap,h1,_⟩|⟨_,_,p,h1⟩
   ·exact ⟨_,cap,by rw [h1,hz]⟩
   ·exact ⟨p,0,h1⟩
  obtain ⟨p,cap,hv0⟩:=hv0;have hc:=hnone (List.eq_nil_of_length_eq_zero (by omega)) p cap
  rw [<- hvals _ hv0] at hc;refine hc.mono fun ee w' ⟨h1,h2⟩=>⟨_,ρ,M,h1,RX.refl ρ hp nx,MExt.refl M,.pure (.tup #[] [] rfl (fun i hi=>by simp at hi)),?_⟩
  subst h2;refine hS.upd (ρ':=ρ) (w':=w') b g 1 true _ L (RExt.refl ρ) (fun _ _ _=>rfl) hL ⟨L,hL,f2,⟨Nat.le_refl 1,f3.2⟩,?_⟩ ?_ (hS.hok.gen b g 1 pu s hb) rfl rfl rfl (Nat.le_refl _) (fun B _ _=>rfl)
  ·rcases f4 with f4|⟨hLv,c,e,f5,f6,f7,f8,f9⟩
   ·exact .inl ⟨f4.1,hz⟩
   ·exact .inr ⟨hLv,c,e,f5,f6,by simpa [Sq.len] using f7,f8,fun i hi=>absurd (show i<s.len from hi) (by omega)⟩
  ·rcases f4 with f4|⟨hLv,_⟩
   ·exact .inl f4.1
   ·exact .inr (.inr ⟨g,1,pu,s,L,hb,hL,hLv,rfl⟩)
 ·rcases hcase with ⟨hv,cap,hval,_⟩|⟨h1,_⟩
  case inr=>exact absurd h1 hz
  rcases f4 with f4|⟨hLv,c,e,f5,f6,f7,f8,f9⟩
  ·exact absurd f4.2 hz
  have hcell:IntRow M w L.B L.o L.csz l:=by
   refine ⟨c,e,f5,f6,by omega,f8,fun j hj=>?_⟩
   obtain ⟨_,h2⟩:=f9 j (by omega)
   obtain ⟨u,k1,_,k3,_⟩:=h2 0 Nat.zero_lt_one;rw [hlg j (by omega)] at k3
   have k4:u=.int .i64 (l.getD j 0):=(show Rel ρ M u (.int .i64 (l.getD j 0)) from k3).intInv;rw [<- k4];simpa using k1
  have hc:=hsome L.B L.o L.csz cap (fun h=>hz (by rw [<- hll,h]; rfl)) hcell
  rw [Nat.zero_mul,Nat.add_zero] at hval;rw [hll,<- hvals _ hval] at hc;refine hc.mono fun ee w' ⟨h1,h5,h7,⟨c',e',m1,m2,m3,m4,m5⟩⟩=>⟨_,ρ,M,h1,RX.refl ρ hp nx,MExt.refl M,.pure (.tup #[] [] rfl (fun i hi=>by simp at hi)),?_⟩
  have hLB:L.B<w.heap.size:=heap_lt f5;have hset:∀ B,({ w' with heap:=w'.heap.setIfInBounds L.B (.cells c e (0,0)) }:World).heap[B]?=if B=L.B then some (.cells c e (0,0)) else w'.heap[B]?:=fun B=>by
   have hlt:L.B<w'.heap.size:=heap_lt m1;show (w'.heap.setIfInBounds L.B (.cells c e (0,0)))[B]?=_;rw [Array.getElem?_setIfInBounds];by_cases hB:B=L.B
   ·subst hB; simp [hlt]
   ·rw [if_neg hB,if_neg (fun e=>hB e.symm)]
  have hk1:Keep (fun _=>True) w { w' with heap:=w'.heap.setIfInBounds L.B (.cells c e (0,0)) }:=by
   refine ⟨h7.os,h7.tape,h7.output,by simpa using h7.size,fun B _ hB=>?_⟩
   rw [hset B];split
   ·rename_i hB'; rw [hB']; exact f5.symm
   ·rename_i hB'; exact h7.block B hB' hB
  have hno:∀ B i q,M B i=some q->B≠L.B:=fun B i q hq hB=>by
   rw [hB,m4 i] at hq; cases hq
  have hS1:=hS.frame hk1 (MExt.refl M) (fun B i q hq=>by
   have:=h5 B i q hq;refine ⟨?_,this.2⟩;rw [<- this.1];exact cell_congr (by rw [hset B,if_neg (hno B i q hq)]) i) (fun B i v h=>.inl h)
  refine hS1.upd (ρ':=ρ) (w':=w') b g 1 true _ L (RExt.refl ρ) (fun _ _ _=>rfl) hL ⟨L,hL,f2,⟨Nat.le_refl 1,f3.2⟩,.inr ⟨hLv,c',e',m1,m2,(by show L.o+s.len * 1<=L.csz; omega),m4,fun i hi=>⟨rfl,fun j hj=>?_⟩⟩⟩
   (.inr (.inr ⟨g,1,pu,s,L,hb,hL,hLv,rfl⟩)) (hS.hok.gen b g 1 pu s hb) rfl rfl rfl (by simp) (fun B hB hne=>by
    rcases hne with hne|hne
    ·rw [hLv] at hne; cases hne
    ·rw [hset B,if_neg hne])
  have hj0:j=0:=by omega
  subst hj0;have hi':i<l'.length:=by have h9:i<s.len:=hi; omega
  exact ⟨_,by simpa using m5 i hi',rfl,.pure (.int _ _),fun _=>.int _ _⟩
def ctrOf4 (t:Tbl) (tr:TblR) (f:FuncId) (args:List AV) (hp:Nat->Blk) (nx:Nat):Option Out :=
 match rowOf tr f args hp with
 | some o=>some o
 | none=>ctrOf t f args hp nx
theorem ctrOf4_ok {E:Env} {t:Tbl} {tr:TblR} (ht:TblOK E.P E.gl t) (htr:TblROK E.P E.gl tr) (he:E.ctr=ctrOf4 t tr) (hi:ItrOK E:=by exact itr_none rfl):CtrOK E:=by
 refine ⟨?_,hi⟩;intro f args hp nx out ho U w0 n ρ M tm a w vals hG hS hA;rw [he] at ho;unfold ctrOf4 at ho;split at ho
 ·rename_i o ho';cases ho;exact rowOf_ok htr f args hp nx out ho' U w0 n ρ M tm a w vals hG hS hA
 ·exact (ctrOf_ok (E:={ E with ctr:=ctrOf t }) ht rfl hi).1 f args hp nx out ho U w0 n ρ M tm a w vals hG hS hA
end Pw
