/- ENGINE, part F14: code. -/
import Derived.Test.YtlnpgnipocbfhaaGreatDoorPwFA
import Derived.DefersIn
namespace Pw
open Go
theorem run_enterLoop_in {P:Program} {w:World} {l₀:Nat} {r₀:Loop} (h:w.heap[l₀]?=some (.loop r₀)) (fn:FuncId) (tmps:Array Value) (ps:Array Tmp) (assign body:Code) :
  (Instr.enterLoop fn tmps ps assign body (some l₀)).run P w =
   .ok (w.heap.size,[]) (w.alloc (.loop { state:=.ready,pending:=none,fn,tmps,params:=ps,assign,body,defers:=r₀.defers })):=by
 unfold Instr.enterLoop;simp only [Sem.run_bind,run_getLoop h,run_newObj_alloc,Result.andThen,Sem.run_pure]
section
variable {U:Base} {w0:World} {n:Nat} {ρ:Rho} {M:Mem} {tm:Nat->AV} {hp:Nat->Blk} {nx:Nat} {a:Act} {w:World}
theorem SRel.addMark (h:SRel U w0 n ρ M tm hp nx a w) (hnod:U.nod=false) :
  SRel U w0 n ρ M tm hp nx { a with defers:={ target:=.collected w.heap.size,args:=#[] }::a.defers } (w.alloc (.deferred (some []))):=by
 have k:=h.grow (w':=w.alloc (.deferred (some []))) rfl rfl rfl (by simp) (fun B hB=>heap_alloc_old w _ B hB)
 refine ⟨k.size,k.tm,k.hok,k.dead,k.free,k.keep,k.memN,k.memE,k.own,k.nle,k.ownL,k.defers,⟨List.nodup_cons.2 ⟨fun hm=>?_,k.marks.1⟩,fun r hr=>?_⟩,fun hc r hr hU=>?_,fun e=>(by rw [hnod] at e; cases e),h.extStep (w':=w.alloc (.deferred (some []))) rfl rfl rfl (by simp) (fun _ _ _ _ r e=>⟨r,e⟩) (fun b g sz pu s L h1 h2 h3=>.inr ⟨b,g,sz,pu,s,L,h1,h2,h3,rfl⟩) (fun _ st r L h1 h2=>.inr ⟨st,r,L,h1,h2,rfl⟩)
   (MExt.refl M) (fun _ _ _ hm=>.inl hm) (fun r hr=>?_) (fun _ h1 h2=>⟨h1,h2⟩) (fun _ _ e=>⟨e,fun _=>rfl⟩) (fun B hB=>.inl (heap_alloc_old w _ B hB))⟩
 case refine_4 =>
  rcases List.mem_cons.1 hr with rfl|hr
  ·exact .inr (Nat.le_refl _)
  ·exact .inl hr
 ·have:=heap_lt (h.marks.2 _ hm); omega
 ·rcases List.mem_cons.1 hr with rfl|hr
  ·exact heap_alloc_new w _
  ·exact k.marks.2 r hr
 ·rcases List.mem_cons.1 hr with rfl|hr
  ·exact h.keep.size
  ·exact h.mown hc r hr hU
theorem SRel.addLoop (h:SRel U w0 n ρ M tm hp nx a w) (lp:Loop) (r:LoopB) (hs:lp.state=.ready) (hp0:lp.pending=none) (h1:lp.params=r.params) (h2:lp.assign=r.assign) (h3:lp.body=r.body) (h4:lp.tmps.size=r.n) (h5:r.n<=slotD)
  (h6:dfL (r.tm.get .undef slotD)=[]) (h7:∀ t,Rel ρ M (lp.tmps.getD t Go.undef) (r.tm.get .undef t)) :
  ∃ L,L.B=w.heap.size/\RExt ρ (updR ρ nx 0 L)/\SRel U w0 n (updR ρ nx 0 L) M tm (updH hp nx (.loop .ready r)) (nx+1) a (w.alloc (.loop lp)):=by
 have k:=h.grow (w':=w.alloc (.loop lp)) rfl rfl rfl (by simp) (fun B hB=>heap_alloc_old w _ B hB)
 obtain ⟨L,hL⟩:∃ L:Loc,L=⟨w.heap.size,0,0,0,0,false,some lp⟩:=⟨_,rfl⟩
 have hfree:∀ g,ρ nx g=none:=fun g=>h.free nx g (Nat.le_refl _)
 have hext:=updR_ext L (hfree 0);have hlt:∀ b,hp b≠.dead->b<nx:=fun b hb=>h.lt_nx hb
 have hρ:∀ b g,b<nx->updR ρ nx 0 L b g=ρ b g:=fun b g hb=>updR_ne _ _ _ _ (fun e=>by omega)
 have hrow:∀ b g sz pu sq,updH hp nx (.loop .ready r) b=.row g sz pu sq->hp b=.row g sz pu sq/\b<nx:=by
  intro b g sz pu sq e;simp only [updH] at e;split at e
  ·cases e
  ·exact ⟨e,hlt b (by rw [e]; simp)⟩
 have hloop:∀ b st r',updH hp nx (.loop .ready r) b=.loop st r'->(b=nx/\st=.ready/\r'=r)\/(hp b=.loop st r'/\b<nx):=by
  intro b st r' e;simp only [updH] at e;split at e
  ·cases e; exact .inl ⟨‹_›,rfl,rfl⟩
  ·exact .inr ⟨e,hlt b (by rw [e]; simp)⟩
 have hB:∀ b st r' L',hp b=.loop st r'->ρ b 0=some L'->L'.B<w.heap.size:=by
  intro b st r' L' e e';obtain ⟨L1,lp1,f1,f3⟩:=(h.hok.loop b st r' e).at
  rw [e'] at f1; cases f1;exact heap_lt f3
 refine ⟨L,by rw [hL],hext,⟨k.size,fun t=>(k.tm t).mono hext (MExt.refl M),⟨k.hok.mem,fun b g sz pu sq e=>?_,fun b b' g g' sz sz' pu pu' s s' L1 L2 e1 e2 f1 f2=>?_,fun b g sz pu sq e g' hg=>?_,fun b st r' e=>?_,fun b b' st st' r1 r2 L1 L2 e1 e2 f1 f2 hBB=>?_⟩,
  fun b hb=>?_,fun b g hb=>?_,k.keep,k.memN,k.memE,fun b g sz pu sq L' e f=>?_,k.nle,fun b st r' L' e f hU=>?_,k.defers.mono hext (MExt.refl M),k.marks,k.mown,k.nod,
  h.extStep (w':=w.alloc (.loop lp)) rfl rfl rfl (by simp) (fun b k on sp r e=>?_) (fun b g sz pu s L' h1 h2 h3=>?_) (fun b st r' L' h1 h2=>?_) (MExt.refl M) (fun _ _ _ hm=>.inl hm) (fun _ hr=>.inl hr) (fun _ h1 h2=>⟨h1,h2⟩) (fun b d e=>?_) (fun B hB=>.inl (heap_alloc_old w _ B hB))⟩⟩
 case refine_13 =>
  have hne:b≠nx:=fun e1=>by rw [e1] at e; simp [updH] at e
  simp only [updH,if_neg hne] at e;exact ⟨e,fun g=>updR_ne _ _ _ _ (fun e1=>hne e1.1)⟩
 case refine_10 =>
  rcases hloop b _ _ e with ⟨_,e2,_⟩|⟨e2,_⟩
  ·cases e2
  ·exact ⟨_,e2⟩
 case refine_11 =>
  obtain ⟨e,hb⟩:=hrow _ _ _ _ _ h1;rw [hρ b g hb] at h2;exact .inr ⟨b,g,sz,pu,s,L',e,h2,h3,rfl⟩
 case refine_12 =>
  rcases hloop b st r' h1 with ⟨rfl,_,_⟩|⟨e,hb⟩
  ·rw [updR_same] at h2; cases h2;exact .inl (by rw [hL]; exact Nat.le_refl _)
  ·rw [hρ b 0 hb] at h2;exact .inr ⟨st,r',L',e,h2,rfl⟩
 ·obtain ⟨e,hb⟩:=hrow _ _ _ _ _ e;obtain ⟨L',f1,f2,f3,f4⟩:=k.hok.row b g sz pu sq e;refine ⟨L',hext _ _ _ f1,f2,f3,?_⟩;rcases f4 with f4|⟨hv,c,ee,f5,f6,f7,f8,f9⟩
  ·exact .inl f4
  ·refine .inr ⟨hv,c,ee,f5,f6,f7,f8,fun i hi=>⟨(f9 i hi).1,fun j hj=>?_⟩⟩
   obtain ⟨v,m1,m2,m3,m4⟩:=(f9 i hi).2 j hj;exact ⟨v,m1,m2,m3.mono hext (MExt.refl M),m4⟩
 ·obtain ⟨e1,hb1⟩:=hrow _ _ _ _ _ e1;obtain ⟨e2,hb2⟩:=hrow _ _ _ _ _ e2;rw [hρ b g hb1] at f1;rw [hρ b' g' hb2] at f2;exact k.hok.inj b b' g g' sz sz' pu pu' s s' L1 L2 e1 e2 f1 f2
 ·obtain ⟨e,hb⟩:=hrow _ _ _ _ _ e;rw [hρ b g' hb];exact k.hok.gen b g sz pu sq e g' hg
 ·rcases hloop b st r' e with ⟨rfl,rfl,rfl⟩|⟨e,hb⟩
  ·refine .inl ⟨L,lp,.ready,none,updR_same _ _ _ _,by rw [hL],?_,⟨rfl,rfl⟩,h1,h2,h3,h4,h5,h6,fun t=>(h7 t).mono hext (MExt.refl M)⟩
   rw [hL];have:=heap_alloc_new w (.loop lp);rw [this];have:lp={ lp with state:=.ready,pending:=none }:=by cases lp; simp only at hs hp0; subst hs; subst hp0; rfl
   rw [<- this]
  ·exact (k.hok.loop b st r' e).mono hext (MExt.refl M) (fun _ _ _ e=>e)
 ·rcases hloop b st r1 e1 with ⟨q1,_,_⟩|⟨q1,hb1⟩ <;> rcases hloop b' st' r2 e2 with ⟨q2,_,_⟩|⟨q2,hb2⟩
  ·rw [q1,q2]
  ·subst q1;rw [updR_same] at f1; cases f1;rw [hρ b' 0 hb2] at f2;have:=hB b' st' r2 L2 q2 f2;rw [<- hBB,hL] at this;simp at this
  ·subst q2;rw [updR_same] at f2; cases f2;rw [hρ b 0 hb1] at f1;have:=hB b st r1 L1 q1 f1;rw [hBB,hL] at this;simp at this
  ·rw [hρ b 0 hb1] at f1;rw [hρ b' 0 hb2] at f2;exact k.hok.linj b b' st st' r1 r2 L1 L2 q1 q2 f1 f2 hBB
 ·simp only [updH];split
  ·omega
  ·exact h.dead b (by omega)
 ·rw [updR_ne _ _ _ _ (fun e=>by omega)]
  exact h.free b g (by omega)
 ·obtain ⟨e,hb⟩:=hrow _ _ _ _ _ e;rw [hρ b g hb] at f;exact k.own b g sz pu sq L' e f
 ·rcases hloop b st r' e with ⟨rfl,_,_⟩|⟨e,hb⟩
  ·rw [updR_same] at f; cases f;rw [hL];exact h.keep.size
  ·rw [hρ b 0 hb] at f;exact k.ownL b st r' L' e f hU
end
theorem clearD_eq (tm:T AV):∃ tm',(∀ K,clearD tm K=K tm')/\dfL (tm'.get .undef slotD)=[]/\∀ t,tm'.get .undef t=tm.get .undef t\/tm'.get .undef t=.undef:=by
 cases e:dfL (tm.get .undef slotD) with
 | nil=>exact ⟨tm,fun K=>by simp only [clearD,e],e,fun t=>.inl rfl⟩
 | cons x l =>
  refine ⟨tm.set .undef slotD .undef,fun K=>by simp only [clearD,e,T.setK_eq],by rw [T.set_get,if_pos rfl]; rfl,fun t=>?_⟩
  rw [T.set_get];split
  ·exact .inr rfl
  ·exact .inl rfl
theorem modeB_inv {md:Mode} {hp:T Blk} (h:modeB md hp=true):md=.top\/∃ b st r,md=.round b/\hp.get .dead b=.loop st r/\st.isRec=true:=by
 cases md with
 | top=>exact .inl rfl
 | nodef=>cases h
 | round b =>
  refine .inr ⟨b,?_⟩;simp only [modeB] at h;generalize hp.get .dead b=x at h ⊢;cases x with
  | dead=>cases h
  | row=>cases h
  | fam=>cases h
  | loop st r=>cases st <;> first|(cases h; done)|exact ⟨_,_,rfl,rfl,rfl⟩
theorem enter_range {P:Program} {md:Mode} {r:Option Nat} {U:Base} {w0:World} {n:Nat} {ρ:Rho} {M:Mem} {s:St} {a:Act} {w:World} (h:SRel U w0 n ρ M s.tmf s.hpf s.nx a w) (hr:ModeOK md U.nod ρ r) (hmd:modeB md s.hp=true)
  {tmR:T AV} (hR1:dfL (tmR.get .undef slotD)=[]) (hR2:∀ t,tmR.get .undef t=s.tm.get .undef t\/tmR.get .undef t=.undef) (ps:Array Tmp) (assign body:Code) (f fn:FuncId) :
  ∃ L mark w1,(Instr.enterLoop fn a.tmps ps assign body r).run P w=.ok (L.B,mark) w1/\RExt ρ (updR ρ s.nx 0 L) /\
   SRel U w0 n (updR ρ s.nx 0 L) M s.tmf (updH s.hpf s.nx (.loop .ready ⟨n,tmR,f,ps,assign,body⟩)) (s.nx+1) { a with defers:=mark++a.defers } w1:=by
 have hrel:∀ t,Rel ρ M (a.tmps.getD t Go.undef) (tmR.get .undef t):=fun t=>by
  rcases hR2 t with e|e
  ·rw [e]; exact h.tm t
  ·rw [e]; exact .undef _
 rcases modeB_inv hmd with rfl|⟨b,st,rb,rfl,hb,hst⟩
 ·obtain ⟨rfl,hnod⟩:=hr;obtain ⟨L,hL,hext,k⟩:=(h.addMark hnod).addLoop { state:=.ready,pending:=none,fn,tmps:=a.tmps,params:=ps,assign,body,defers:=w.heap.size } ⟨n,tmR,f,ps,assign,body⟩ rfl rfl rfl rfl rfl h.size h.nle hR1 hrel
  refine ⟨L,[{ target:=.collected w.heap.size,args:=#[] }],_,?_,hext,k⟩;rw [run_enterLoop_outer,hL];simp
 ·obtain ⟨hnod,L0,hL0,rfl⟩:=hr;obtain ⟨L1,lp,s1,p1,e1,_,e3,_⟩:=(h.hok.loop b st rb hb).record hst;rw [hL0] at e1; cases e1
  obtain ⟨L,hL,hext,k⟩:=h.addLoop { state:=.ready,pending:=none,fn,tmps:=a.tmps,params:=ps,assign,body,defers:=lp.defers } ⟨n,tmR,f,ps,assign,body⟩ rfl rfl rfl rfl rfl h.size h.nle hR1 hrel;refine ⟨L,[],_,?_,hext,k⟩
  rw [run_enterLoop_in e3,hL]
theorem range_wp {P:Program} {r:Option Nat} {a:Act} {w:World} {g:Operand} {ps:Array Tmp} {assign body:Code} {gf:FuncId} {fs cs:Array Value} {Q:Exit->Act->World->Prop} (hev:a.eval g=.func (.func gf) fs cs)
  (h:∀ fn,∃ l mark w1,(Instr.enterLoop fn a.tmps ps assign body r).run P w=.ok (l,mark) w1/\FnOK P gf/\Calls P gf (fs++#[.func (.yield l) #[] #[]]++cs) w1 (rangePost (WF r) 0 P l Q { a with defers:=mark++a.defers })) :
  (Code.rangeFunc g ps assign body).wpIn (WF r) 0 P Q a w:=by
 refine wpIn_rangeFunc fun fn _=>?_
 obtain ⟨l,mark,w1,hent,⟨fnn,q1,q2,q3⟩,hcl⟩:=h fn;have q4:fnn.body≠none:=by intro hb; rw [hb] at q2; cases q2
 have q5 : fnn.name ≠ "runtime.NumGoroutine" := by simpa using q3
 have h1:(resolve a.eval (rangeCall g l) 0).run P w1=.ok { target:=.fn (.func gf) cs,args:=fs++#[.func (.yield l) #[] #[]] } w1:=by
  simp only [resolve,hev];simp [Deferred.ofValue,go_sem]
 have h2:(invoke (.fn (.func gf) cs) (fs++#[.func (.yield l) #[] #[]])).run P w1=.ok (.enter gf (fs++#[.func (.yield l) #[] #[]]++cs)) w1:=by
  simp [invoke,callFunc,q1,q5,q4]
 have h3:CallsIn (WF r) 0 P gf (fs++#[.func (.yield l) #[] #[]]++cs) w1 (rangePost (WF r) 0 P l Q { a with defers:=mark++a.defers }):=callsIn_WF.2 hcl
 have h4:(WF r).depth.isSome=true->1<=0:=fun e=>(by cases e)
 refine ⟨l,mark,w1,{ target:=.fn (.func gf) cs,args:=fs++#[.func (.yield l) #[] #[]] },w1,gf,fs++#[.func (.yield l) #[] #[]]++cs,w1,?_,?_,?_,?_,?_,?_⟩
 ·exact hent
 ·exact h1
 ·exact fun _ _=>trivial
 ·exact h2
 ·exact h4
 ·exact h3
theorem rangeK_sound {P:Program} {r:Option Nat} {U:Base} {w0:World} {n:Nat} {ρ ρ':Rho} {M M':Mem} {s:St} {b:Nat} {K:Ex->St->VT} {hp:T Blk} {nx':Nat} {a1:Act} {w':World} {Q:Exit->Act->World->Prop} {L:Loc}
  (hK:CodeK U w0 n ρ M s K Q) (hs:(rangeK b s K hp nx').sat) (h:SRel U w0 n ρ' M' s.tmf (fun b=>hp.get .dead b) nx' a1 w') (hg:Grow ρ ρ' s.hpf (fun b=>hp.get .dead b) s.nx nx') (hM:MExt M M') (hL:ρ' b 0=some L) :
  ∃ jump w₄,(Instr.endLoop L.B).run P w'=.ok jump w₄/\(match jump with|none=>Q .normal a1 w₄|some c=>c.wpIn (WF r) 0 P Q a1 w₄):=by
 unfold rangeK at hs;split at hs
 ·rename_i st rr hb;rw [T.setK_eq] at hs;have hst:st.isRec=true:=by cases st <;> first|rfl|exact hs.elim
  obtain ⟨L1,lp,s1,p1,f1,f2,f3,f4,_⟩:=(h.hok.loop b st rr hb).record hst;rw [hL] at f1; cases f1;have hhp2:(fun b'=>(hp.set .dead b .dead).get .dead b')=updH (fun b=>hp.get .dead b) b .dead:=by
   funext b'; rw [T.set_get]; rfl
  have hfin:∀ ex,(K ex ⟨s.tm,hp.set .dead b .dead,nx'⟩).sat->s1≠.busy->(Instr.endLoop L.B).run P w'=.ok p1 (w'.putObj L.B (.loop { lp with state:=.exhausted,pending:=p1 })) /\
    Q (exOf ex) a1 (w'.putObj L.B (.loop { lp with state:=.exhausted,pending:=p1 })):=by
   intro ex hsat hbusy;refine ⟨run_endLoop f3 hbusy,hK ex ⟨s.tm,hp.set .dead b .dead,nx'⟩ ρ' M' _ _ ?_ hM ?_ hsat⟩
   ·refine ⟨hg.rx,hg.le,fun b' h1 h2=>?_,fun b' k on sp r e=>?_⟩
    ·show (hp.set .dead b .dead).get .dead b'=.dead;rw [T.set_get];split
     ·rfl
     ·exact hg.dead b' h1 h2
    ·have e':(hp.set .dead b .dead).get .dead b'=.loop (.abs k on sp) r:=e;rw [T.set_get] at e';split at e'
     ·cases e'
     ·exact hg.abs b' k on sp r e'
   ·have:=h.setLoop hb hL f2 .exhausted p1 .dead (.inl rfl);show SRel U w0 n ρ' M' s.tmf (fun b'=>(hp.set .dead b .dead).get .dead b') nx' _ _
    rw [hhp2]; exact this
  split at hs
  ·obtain ⟨rfl,rfl⟩:=f4;obtain ⟨z1,z2⟩:=hfin .normal hs (by simp)
   exact ⟨none,_,z1,z2⟩
  ·obtain ⟨rfl,rfl⟩:=f4;obtain ⟨z1,z2⟩:=hfin .ret hs (by simp)
   exact ⟨some .ret,_,z1,wpIn_ret z2⟩
  ·rename_i id;obtain ⟨rfl,rfl⟩:=f4;obtain ⟨z1,z2⟩:=hfin (.exit id) hs (by simp)
   exact ⟨some (.exit id),_,z1,wpIn_exit z2⟩
  ·exact hs.elim
 ·exact hs.elim
theorem vcFzL_sound {cl:Bool} {U:Base} {w0:World} {n:Nat} {K:St->VT}:∀ (l:List Tmp) (s:St) (ρ:Rho) (M:Mem) (a:Act) (w:World),(vcFzL cl l s K).sat->SRel U w0 n ρ M s.tmf s.hpf s.nx a w ->
  ∃ s' M',Grow ρ ρ s.hpf s'.hpf s.nx s'.nx/\MExt M M'/\SRel U w0 n ρ M' s'.tmf s'.hpf s'.nx a w/\(K s').sat
 | [],s,ρ,M,a,w,hs,h=>⟨s,M,Grow.refl _ _ _,MExt.refl M,h,hs⟩
 | t::l,s,ρ,M,a,w,hs,h=>by
  simp only [vcFzL,vcFz1] at hs;cases ht:t==slotD with
  | true=>rw [ht] at hs; exact hs.elim
  | false =>
   rw [ht] at hs;simp only [forceLn_eq] at hs;obtain ⟨hgr,hs⟩:=NB.inv hs;rw [Bool.and_eq_true] at hgr
   obtain ⟨hp',k1,k2⟩:=maskK_eq (idsD 3 s.hpf (idsAll [s.tmf t])) s.hp (fun hp=>putK cl ⟨s.tm,hp,s.nx⟩ (some t) (frzY 25 (onlyR (idsD 3 s.hpf (idsAll [s.tmf t])) s.hpf) (s.tmf t)).clean fun s=>vcFzL cl l s K)
   rw [k1,putK_eq] at hs;obtain ⟨M2,f1,f2,f3⟩:=SRel.freezeValY h (idsD 3 s.hpf (idsAll [s.tmf t])) (hpm:=fun b=>hp'.get .dead b) (fun b=>k2 b) (h.tm t) 25 hgr.1
   have hne:t≠slotD:=by simpa using ht
   have hput:∀ t',(T.set .undef s.tm t (((frzY 25 (onlyR (idsD 3 s.hpf (idsAll [s.tmf t])) s.hpf) (s.tmf t)).clean).norm cl)).get .undef t'=if t'=t then ((frzY 25 (onlyR (idsD 3 s.hpf (idsAll [s.tmf t])) s.hpf) (s.tmf t)).clean).norm cl else s.tm.get .undef t':=fun t'=>T.set_get _ _ _ _ _
   obtain ⟨s',M',g1,g2,g3,g4⟩:=vcFzL_sound l _ ρ M2 a w hs (f2.setTm (fun t'=>by
    show Rel ρ M2 _ ((T.set .undef s.tm t _).get .undef t');rw [hput t'];split
    ·rename_i e; subst e; exact (Rel.pure f3).clean.norm cl
    ·exact f2.tm t') (by
    show DfL ρ M2 a.defers (dfL ((T.set .undef s.tm t _).get .undef slotD));rw [hput slotD,if_neg (fun e=>hne e.symm)]
    exact f2.defers))
   refine ⟨s',M',Grow.trans ⟨RX.refl _ _ _,Nat.le_refl _,fun b _ hd=>(k2 b).trans (by split; rfl; exact hd),fun b k on sp r e=>?_⟩ g1,f1.trans g2,g3,g4⟩
   have e':hp'.get .dead b=.loop (.abs k on sp) r:=e;rw [k2 b] at e';split at e'
   ·cases e'
   ·exact ⟨k,on,r,e'⟩
section
variable {E:Env} {call:CallH} (hm:E.P.follows .mixedOrders=true) (hc:CallS E.P E.gl call) (hctr:CtrOK E) {U:Base} {w0:World} {n:Nat} (hG:GlobOK U.M0 E.gl) (f:FuncId) (r:Option Nat)
include hm hc hctr hG
theorem vcCode_sound:∀ (c:Code) (lk:Option Nat) (K:Ex->St->VT) (s:St) (ρ:Rho) (M:Mem) (a:Act) (w:World) (Q:Exit->Act->World->Prop),(vcCode E n f call c lk K s).sat->SRel U w0 n ρ M s.tmf s.hpf s.nx a w->ModeOK E.md U.nod ρ r ->
  CodeK U w0 n ρ M s K Q->c.wpIn (WF r) 0 E.P Q a w
 | .skip,lk,K,s,ρ,M,a,w,Q,hs,h,hr,hK=>wpIn_skip (hK .normal s ρ M a w (Grow.refl _ _ _) (MExt.refl M) h hs)
 | .label _,lk,K,s,ρ,M,a,w,Q,hs,h,hr,hK=>wpIn_label (hK .normal s ρ M a w (Grow.refl _ _ _) (MExt.refl M) h hs)
 | .ret,lk,K,s,ρ,M,a,w,Q,hs,h,hr,hK=>wpIn_ret (hK .ret s ρ M a w (Grow.refl _ _ _) (MExt.refl M) h hs)
 | .exit id,lk,K,s,ρ,M,a,w,Q,hs,h,hr,hK=>wpIn_exit (hK (.exit id) s ρ M a w (Grow.refl _ _ _) (MExt.refl M) h hs)
 | .region id ops dr,lk,K,s,ρ,M,a,w,Q,hs,h,hr,hK=>by
  obtain ⟨s0,M0,e1,e2,e3,e4⟩:=vcFzL_sound (cl:=E.cl) _ s ρ M a w hs h;exact vcRegion_sound (E:=E.sel f) hm hc hctr hG r hr.top e4 e3 (fun s' ρ' M' a' w' k1 k2 k3 k4=>by
   obtain ⟨s1,M1,g1,g2,g3,g4⟩:=vcFzL_sound (cl:=E.cl) _ s' ρ' M' a' w' k4 k3;exact hK .normal s1 ρ' M1 a' w' (e1.trans (k1.trans g1)) (e2.trans (k2.trans g2)) g3 g4)
 | .seq x y,lk,K,s,ρ,M,a,w,Q,hs,h,hr,hK=>by
  simp only [vcCode] at hs;split at hs
  ·rename_i I _;rw [forceLn_eq] at hs;simp only [VT.sat] at hs;obtain ⟨hs1,hall⟩:=hs;refine wpIn_seq (vcCode_sound x none _ s ρ M a w _ hs1 h hr fun ex s' ρ' M' a' w' k1 k2 k3 k4=>?_)
   cases ex with
   | normal =>
    obtain ⟨hle,i,hi,hmet⟩:=NB.inv k4;simp only [Bool.and_eq_true,decide_eq_true_eq] at hle;obtain ⟨hle,hkp⟩:=hle;have free:∀ b g L,ρ' b g=some L->b<s'.nx:=fun b g L e=>by
     rcases Nat.lt_or_ge b s'.nx with h1|h1
     ·exact h1
     ·rw [k3.free b g h1] at e; cases e
    obtain ⟨ρ2,m1,m2,m3,m4,m5⟩:=metO_sound k3 hmet (s0:=s) h.hok.loop hkp k1.rx.ext k2 h.free (Nat.le_trans k1.le hle);have hg2:Grow ρ' ρ2 s'.hpf ((I.st i).mkO I.nx s.hp (loopIds s.hp)).hpf s'.nx I.nx :=
     ⟨⟨fun b g L e=>m2 b g L (Nat.lt_of_lt_of_le (free b g L e) hle) e,fun b g h1 _=>m4 b g h1 (Nat.lt_of_lt_of_le h1 hle)⟩,hle,m3,m5⟩
    exact vcCode_sound y none K ((I.st i).mkO I.nx s.hp (loopIds s.hp)) _ M' a' w' Q (hall i hi) m1 (hr.mono (k1.rx.ext.trans hg2.rx.ext)) (hK.trans (k1.trans hg2) k2)
   | exit id=>exact hK (.exit id) s' ρ' M' a' w' k1 k2 k3 k4
   | ret=>exact hK .ret s' ρ' M' a' w' k1 k2 k3 k4
  ·refine wpIn_seq (vcCode_sound x none _ s ρ M a w _ hs h hr fun ex s' ρ' M' a' w' k1 k2 k3 k4=>?_)
   cases ex with
   | normal=>exact vcCode_sound y none K s' ρ' M' a' w' Q k4 k3 (hr.mono k1.rx.ext) (hK.trans k1 k2)
   | exit id=>exact hK (.exit id) s' ρ' M' a' w' k1 k2 k3 k4
   | ret=>exact hK .ret s' ρ' M' a' w' k1 k2 k3 k4
 | .cond c x y,lk,K,s,ρ,M,a,w,Q,hs,h,hr,hK=>by
  simp only [vcCode] at hs;split at hs
  ·rename_i t ht;have hcond:a.eval c=.bool t:=by
    have:=evOf_rel hG h c;rw [ht] at this;exact this.boolInv
   rcases VB.inv hs with ⟨hb,hs⟩|⟨hb,hs⟩
   ·subst hb; exact wpIn_cond_true hcond (vcCode_sound x none K s ρ M a w Q hs h hr hK)
   ·subst hb; exact wpIn_cond_false hcond (vcCode_sound y none K s ρ M a w Q hs h hr hK)
  ·exact hs.elim
 | .block id c,lk,K,s,ρ,M,a,w,Q,hs,h,hr,hK=>by
  refine wpIn_block (vcCode_sound c (some id) _ s ρ M a w _ hs h hr fun ex s' ρ' M' a' w' k1 k2 k3 k4=>?_)
  cases ex with
  | normal=>exact hK .normal s' ρ' M' a' w' k1 k2 k3 k4
  | exit id' =>
   simp only [exOf,Exit.inBlock];simp only at k4;split
   ·rename_i e;rw [if_pos e] at k4;exact hK .normal s' ρ' M' a' w' k1 k2 k3 k4
   ·rename_i e;rw [if_neg e] at k4;exact hK (.exit id') s' ρ' M' a' w' k1 k2 k3 k4
  | ret=>exact hK .ret s' ρ' M' a' w' k1 k2 k3 k4
 | .scope c,lk,K,s,ρ,M,a,w,Q,hs,h,hr,hK=>by
  refine wpIn_scope_straight (vcCode_sound c none K s ρ M a w _ hs h hr fun ex s' ρ' M' a' w' k1 k2 k3 k4=>?_)
  have:=hK ex s' ρ' M' a' w' k1 k2 k3 k4;cases ex <;> exact this
 | .loop c,lk,K,s,ρ,M,a,w,Q,hs,h,hr,hK=>by
  simp only [vcCode] at hs;split at hs
  ·rename_i I _;rw [forceLn_eq] at hs;simp only [VT.sat] at hs;obtain ⟨hle,⟨i0,hi0,hm0⟩,hall⟩:=NB.inv hs;simp only [Bool.and_eq_true,decide_eq_true_eq] at hle;obtain ⟨hle,hkp⟩:=hle
   have free:∀ {ρ:Rho} {M:Mem} {s:St} {a:Act} {w:World},SRel U w0 n ρ M s.tmf s.hpf s.nx a w->∀ b g L,ρ b g=some L->b<s.nx:=fun hh b g L e=>by
    rcases Nat.lt_or_ge b _ with h1|h1
    ·exact h1
    ·rw [hh.free b g h1] at e; cases e
   let J:Nat->Act->World->Prop:=fun k a w=>∃ i ρ' M',I.pre i/\I.μ i=k/\Grow ρ ρ' s.hpf ((I.st i).mkO I.nx s.hp (loopIds s.hp)).hpf s.nx I.nx/\MExt M M'/\SRel U w0 n ρ' M' ((I.st i).mkO I.nx s.hp (loopIds s.hp)).tmf ((I.st i).mkO I.nx s.hp (loopIds s.hp)).hpf I.nx a w
   refine wpIn_loop_g J (I.μ i0) ?_ ?_
   ·obtain ⟨ρ2,k1,k2,k3,k4,k5⟩:=metO_sound h hm0 (s0:=s) h.hok.loop hkp (RExt.refl ρ) (MExt.refl M) h.free hle
    refine ⟨i0,_,M,hi0,rfl,⟨⟨fun b g L e=>k2 b g L (Nat.lt_of_lt_of_le (free h b g L e) hle) e,fun b g h1 _=>k4 b g h1 (Nat.lt_of_lt_of_le h1 hle)⟩,hle,k3,k5⟩,MExt.refl M,k1⟩
   ·rintro k a w ⟨i,ρ1,M1,hi,rfl,hg,hM,hS⟩;refine vcCode_sound c none _ ((I.st i).mkO I.nx s.hp (loopIds s.hp)) ρ1 M1 a w _ (hall i hi) hS (hr.mono hg.rx.ext) fun ex s' ρ' M' a' w' k1 k2 k3 k4=>?_
    cases ex with
    | normal =>
     obtain ⟨hkp',i',hi',hmu,hmet⟩:=NB.inv k4;obtain ⟨ρ2,m1,m2,m3,m4,m5⟩:=metO_sound k3 hmet (s0:=s) h.hok.loop hkp' (hg.rx.ext.trans k1.rx.ext) (hM.trans k2) h.free hle;have hnx:I.nx<=s'.nx:=k1.le
     refine ⟨I.μ i',hmu,i',_,M',hi',rfl,hg.trans ⟨⟨fun b g L e=>?_,fun b g h1 h2=>?_⟩,Nat.le_refl _,fun b h1 h2=>?_,fun b k on sp r e=>?_⟩,hM.trans k2,m1⟩
     ·have hb:b<I.nx:=free (s:=(I.st i).mkO I.nx s.hp (loopIds s.hp)) hS b g L e;exact m2 b g L hb (k1.rx.ext b g L e)
     ·rw [m4 b g (Nat.lt_of_lt_of_le h1 hnx) h1];exact k1.rx.dead b g h1 h2
     ·exact m3 b (Nat.lt_of_lt_of_le h1 hnx) (k1.dead b h1 h2)
     ·obtain ⟨k0,on0,r0,e0⟩:=m5 b k on sp r e;exact k1.abs b k0 on0 sp r0 e0
    | exit id=>exact hK (.exit id) s' ρ' M' a' w' (hg.trans k1) (hM.trans k2) k3 k4
    | ret=>exact hK .ret s' ρ' M' a' w' (hg.trans k1) (hM.trans k2) k3 k4
  ·refine wpIn_loop_rounds E.fuelL ?_
   have:∀ (k:Nat) (s:St) (ρ:Rho) (M:Mem) (a:Act) (w:World),(unroll (fun K' s'=>vcCode E n f call c none K' s') k K s).sat->SRel U w0 n ρ M s.tmf s.hpf s.nx a w->ModeOK E.md U.nod ρ r->CodeK U w0 n ρ M s K Q->Code.roundsIn (WF r) 0 E.P c Q k a w:=by
    intro k;induction k with
    | zero=>intro s ρ M a w hs; exact hs.elim
    | succ k ih =>
     intro s ρ M a w hs h hr hK;rw [roundsIn_succ];refine vcCode_sound c none _ s ρ M a w _ hs h hr fun ex s' ρ' M' a' w' k1 k2 k3 k4=>?_
     cases ex with
     | normal=>exact ih s' ρ' M' a' w' k4 k3 (hr.mono k1.rx.ext) (hK.trans k1 k2)
     | exit id=>exact hK (.exit id) s' ρ' M' a' w' k1 k2 k3 k4
     | ret=>exact hK .ret s' ρ' M' a' w' k1 k2 k3 k4
   exact this E.fuelL s ρ M a w hs h hr hK
 | .goto ..,lk,K,s,ρ,M,a,w,Q,hs,h,hr,hK=>hs.elim
 | .refuse ..,lk,K,s,ρ,M,a,w,Q,hs,h,hr,hK=>hs.elim
 | .rangeFunc g ps assign body,lk,K,s,ρ,M,a,w,Q,hs,h,hr,hK=>by
  simp only [vcCode] at hs;split at hs
  ·rename_i gf first cap hg;split at hs
   ·rename_i hmd;rw [forceN_eq] at hs;obtain ⟨tmR,hR0,hR1,hR2⟩:=clearD_eq s.tm;rw [hR0,T.setK_eq,forceN_eq] at hs;have hgr:=evOf_rel hG h g;rw [hg] at hgr;obtain ⟨fs,cs,e1,e2,e3,e4,e5⟩:=hgr.fnInv;refine range_wp e1 fun fn=>?_
    obtain ⟨L,mark,w1,hent,hext,hS⟩:=enter_range (P:=E.P) h hr hmd hR1 hR2 ps assign body f fn
    have hhp:(fun b=>(s.hp.set .dead s.nx (.loop .ready ⟨n,tmR,f,ps,assign,body⟩)).get .dead b)=updH s.hpf s.nx (.loop .ready ⟨n,tmR,f,ps,assign,body⟩):=by
     funext b;rw [T.set_get]; rfl
    generalize s.hp.set .dead s.nx (.loop .ready ⟨n,tmR,f,ps,assign,body⟩)=hp1 at hs hhp;have hS':SRel U w0 n (updR ρ s.nx 0 L) M s.tmf (fun b=>hp1.get .dead b) (s.nx+1) { a with defers:=mark++a.defers } w1:=by
     rw [hhp]; exact hS
    have hgr0:Grow ρ (updR ρ s.nx 0 L) s.hpf (fun b=>hp1.get .dead b) s.nx (s.nx+1):=by
     rw [hhp];refine ⟨⟨hext,fun b g h1 _=>updR_ne _ _ _ _ (fun e=>by omega)⟩,by omega,fun b h1 h2=>?_,fun b k on sp r e=>?_⟩
     ·simp only [updH];rw [if_neg (by omega)]; exact h2
     ·simp only [updH] at e;split at e
      ·cases e
      ·exact ⟨k,on,r,e⟩
    rw [AV.forceL_eq] at hs;have hmask:=hS'.mask [] (hpm:=fun b=>hp1.get .dead b) (fun b=>by simp)
    have hargs:ArgsRel (updR ρ s.nx 0 L) M (fs++#[.func (.yield L.B) #[] #[]]++cs) (AV.normL E.cl (first++.yld s.nx::cap)):=by
     refine ArgsRel.norm E.cl ?_;have hy:ArgsRel (updR ρ s.nx 0 L) M #[.func (.yield L.B) #[] #[]] [.yld s.nx]:=⟨rfl,fun i hi=>by
      have:i=0:=by simp at hi; exact hi
      subst this;exact .yld L s.nx (updR_same _ _ _ _)⟩
     have:=ArgsRel.app (ArgsRel.app (ρ:=updR ρ s.nx 0 L) (M:=M) ⟨e2,fun i hi=>(e4 i hi).mono hext (MExt.refl M)⟩ hy) ⟨e3,fun i hi=>(e5 i hi).mono hext (MExt.refl M)⟩
     simpa using this
    obtain ⟨hfn,hcl⟩:=hc (.fn gf) _ _ _ _ hs _ w1 n _ M s.tmf _ w1 _ (fun g=>(hG g).mono h.memE) hmask (hS'.mask_marks []) hargs
    refine ⟨L.B,mark,w1,hent,hfn,hcl.mono fun e w' hp=>?_⟩
    obtain ⟨u,x,ρ',M',hp',nx',rfl,k2,k3,k4,k5,hpt,k6,k7⟩:=hp;obtain ⟨k8,k9⟩:=hS'.unmask [] (hpm:=fun b=>hp1.get .dead b) (hp':=fun b=>hpt.get .dead b) (fun b=>by simp) k5 k2 k3 (fun b=>by simpa using k6 b) (fun b hb=>by cases hb)
    exact rangeK_sound (P:=E.P) (r:=r) (b:=s.nx) (hp:=hpt) hK k7 k8 (hgr0.trans k9) k3 (k9.rx.ext s.nx 0 L (updR_same _ _ _ _))
   ·exact hs.elim
  ·exact hs.elim
end
def resRun (tmps:Array Value):ResultVar->Sem Value
 | .tmp t=>pure (tmps.getD t Go.undef)
 | .cell a t=>do loadVar t (<- asAddr (tmps.getD a Go.undef))
theorem mapM_run {α:Type} (g:α->Sem Value) (P:Program) (w:World):∀ (l:List α) (us:List Value),us.length=l.length->(∀ (i:Nat) x u,l[i]?=some x->us[i]?=some u->(g x).run P w=.ok u w)->(l.mapM g).run P w=.ok us w
 | [],[],_,_=>by simp
 | [],_::_,h,_=>by simp at h
 | _::_,[],h,_=>by simp at h
 | x::l,u::us,h,hr=>by
  rw [List.mapM_cons];have h0:=hr 0 x u rfl rfl;have h1:=mapM_run g P w l us (by simpa using h) (fun i x u hx hu=>hr (i+1) x u (by simpa using hx) (by simpa using hu))
  simp [h0,h1]
def tupV:List Value->Value
 | [u]=>u
 | us=>.tuple us.toArray
theorem results_run {P:Program} {w:World} {fn:Func} {tmps:Array Value} {us:List Value} (hl:us.length=fn.results.toList.length)
  (hr:∀ (i:Nat) x u,fn.results.toList[i]?=some x->us[i]?=some u->(resRun tmps x).run P w=.ok u w):(results fn tmps).run P w=.ok (tupV us) w:=by
 have h1:=mapM_run (resRun tmps) P w fn.results.toList us hl hr;have h2:(fn.results.mapM (resRun tmps)).run P w=.ok us.toArray w:=by
  rw [Array.mapM_eq_mapM_toList];simp [h1]
 have e:results fn tmps=(do let vs <- fn.results.mapM (resRun tmps); pure (if h:vs.size=1 then vs[0] else .tuple vs)):=by
  unfold results;congr 1
 rw [e,Sem.run_bind,h2];simp only [Result.andThen_ok,Sem.run_pure];congr 1
 match us with
 | []=>rfl
 | [u]=>rfl
 | u::v::r=>simp [tupV]
section
variable {E:Env} {U:Base} {w0:World} {n:Nat} {ρ:Rho} {M:Mem} {tm:Nat->AV} {hp:Nat->Blk} {nx:Nat} {a:Act} {w:World}
theorem load_val {P:Program} (t:TypeId) (x:AV) (B off j:Nat) (vals:Nat->Value) {v:AV}
  (hp':partAV P t x j=some v) (hv:∀ k,k<x.cells.length->w.cell? ⟨B,off+k,none⟩=some (vals k)/\Rel ρ M (vals k) (x.cells.getD k .undef)) :
  ∃ u,(loadVar t ⟨B,off+j,none⟩).run P w=.ok u w/\Rel ρ M u v:=by
 obtain ⟨hu,hc⟩:=rel_part (P:=P) (ρ:=ρ) (M:=M) t j vals hp' (fun k hk=>(hv k hk).2)
 rcases hc with ⟨ha,hle,hr⟩|⟨ha,hlt,hr⟩
 ·refine ⟨_,?_,hr⟩;have:=run_loadVar (P:=P) (w:=w) t hu B (off+j) (fun k=>vals (j+k)) (fun k hk=>by
   have:=(hv (j+k) (by omega)).1
   rwa [<- Nat.add_assoc] at this) (.inl ha)
  rw [ha,if_pos rfl] at this;exact this
 ·refine ⟨_,?_,hr⟩;have hcell:=(hv j hlt).1;obtain ⟨d,hu⟩:=hu;unfold loadVar;rw [Sem.run_bind,eq_isAgg w hu,ha];simp only [Result.andThen_ok,Bool.false_eq_true,if_false];rw [run_load];simp [hcell]
theorem res_run {s:St} (h:SRel U w0 n ρ M s.tmf s.hpf s.nx a w) (x:ResultVar) {v:AV} (hx:resAV E s x=some v):∃ u,(resRun a.tmps x).run E.P w=.ok u w/\Rel ρ M u v:=by
 cases x with
 | tmp t =>
  simp only [resAV,Option.some.injEq] at hx;subst hx;exact ⟨_,by simp [resRun],h.tm t⟩
 | cell ad t =>
  simp only [resAV] at hx;split at hx
  ·rename_i b g i j hptr;have hrel:=h.tm ad;rw [show s.tmf ad=.ptr b g i j from hptr] at hrel;obtain ⟨L,hL,hq,hi⟩:=hrel.ptrInv;split at hx
   ·rename_i g' sz pu q hb;split at hx
    ·rename_i hg;subst hg;split at hx
     ·rename_i hlt;obtain ⟨L',e1,e2,hv,vals,e4,e5⟩:=row_cells h hb i (by simpa using hlt)
      rw [hL] at e1; cases e1;obtain ⟨u,hu,hr⟩:=load_val t (q.get i) L.B (L.o+i * L.sz) j vals hx e5;refine ⟨u,?_,hr⟩;simp only [resRun,Sem.run_bind,hq];simp [asAddr,hu]
     ·cases hx
    ·cases hx
   ·cases hx
  ·cases hx
theorem res_runs {s:St} (h:SRel U w0 n ρ M s.tmf s.hpf s.nx a w):∀ (l:List ResultVar) (vs:List AV),resAVs E s l=some vs ->
  ∃ us:List Value,us.length=l.length/\vs.length=l.length/\(∀ (i:Nat) x u,l[i]?=some x->us[i]?=some u->(resRun a.tmps x).run E.P w=.ok u w)/\∀ i,i<us.length->Rel ρ M (us.getD i Go.undef) (vs.getD i .undef)
 | [],vs,hv=>by
  simp only [resAVs,Option.some.injEq] at hv;subst hv;exact ⟨[],rfl,rfl,fun i x u hx=>by simp at hx,fun i hi=>by simp at hi⟩
 | x::l,vs,hv=>by
  simp only [resAVs] at hv;split at hv
  ·rename_i v r hx hr;simp only [Option.some.injEq] at hv;subst hv;obtain ⟨u,hu1,hu2⟩:=res_run h x hx;obtain ⟨us,k1,k2,k3,k4⟩:=res_runs h l r hr;refine ⟨u::us,by simp [k1],by simp [k2],fun i y z hy hz=>?_,fun i hi=>?_⟩
   ·cases i with
    | zero=>simp at hy hz; subst hy; subst hz; exact hu1
    | succ i=>exact k3 i y z (by simpa using hy) (by simpa using hz)
   ·cases i with
    | zero=>simpa using hu2
    | succ i=>simpa using k4 i (by simpa using hi)
  ·cases hv
theorem tup_rel {us:List Value} {vs:List AV} (hl:us.length=vs.length) (h:∀ i,i<us.length->Rel ρ M (us.getD i Go.undef) (vs.getD i .undef)):Rel ρ M (tupV us) (tupAV vs):=by
 have gen:∀ (us:List Value) (vs:List AV),us.length=vs.length->(∀ i,i<us.length->Rel ρ M (us.getD i Go.undef) (vs.getD i .undef))->Rel ρ M (.tuple us.toArray) (.tup vs):=by
  intro us vs hl h;refine .tup _ _ (by simpa using hl) (fun i hi=>?_)
  have:=h i (by omega)
  have hi':i<us.length:=by omega
  simpa [hi'] using this
 match us,vs,hl,h with
 | [],[],hl,h=>exact gen [] [] hl h
 | [u],[v],hl,h =>
  show Rel ρ M u v;simpa using h 0 (by simp)
 | u::u'::us,v::v'::vs,hl,h=>exact gen _ _ hl h
theorem argsK_eq (cl:Bool):∀ (l:List AV) (tm:T AV) (k:Nat),∃ tm',(∀ K:T AV->VT,argsK cl tm l k K=K tm')/\∀ t,tm'.get .undef t=if k<=t/\t<k+l.length then (l.getD (t - k) .undef).norm cl else tm.get .undef t
 | [],tm,k=>⟨tm,fun _=>rfl,fun t=>by
   rw [if_neg]; simp only [List.length_nil]; omega⟩
 | x::r,tm,k=>by
  simp only [argsK,AV.force_eq,T.setK_eq];obtain ⟨tm',h1,h2⟩:=argsK_eq cl r (tm.set .undef k (x.norm cl)) (k+1);refine ⟨tm',h1,fun t=>?_⟩
  rw [h2 t];by_cases e:t=k
  ·subst e;rw [if_neg (by omega),T.set_get,if_pos rfl,if_pos (by simp)]
   simp
  ·by_cases hin:k+1<=t/\t<k+1+r.length
   ·rw [if_pos hin,if_pos (by simp only [List.length_cons]; omega)]
    have:t - k=(t - (k+1))+1:=by omega
    rw [this];simp
   ·rw [if_neg hin,T.set_get,if_neg e,if_neg (by simp only [List.length_cons]; omega)]
end
theorem setArgs_rel {ρ:Rho} {M:Mem} {n:Nat} (cl:Bool) (hn:n<=slotD):∀ (ps:List Tmp) (xs:List AV) (vs:List Value) (tmps:Array Value) (tm:T AV),vs.length=xs.length->(∀ t∈ps,t<n)->tmps.size=n ->
  (∀ i,i<xs.length->Rel ρ M (vs.getD i Go.undef) (xs.getD i .undef))->(∀ t,Rel ρ M (tmps.getD t Go.undef) (tm.get .undef t)) ->
  ∃ tm',(∀ K,setArgsK cl (ps.zip xs) tm K=K tm')/\((ps.zip vs).foldl (fun tmps (p:Tmp×Value)=>tmps.setIfInBounds p.1 p.2) tmps).size=n /\
   (∀ t,Rel ρ M (((ps.zip vs).foldl (fun tmps (p:Tmp×Value)=>tmps.setIfInBounds p.1 p.2) tmps).getD t Go.undef) (tm'.get .undef t))/\tm'.get .undef slotD=tm.get .undef slotD
 | [],xs,vs,tmps,tm,_,_,hsz,_,h=>⟨tm,fun _=>rfl,hsz,h,rfl⟩
 | p::ps,[],vs,tmps,tm,hl,_,hsz,_,h=>by
  have:vs=[]:=List.eq_nil_of_length_eq_zero hl;subst this;exact ⟨tm,fun _=>rfl,hsz,h,rfl⟩
 | p::ps,x::xs,[],tmps,tm,hl,_,hsz,_,h=>by simp at hl
 | p::ps,x::xs,v::vs,tmps,tm,hl,hp,hsz,hx,h=>by
  have hp0:p<n:=hp p (List.mem_cons_self ..);obtain ⟨tm',k1,k2,k3,k4⟩:=setArgs_rel cl hn ps xs vs (tmps.setIfInBounds p v) (tm.set .undef p (x.norm cl)) (by simpa using hl) (fun t ht=>hp t (List.mem_cons_of_mem _ ht)) (by simpa using hsz)
   (fun i hi=>by have:=hx (i+1) (by simpa using hi); simpa using this) (fun t=>by
    rw [T.set_get];by_cases e:t=p
    ·subst e;rw [if_pos rfl];have hlt:t<tmps.size:=by rw [hsz]; exact hp0
     have e2:(tmps.setIfInBounds t v).getD t Go.undef=v:=by simp [hlt]
     rw [e2];have:=hx 0 (by simp)
     exact Rel.norm cl (by simpa using this)
    ·rw [if_neg e];have e2:(tmps.setIfInBounds p v).getD t Go.undef=tmps.getD t Go.undef:=by simp [Array.getElem?_setIfInBounds_ne (Ne.symm e)]
     rw [e2];exact h t)
  refine ⟨tm',fun K=>?_,k2,k3,?_⟩
  ·simp only [List.zip_cons_cons,setArgsK,AV.force_eq,T.setK_eq];exact k1 K
  ·rw [k4,T.set_get,if_neg (fun e=>absurd hn (Nat.not_le.2 (by rw [e]; exact hp0)))]
section
variable {U:Base} {w0:World} {n:Nat} {ρ ρ':Rho} {M M':Mem} {tm:Nat->AV} {hp hp':Nat->Blk} {nx nx':Nat} {a:Act} {w w':World}
theorem SRel.back (h:SRel U w0 n ρ M tm hp nx a w) (hmk:∀ r∈marksOf a.defers,U.U r/\r<w0.heap.size) {c d:Bool} {n':Nat} {tm':Nat->AV} {a':Act} (k:SRel ⟨U.U,U.M0,c,d⟩ w0 n' ρ' M' tm' hp' nx' a' w') (hg:RExt ρ ρ') (hM:MExt M M') (habs:∀ b k on sp r,hp' b=.loop (.abs k on sp) r->∃ k0 on0 r0,hp b=.loop (.abs k0 on0 sp) r0) :
  SRel U w0 n ρ' M' tm hp' nx' a w':=by
 refine ⟨h.size,fun t=>(h.tm t).mono hg hM,k.hok,k.dead,k.free,k.keep,k.memN,k.memE,k.own,h.nle,k.ownL,h.defers.mono hg hM,⟨h.marks.1,fun r hr=>?_⟩,h.mown,h.nod,fun b kk on sp r e=>?_,fun b d e=>?_⟩
 case refine_3 =>
  obtain ⟨q1,q2,q3⟩:=k.ext.2 b d e;refine ⟨q1,q2.chg (fun _=>rfl) (fun B hB=>?_),q3⟩
  obtain ⟨k1,k2,k3,_⟩:=k.famB_own e hB;exact ⟨k1,k2,k3,fun r hr hrB=>by
   obtain ⟨h1,h2⟩:=hmk r hr;have:=k1 (hrB▸h1);omega⟩
 case refine_2 =>
  obtain ⟨C,T,hC⟩:=k.ext.1 b kk on sp r e;obtain ⟨k0,on0,r0,e0⟩:=habs b kk on sp r e;obtain ⟨C0,T0,hC0⟩:=h.ext.1 b k0 on0 sp r0 e0
  exact ⟨C,T,hC.stab,hC.law,hC.n0,hC.lt,hC.now,hC.row,hC.loop,hC.only,hC.me,hC.mem,hC.memB,hC.tm,fun q hq=>⟨fun hc=>by
   obtain ⟨h1,h2⟩:=hmk q hq;have:=hC.own q hc h1;omega,(hC0.marks q hq).2⟩,hC.own⟩
 obtain ⟨h1,h2⟩:=hmk r hr;rw [k.keep.block r h1 h2,<- h.keep.block r h1 h2];exact h.marks.2 r hr
theorem SRel.setD (h:SRel U w0 n ρ M tm hp nx a w) {tm':Nat->AV} {ds:List Deferred} (ht:∀ t,tm' t=tm t\/∀ v,Rel ρ M v (tm' t)) (hd:DfL ρ M ds (dfL (tm' slotD))) (hm:marksOf ds=marksOf a.defers) (hn:U.nod=true->ds=[]) :
  SRel U w0 n ρ M tm' hp nx { a with defers:=ds } w :=
 ⟨h.size,fun t=>(by rcases ht t with e|e; (rw [e]; exact h.tm t); exact e _),h.hok,h.dead,h.free,h.keep,h.memN,h.memE,h.own,h.nle,h.ownL,hd,by simp only [hm]; exact h.marks,by simp only [hm]; exact h.mown,hn,by simp only [hm]; exact h.ext⟩
theorem SRel.take (h:SRel U w0 n ρ M tm hp nx a w) (hc:U.cur=true) {d:Deferred} {ds:List Deferred} {r:Nat} (hd:a.defers=d::ds) (ht:d.target=.collected r) (hn:U.nod=true->ds=[]) :
  SRel U w0 n ρ M tm hp nx { a with defers:=ds } (w.putObj r (.deferred none)):=by
 have hmk:marksOf a.defers=r::marksOf ds:=by rw [hd]; simp [marksOf,ht]
 have hr:=h.marks.2 r (by rw [hmk]; exact List.mem_cons_self ..)
 have hlt:=heap_lt hr;have hnd:=h.marks.1;rw [hmk] at hnd;have hnew:∀ B,B≠r->(w.putObj r (.deferred none)).heap[B]?=w.heap[B]?:=fun B hB=>World.putObj_heap_other hB
 refine ⟨h.size,h.tm,⟨fun B i v hm=>?_,fun b g sz pu sq e=>?_,h.hok.inj,h.hok.gen,fun b st rr e=>?_,h.hok.linj⟩,h.dead,h.free,⟨h.keep.os,h.keep.tape,h.keep.output,by rw [World.putObj_size]; exact h.keep.size,fun B hU hB=>?_⟩,h.memN,h.memE,h.own,h.nle,h.ownL,?_,
  ⟨(List.nodup_cons.1 hnd).2,fun q hq=>?_⟩,fun hc' q hq hU=>h.mown hc' q (by rw [hmk]; exact List.mem_cons_of_mem _ hq) hU,hn,
  h.extStep (w':=w.putObj r (.deferred none)) rfl rfl rfl (by rw [World.putObj_size]; exact Nat.le_refl _) (fun _ _ _ _ r e=>⟨r,e⟩) (fun b g sz pu s L h1 h2 h3=>.inr ⟨b,g,sz,pu,s,L,h1,h2,h3,rfl⟩) (fun _ st r L h1 h2=>.inr ⟨st,r,L,h1,h2,rfl⟩)
   (MExt.refl M) (fun _ _ _ hm=>.inl hm) (fun q hq=>.inl (by rw [hmk]; exact List.mem_cons_of_mem _ hq)) (fun _ h1 h2=>⟨h1,h2⟩) (fun _ _ e=>⟨e,fun _=>rfl⟩) (fun B _=>(Classical.em (B=r)).elim (fun e=>.inr (.inr (.inr (by rw [hmk,e]; exact List.mem_cons_self ..)))) fun e=>.inl (hnew B e))⟩
 ·have hcell:=h.hok.mem B i v hm;have hne:B≠r:=fun e=>by
   rw [e] at hcell;have:=hcell.1;simp [World.cell?,hr] at this
  rw [cell_congr (hnew B hne)];exact hcell
 ·obtain ⟨L,k1,k2,k3,k4⟩:=h.hok.row b g sz pu sq e;refine ⟨L,k1,k2,k3,?_⟩;rcases k4 with k4|⟨hv,c,ee,k5,k6⟩
  ·exact .inl k4
  ·exact .inr ⟨hv,c,ee,(hnew L.B (fun e'=>by rw [e',hr] at k5; cases k5)).trans k5,k6⟩
 ·exact (h.hok.loop b st rr e).mono (RExt.refl ρ) (MExt.refl M) fun L _ lp e2=>(hnew L.B (fun e'=>by rw [e',hr] at e2; cases lp <;> cases e2)).trans e2
 ·have hne:B≠r:=fun e=>by
   have:=h.mown hc r (by rw [hmk]; exact List.mem_cons_self ..) (e▸hU)
   omega
  rw [hnew B hne];exact h.keep.block B hU hB
 ·have:=h.defers;rw [hd] at this;unfold DfL at this;rw [ht] at this;exact this
 ·have hq':=h.marks.2 q (by rw [hmk]; exact List.mem_cons_of_mem _ hq)
  rw [hnew q (fun e=>(List.nodup_cons.1 hnd).1 (e▸hq))]
  exact hq'
end
def tmD (tm:Nat->AV) (l:List AV):Nat->AV:=fun t=>if t=slotD then .opt true 0 false (.tup l) else tm t
theorem tmD_slot (tm:Nat->AV) (l:List AV):dfL (tmD tm l slotD)=l:=by simp [tmD,dfL]
theorem vcEnd_inv {call:CallH} {x:AV} {l:List AV} {s:St} {K:St->VT} (h:(vcEnd call (x::l) s K).sat):∃ g first cap,x=.fn (.func g) first cap/\(call (.dfn g) (first++cap) s.hp s.nx fun _ hp nx=>vcEnd call l ⟨s.tm,hp,nx⟩ K).sat:=by
 cases x <;> first|exact h.elim|skip
 rename_i f first cap;cases f <;> first|exact h.elim|exact ⟨_,_,_,rfl,h⟩
section
variable {E:Env} {call:CallH} (hc:CallS E.P E.gl call) {U:Base} {w0:World} (hG:GlobOK U.M0 E.gl) (hcur:U.cur=true) (hnod:U.nod=false) {fn:Func} {n:Nat}
include hc hG hcur hnod
theorem leaves_sound {R:Ending->World->Prop} {KR:St->VT} {tmps:Array Value}:∀ (ds:List Deferred) (l:List AV) (s:St) (ρ:Rho) (M:Mem) (w:World),SRel U w0 n ρ M (tmD s.tmf l) s.hpf s.nx ⟨tmps,ds⟩ w->dfL (s.tmf slotD)=[]->Rel ρ M (tmps.getD slotD Go.undef) (s.tmf slotD)->(vcEnd call l s KR).sat ->
  (∀ s' ρ' M' w',Grow ρ ρ' s.hpf s'.hpf s.nx s'.nx->MExt M M'->SRel U w0 n ρ' M' s'.tmf s'.hpf s'.nx ⟨tmps,[]⟩ w'->(KR s').sat->∃ v,(results fn tmps).run E.P w'=.ok v w'/\R (.returned v) w') ->
  LeavesInM (WF none) 0 E.P fn tmps R ds .returning w
 | [],l,s,ρ,M,w,h,h0,hD,hs,hR=>by
  have hl:l=[]:=by have:=h.defers; rw [tmD_slot] at this; unfold DfL at this; exact this
  subst hl;have hs:(KR s).sat:=hs;refine hR s ρ M w (Grow.refl _ _ _) (MExt.refl M) ?_ hs;refine ⟨h.size,fun t=>?_,h.hok,h.dead,h.free,h.keep,h.memN,h.memE,h.own,h.nle,h.ownL,by rw [h0]; rfl,h.marks,h.mown,h.nod,h.ext⟩
  by_cases e:t=slotD
  ·subst e; exact hD
  ·have:=h.tm t;simp only [tmD,if_neg e] at this;exact this
 | d::ds,l,s,ρ,M,w,h,h0,hD,hs,hR=>by
  have hdf:=h.defers;rw [tmD_slot] at hdf;unfold LeavesInM;refine ⟨by simp,?_⟩
  cases ht:d.target with
  | collected r =>
   refine .inl ⟨r,_,rfl,run_takeDeferred (h.marks.2 r (by simp [marksOf,ht])),?_⟩
   have h1:=h.take hcur rfl ht (fun e=>by rw [hnod] at e; cases e)
   exact leaves_sound ds l s ρ M _ h1 h0 hD hs hR
  | fn fv cap =>
   unfold DfL at hdf;rw [ht] at hdf;simp only at hdf;cases l with
   | nil=>exact hdf.elim
   | cons x l =>
    obtain ⟨hx,hdf⟩:=hdf;obtain ⟨g,first,cap',rfl,hs⟩:=vcEnd_inv hs;obtain ⟨fs,cs,e1,e2,e3,e4,e5⟩:=hx.fnInv;cases e1;have h1:SRel U w0 n ρ M (tmD s.tmf l) s.hpf s.nx ⟨tmps,ds⟩ w :=
     h.setD (ds:=ds) (tm':=tmD s.tmf l) (fun t=>by
      by_cases e:t=slotD
      ·subst e; exact .inr fun v=>by simp only [tmD,if_pos]; exact .pure (.opt _ _ _ _ _)
      ·exact .inl (by simp only [tmD,if_neg e])) (by rw [tmD_slot]; exact hdf) (by simp [marksOf,ht]) (fun e=>by rw [hnod] at e; cases e)
    have hmask:=h1.mask [] (hpm:=s.hpf) (fun b=>by simp)
    have hargs:ArgsRel ρ M (d.args++cap) (first++cap'):=ArgsRel.app ⟨e2,e4⟩ ⟨e3,e5⟩;obtain ⟨⟨fnn,q1,q2,q3⟩,hcl⟩:=hc (.dfn g) _ s.hp s.nx _ hs _ w n ρ M (tmD s.tmf l) _ w _ (fun g=>(hG g).mono h.memE) hmask (h1.mask_marks []) hargs
    have q4:fnn.body≠none:=by intro hb; rw [hb] at q2; cases q2
    have q5 : fnn.name ≠ "runtime.NumGoroutine" := by simpa using q3
    refine .inr ⟨fun e=>(by cases e),.func g,cap,g,d.args++cap,rfl,?_,fun _ _=>trivial,?_⟩
    ·simp [invoke,callFunc,q1,q5,q4]
    ·refine CallsDIn.mono (hcl .returning) fun e u' w' hp=>?_
     obtain ⟨rfl,u,y,ρ',M',hp',nx',rfl,k2,k3,k4,k5,hpt,k6,k7⟩:=hp;obtain ⟨k8,k9⟩:=h1.unmask [] (hpm:=s.hpf) (hp':=fun b=>hpt.get .dead b) (fun b=>by simp) k5 k2 k3 (fun b=>by simpa using k6 b) (fun b hb=>by cases hb)
     refine leaves_sound ds l ⟨s.tm,hpt,nx'⟩ ρ' M' w' k8 h0 (hD.mono k9.rx.ext k3) k7 fun s' ρ2 M2 w2 g1 g2 g3 g4=>hR s' ρ2 M2 w2 (k9.trans g1) (k3.trans g2) g3 g4
  | nil=>unfold DfL at hdf; rw [ht] at hdf; exact hdf.elim
  | builtin=>unfold DfL at hdf; rw [ht] at hdf; exact hdf.elim
  | coroexit=>unfold DfL at hdf; rw [ht] at hdf; exact hdf.elim
end
theorem res_post {E:Env} {U:Base} {w0:World} {n:Nat} {ρ:Rho} {M:Mem} {tm:Nat->AV} {hp:T Blk} {nx:Nat} {a:Act} {w:World} (h:SRel U w0 n ρ M tm (fun b=>hp.get .dead b) nx a w) (hmk:∀ r∈marksOf a.defers,U.U r/\r<w0.heap.size) {K:AV->T Blk->Nat->VT} {fn:Func}
  {c d:Bool} {n':Nat} {ρ':Rho} {M':Mem} {s':St} {a':Act} {w':World} (k1:Grow ρ ρ' (fun b=>hp.get .dead b) s'.hpf nx s'.nx) (k2:MExt M M') (k3:SRel ⟨U.U,U.M0,c,d⟩ w0 n' ρ' M' s'.tmf s'.hpf s'.nx a' w') (hs:(vcRes E fn K s').sat) :
  ∃ v,(results fn a'.tmps).run E.P w'=.ok v w'/\CallPost U w0 n ρ M tm (fun b=>hp.get .dead b) nx a (fun x hp' nx' _ _=>∃ hpt:T Blk,(∀ b,hpt.get .dead b=hp' b)/\(K x hpt nx').sat) (.returned v) w':=by
 unfold vcRes at hs;split at hs
 ·rename_i l hres;rw [AV.force_eq] at hs;obtain ⟨us,m1,m2,m3,m4⟩:=res_runs k3 _ l hres
  exact ⟨tupV us,results_run m1 m3,tupV us,(tupAV l).norm E.cl,ρ',M',s'.hpf,s'.nx,rfl,k1,k2,(tup_rel (by omega) m4).norm E.cl,h.back hmk k3 k1.rx.ext k2 k1.abs,s'.hp,fun _=>rfl,hs⟩
 ·exact hs.elim
theorem start_rel {U:Base} {w0:World} {n:Nat} {ρ:Rho} {M:Mem} {tm:Nat->AV} {hp:T Blk} {nx:Nat} {a:Act} {w:World} {vals:Array Value} {args:List AV} (h:SRel U w0 n ρ M tm (fun b=>hp.get .dead b) nx a w) (hargs:ArgsRel ρ M vals args) {k:Nat} (hk1:args.length<=k) (hk2:k<=slotD) (cl:Bool) (d:Bool) :
  ∃ tm',(∀ K:T AV->VT,argsK cl .nil args 0 K=K tm')/\SRel ⟨U.U,U.M0,true,d⟩ w0 k ρ M (St.tmf ⟨tm',hp,nx⟩) (St.hpf ⟨tm',hp,nx⟩) nx { tmps:=vals++Array.replicate (k - vals.size) Go.undef,defers:=[] } w:=by
 obtain ⟨tm',h1,h2⟩:=argsK_eq cl args .nil 0;refine ⟨tm',h1,?_,fun t=>?_,h.hok,h.dead,h.free,h.keep,h.memN,h.memE,h.own,hk2,h.ownL,?_,⟨List.nodup_nil,fun r hr=>(by cases hr)⟩,fun _ r hr=>(by cases hr),fun _=>rfl,h.ext.same' h.mine_mem⟩
 ·simp only [Array.size_append,Array.size_replicate,hargs.1]; omega
 ·show Rel ρ M _ (tm'.get .undef t);rw [h2 t];split
  ·rename_i hin;have hlt:t<vals.size:=by rw [hargs.1]; omega
   have:=hargs.2 t (by omega)
   have e:(vals++Array.replicate (k - vals.size) Go.undef).getD t Go.undef=vals.getD t Go.undef:=by
    rw [Array.getD_eq_getD_getElem?,Array.getElem?_append_left hlt,Array.getD_eq_getD_getElem?]
   rw [e];simpa using this.norm cl
  ·simp only [T.get]; exact .undef _
 ·show DfL ρ M [] (dfL (tm'.get .undef slotD));rw [h2 slotD,if_neg (by omega)]
  rfl
section
variable {E:Env} {call:CallH} (hm:E.P.follows .mixedOrders=true) (hc:CallS E.P E.gl call) (hctr:CtrOK E)
include hm hc hctr
theorem vcBody_sound {f:FuncId} {args:List AV} {hp:T Blk} {nx:Nat} {K:AV->T Blk->Nat->VT} (hs:(vcBody (E.at .top) call f args hp nx K).sat) {U w0 n ρ M tm a w vals} (hG:GlobOK U.M0 E.gl) (h:SRel U w0 n ρ M tm (fun b=>hp.get .dead b) nx a w)
  (hmk:∀ r∈marksOf a.defers,U.U r/\r<w0.heap.size) (hargs:ArgsRel ρ M vals args) :
  FnOK E.P f/\Calls E.P f vals w (CallPost U w0 n ρ M tm (fun b=>hp.get .dead b) nx a fun x hp' nx' _ _=>∃ hpt:T Blk,(∀ b,hpt.get .dead b=hp' b)/\(K x hpt nx').sat):=by
 unfold vcBody at hs;split at hs
 ·rename_i fn hfn;split at hs
  ·rename_i c hbody;split at hs
   ·rename_i hchk;simp only [Bool.and_eq_true,decide_eq_true_eq,Bool.not_eq_true'] at hchk;obtain ⟨⟨hk1,hk2⟩,hk3⟩:=hchk;obtain ⟨tm',h1,hstart⟩:=start_rel h hargs hk1 hk2 E.cl false;have ecl:(E.at .top).cl=E.cl:=rfl;rw [ecl,h1] at hs
    refine ⟨⟨fn,hfn,by simp [hbody],hk3⟩,callsIn_WF.1 (callsIn_of_wp_marks (F:=WF none) (n:=0) hfn hbody trivial ?_)⟩
    refine vcCode_sound (E:=E.at .top) hm hc hctr (U:=⟨U.U,U.M0,true,false⟩) hG f none c none _ _ ρ M _ w _ hs hstart ⟨rfl,rfl⟩ ?_;intro ex s' ρ' M' a' w' k1 k2 k3 k4
    have fin:(clearD s'.tm fun tm=>vcEnd call (dfL (s'.tmf slotD)) ⟨tm,s'.hp,s'.nx⟩ (vcRes (E.at .top) fn K)).sat->LeavesInM (WF none) 0 E.P fn a'.tmps (CallPost U w0 n ρ M tm (fun b=>hp.get .dead b) nx a fun x hp' nx' _ _=>∃ hpt:T Blk,(∀ b,hpt.get .dead b=hp' b)/\(K x hpt nx').sat) a'.defers .returning w':=by
     intro hf;obtain ⟨tmR,hR0,hR1,hR2⟩:=clearD_eq s'.tm;rw [hR0] at hf;have hst:SRel ⟨U.U,U.M0,true,false⟩ w0 fn.ntmps ρ' M' (tmD (St.tmf ⟨tmR,s'.hp,s'.nx⟩) (dfL (s'.tmf slotD))) s'.hpf s'.nx ⟨a'.tmps,a'.defers⟩ w' :=
      k3.setD (ds:=a'.defers) (fun t=>by
       by_cases e:t=slotD
       ·subst e; exact .inr fun v=>by simp only [tmD,if_pos]; exact .pure (.opt _ _ _ _ _)
       ·simp only [tmD,if_neg e];rcases hR2 t with e'|e'
        ·exact .inl e'
        ·exact .inr fun v=>by
          show Rel ρ' M' v (tmR.get .undef t);rw [e']; exact .undef v) (by rw [tmD_slot]; exact k3.defers) rfl (fun e=>by cases e)
     refine leaves_sound (E:=E) (U:=⟨U.U,U.M0,true,false⟩) hc hG rfl rfl a'.defers _ ⟨tmR,s'.hp,s'.nx⟩ ρ' M' w' hst hR1 ?_ hf ?_
     ·show Rel ρ' M' _ (tmR.get .undef slotD);rcases hR2 slotD with e'|e'
      ·rw [e']; exact k3.tm slotD
      ·rw [e']; exact .undef _
     ·intro s2 ρ2 M2 w2 g1 g2 g3 g4;exact res_post (E:=E.at .top) (a':=⟨a'.tmps,[]⟩) h hmk (k1.trans g1) (k2.trans g2) g3 g4
    cases ex with
    | normal=>exact fin k4
    | ret=>exact fin k4
    | exit id=>exact k4.elim
   ·exact hs.elim
  ·exact hs.elim
 ·exact hs.elim
theorem vcBodyD_sound {f:FuncId} {args:List AV} {hp:T Blk} {nx:Nat} {K:AV->T Blk->Nat->VT} (hs:(vcBody (E.at .nodef) call f args hp nx K).sat) {U w0 n ρ M tm a w vals} (hG:GlobOK U.M0 E.gl) (h:SRel U w0 n ρ M tm (fun b=>hp.get .dead b) nx a w)
  (hmk:∀ r∈marksOf a.defers,U.U r/\r<w0.heap.size) (hargs:ArgsRel ρ M vals args) :
  FnOK E.P f/\∀ u,CallsDIn Fence.wide 0 E.P f vals u w fun e u' w'=>u'=u/\CallPost U w0 n ρ M tm (fun b=>hp.get .dead b) nx a (fun x hp' nx' _ _=>∃ hpt:T Blk,(∀ b,hpt.get .dead b=hp' b)/\(K x hpt nx').sat) e w':=by
 unfold vcBody at hs;split at hs
 ·rename_i fn hfn;split at hs
  ·rename_i c hbody;split at hs
   ·rename_i hchk;simp only [Bool.and_eq_true,decide_eq_true_eq,Bool.not_eq_true'] at hchk;obtain ⟨⟨hk1,hk2⟩,hk3⟩:=hchk;obtain ⟨tm',h1,hstart⟩:=start_rel h hargs hk1 hk2 E.cl true;have ecl:(E.at .nodef).cl=E.cl:=rfl;rw [ecl,h1] at hs
    refine ⟨⟨fn,hfn,by simp [hbody],hk3⟩,fun u=>callsDIn_of_wp (F:=Fence.wide) (n:=0) hfn hbody trivial ?_⟩
    refine vcCode_sound (E:=E.at .nodef) hm hc hctr (U:=⟨U.U,U.M0,true,true⟩) hG f none c none _ _ ρ M _ w _ hs hstart rfl ?_;intro ex s' ρ' M' a' w' k1 k2 k3 k4;have hd0:a'.defers=[]:=k3.nod rfl
    have fin:(clearD s'.tm fun tm=>vcEnd call (dfL (s'.tmf slotD)) ⟨tm,s'.hp,s'.nx⟩ (vcRes (E.at .nodef) fn K)).sat->∃ v,(results fn a'.tmps).run E.P w'=.ok v w'/\CallPost U w0 n ρ M tm (fun b=>hp.get .dead b) nx a (fun x hp' nx' _ _=>∃ hpt:T Blk,(∀ b,hpt.get .dead b=hp' b)/\(K x hpt nx').sat) (.returned v) w':=by
     intro hf;have hl:dfL (s'.tmf slotD)=[]:=by have:=k3.defers; rw [hd0] at this; unfold DfL at this; exact this
     have hl':dfL (s'.tm.get .undef slotD)=[]:=hl;simp only [clearD,hl',hl] at hf;exact res_post (E:=E.at .nodef) h hmk k1 k2 k3 hf
    cases ex with
    | normal=>exact ⟨hd0,fin k4⟩
    | ret=>exact ⟨hd0,fin k4⟩
    | exit id=>exact k4.elim
   ·exact hs.elim
  ·exact hs.elim
 ·exact hs.elim
theorem vcRound_sound {b:Nat} {args:List AV} {hp:T Blk} {nx:Nat} {K:AV->T Blk->Nat->VT} (hs:(vcRound (E.at (.round b)) call b args hp nx K).sat) {U w0 n ρ M tm a w vals} (hG:GlobOK U.M0 E.gl) (h:SRel U w0 n ρ M tm (fun b=>hp.get .dead b) nx a w)
  (hmk:∀ r∈marksOf a.defers,U.U r/\r<w0.heap.size) (hargs:ArgsRel ρ M vals args) :
  Reach E.P ρ (.rnd b) vals w (CallPost U w0 n ρ M tm (fun b=>hp.get .dead b) nx a fun x hp' nx' _ _=>∃ hpt:T Blk,(∀ b,hpt.get .dead b=hp' b)/\(K x hpt nx').sat):=by
 unfold vcRound at hs;split at hs
 ·rename_i r hb;split at hs
  ·rename_i hchk;simp only [Bool.and_eq_true,decide_eq_true_eq,List.all_eq_true] at hchk;obtain ⟨hsz,hps⟩:=hchk;obtain ⟨L,lp,s1,p1,f1,f2,f3,⟨rfl,rfl⟩,f5,f6,f7,f8,f9,f10,f11⟩:=(h.hok.loop b .ready r hb).record rfl
   obtain ⟨tm',q1,q2,q3,q4⟩:=setArgs_rel E.cl f9 r.params.toList args vals.toList lp.tmps r.tm (by simpa using hargs.1) hps f8 (fun i hi=>by have:=hargs.2 i hi; simpa using this) f11
   have hy:=run_yield (P:=E.P) (args:=vals) f3 (by show vals.size=lp.params.size; rw [hargs.1,hsz,f5])
   refine ⟨L,_,_,_,_,f1,hy,roundIn_of_wpIn (F:=Fence.wide) trivial ?_⟩
   have hfold:(lp.params.zip vals).foldl (fun tmps (x:Tmp×Value)=>tmps.setIfInBounds x.1 x.2) lp.tmps=(r.params.toList.zip vals.toList).foldl (fun tmps (p:Tmp×Value)=>tmps.setIfInBounds p.1 p.2) lp.tmps:=by
    rw [<- Array.foldl_toList,Array.toList_zip,f5]
   have e1:(E.at (.round b)).cl=E.cl:=rfl;rw [e1,q1] at hs
   have hstart:SRel ⟨U.U,U.M0,true,false⟩ w0 r.n ρ M (St.tmf ⟨tm',hp,nx⟩) (St.hpf ⟨tm',hp,nx⟩) nx { tmps:=(lp.params.zip vals).foldl (fun tmps (x:Tmp×Value)=>tmps.setIfInBounds x.1 x.2) lp.tmps,defers:=[] } w:=by
    rw [hfold];refine ⟨q2,q3,h.hok,h.dead,h.free,h.keep,h.memN,h.memE,h.own,f9,h.ownL,?_,⟨List.nodup_nil,fun r hr=>(by cases hr)⟩,fun _ r hr=>(by cases hr),fun _=>rfl,h.ext.same' h.mine_mem⟩
    show DfL ρ M [] (dfL (tm'.get .undef slotD));rw [q4,f10]; rfl
   have ha:=vcCode_sound (E:=E.at (.round b)) hm hc hctr (U:=⟨U.U,U.M0,true,false⟩) hG r.fn (some L.B) r.assign none _ _ ρ M _ w
    (Exit.then (fun a₁ w₁=>∃ w₂,(Instr.beginRound L.B).run E.P w₁=.ok () w₂/\lp.body.wpIn (Fence.wide.inRound L.B) 0 E.P (roundPost E.P L.B (CallPost U w0 n ρ M tm (fun b=>hp.get .dead b) nx a fun x hp' nx' _ _=>∃ hpt:T Blk,(∀ b,hpt.get .dead b=hp' b)/\(K x hpt nx').sat)) a₁ w₂) (fun _ _ _=>False)) hs hstart ⟨rfl,L,f1,rfl⟩ ?_
   ·rw [<- f6] at ha;exact ha
   ·intro ex s1 ρ1 M1 a1 w1 k1 k2 k3 k4;cases ex with
    | exit id=>exact k4.elim
    | ret=>exact k4.elim
    | normal =>
     simp only at k4;split at k4
     ·rename_i r' hb1;rw [T.setK_eq] at k4;have hL1:ρ1 b 0=some L:=k1.rx.ext _ _ _ f1;obtain ⟨L',lp',s1',p1',g1,g2,g3,⟨rfl,rfl⟩,g5⟩:=(k3.hok.loop b .ready r' hb1).record rfl;rw [hL1] at g1; cases g1;rw [f2] at g2; cases g2
      refine ⟨_,run_beginRound g3 rfl,?_⟩;have hS:=k3.setLoop hb1 hL1 f2 .busy none (.loop .busy r') (.inr ⟨.busy,rfl,rfl⟩);have hhp:updH s1.hpf b (.loop .busy r')=St.hpf ⟨s1.tm,s1.hp.set .dead b (.loop .busy r'),s1.nx⟩:=by
       funext b';show _=(s1.hp.set .dead b (.loop .busy r')).get .dead b';rw [T.set_get]; rfl
      rw [hhp] at hS;have hgr1:Grow ρ ρ1 (fun b=>hp.get .dead b) (St.hpf ⟨s1.tm,s1.hp.set .dead b (.loop .busy r'),s1.nx⟩) nx s1.nx:=by
       refine ⟨k1.rx,k1.le,fun b' h1 h2=>?_,fun b' kk on sp rr e=>?_⟩
       case refine_2 =>
        have e':(s1.hp.set .dead b (.loop .busy r')).get .dead b'=.loop (.abs kk on sp) rr:=e;rw [T.set_get] at e';split at e'
        ·cases e'
        ·exact k1.abs b' kk on sp rr e'
       have hne:b'≠b:=fun e=>by have h2':hp.get .dead b'=.dead:=h2; rw [e,hb] at h2'; cases h2'
       show (s1.hp.set .dead b (.loop .busy r')).get .dead b'=.dead;rw [T.set_get,if_neg hne];exact k1.dead b' h1 h2
      have hbd:=vcCode_sound (E:=E.at (.round b)) hm hc hctr (U:=⟨U.U,U.M0,true,false⟩) hG r.fn (some L.B) r.body none _ ⟨s1.tm,s1.hp.set .dead b (.loop .busy r'),s1.nx⟩ ρ1 M1 a1 _
       (roundPost E.P L.B (CallPost U w0 n ρ M tm (fun b=>hp.get .dead b) nx a fun x hp' nx' _ _=>∃ hpt:T Blk,(∀ b,hpt.get .dead b=hp' b)/\(K x hpt nx').sat)) k4 hS ⟨rfl,L,hL1,rfl⟩ ?_
      ·rw [<- f7] at hbd;exact hbd
      ·intro ex s2 ρ2 M2 a2 w2 j1 j2 j3 j4;unfold vcRoundEnd at j4;split at j4
       ·rename_i r2 hb2;have hL2:ρ2 b 0=some L:=j1.rx.ext _ _ _ hL1;obtain ⟨L',lp',s2',p2',z1,z2,z3,z4,z5⟩:=(j3.hok.loop b .busy r2 hb2).record rfl;rw [hL2] at z1; cases z1;rw [f2] at z2; cases z2
        have fin:∀ (jump:Option Code) (st:LSt) (bb:Bool),bb=jump.isNone->stOK st (if jump.isNone=true then .ready else .done) jump->(K (.bool bb) (s2.hp.set .dead b (.loop st r2)) s2.nx).sat ->
          ∃ v w',(Instr.endRound L.B jump).run E.P w2=.ok v w'/\CallPost U w0 n ρ M tm (fun b=>hp.get .dead b) nx a (fun x hp' nx' _ _=>∃ hpt:T Blk,(∀ b,hpt.get .dead b=hp' b)/\(K x hpt nx').sat) (.returned v) w':=by
         intro jump st bb hbb hst hk;subst hbb;have hS2:=j3.setLoop hb2 hL2 f2 (if jump.isNone=true then .ready else .done) jump (.loop st r2) (.inr ⟨st,rfl,hst⟩)
         have hhp2:updH s2.hpf b (.loop st r2)=fun b'=>(s2.hp.set .dead b (.loop st r2)).get .dead b':=by
          funext b';rw [T.set_get]; rfl
         rw [hhp2] at hS2;have hg2:=hgr1.trans j1;have hg3:Grow ρ ρ2 (fun b=>hp.get .dead b) (fun b'=>(s2.hp.set .dead b (.loop st r2)).get .dead b') nx s2.nx:=by
          refine ⟨hg2.rx,hg2.le,fun b' h1 h2=>?_,fun b' kk on sp rr e=>?_⟩
          ·have hne:b'≠b:=fun e=>by have h2':hp.get .dead b'=.dead:=h2; rw [e,hb] at h2'; cases h2'
           show (s2.hp.set .dead b (.loop st r2)).get .dead b'=.dead;rw [T.set_get,if_neg hne];exact hg2.dead b' h1 h2
          ·have e':(s2.hp.set .dead b (.loop st r2)).get .dead b'=.loop (.abs kk on sp) rr:=e;rw [T.set_get] at e';split at e'
           ·cases e';exact hst.elim
           ·exact hg2.abs b' kk on sp rr e'
         refine ⟨_,_,run_endRound jump z3,.bool jump.isNone,.bool jump.isNone,ρ2,M2,_,s2.nx,rfl,hg3,k2.trans j2,.pure (.bool _),h.back hmk hS2 (k1.rx.ext.trans j1.rx.ext) (k2.trans j2) hg3.abs,s2.hp.set .dead b (.loop st r2),fun _=>rfl,hk⟩
        cases ex with
        | normal =>
         simp only [T.setK_eq] at j4;exact fin none .ready true rfl ⟨rfl,rfl⟩ j4
        | ret =>
         simp only [T.setK_eq] at j4;exact fin (some .ret) (.done .ret) false rfl ⟨rfl,rfl⟩ j4
        | exit id =>
         simp only [T.setK_eq] at j4;exact fin (some (.exit id)) (.done (.exit id)) false rfl ⟨rfl,rfl⟩ j4
       ·exact j4.elim
     ·exact k4.elim
  ·exact hs.elim
 ·exact hs.elim
end
theorem vcCall_sound {E:Env} (hm:E.P.follows .mixedOrders=true) (hctr:CtrOK E):∀ (k:Nat),CallS E.P E.gl (vcCall E k):=by
 intro k;induction k with
 | zero=>intro f args hp nx K hs; exact hs.elim
 | succ k ih =>
  intro c args hp nx K hs U w0 n ρ M tm a w vals hG h hmk hargs;unfold vcCall at hs;simp only at hs;have hcall:CallS E.P E.gl (fun c as hp nx K =>
    match c with
    | .fn g =>
     match E.ctr g as (fun b=>hp.get .dead b) nx with
     | some out=>outVT E.cl hp nx K out
     | none =>
      vcCall E k (.fn g) as hp nx K
    | .dfn g=>vcCall E k (.dfn g) as hp nx K
    | .rnd b=>vcCall E k (.rnd b) as hp nx K):=by
   intro c as hp nx K hs U w0 n ρ M tm a w vals hG h hmk hargs;cases c with
   | fn g =>
    simp only at hs;split at hs
    ·rename_i out ho;exact out_call out hs (hctr.1 g as _ nx out ho U w0 n ρ M tm a w vals hG h hargs)
    ·exact ih (.fn g) as hp nx K hs U w0 n ρ M tm a w vals hG h hmk hargs
   | dfn g=>exact ih (.dfn g) as hp nx K hs U w0 n ρ M tm a w vals hG h hmk hargs
   | rnd b=>exact ih (.rnd b) as hp nx K hs U w0 n ρ M tm a w vals hG h hmk hargs
  cases c with
  | fn f=>exact vcBody_sound hm hcall hctr hs hG h hmk hargs
  | dfn f=>exact vcBodyD_sound hm hcall hctr hs hG h hmk hargs
  | rnd b=>exact vcRound_sound hm hcall hctr hs hG h hmk hargs
theorem vcFun_sound {E:Env} (hm:E.P.follows .mixedOrders=true) (hctr:CtrOK E) (k:Nat) {f:FuncId} {args:List AV} {hp:T Blk} {nx:Nat} {K:AV->T Blk->Nat->VT} (hs:(vcFun E k f args hp nx K).sat) (U:Base) (w0:World) (n:Nat) (ρ:Rho) (M:Mem) (tm:Nat->AV) (a:Act) (w:World) (vals:Array Value)
  (hG:GlobOK U.M0 E.gl) (h:SRel U w0 n ρ M tm (fun b=>hp.get .dead b) nx a w) (hmk:∀ r∈marksOf a.defers,U.U r/\r<w0.heap.size) (hargs:ArgsRel ρ M vals args) :
  FnOK E.P f/\Calls E.P f vals w (CallPost U w0 n ρ M tm (fun b=>hp.get .dead b) nx a fun x hp' nx' _ _=>∃ hpt:T Blk,(∀ b,hpt.get .dead b=hp' b)/\(K x hpt nx').sat) :=
 vcCall_sound hm hctr k (.fn f) args hp nx K hs U w0 n ρ M tm a w vals hG h hmk hargs
end Pw
