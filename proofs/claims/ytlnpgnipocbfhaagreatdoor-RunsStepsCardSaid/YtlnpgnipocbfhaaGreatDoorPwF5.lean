/- ENGINE, part F5: straight regions. -/
import Derived.Test.YtlnpgnipocbfhaaGreatDoorPwF1
namespace Pw
open Go
theorem wanted_off {ops asg tm ρ M} {a:Act} {o:Oper} {gd:Option GD} (hg:gdIs ops asg tm o gd) (hL:Looks ops asg tm ρ M a o) {b:Bool} (hm:metG gd=b):Region.wanted o (yielded ops a.tmps)=b:=by
 rw [gd_wanted hg hL,hm]
section
variable {U:Base} {w0:World} {n:Nat} {ρ ρ':Rho} {M M':Mem} {tm:Nat->AV} {hp hp':Nat->Blk} {nx nx':Nat} {a:Act} {w w':World} {asg:List Nat} {dst:Option Tmp} {u:Value} {out:AV}
theorem put_step (h:SRel U w0 n ρ' M' tm hp' nx' a w') (hsl:∀ t∈asg,SlotOK ρ' M' (a.tmps.getD t Go.undef) (tm t)) (hout:SlotOK ρ' M' u out) (hd:dstOK n asg dst=true) :
  SRel U w0 n ρ' M' (putF tm dst out) hp' nx' (a.put dst u) w'/\∀ t∈dst.toList++asg,SlotOK ρ' M' ((a.put dst u).tmps.getD t Go.undef) (putF tm dst out t):=by
 cases dst with
 | none =>
  have e:putF tm none out=tm:=by funext t; simp [putF]
  rw [e];exact ⟨h,hsl⟩
 | some d =>
  simp only [dstOK,Bool.and_eq_true,decide_eq_true_eq,Bool.not_eq_true'] at hd;have h0:d ∉ asg:=by simpa using hd.2
  refine ⟨h.put (by have hnl:=h.nle; simp only [putF,Option.some.injEq]; rw [if_neg (fun e:d=slotD=>absurd hnl (Nat.not_le.2 (by have h1:=hd.1; rw [e] at h1; exact h1)))]) (fun t=>⟨fun ht=>?_,fun ht=>?_⟩),fun t ht=>?_⟩
  ·obtain ⟨ht1,ht2⟩:=ht;cases ht1;simp only [putF,if_true];exact hout.rel
  ·have hne:d≠t:=fun e=>ht ⟨by rw [e],e▸hd.1⟩
   simp only [putF,Option.some.injEq,if_neg hne];exact h.tm t
  ·rw [put_getD,h.size];by_cases e:d=t
   ·subst e;simp only [putF,true_and,if_pos hd.1,if_true];exact hout
   ·simp only [putF,Option.some.injEq,e,false_and,if_false];simp only [Option.toList,List.singleton_append,List.mem_cons] at ht;exact hsl t (ht.resolve_left (Ne.symm e))
theorem looks_of (h:SRel U w0 n ρ M tm hp nx a w) (hsl:∀ t∈asg,SlotOK ρ M (a.tmps.getD t Go.undef) (tm t)) (ops:Array Oper) (o:Oper):Looks ops asg tm ρ M a o :=
 fun t _=>⟨h.tm t,hsl t⟩
end
theorem quiet_ne {P:Program} {gl:Nat->AV} {ops:Array Oper} {asg:List Nat} {tm:Nat->AV} {hp:Nat->Blk} {nx:Nat} {cl:Bool} {gd:Option GD} {o:Oper} {out:AV} (h:QOK P gl ops asg tm hp nx cl gd o out) (hm:metG gd=true):deferOf o.op=none:=by
 obtain ⟨v,ob,h1,_⟩:=h.1 hm;unfold opSR at h1;cases ho:o.op <;> first|rfl|(rw [ho] at h1; simp [stepOp] at h1)
theorem evOf_rel {gl:Nat->AV} {U:Base} {w0:World} {n:Nat} {ρ:Rho} {M:Mem} {s:St} {a:Act} {w:World} (hG:GlobOK U.M0 gl) (h:SRel U w0 n ρ M s.tmf s.hpf s.nx a w) (c:Operand):Rel ρ M (a.eval c) (evOf gl s.tmf c):=by
 cases c with
 | tmp t=>exact h.tm t
 | const v=>exact .pure (avOf_rel M v)
 | global g=>exact .pure ((hG g).mono h.memE)
 | func f=>exact .pure (.fn _)
theorem guards_congr {ops:Array Oper} {asg:List Nat} {tm tm':Nat->AV} (h:∀ t∈asg,tm' t=tm t):∀ (n:Nat) (q:Nat×Bool),guards ops asg tm' n q=guards ops asg tm n q
 | 0,_=>rfl
 | n+1,(j,want)=>by
  simp only [guards];split
  ·rename_i t ht;split
   ·rename_i hc;rw [h t (by simpa using hc)]
    split
    ·rfl
    ·rw [guards_congr h n]
    ·rfl
   ·rfl
  ·rfl
theorem RI.congr {ops:Array Oper} {asg:List Nat} {tm tm':Nat->AV} (hRI:RI ops asg tm) (h:∀ t∈asg,tm' t=tm t):RI ops asg tm':=by
 intro t ht m j w x hx;rw [h t ht] at hx;obtain ⟨l,hl⟩:=hRI t ht m j w x hx;exact ⟨l,by rw [guards_congr h]; exact hl⟩
theorem vcDefer_sound {E:Env} {c:Call} {o:Oper} {dr:Bool} {s:St} {K:St->VT} {U:Base} {w0:World} {n:Nat} {ρ:Rho} {M:Mem} {a:Act} {w:World} {r:Option Nat} (hr:isTop E.md=true->r=none/\U.nod=false) (hG:GlobOK U.M0 E.gl)
  (ho:deferOf o.op=some c) (hs:(vcDefer E c o dr s K).sat) (h:SRel U w0 n ρ M s.tmf s.hpf s.nx a w) {next:Act->World->Prop} {Q:Exit->Act->World->Prop}
  (hk:∀ s' a',(K s').sat->SRel U w0 n ρ M s'.tmf s'.hpf s'.nx a' w->s'.hp=s.hp->s'.nx=s.nx->(∀ t,t≠slotD->s'.tmf t=s.tmf t)->a'.tmps=a.tmps->next a' w) :
  dr=false/\o.guard=none/\o.dst=none/\o.wpIn (WF r) 0 E.P a w next Q:=by
 unfold vcDefer at hs;split at hs
 ·rename_i hc;simp only [Bool.and_eq_true,Bool.not_eq_true'] at hc;obtain ⟨⟨⟨h1,h2⟩,h3⟩,h4⟩:=hc;have h3:o.guard=none:=by cases hg:o.guard with|none=>rfl|some g=>rw [hg] at h3; cases h3
  have h4:o.dst=none:=by cases hg:o.dst with|none=>rfl|some g=>rw [hg] at h4; cases h4
  refine ⟨h1,h3,h4,?_⟩;obtain ⟨rfl,hnod⟩:=hr h2;split at hs
  ·rename_i f hcal;split at hs
   ·rename_i g first cap hf;rw [AV.force_eq,T.setK_eq] at hs;have hfr:=evOf_rel hG h f;rw [hf] at hfr;obtain ⟨fs,cs,e1,e2,e3,e4,e5⟩:=hfr.fnInv;have hop:o.op=.defer c:=by cases hop:o.op <;> rw [hop] at ho <;> cases ho; rfl
    refine ⟨fun _ _=>trivial,?_⟩
    have hrun:(o.semAt (WF none).round a.eval).run E.P w=.ok (.defer { target:=.fn (.func g) cs,args:=fs++c.args.map a.eval }) w:=by
     simp [Oper.semAt,execOp,hop,resolve,hcal,e1,Deferred.ofValue]
    rw [hrun,Oper.uponIn_defer,h4];have hargs:ArgsRel ρ M (c.args.map a.eval) (c.args.toList.map (evOf E.gl s.tmf)):=by
     have:=args_rel (ρ:=ρ) (M:=M) (a:=a) (ev:=evOf E.gl s.tmf) c.args.toList (fun x _=>evOf_rel hG h x)
     have e:(List.map a.eval c.args.toList).toArray=c.args.map a.eval:=by rw [<- Array.toList_map,Array.toArray_toList]
     rw [e] at this;exact this
    have hall:=ArgsRel.app ⟨e2,e4⟩ hargs;have hx:Rel ρ M (.func (.func g) (fs++c.args.map a.eval) cs) ((AV.fn (.func g) (first++c.args.toList.map (evOf E.gl s.tmf)) cap).norm E.cl) :=
     Rel.norm E.cl (.fn (.func g) _ cs _ cap hall.1 e3 hall.2 e5)
    have hne:∀ t,t≠slotD->(s.tm.set .undef slotD (.opt true 0 false (.tup ((AV.fn (.func g) (first++c.args.toList.map (evOf E.gl s.tmf)) cap).norm E.cl::dfL (s.tmf slotD))))).get .undef t=s.tmf t:=by
     intro t ht;rw [T.set_get,if_neg ht]; rfl
    refine hk _ _ hs ⟨h.size,fun t=>?_,h.hok,h.dead,h.free,h.keep,h.memN,h.memE,h.own,h.nle,h.ownL,?_,?_,?_,fun e=>(by rw [hnod] at e; cases e),h.ext⟩ rfl rfl hne rfl
    ·by_cases ht:t=slotD
     ·subst ht;show Rel ρ M _ (T.get _ _ _);rw [T.set_get,if_pos rfl];exact .pure (.opt _ _ _ _ _)
     ·show Rel ρ M _ (T.get _ _ _);rw [hne t ht]; exact h.tm t
    ·show DfL ρ M _ (dfL (T.get _ _ _));rw [T.set_get,if_pos rfl];exact ⟨hx,h.defers⟩
    ·exact h.marks
    ·exact h.mown
   ·exact hs.elim
  ·exact hs.elim
 ·exact hs.elim
theorem havoc_gd {dr nq:Bool} {gd:Option GD} {P:Program} {ev:Operand->AV} {op:Op} {q:Bool×Nat} (h:havocOf dr nq gd P ev op=some q):gd=none:=by
 unfold havocOf at h;split at h
 ·cases h
 ·split at h
  ·cases h
  ·split at h
   ·cases h
   ·rfl
theorem nilQ_run {P:Program} {w:World} {ρ:Rho} {M:Mem} {t:TypeId} {u v:Value} {x y:AV} {k:Nat} (h:nilQ P t x y=some k) (hu:Rel ρ M u x) (hv:Rel ρ M v y):∃ b,(b=true->k=0)/\EqNil P w t u v b:=by
 unfold nilQ at h;split at h
 ·rename_i e hut;split at h
  ·cases h;have hv:v=.slice none 0 0:=by cases hv with|pure hv=>cases hv; rfl
   subst hv;cases hu with
   | pure hu =>
    cases hu with
    | rof B o cap sz _ f ex _ _ _ _ _ _=>exact ⟨false,fun e=>(by cases e),eqNil_slc (some _) _ _ hut⟩
    | rof0 a c f ex _ _ _=>exact ⟨a.isNone,fun _=>rfl,eqNil_slc a _ _ hut⟩
  ·cases h
 ·cases h
theorem havoc_run {dr nq:Bool} {gd:Option GD} {P:Program} {ev:Operand->AV} {o:Oper} {neg:Bool} {k:Nat} {ρ:Rho} {M:Mem} {a:Act} {w:World} (h:havocOf dr nq gd P ev o.op=some (neg,k)) (hx:∀ x∈o.op.operands,Rel ρ M (a.eval x) (ev x)) :
  ∃ b,(b=true->k=0)/\(execOp a.eval o).run P w=.ok (.value (.bool (Bool.xor neg b))) w:=by
 unfold havocOf at h;split at h
 ·cases h
 split at h
 ·cases h
 split at h
 ·cases h
 split at h
 ·rename_i t x y t2 ho;obtain ⟨k',hk,e⟩:=Option.map_eq_some_iff.1 h;cases e;obtain ⟨b,hb,k1,_,k2,k3⟩:=nilQ_run (w:=w) hk (hx x (by simp [ho,Op.operands])) (hx y (by simp [ho,Op.operands]))
  refine ⟨b,hb,?_⟩;simp only [execOp,ho];rw [run_v,Sem.run_bind,run_eqGuard_plain .eql t x y _ _ k2 k3];simp only [Result.andThen_ok];rw [k1];simp
 ·rename_i t x y t2 ho;obtain ⟨k',hk,e⟩:=Option.map_eq_some_iff.1 h;cases e;obtain ⟨b,hb,_,k1,k2,k3⟩:=nilQ_run (w:=w) hk (hx x (by simp [ho,Op.operands])) (hx y (by simp [ho,Op.operands]))
  refine ⟨b,hb,?_⟩;simp only [execOp,ho];rw [run_v,Sem.run_bind,run_eqGuard_plain .neq t x y _ _ k2 k3];simp only [Result.andThen_ok];rw [k1];simp
 ·cases h
theorem vcOps_straight {E:Env} {call:CallH} {ops:Array Oper} (hc:CallS E.P E.gl call) (hctr:CtrOK E) {U:Base} {w0:World} {n:Nat} (hG:GlobOK U.M0 E.gl) (r:Option Nat) (hr:isTop E.md=true->r=none/\U.nod=false) {Q:Exit->Act->World->Prop} {K:St->VT} :
  ∀ (is:List Nat) (f:Nat) (asg:List Nat) (lg:List Foot) (s:St) (ρ:Rho) (M:Mem) (a:Act) (w:World),is.length<=f->(vcOps E n call ops false [] false f is asg lg s K).sat->SRel U w0 n ρ M s.tmf s.hpf s.nx a w->RI ops asg s.tmf->(∀ t∈asg,t<n) ->
   (∀ t∈asg,SlotOK ρ M (a.tmps.getD t Go.undef) (s.tmf t)) ->
   (∀ s' ρ' M' a' w',Grow ρ ρ' s.hpf s'.hpf s.nx s'.nx->MExt M M'->SRel U w0 n ρ' M' s'.tmf s'.hpf s'.nx a' w'->(K s').sat->Q .normal a' w')->wpOpsIn (WF r) 0 E.P ops Q is a w
 | [],f,asg,lg,s,ρ,M,a,w,_,hs,h,hRI,hasg,hsl,hK=>by
  have hs:(K s).sat:=by cases f <;> exact hs
  exact hK s ρ M a w (Grow.refl ρ s.hpf s.nx) (MExt.refl M) h hs
 | i::rest,0,asg,lg,s,ρ,M,a,w,hf,_,_,_,_,_,_=>by simp at hf
 | i::rest,f+1,asg,lg,s,ρ,M,a,w,hf,hs,h,hRI,hasg,hsl,hK=>by
  have hf':rest.length<=f:=by simpa using hf
  simp only [vcOps,bothL,vcOne] at hs;simp only [wpOpsIn];cases ho:ops[i]? with
  | none=>simp only [ho] at hs; exact hs.elim
  | some o =>
   simp only [ho] at hs ⊢;cases hd:dstOK n asg o.dst with
   | false=>simp only [hd] at hs; exact hs.elim
   | true =>
    simp only [hd] at hs;cases hgd:gdOf ops asg s.tmf o with
    | none=>simp only [hgd] at hs; exact hs.elim
    | some gd =>
     simp only [hgd] at hs;have hgi:=gdOf_is hgd;have hL:=looks_of h hsl ops o
     have next:∀ (s1:St) (ρ1:Rho) (M1:Mem) (u:Value) (w1:World) (out:AV) (lg':List Foot),s1.tm=s.tm->Grow ρ ρ1 s.hpf s1.hpf s.nx s1.nx->MExt M M1->SRel U w0 n ρ1 M1 s.tmf s1.hpf s1.nx a w1->OutShape gd out->SlotOK ρ1 M1 u out ->
       (vcOps E n call ops false [] false f rest (o.dst.toList++asg) lg' (s1.put1 o.dst out) K).sat->wpOpsIn (WF r) 0 E.P ops Q rest (a.put o.dst u) w1:=by
      intro s1 ρ1 M1 u w1 out lg' ht hg hM hS hsh hout hk;have htf:s1.tmf=s.tmf:=by funext t; simp [St.tmf,ht]
      obtain ⟨h1,h2⟩:=put_step (asg:=asg) hS (fun t ht=>(hsl t ht).mono hg.rx.ext hM) hout hd
      refine vcOps_straight (w0:=w0) hc hctr hG r hr rest f _ lg' _ ρ1 M1 _ w1 hf' hk ?_ ?_ ?_ ?_ ?_
      ·rw [put1_tmf,put1_hpf,put1_nx,htf]; exact h1
      ·rw [put1_tmf,htf]; exact RI.put hRI hgi hsh hd
      ·intro t ht;rcases List.mem_append.1 ht with ht|ht
       ·simp only [Option.mem_toList] at ht;rw [ht] at hd;simp only [dstOK,Bool.and_eq_true,decide_eq_true_eq] at hd;exact hd.1
       ·exact hasg t ht
      ·rw [put1_tmf,htf]; exact h2
      ·intro s' ρ' M' a' w' k1 k2 k3 k4;rw [put1_hpf,put1_nx] at k1;exact hK s' ρ' M' a' w' (hg.trans k1) (hM.trans k2) k3 k4
     cases hev:evOp o.op with
     | true =>
      simp only [hev] at hs;obtain ⟨k1,k2⟩:=vcEvent_sound (U:=U) (w0:=w0) (n:=n) hc hctr hev hs r h hG hRI hgi hL;cases hm:metG gd with
      | true =>
       rw [wanted_off hgi hL hm,if_pos rfl];refine (k1 hm _ Q fun u w1 ⟨inf,out,s1,ρ1,M1,m1,m2,m3,m4,m5,m6,m7,m8⟩=>?_)
       simp only at m8;split at m8
       ·exact next s1 ρ1 M1 u w1 out _ m1 m4 m5 m6 m2 m3 m8
       ·exact m8.elim
      | false =>
       rw [wanted_off hgi hL hm,if_neg (by simp)]
       refine ⟨fun _ _=>trivial,?_⟩
       obtain ⟨out,m1,m2,m3⟩:=k2 hm;simp only [evB] at m3;exact next s ρ M Go.undef w out _ rfl (Grow.refl _ _ _) (MExt.refl M) h m1 (m2 ρ M) m3
     | false =>
      simp only [hev] at hs;cases hdf:deferOf o.op with
      | some c =>
       simp only [hdf] at hs;have hm0:Region.wanted o (yielded ops a.tmps)=true/\o.dst=none/\o.wpIn (WF r) 0 E.P a w (wpOpsIn (WF r) 0 E.P ops Q rest) Q:=by
        obtain ⟨_,hg0,hd0,hw⟩:=vcDefer_sound (w0:=w0) (n:=n) (Q:=Q) (next:=wpOpsIn (WF r) 0 E.P ops Q rest) hr hG hdf hs h (fun s' a' k1 k2 k3 k4 k5 k6=>by
         have hlt:∀ t∈asg,s'.tmf t=s.tmf t:=fun t ht=>k5 t (by have:=hasg t ht; have:=h.nle; omega)
         refine vcOps_straight (w0:=w0) hc hctr hG r hr rest f asg lg s' ρ M a' w hf' k1 k2 (RI.congr hRI hlt) hasg (fun t ht=>?_) (fun s2 ρ' M' a2 w' g1 g2 g3 g4=>hK s2 ρ' M' a2 w' ?_ g2 g3 g4)
         ·rw [hlt t ht,k6]; exact hsl t ht
         ·have e1:s'.hpf=s.hpf:=by funext b; simp [St.hpf,k3]
          rw [e1,k4] at g1;exact g1)
        exact ⟨by simp [Region.wanted,hg0],hd0,hw⟩
       rw [if_pos hm0.1];exact hm0.2.2
      | none =>
      simp only [hdf] at hs;cases hhv:havocOf false E.nq gd E.P (stripO asg (gsOf gd) (evOf E.gl s.tmf)) o.op with
      | some q =>
       obtain ⟨neg,k⟩:=q;simp only [hhv] at hs;have hg0:=havoc_gd hhv;have hm:metG gd=true:=by rw [hg0]; rfl
       obtain ⟨b,hb,hrun⟩:=havoc_run (w:=w) hhv fun x hxx=>stripO_rel hG h.memE hRI (gd_chain hgi hRI hm) x (fun t ht=>hL t (looks_tmp (ht▸hxx)))
       rw [wanted_off hgi hL hm,if_pos rfl];refine wpIn_of hdf ?_;rw [hrun,Oper.uponIn_value];have hk:=hs b hb;rw [putK_eq] at hk
       exact next s ρ M (.bool (Bool.xor neg b)) w _ _ rfl (Grow.refl _ _ _) (MExt.refl M) h (shape_clean E.cl gd (.bool _)) (SlotOK.norm E.cl (slot_of_rel (x:=.bool _) (.pure (.bool _)) (AV.clean_ne (.bool _)))) hk
      | none =>
      simp only [hhv] at hs;cases hz:frzAt E.fz false gd o.dst with
      | true =>
       simp only [hz] at hs;have hg0:gd=none:=by
        unfold frzAt at hz;simp only at hz;split at hz
        ·cases hz
        ·rfl
       subst hg0;have hm:metG none=true:=rfl;rw [wanted_off hgi hL hm,if_pos rfl];refine wpIn_of hdf ?_;unfold vcQuietZ at hs;split at hs
       ·rename_i nd v ob hst;obtain ⟨hnd,hs⟩:=NB.inv hs;have hob:(∀ p,ob=some p->p)/\(forceLn (idsD 3 s.hpf (idsAll [v])) fun R=>VT.need (gensX (onlyR R s.hpf) v&&R.all fun c=>isRow (s.hp.get .dead c))
          (maskK s.hp R fun hp=>putK E.cl ⟨s.tm,hp,s.nx⟩ o.dst (frzX 9 (onlyR R s.hpf) v).clean fun s'=>vcOps E n call ops false [] false f rest (o.dst.toList++asg) (⟨i,[]⟩::lg) s' K)).sat:=by
         cases ob with
         | none=>exact ⟨fun p hp=>(by cases hp),hs⟩
         | some p=>exact ⟨fun p' hp'=>(by cases hp'; exact hs.1),hs.2⟩
        obtain ⟨hob,hs⟩:=hob;rw [forceLn_eq] at hs;obtain ⟨hgr,hs⟩:=NB.inv hs;rw [Bool.and_eq_true] at hgr
        obtain ⟨hp',k1,k2⟩:=maskK_eq (idsD 3 s.hpf (idsAll [v])) s.hp (fun hp=>putK E.cl ⟨s.tm,hp,s.nx⟩ o.dst (frzX 9 (onlyR (idsD 3 s.hpf (idsAll [v])) s.hpf) v).clean fun s'=>vcOps E n call ops false [] false f rest (o.dst.toList++asg) (⟨i,[]⟩::lg) s' K)
        rw [k1,putK_eq] at hs;obtain ⟨u,w1,ρ1,M1,hrr,q1,q2,q3,q4⟩:=stepOp_sound (P:=E.P) h _ (fun x hxx=>stripO_rel hG h.memE hRI (gd_chain hgi hRI hm) x (fun t ht=>hL t (looks_tmp (ht▸hxx)))) nd v [] ob hst hnd hob
        obtain ⟨M2,f1,f2,f3⟩:=SRel.freezeVal q4 (idsD 3 s.hpf (idsAll [v])) (hpm:=fun b=>hp'.get .dead b) (fun b=>k2 b) q3 9 hgr.1
        have hn:=next ⟨s.tm,hp',s.nx⟩ ρ1 M2 u w1 _ _ rfl ⟨q1,Nat.le_refl _,fun b _ hd=>(k2 b).trans (by split; rfl; exact hd),fun b k on sp r e=>by
         have e':hp'.get .dead b=.loop (.abs k on sp) r:=e;rw [k2 b] at e';split at e'
         ·cases e'
         ·exact ⟨k,on,r,e'⟩⟩ (q2.trans f1) f2 (shape_clean E.cl none _) (SlotOK.norm E.cl (slot_of_rel (Rel.pure f3).clean (AV.clean_ne _))) hs
        rcases hrr with hrr|⟨hrr,hu⟩
        ·rw [hrr,Oper.uponIn_value]; exact hn
        ·rw [hrr,Oper.uponIn_skip]; subst hu; exact hn
       ·exact hs.elim
      | false =>
      simp only [hz] at hs;obtain ⟨out,m1,m2,m3⟩:=vcQuiet_inv hs;cases hm:metG gd with
      | true =>
       rw [wanted_off hgi hL hm,if_pos rfl];obtain ⟨u,w1,ρ1,M1,hrr,q1,q2,q3,q4⟩:=quiet_exec (P:=E.P) h hG m1 hRI hgi hL hm;refine wpIn_of hdf ?_
       have hn:=next s ρ1 M1 u w1 out _ rfl ⟨q1,Nat.le_refl _,fun _ _ hd=>hd,fun _ k on _ r e=>⟨k,on,r,e⟩⟩ q2 q4 m2 q3 m3
       rcases hrr with hrr|⟨hrr,hu⟩
       ·rw [hrr,Oper.uponIn_value]; exact hn
       ·rw [hrr,Oper.uponIn_skip]; subst hu; exact hn
      | false =>
       rw [wanted_off hgi hL hm,if_neg (by simp)]
       refine ⟨fun _ _=>trivial,?_⟩
       obtain ⟨d,x,hd1,hd2⟩:=m1.2 hm;refine next s ρ M Go.undef w out _ rfl (Grow.refl _ _ _) (MExt.refl M) h m2 ?_ m3;rw [hd2];refine ⟨fun hh=>?_,fun _=>rfl⟩
       rw [hd1] at hm; simp only [metG] at hm; rw [hm] at hh; cases hh
theorem topId_ptr {x:AV} {b g i j:Nat} (h:x=.ptr b g i j):b∈topId x:=by subst h; simp [topId]
theorem topId_sl {x:AV} {b g i l:Nat} {c} (h:x=.sl b g i l c):b∈topId x:=by subst h; simp [topId]
theorem sl_of {hp hp':Nat->Blk} {x:AV} (h:∀ b∈topId x,hp' b=hp b):∀ b g i l c,x=.sl b g i l c->hp' b=hp b:=fun _ _ _ _ _ e=>h _ (topId_sl e)
theorem sliceAV_congr {P:Program} {hp hp':Nat->Blk} {t x lo hi mx} (h:∀ b∈topId x,hp' b=hp b):sliceAV P hp' t x lo hi mx=sliceAV P hp t x lo hi mx:=by
 have hh:=sl_of h;unfold sliceAV;cases P.underlying t with
 | none=>cases x <;> rfl
 | some d=>cases d <;> cases x <;> first|rfl|simp only [hh _ _ _ _ _ rfl]|(simp only [h _ (topId_ptr rfl)])
theorem indexAddrAV_congr {P:Program} {hp hp':Nat->Blk} {t x ix} (h:∀ b∈topId x,hp' b=hp b):indexAddrAV P hp' t x ix=indexAddrAV P hp t x ix:=by
 have hh:=sl_of h;unfold indexAddrAV;cases P.underlying t with
 | none=>cases x <;> rfl
 | some d=>cases d <;> cases x <;> cases ix <;> first|rfl|simp only [hh _ _ _ _ _ rfl]
theorem elemsOf_congr {hp hp':Nat->Blk} {x} (h:∀ b∈topId x,hp' b=hp b):elemsOf hp' x=elemsOf hp x:=by
 have hh:=sl_of h;unfold elemsOf;cases x <;> first|rfl|simp only [hh _ _ _ _ _ rfl]
theorem convertAV_congr {P:Program} {hp hp':Nat->Blk} {s d x} (h:∀ b∈topId x,hp' b=hp b):convertAV P hp' s d x=convertAV P hp s d x:=by
 have he:=elemsOf_congr (hp:=hp) (hp':=hp') h;unfold convertAV;cases P.underlying s with
 | none=>cases P.underlying d <;> cases x <;> rfl
 | some us =>
  cases P.underlying d with
  | none=>cases us <;> cases x <;> rfl
  | some ud=>cases us <;> cases ud <;> cases x <;> first|rfl|simp only [he]
theorem builtinAV_congr {P:Program} {b:Builtin} {ts:List TypeId} {args:List AV} {hp hp':Nat->Blk} {nx nx':Nat} (hb:b=.len\/b=.min\/b=.max):builtinAV P b ts hp' nx' args=builtinAV P b ts hp nx args:=by
 rcases hb with rfl|rfl|rfl
 ·rcases ts with _|⟨t,ts⟩ <;> rcases args with _|⟨x,_|⟨y,r⟩⟩ <;> rfl
 ·rcases args with _|⟨x,_|⟨y,_|⟨z,r⟩⟩⟩ <;> try rfl
  all_goals (cases x <;> try rfl)
  all_goals (cases y <;> rfl)
 ·rcases args with _|⟨x,_|⟨y,_|⟨z,r⟩⟩⟩ <;> try rfl
  all_goals (cases x <;> try rfl)
  all_goals (cases y <;> rfl)
theorem lookupAV_congr {P:Program} {hp hp':Nat->Blk} {t x ix ok} (h:∀ b∈topId x,hp' b=hp b):lookupAV P hp' t x ix ok=lookupAV P hp t x ix ok:=by
 have:mapEs hp' x=mapEs hp x:=by
  cases x <;> try rfl
  case map b=>simp only [mapEs,h b (by simp [topId])]
 have h2:mfOf hp' x=mfOf hp x:=by
  cases x <;> try rfl
  case map b=>simp only [mfOf,h b (by simp [topId])]
 have h3:mkOf hp' x=mkOf hp x:=by
  cases x <;> try rfl
  case map b=>simp only [mkOf,h b (by simp [topId])]
  case fmap b i=>simp only [mkOf,h b (by simp [topId])]
 unfold lookupAV lookupAV0;rw [this,h2,h3]
theorem topId_deg {x:AV} {b:Nat} (h:b∈topId x.deg):b∈topId x:=by
 cases x <;> first|exact h|(simp [AV.deg,topId] at h)
theorem stepOp_congr {P:Program} {op:Op} {ev:Operand->AV} {hp hp':Nat->Blk} {nx nx':Nat} (hev:evOp op=false) (h:∀ b∈rdIds op ev,hp' b=hp b):stepOp P op ev hp' nx'=stepOp P op ev hp nx:=by
 cases op <;> try rfl
 case alloc=>simp [evOp] at hev
 case box=>simp [evOp] at hev
 case buildSlice=>simp [evOp] at hev
 case makeSlice=>simp [evOp] at hev
 case store=>simp [evOp] at hev
 case makeMap=>simp [evOp] at hev
 case mapUpdate=>simp [evOp] at hev
 case insert=>simp [evOp] at hev
 case load t p =>
  simp only [rdIds] at h;simp only [stepOp];generalize ev p=x at h;cases x <;> try rfl
  case ptr b g i j =>
   have:=h b (by simp [topId])
   simp only [this]
 case unOp op t x=>cases op <;> rfl
 case lookup t x ix ok=>exact lookupAV_congr h
 case convert s d x=>exact convertAV_congr h
 case slice t x lo hi mx=>exact sliceAV_congr (fun b hb=>h b (topId_deg hb))
 case indexAddr t x ix=>exact indexAddrAV_congr (fun b hb=>h b (topId_deg hb))
 case call c =>
  obtain ⟨callee,args,ts⟩:=c;cases callee with
  | builtin b =>
   cases b <;> first|(simp [evOp] at hev; done)|skip
   all_goals exact builtinAV_congr (by simp)
  | _=>rfl
theorem opSR_congr {P:Program} {gl:Nat->AV} {ops:Array Oper} {asg:List Nat} {gs:List (Nat×Bool)} {o:Oper} {tm:Nat->AV} {hp hp':Nat->Blk} {nx nx':Nat} (hev:evOp o.op=false)
  (h:∀ b∈rdIds o.op (stripO asg gs (evOf gl tm)),hp' b=hp b):opSR P gl ops asg gs o tm hp' nx'=opSR P gl ops asg gs o tm hp nx:=by
 unfold opSR;split
 ·rfl
 ·rfl
 ·exact stepOp_congr hev h
theorem flatMap_same {α β:Type} {f g:α->List β}:∀ (l:List α),(∀ x∈l,f x=g x)->l.flatMap f=l.flatMap g
 | [],_=>rfl
 | x::l,h=>by
  simp only [List.flatMap_cons];rw [h x (List.mem_cons_self ..),flatMap_same l (fun y hy=>h y (List.mem_cons_of_mem _ hy))]
theorem mem_uniq {x:Nat}:∀ {l:List Nat},x∈uniq l ↔ x∈l
 | []=>Iff.rfl
 | y::l=>by
  simp only [uniq];cases h:l.contains y
  ·simp only [cond_false,List.mem_cons,mem_uniq (l:=l)]
  ·simp only [cond_true,List.mem_cons,mem_uniq (l:=l)];constructor
   ·exact .inr
   ·rintro (rfl|h')
    ·simpa using h
    ·exact h'
theorem predsOf_acc:∀ (l:List Oper) (acc:List (List Nat)) (k:Nat),k<acc.length->(predsOf l acc).getD k []=acc.getD k []
 | [],_,_,_=>rfl
 | o::r,acc,k,hk=>by
  simp only [predsOf];rw [predsOf_acc r _ k (by simp; omega)]
  simp [List.getD_eq_getElem?_getD,List.getElem?_append_left hk]
theorem predsOf_at:∀ (l:List Oper) (acc:List (List Nat)) (k:Nat) (o:Oper),l[k]?=some o->(∀ j∈afterOf o,j<acc.length+k) ->
  (predsOf l acc).getD (acc.length+k) []=uniq ((afterOf o).flatMap fun j=>j::(predsOf l acc).getD j [])
 | [],_,_,_,h,_=>by simp at h
 | o'::r,acc,0,o,h,hlt=>by
  simp only [List.getElem?_cons_zero,Option.some.injEq] at h;subst h;simp only [predsOf,Nat.add_zero];rw [predsOf_acc r _ acc.length (by simp)]
  have e:(acc++[uniq ((afterOf o').flatMap fun j=>j::acc.getD j [])]).getD acc.length []=uniq ((afterOf o').flatMap fun j=>j::acc.getD j []):=by
   simp [List.getD_eq_getElem?_getD]
  rw [e];refine congrArg uniq (flatMap_same _ fun j hj=>?_)
  have hj':j<acc.length:=by simpa using hlt j hj
  rw [predsOf_acc r _ j (by simp; omega)]
  simp [List.getD_eq_getElem?_getD,List.getElem?_append_left hj']
 | o'::r,acc,k+1,o,h,hlt=>by
  simp only [predsOf];have:=predsOf_at r (acc++[uniq ((afterOf o').flatMap fun j=>j::acc.getD j [])]) k o (by simpa using h) (fun j hj=>by have:=hlt j hj; simp; omega)
  have e:(acc++[uniq ((afterOf o').flatMap fun j=>j::acc.getD j [])]).length+k=acc.length+(k+1):=by simp; omega
  rw [e] at this;exact this
theorem aftL_at:∀ (l:List Oper) (i k:Nat) (o:Oper),aftL l i=true->l[k]?=some o->∀ j∈afterOf o,j<i+k
 | [],_,_,_,_,h=>by simp at h
 | o'::r,i,0,o,h,hk=>by
  simp only [List.getElem?_cons_zero,Option.some.injEq] at hk;subst hk;simp only [aftL,Bool.and_eq_true,List.all_eq_true,decide_eq_true_eq] at h;exact fun j hj=>h.1 j hj
 | o'::r,i,k+1,o,h,hk=>by
  simp only [aftL,Bool.and_eq_true] at h;intro j hj;have:=aftL_at r (i+1) k o h.2 (by simpa using hk) j hj
  omega
section
variable {ops:Array Oper}
theorem pr_at (ha:aftL ops.toList 0=true) {i:Nat} {o:Oper} (ho:ops[i]?=some o) :
  (predsOf ops.toList []).getD i []=uniq ((afterOf o).flatMap fun j=>j::(predsOf ops.toList []).getD j []):=by
 have h0:ops.toList[i]?=some o:=by simpa using ho
 have:=predsOf_at ops.toList [] i o h0 (fun j hj=>by have:=aftL_at ops.toList 0 i o ha h0 j hj; simpa using this)
 simpa using this
def Closed (ops:Array Oper) (L:Nat->Prop):Prop:=∀ i o,L i->ops[i]?=some o->∀ j∈afterOf o,L j
theorem pr_closed (ha:aftL ops.toList 0=true) {L:Nat->Prop} (hL:Closed ops L):∀ (m i:Nat) (o:Oper),i<m->ops[i]?=some o->(∀ j∈afterOf o,L j)->∀ j∈(predsOf ops.toList []).getD i [],L j
 | 0,_,_,h,_,_=>by omega
 | m+1,i,o,hi,ho,hall=>by
  intro j hj;rw [pr_at ha ho,mem_uniq] at hj;obtain ⟨k,hk,hj⟩:=List.mem_flatMap.1 hj;rcases List.mem_cons.1 hj with rfl|hj
  ·exact hall _ hk
  ·have hlt:=aftL_at ops.toList 0 i o ha (by simpa using ho) k hk
   have hks:k<ops.size:=by
    have:=(Array.getElem?_eq_some_iff.1 ho).1;omega
   have hko:ops[k]?=some ops[k]:=Array.getElem?_eq_getElem hks;exact pr_closed ha hL m k ops[k] (by omega) hko (hL k _ (hall k hk) hko) j hj
theorem mem_afterOf {o:Oper} {j:Nat}:j∈afterOf o ↔ ∃ e∈o.after,Region.binds .any e=true/\e.on=j:=by
 unfold afterOf;rw [List.mem_filterMap];constructor
 ·rintro ⟨e,he,h⟩;split at h
  ·rename_i hb;simp only [Option.some.injEq] at h;exact ⟨e,by simpa using he,hb,h⟩
  ·cases h
 ·rintro ⟨e,he,hb,rfl⟩;exact ⟨e,by simpa using he,by simp [hb]⟩
theorem pairL_quiet {pr:List (List Nat)} {lo:Bool} {i j:Nat} {o:Oper} (ho:ops[i]?=some o) (hev:evOp o.op=false) (h:pairL ops pr lo i j=true):pairB ops pr i j=true:=by
 simpa [pairL,evAt,ho,hev] using h
theorem orderB_pw {pr:List (List Nat)} {lo:Bool}:∀ (l:List Nat),orderB ops pr lo l=true->l.Pairwise (fun i j=>pairL ops pr lo i j=true)/\l.Nodup/\∀ i∈l,i<ops.size
 | [],_=>⟨.nil,.nil,by simp⟩
 | i::r,h=>by
  simp only [orderB,Bool.and_eq_true,List.all_eq_true,decide_eq_true_eq,Bool.not_eq_true'] at h;obtain ⟨⟨⟨h1,h2⟩,h3⟩,h4⟩:=h;obtain ⟨k1,k2,k3⟩:=orderB_pw r h4
  refine ⟨List.Pairwise.cons (fun j hj=>h1 j hj) k1,List.nodup_cons.2 ⟨by simpa using h2,k2⟩,fun j hj=>?_⟩
  rcases List.mem_cons.1 hj with rfl|hj
  ·exact h3
  ·exact k3 j hj
end
theorem all_getD {l:List AV} {p:AV->Bool} (h:l.all p=true) {i:Nat} (hi:i<l.length):p (l.getD i .undef)=true:=by
 rw [List.getD_eq_getElem?_getD,List.getElem?_eq_getElem hi];exact List.all_eq_true.1 h _ (List.getElem_mem hi)
def AV.isPureE:AV->Bool
 | .agg m=>m.all AV.isPureCell
 | x=>x.isPureCell
theorem Rel.isPureE {ρ:Rho} {M:Mem} {v:Value} {x:AV} (h:Rel ρ M v x) (hx:x.isPureE=true):RelP M v x:=by
 cases x with
 | agg l =>
  obtain ⟨cs,rfl,hs,hr⟩:=h.aggInv;exact .agg cs l hs fun i hi=>(hr i hi).pureCell (all_getD hx hi)
 | _=>exact h.pureCell hx
theorem Rel.isPure {ρ:Rho} {M:Mem} {v:Value} {x:AV} (h:Rel ρ M v x) (hx:x.isPure=true):RelP M v x:=by
 cases x with
 | tup l =>
  obtain ⟨cs,rfl,hs,hr⟩:=h.tupInv;exact .tup cs l hs fun i hi=>(hr i hi).isPureE (all_getD (p:=AV.isPureE) hx hi)
 | agg l=>exact h.isPureE hx
 | _=>exact h.pureCell hx
theorem ArgsRel.pureP {ρ M vals args} (h:ArgsRel ρ M vals args) (hp:args.all AV.isPure=true):ArgsP M vals args :=
 ⟨h.1,fun i hi=>(h.2 i hi).isPure (all_getD hp hi)⟩
theorem SRel.frame {U:Base} {w0:World} {n:Nat} {ρ:Rho} {M M':Mem} {tm:Nat->AV} {hp:Nat->Blk} {nx:Nat} {a:Act} {w w':World} (h:SRel U w0 n ρ M tm hp nx a w) (hk:Keep (fun _=>True) w w')
  (hM:MExt M M') (hmem:MemOK M' w') (hnew:∀ B i v,M' B i=some v->M B i=some v\/w.heap.size<=B):SRel U w0 n ρ M' tm hp nx a w':=by
 have hb:∀ B,B<w.heap.size->w'.heap[B]?=w.heap[B]?:=fun B hB=>hk.block B trivial hB
 refine ⟨h.size,fun t=>(h.tm t).mono (RExt.refl ρ) hM,⟨hmem,fun b g sz pu s e=>?_,h.hok.inj,h.hok.gen,fun b st r e=>(h.hok.loop b st r e).mono (RExt.refl ρ) hM fun L _ lp e2=>(hb L.B (heap_lt e2)).trans e2,h.hok.linj⟩,h.dead,h.free,
  ⟨hk.os.trans h.keep.os,hk.tape.trans h.keep.tape,hk.output.trans h.keep.output,Nat.le_trans h.keep.size hk.size,fun B hU hB=>(hb B (Nat.lt_of_lt_of_le hB h.keep.size)).trans (h.keep.block B hU hB)⟩,fun B i v hv=>?_,h.memE.trans hM,h.own,h.nle,h.ownL,h.defers.mono (RExt.refl ρ) hM,
  ⟨h.marks.1,fun r hr=>(hb r (heap_lt (h.marks.2 r hr))).trans (h.marks.2 r hr)⟩,h.mown,h.nod,h.extGrow hk.os hk.tape hk.output hk.size hM hnew hb⟩
 ·obtain ⟨L,h1,h2,h3,h4⟩:=h.hok.row b g sz pu s e;refine ⟨L,h1,h2,h3,?_⟩;rcases h4 with h4|⟨hv,c,ee,h5,h6,h7,h8,h9⟩
  ·exact .inl h4
  ·have hlt:=heap_lt h5;refine .inr ⟨hv,c,ee,(hb L.B hlt).trans h5,h6,h7,fun i=>?_,fun i hi=>⟨(h9 i hi).1,fun j hj=>?_⟩⟩
   ·cases hmm:M' L.B i with
    | none=>rfl
    | some v =>
     rcases hnew L.B i v hmm with h10|h10
     ·rw [h8 i] at h10; cases h10
     ·omega
   ·obtain ⟨v,m1,m2,m3,m4⟩:=(h9 i hi).2 j hj;exact ⟨v,m1,m2,m3.mono (RExt.refl ρ) hM,fun hp=>(m4 hp).mono hM⟩
 ·rcases hnew B i v hv with h1|h1
  ·exact h.memN B i v h1
  ·exact .inr (.inl (Nat.le_trans h.keep.size h1))
theorem SRel.emptyA {M:Mem} {W:World} (t:Array Value) (hn:t.size<=slotD) (hM:∀ B i v,M B i=some v->W.cell? ⟨B,i,none⟩=some v/\v.oneCell'=true) :
  SRel ⟨fun _=>True,M,false,false⟩ W t.size (fun _ _=>none) M (fun _=>.undef) (fun b=>(T.nil:T Blk).get .dead b) 0 { tmps:=t,defers:=[] } W:=by
 refine ⟨rfl,fun t=>.undef _,⟨hM,fun b g sz pu s h=>?_,fun b b' g g' sz sz' pu pu' s s' L L' h=>?_,fun b g sz pu s h=>?_,fun b st r h=>?_,fun b b' st st' r r' L L' h=>?_⟩,fun b _=>rfl,fun b g _=>rfl,Keep.refl _ W,fun B i v h=>.inl h,MExt.refl M,fun b g sz pu s L h=>?_,
  hn,fun b st r L h=>?_,rfl,⟨List.nodup_nil,fun r hr=>(by cases hr)⟩,fun e=>(by cases e),fun e=>(by cases e),fun b k on sp r h=>(by simp [T.get] at h),fun b d h=>(by simp [T.get] at h)⟩
 all_goals simp [T.get] at h
theorem SRel.empty {M:Mem} {W:World} (hM:∀ B i v,M B i=some v->W.cell? ⟨B,i,none⟩=some v/\v.oneCell'=true) :
  SRel ⟨fun _=>True,M,false,false⟩ W 0 (fun _ _=>none) M (fun _=>.undef) (fun b=>(T.nil:T Blk).get .dead b) 0 { tmps:=#[],defers:=[] } W:=SRel.emptyA #[] (Nat.zero_le _) hM
def PureC (P:Program) (gl:Nat->AV) (f:FuncId) (args:List AV) (v:AV):Prop :=
 ∀ M W vals,GlobOK M gl->MemOK M W->ArgsP M vals args->FnOK P f/\Calls P f vals W fun e W' =>
  ∃ u M',e=.returned u/\RelP M' u v/\MExt M M'/\MemOK M' W'/\(∀ B i v,M' B i=some v->M B i=some v\/W.heap.size<=B)/\Keep (fun _=>True) W W'
structure Pn where
 pos:Nat
 ix:Nat
 o:Oper
 asg:List Nat
 tm:Nat->AV
 gd:Option GD
 out:AV
def isDst (D:List Pn) (t:Nat):Prop:=∃ p∈D,p.o.dst=some t
open Classical in
noncomputable def maskF (D:List Pn) (tm:Nat->AV):Nat->AV:=fun t=>if isDst D t then .undef else tm t
theorem maskF_rel {ρ M v} {D:List Pn} {tm:Nat->AV} {t:Nat} (h:¬ isDst D t->Rel ρ M v (tm t)):Rel ρ M v (maskF D tm t):=by
 unfold maskF;split
 ·exact .undef v
 ·exact h ‹_›
theorem maskF_get {D:List Pn} {tm:Nat->AV} {t:Nat} (h:¬ isDst D t):maskF D tm t=tm t:=by
 unfold maskF; rw [if_neg h]
def IndOp (E:Env) (o:Oper) (ev:Operand->AV) (v:AV):Prop :=
 ∀ (ρ:Rho) (M:Mem) (a:Act) (w:World),GlobOK M E.gl->MemOK M w->a.tmps.size<=slotD->(∀ x∈o.op.operands,Rel ρ M (a.eval x) (ev x))->∀ (r:Option Nat) (Kc:Act->World->Prop) (Q:Exit->Act->World->Prop),
  (∀ u w' M',RelP M' u v->MExt M M'->MemOK M' w'->(∀ B i v,M' B i=some v->M B i=some v\/w.heap.size<=B)->Keep (fun _=>True) w w'->Kc (a.put o.dst u) w')->o.wpIn (WF r) 0 E.P a w Kc Q
def PureX (E:Env) (p:Pn):Prop :=
 (metG p.gd=true->∃ v,IndOp E p.o (stripO p.asg (gsOf p.gd) (evOf E.gl p.tm)) v/\p.out=(wrapG p.gd v).norm E.cl) /\
 (metG p.gd=false->∃ d x,p.gd=some d/\p.out=.opt d.m d.g.1 d.g.2 x)
def XOK (E:Env) (ops:Array Oper) (hp:Nat->Blk) (nx:Nat) (p:Pn):Prop :=
 (evOp p.o.op=false/\QOK E.P E.gl ops p.asg p.tm hp nx E.cl p.gd p.o p.out)\/(evOp p.o.op=true/\PureX E p)
def pairF (ops:Array Oper) (pr:List (List Nat)) (i j:Nat):Prop:=∀ oi oj,ops[i]?=some oi->ops[j]?=some oj->j ∉ pr.getD i []/\(i∈pr.getD j []\/(True/\oi.apart ops oj=true))
structure Drawn (E:Env) (ops:Array Oper) (pr:List (List Nat)) (lo:Bool) (U:Base) (w0:World) (n:Nat) (l:List Nat) (D:List Pn) (c:Nat) (asg:List Nat) (lg:List Foot) (s:St) (ρ:Rho) (M:Mem) (a:Act) (w:World) (L:Nat->Prop):Prop where
 rel:SRel U w0 n ρ M (maskF D s.tmf) s.hpf s.nx a w
 slots:∀ t∈asg,¬ isDst D t->SlotOK ρ M (a.tmps.getD t Go.undef) (s.tmf t)
 ri:RI ops asg s.tmf
 pend:∀ p∈D,ops[p.ix]?=some p.o/\XOK E ops s.hpf s.nx p/\RI ops p.asg p.tm/\gdIs ops p.asg p.tm p.o p.gd
 pos:∀ p∈D,p.pos<c
 uniq:∀ p∈D,∀ q∈D,p.pos=q.pos\/p.ix=q.ix\/(∃ t,p.o.dst=some t/\q.o.dst=some t)->p=q
 pair:∀ p∈D,∀ q∈D,p.pos<q.pos->pairF ops pr p.ix q.ix/\∀ t∈q.o.looksAt ops,p.o.dst=some t->q.tm t=p.out
 looks:∀ p∈D,∀ t∈p.o.looksAt ops,(∀ q∈D,q.pos<p.pos->q.o.dst≠some t) ->
  Rel ρ M (a.tmps.getD t Go.undef) (p.tm t)/\(t∈p.asg->SlotOK ρ M (a.tmps.getD t Go.undef) (p.tm t))
 vals:∀ p∈D,∀ t,p.o.dst=some t->s.tmf t=p.out/\t∈asg/\t<n
 ahead:∀ p∈D,∀ i∈l,pairF ops pr p.ix i
 ord:l.Nodup/\∀ i∈l,i<ops.size
 listed:∀ i,i<ops.size->(L i ↔ ¬ (i∈l\/∃ p∈D,p.ix=i))
 ixs:∀ p∈D,p.ix ∉ l
 closed:Closed ops L
 log:∀ p∈D,evOp p.o.op=false->∃ d∈lg,d.ix=p.ix/\d.rd=rdIds p.o.op (stripO p.asg (gsOf p.gd) (evOf E.gl p.tm))
section
variable {E:Env} {ops:Array Oper} {pr:List (List Nat)} {lo:Bool} {U:Base} {w0:World} {n:Nat} {l:List Nat} {D:List Pn} {c:Nat} {asg:List Nat} {lg:List Foot} {s:St} {ρ ρ':Rho} {M M':Mem} {a:Act} {w w':World} {L:Nat->Prop}
theorem pairB_inv {i j:Nat} {oi oj:Oper} (h:pairB ops pr i j=true) (hi:ops[i]?=some oi) (hj:ops[j]?=some oj) :
  j ∉ pr.getD i []/\(i∈pr.getD j []\/(evOp oi.op=false/\oi.apart ops oj=true)):=by
 simp only [pairB,hi,hj,Bool.and_eq_true,Bool.or_eq_true,Bool.not_eq_true',List.contains_eq_mem,decide_eq_true_eq,decide_eq_false_iff_not] at h;exact h
theorem pairF_inv {i j:Nat} {oi oj:Oper} (h:pairF ops pr i j) (hi:ops[i]?=some oi) (hj:ops[j]?=some oj):j ∉ pr.getD i []/\(i∈pr.getD j []\/(True/\oi.apart ops oj=true)):=h _ _ hi hj
theorem pairF_of {i j:Nat} (h:pairB ops pr i j=true):pairF ops pr i j:=fun oi oj hi hj=>by
 obtain ⟨a,b⟩:=pairB_inv h hi hj;exact ⟨a,b.imp id fun x=>⟨trivial,x.2⟩⟩
theorem Drawn.absorb {i:Nat} {o:Oper} {gd:Option GD} {out:AV} {rd:List Nat} (h:Drawn E ops pr lo U w0 n l D c asg lg s ρ M a w L) (hil:i∈l) (hah:∀ j∈l,j≠i->pairF ops pr i j) (ho:ops[i]?=some o)
  (hrd:evOp o.op=false->rd=rdIds o.op (stripO asg (gsOf gd) (evOf E.gl s.tmf)))
  (hd:dstOK n asg o.dst=true) (hgd:gdIs ops asg s.tmf o gd) (hq:XOK E ops s.hpf s.nx ⟨c,i,o,asg,s.tmf,gd,out⟩) (hsh:OutShape gd out) :
  Drawn E ops pr lo U w0 n (l.erase i) (⟨c,i,o,asg,s.tmf,gd,out⟩::D) (c+1) (o.dst.toList++asg) (⟨i,rd⟩::lg) (s.put1 o.dst out) ρ M a w L:=by
 have hdst:∀ t,o.dst=some t->t<n/\t ∉ asg:=by
  intro t ht;rw [ht] at hd;simp only [dstOK,Bool.and_eq_true,decide_eq_true_eq,Bool.not_eq_true'] at hd;exact ⟨hd.1,by simpa using hd.2⟩
 have hni:∀ p∈D,p.ix≠i:=fun p hp e=>h.ixs p hp (by rw [e]; exact hil)
 have hisd:∀ t,isDst D t->t∈asg:=fun t ⟨p,hp,ht⟩=>(h.vals p hp t ht).2.1
 refine ⟨?_,?_,?_,?_,?_,?_,?_,?_,?_,?_,?_,?_,?_,h.closed,?_⟩
 ·rw [put1_hpf,put1_nx,put1_tmf];refine ⟨h.rel.size,fun t=>maskF_rel fun hnd=>?_,h.rel.hok,h.rel.dead,h.rel.free,h.rel.keep,h.rel.memN,h.rel.memE,h.rel.own,h.rel.nle,h.rel.ownL,?_,h.rel.marks,h.rel.mown,h.rel.nod,h.rel.ext⟩
  ·have h1:¬ isDst D t:=fun ⟨p,hp,ht⟩=>hnd ⟨p,List.mem_cons_of_mem _ hp,ht⟩
   have h2:o.dst≠some t:=fun e=>hnd ⟨_,List.mem_cons_self ..,e⟩
   have:=h.rel.tm t;rw [maskF_get h1] at this;simpa [putF,h2] using this
  ·have hnl:=h.rel.nle;have k1:¬ isDst D slotD:=fun ⟨p,hp,ht⟩=>absurd hnl (Nat.not_le.2 (h.vals p hp _ ht).2.2)
   have k2:¬ isDst (⟨c,i,o,asg,s.tmf,gd,out⟩::D) slotD:=fun ⟨p,hp,ht⟩=>by
    rcases List.mem_cons.1 hp with rfl|hp
    ·exact absurd hnl (Nat.not_le.2 (hdst _ ht).1)
    ·exact k1 ⟨p,hp,ht⟩
   have h3:o.dst≠some slotD:=fun e=>absurd hnl (Nat.not_le.2 (hdst _ e).1)
   have hdf:=h.rel.defers;rw [maskF_get k1] at hdf;rw [maskF_get k2];simpa [putF,h3] using hdf
 ·intro t ht hnd;have h1:¬ isDst D t:=fun ⟨p,hp,ht⟩=>hnd ⟨p,List.mem_cons_of_mem _ hp,ht⟩
  have h2:o.dst≠some t:=fun e=>hnd ⟨_,List.mem_cons_self ..,e⟩
  rw [put1_tmf];have ht':t∈asg:=by
   rcases List.mem_append.1 ht with ht|ht
   ·exact absurd (by simpa using ht) h2
   ·exact ht
  simpa [putF,h2] using h.slots t ht' h1
 ·rw [put1_tmf]; exact RI.put h.ri hgd hsh hd
 ·intro p hp;rw [put1_hpf,put1_nx];rcases List.mem_cons.1 hp with rfl|hp
  ·exact ⟨ho,hq,h.ri,hgd⟩
  ·exact h.pend p hp
 ·intro p hp;rcases List.mem_cons.1 hp with rfl|hp
  ·exact Nat.lt_succ_self c
  ·have:=h.pos p hp; omega
 ·intro p hp q hq' hpq;rcases List.mem_cons.1 hp with rfl|hp' <;> rcases List.mem_cons.1 hq' with rfl|hq''
  ·rfl
  ·rcases hpq with e|e|⟨t,e1,e2⟩
   ·have:=h.pos q hq''; simp only at e; omega
   ·exact absurd e.symm (hni q hq'')
   ·exact absurd (h.vals q hq'' t e2).2.1 (hdst t e1).2
  ·rcases hpq with e|e|⟨t,e1,e2⟩
   ·have:=h.pos p hp'; simp only at e; omega
   ·exact absurd e (hni p hp')
   ·exact absurd (h.vals p hp' t e1).2.1 (hdst t e2).2
  ·exact h.uniq p hp' q hq'' hpq
 ·intro p hp q hq' hlt;rcases List.mem_cons.1 hp with rfl|hp' <;> rcases List.mem_cons.1 hq' with rfl|hq''
  ·simp only at hlt; omega
  ·have:=h.pos q hq''; simp only at hlt; omega
  ·exact ⟨h.ahead p hp' i hil,fun t _ ht=>(h.vals p hp' t ht).1⟩
  ·exact h.pair p hp' q hq'' hlt
 ·intro p hp t ht hno;rcases List.mem_cons.1 hp with rfl|hp'
  ·have h1:¬ isDst D t:=fun ⟨q,hq',hqt⟩=>hno q (List.mem_cons_of_mem _ hq') (h.pos q hq') hqt
   have:=h.rel.tm t;rw [maskF_get h1] at this;exact ⟨this,fun hta=>h.slots t hta h1⟩
  ·exact h.looks p hp' t ht (fun q hq' hlt=>hno q (List.mem_cons_of_mem _ hq') hlt)
 ·intro p hp t ht;rw [put1_tmf];rcases List.mem_cons.1 hp with rfl|hp'
  ·simp only at ht;exact ⟨by simp [putF,ht],by simp [ht],(hdst t ht).1⟩
  ·obtain ⟨k1,k2,k3⟩:=h.vals p hp' t ht;have:o.dst≠some t:=fun e=>(hdst t e).2 k2
   exact ⟨by simpa [putF,this] using k1,List.mem_append_right _ k2,k3⟩
 ·intro p hp j hj;rcases List.mem_cons.1 hp with rfl|hp'
  ·exact hah j (List.mem_of_mem_erase hj) (fun e=>by subst e; exact h.ord.1.not_mem_erase hj)
  ·exact h.ahead p hp' j (List.mem_of_mem_erase hj)
 ·exact ⟨h.ord.1.sublist List.erase_sublist,fun j hj=>h.ord.2 j (List.mem_of_mem_erase hj)⟩
 ·intro j hj;rw [h.listed j hj];refine not_congr ⟨fun hx=>?_,fun hx=>?_⟩
  ·rcases hx with hx|⟨p,hp,e⟩
   ·by_cases e:j=i
    ·exact .inr ⟨_,List.mem_cons_self ..,e.symm⟩
    ·exact .inl ((List.mem_erase_of_ne e).2 hx)
   ·exact .inr ⟨p,List.mem_cons_of_mem _ hp,e⟩
  ·rcases hx with hx|⟨p,hp,e⟩
   ·exact .inl (List.mem_of_mem_erase hx)
   ·rcases List.mem_cons.1 hp with rfl|hp
    ·simp only at e; subst e; exact .inl hil
    ·exact .inr ⟨p,hp,e⟩
 ·intro p hp;rcases List.mem_cons.1 hp with rfl|hp'
  ·exact h.ord.1.not_mem_erase
  ·exact fun hx=>h.ixs p hp' (List.mem_of_mem_erase hx)
 ·intro p hp hpe;rcases List.mem_cons.1 hp with rfl|hp'
  ·exact ⟨_,List.mem_cons_self ..,rfl,hrd hpe⟩
  ·obtain ⟨d,hd',e⟩:=h.log p hp' hpe;exact ⟨d,List.mem_cons_of_mem _ hd',e⟩
def ReadyAt (ops:Array Oper) (L:Nat->Prop) (i:Nat):Prop:=∃ o,ops[i]?=some o/\∀ j∈afterOf o,L j
theorem ready_pr (ha:aftL ops.toList 0=true) (hL:Closed ops L) {i:Nat} (hi:ReadyAt ops L i):∀ j∈(predsOf ops.toList []).getD i [],L j:=by
 obtain ⟨o,ho,hall⟩:=hi;exact pr_closed ha hL (i+1) i o (Nat.lt_succ_self i) ho hall
def without (D:List Pn) (p:Pn):List Pn:=D.filter fun q=>q.pos !=p.pos
theorem mem_without {D:List Pn} {p q:Pn}:q∈without D p ↔ q∈D/\q.pos≠p.pos:=by simp [without]
theorem without_lt {D:List Pn} {p:Pn} (hp:p∈D):(without D p).length<D.length:=by
 unfold without;rcases Nat.lt_or_ge (D.filter fun q=>q.pos !=p.pos).length D.length with h|h
 ·exact h
 ·have:=List.length_filter_le (fun q=>q.pos !=p.pos) D
  have he:=List.length_filter_eq_length_iff.1 (Nat.le_antisymm this h) p hp;simp at he
theorem closed_put {i:Nat} {o:Oper} (hL:Closed ops L) (ho:ops[i]?=some o) (hall:∀ j∈afterOf o,L j):Closed ops (fun k=>L k\/k=i):=by
 intro k ok hk hok j hj;rcases hk with hk|rfl
 ·exact .inl (hL k ok hk hok j hj)
 ·rw [ho] at hok; cases hok;exact .inl (hall j hj)
theorem Drawn.exec {p:Pn} {u:Value} (h:Drawn E ops (predsOf ops.toList []) lo U w0 n l D c asg lg s ρ M a w L) (ha:aftL ops.toList 0=true) (hp:p∈D) (hr:ReadyAt ops L p.ix)
  (hx:RExt ρ ρ') (hM:MExt M M') (hS:SRel U w0 n ρ' M' (maskF D s.tmf) s.hpf s.nx a w') (hout:SlotOK ρ' M' u p.out) :
  Drawn E ops (predsOf ops.toList []) lo U w0 n l (without D p) c asg lg s ρ' M' (a.put p.o.dst u) w' (fun k=>L k\/k=p.ix):=by
 have hpr:=ready_pr ha h.closed hr;have hlt:∀ q∈D,q.ix<ops.size:=fun q hq=>(Array.getElem?_eq_some_iff.1 (h.pend q hq).1).1
 have hun:∀ q∈D,¬ L q.ix:=fun q hq hl=>(h.listed q.ix (hlt q hq)).1 hl (.inr ⟨q,hq,rfl⟩)
 have hget:∀ t,(a.put p.o.dst u).tmps.getD t Go.undef=if p.o.dst=some t then u else a.tmps.getD t Go.undef:=by
  intro t;rw [put_getD,hS.size];by_cases e:p.o.dst=some t
  ·simp [e,(h.vals p hp t e).2.2]
  ·simp [e]
 have hidst:∀ t,¬ isDst (without D p) t->p.o.dst≠some t->¬ isDst D t:=by
  rintro t hn hne ⟨q,hq,hqt⟩;refine hn ⟨q,mem_without.2 ⟨hq,fun e=>?_⟩,hqt⟩
  have:=h.uniq q hq p hp (.inl e);subst this;exact hne hqt
 refine ⟨?_,?_,h.ri,?_,?_,?_,?_,?_,?_,?_,h.ord,?_,?_,?_,?_⟩
 ·have hnl:=h.rel.nle;have k1:¬ isDst D slotD:=fun ⟨p,hp,ht⟩=>absurd hnl (Nat.not_le.2 (h.vals p hp _ ht).2.2)
  have k2:¬ isDst (without D p) slotD:=fun ⟨q,hq,ht⟩=>k1 ⟨q,(mem_without.1 hq).1,ht⟩
  refine hS.put (by rw [maskF_get k1,maskF_get k2]) fun t=>⟨fun ht=>maskF_rel fun hn=>?_,fun ht=>maskF_rel fun hn=>?_⟩
  ·rw [(h.vals p hp t ht.1).1]; exact hout.rel
  ·have hne:p.o.dst≠some t:=fun e=>ht ⟨e,(h.vals p hp t e).2.2⟩
   have:=hS.tm t
   rwa [maskF_get (hidst t hn hne)] at this
 ·intro t ht hn;rw [hget t];split
  ·rename_i e;rw [(h.vals p hp t e).1]; exact hout
  ·rename_i e;exact (h.slots t ht (hidst t hn e)).mono hx hM
 ·intro q hq; exact h.pend q (mem_without.1 hq).1
 ·intro q hq; exact h.pos q (mem_without.1 hq).1
 ·intro q hq r hr' e; exact h.uniq q (mem_without.1 hq).1 r (mem_without.1 hr').1 e
 ·intro q hq r hr' e; exact h.pair q (mem_without.1 hq).1 r (mem_without.1 hr').1 e
 ·intro q hq t ht hno;obtain ⟨hq,hqp⟩:=mem_without.1 hq;rw [hget t];split
  ·rename_i e;rcases Nat.lt_or_ge p.pos q.pos with hlt'|hge
   ·rw [(h.pair p hp q hq hlt').2 t ht e];exact ⟨hout.rel,fun _=>hout⟩
   ·have hlt':q.pos<p.pos:=by omega
    obtain ⟨k1,k2⟩:=pairF_inv (h.pair q hq p hp hlt').1 (h.pend q hq).1 (h.pend p hp).1;rcases k2 with k2|⟨_,k2⟩
    ·exact absurd (hpr _ k2) (hun q hq)
    ·exact absurd ht ((Oper.apart_spec k2).2.2 t e)
  ·rename_i e;have:=h.looks q hq t ht (fun r hr' hlt'=>by
    by_cases hrp:r.pos=p.pos
    ·have:=h.uniq r hr' p hp (.inl hrp);subst this;exact e
    ·exact hno r (mem_without.2 ⟨hr',hrp⟩) hlt')
   exact ⟨this.1.mono hx hM,fun hta=>(this.2 hta).mono hx hM⟩
 ·intro q hq; exact h.vals q (mem_without.1 hq).1
 ·intro q hq; exact h.ahead q (mem_without.1 hq).1
 ·intro i hi;rw [h.listed i hi];constructor
  ·rintro (h1|rfl) (h2|⟨q,hq,e⟩)
   ·exact h1 (.inl h2)
   ·exact h1 (.inr ⟨q,(mem_without.1 hq).1,e⟩)
   ·exact h.ixs p hp h2
   ·exact (mem_without.1 hq).2 (congrArg Pn.pos (h.uniq q (mem_without.1 hq).1 p hp (.inr (.inl e))))
  ·intro h1;by_cases e:i=p.ix
   ·exact .inr e
   ·refine .inl fun h2=>h1 ?_
    rcases h2 with h2|⟨q,hq,e2⟩
    ·exact .inl h2
    ·refine .inr ⟨q,mem_without.2 ⟨hq,fun e3=>?_⟩,e2⟩
     have:=h.uniq q hq p hp (.inl e3);subst this;exact e e2.symm
 ·intro q hq; exact h.ixs q (mem_without.1 hq).1
 ·obtain ⟨o,ho,hall⟩:=hr;exact closed_put h.closed ho hall
 ·intro q hq; exact h.log q (mem_without.1 hq).1
end
section
variable {E:Env} {ops:Array Oper} {lo:Bool} {U:Base} {w0:World} {n:Nat} {l:List Nat} {D:List Pn} {c:Nat} {asg:List Nat} {lg:List Foot} {s:St} {ρ ρ':Rho} {M M':Mem} {a:Act} {w w':World} {L:Nat->Prop}
theorem Drawn.event {i:Nat} {o:Oper} {gd:Option GD} {out:AV} {u:Value} {s1:St} (h:Drawn E ops (predsOf ops.toList []) lo U w0 n l D c asg lg s ρ M a w L) (hil:i∈l) (ha:aftL ops.toList 0=true)
  (ho:ops[i]?=some o) (hr:ReadyAt ops L i) (hd:dstOK n asg o.dst=true) (hgd:gdIs ops asg s.tmf o gd) (hsh:OutShape gd out)
  (hx:RExt ρ ρ') (hM:MExt M M') (ht:s1.tm=s.tm) (hS:SRel U w0 n ρ' M' (maskF D s.tmf) s1.hpf s1.nx a w') (hout:SlotOK ρ' M' u out)
  (hkeep:∀ p∈D,evOp p.o.op=false->∀ b∈rdIds p.o.op (stripO p.asg (gsOf p.gd) (evOf E.gl p.tm)),s1.hpf b=s.hpf b) :
  Drawn E ops (predsOf ops.toList []) lo U w0 n (l.erase i) D c (o.dst.toList++asg) lg (s1.put1 o.dst out) ρ' M' (a.put o.dst u) w' (fun k=>L k\/k=i):=by
 have htf:s1.tmf=s.tmf:=by funext t; simp [St.tmf,ht]
 have hpr:=ready_pr ha h.closed hr;have hlt:∀ q∈D,q.ix<ops.size:=fun q hq=>(Array.getElem?_eq_some_iff.1 (h.pend q hq).1).1
 have hun:∀ q∈D,¬ L q.ix:=fun q hq hl=>(h.listed q.ix (hlt q hq)).1 hl (.inr ⟨q,hq,rfl⟩)
 have hdst:∀ t,o.dst=some t->t<n/\t ∉ asg:=by
  intro t ht;rw [ht] at hd;simp only [dstOK,Bool.and_eq_true,decide_eq_true_eq,Bool.not_eq_true'] at hd;exact ⟨hd.1,by simpa using hd.2⟩
 have hni:∀ p∈D,p.ix≠i:=fun p hp e=>h.ixs p hp (by rw [e]; exact hil)
 have hnd:∀ t,o.dst=some t->¬ isDst D t:=fun t ht ⟨p,hp,hpt⟩=>(hdst t ht).2 (h.vals p hp t hpt).2.1
 have hget:∀ t,(a.put o.dst u).tmps.getD t Go.undef=if o.dst=some t then u else a.tmps.getD t Go.undef:=by
  intro t;rw [put_getD,hS.size];by_cases e:o.dst=some t
  ·simp [e,(hdst t e).1]
  ·simp [e]
 have hap:∀ p∈D,p.o.apart ops o=true:=by
  intro p hp;obtain ⟨_,k2⟩:=pairF_inv (h.ahead p hp i hil) (h.pend p hp).1 ho;rcases k2 with k2|⟨_,k2⟩
  ·exact absurd (hpr _ k2) (hun p hp)
  ·exact k2
 refine ⟨?_,?_,?_,?_,h.pos,h.uniq,h.pair,?_,?_,?_,?_,?_,?_,?_,h.log⟩
 ·rw [put1_hpf,put1_nx,put1_tmf,htf];have hnl:=h.rel.nle;have k1:¬ isDst D slotD:=fun ⟨p,hp,ht⟩=>absurd hnl (Nat.not_le.2 (h.vals p hp _ ht).2.2)
  have k2:o.dst≠some slotD:=fun e=>absurd hnl (Nat.not_le.2 (hdst _ e).1)
  refine hS.put (by rw [maskF_get k1,maskF_get k1]; simp [putF,k2]) fun t=>⟨fun hte=>maskF_rel fun _=>?_,fun hte=>maskF_rel fun hn=>?_⟩
  ·simp only [putF,hte.1,if_true]; exact hout.rel
  ·have hne:o.dst≠some t:=fun e=>hte ⟨e,(hdst t e).1⟩
   have:=hS.tm t;rw [maskF_get hn] at this;simpa [putF,hne] using this
 ·intro t hta hn;rw [hget t,put1_tmf,htf];by_cases e:o.dst=some t
  ·simp only [e,if_true,putF]; exact hout
  ·simp only [putF,if_neg e];have hta':t∈asg:=by
    rcases List.mem_append.1 hta with hta|hta
    ·exact absurd (by simpa using hta) e
    ·exact hta
   exact (h.slots t hta' hn).mono hx hM
 ·rw [put1_tmf,htf]; exact RI.put h.ri hgd hsh hd
 ·intro p hp;rw [put1_hpf,put1_nx];obtain ⟨k1,k3,k4,k5⟩:=h.pend p hp;refine ⟨k1,?_,k4,k5⟩;rcases k3 with ⟨k2,k3⟩|k3
  ·refine .inl ⟨k2,fun hm=>?_,k3.2⟩
   obtain ⟨v,ob,m1,m2,m3⟩:=k3.1 hm;exact ⟨v,ob,by rw [opSR_congr k2 (hkeep p hp k2)]; exact m1,m2,m3⟩
  ·exact .inr k3
 ·intro p hp t htl hno;rw [hget t];have hne:o.dst≠some t:=fun e=>(Oper.apart_spec (hap p hp)).2.2 t e htl
  rw [if_neg hne];obtain ⟨k1,k2⟩:=h.looks p hp t htl hno;exact ⟨k1.mono hx hM,fun hta=>(k2 hta).mono hx hM⟩
 ·intro p hp t hpt;obtain ⟨k1,k2,k3⟩:=h.vals p hp t hpt;have:o.dst≠some t:=fun e=>(hdst t e).2 k2
  rw [put1_tmf,htf];exact ⟨by simpa [putF,this] using k1,List.mem_append_right _ k2,k3⟩
 ·intro p hp j hj; exact h.ahead p hp j (List.mem_of_mem_erase hj)
 ·exact ⟨h.ord.1.sublist List.erase_sublist,fun j hj=>h.ord.2 j (List.mem_of_mem_erase hj)⟩
 ·intro j hj;rw [h.listed j hj];constructor
  ·rintro (h1|rfl) (h2|⟨p,hp,e⟩)
   ·exact h1 (.inl (List.mem_of_mem_erase h2))
   ·exact h1 (.inr ⟨p,hp,e⟩)
   ·exact (h.ord.1.not_mem_erase) h2
   ·exact hni p hp e
  ·intro h1;by_cases e:j=i
   ·exact .inr e
   ·refine .inl fun h2=>h1 ?_
    rcases h2 with h2|⟨p,hp,e2⟩
    ·exact .inl ((List.mem_erase_of_ne e).2 h2)
    ·exact .inr ⟨p,hp,e2⟩
 ·intro p hp hx'; exact h.ixs p hp (List.mem_of_mem_erase hx')
 ·obtain ⟨o',ho',hall⟩:=hr;exact closed_put h.closed ho' hall
theorem Drawn.setL {L':Nat->Prop} (h:Drawn E ops (predsOf ops.toList []) lo U w0 n l D c asg lg s ρ M a w L) (e:∀ i,L i ↔ L' i):Drawn E ops (predsOf ops.toList []) lo U w0 n l D c asg lg s ρ M a w L':=by
 have:L=L':=funext fun i=>propext (e i)
 subst this; exact h
def listedP (listed:Array Bool):Nat->Prop:=fun i=>listed.getD i false=true
theorem listedP_set {listed:Array Bool} {i:Nat} (hi:i<listed.size):∀ k,(listedP listed k\/k=i) ↔ listedP (listed.setIfInBounds i true) k:=by
 intro k;unfold listedP;by_cases e:i=k
 ·subst e; simp [hi]
 ·have:(listed.setIfInBounds i true).getD k false=listed.getD k false:=getD_set_ne false e;rw [this];constructor
  ·rintro (h|h)
   ·exact h
   ·exact absurd h.symm e
  ·exact .inl
theorem ready_iff {listed:Array Bool} (hsz:listed.size=ops.size) {i:Nat}:i∈Region.ready .any ops listed ↔ i<ops.size/\¬ listedP listed i/\ReadyAt ops (listedP listed) i:=by
 rw [mem_ready];constructor
 ·rintro ⟨h0,o,ho,hall⟩;have hi:=(Array.getElem?_eq_some_iff.1 ho).1;refine ⟨hi,?_,o,ho,fun j hj=>?_⟩
  ·unfold listedP;have hi':i<listed.size:=by rw [hsz]; exact hi
   simp [hi'] at h0 ⊢;exact h0
  ·obtain ⟨e,he,hb,rfl⟩:=mem_afterOf.1 hj;exact hall e he hb
 ·rintro ⟨hi,h0,o,ho,hall⟩;refine ⟨?_,o,ho,fun e he hb=>hall _ (mem_afterOf.2 ⟨e,he,hb,rfl⟩)⟩
  have hi':i<listed.size:=by rw [hsz]; exact hi
  unfold listedP at h0;simp [hi'] at h0 ⊢;exact h0
theorem least_mem:∀ (l:List Nat),l≠[]->∃ e∈l,∀ j∈l,e<=j
 | [],h=>absurd rfl h
 | [x],_=>⟨x,by simp,by simp⟩
 | x::y::r,_=>by
  obtain ⟨e,he,hm⟩:=least_mem (y::r) (by simp)
  rcases Nat.le_total x e with h|h
  ·exact ⟨x,by simp,fun j hj=>by
    rcases List.mem_cons.1 hj with rfl|hj
    ·exact Nat.le_refl _
    ·exact Nat.le_trans h (hm j hj)⟩
  ·exact ⟨e,List.mem_cons_of_mem _ he,fun j hj=>by
    rcases List.mem_cons.1 hj with rfl|hj
    ·exact h
    ·exact hm j hj⟩
theorem Drawn.progress {listed:Array Bool} (hsz:listed.size=ops.size) (h:Drawn E ops (predsOf ops.toList []) lo U w0 n l D c asg lg s ρ M a w (listedP listed)) (ha:aftL ops.toList 0=true) (hne:l≠[]\/D≠[]) :
  Region.ready .any ops listed≠[]:=by
 intro hnil;have contra:∀ i o,ops[i]?=some o->¬ listedP listed i->(∀ j∈afterOf o,listedP listed j)->False:=by
  intro i o ho hu hall;have:i∈Region.ready .any ops listed:=(ready_iff hsz).2 ⟨(Array.getElem?_eq_some_iff.1 ho).1,hu,o,ho,hall⟩;rw [hnil] at this; cases this
 have inpr:∀ i o,ops[i]?=some o->∀ j∈afterOf o,j∈(predsOf ops.toList []).getD i []/\j<i:=by
  intro i o ho j hj;refine ⟨?_,by simpa using aftL_at ops.toList 0 i o ha (by simpa using ho) j hj⟩
  rw [pr_at ha ho,mem_uniq];exact List.mem_flatMap.2 ⟨j,hj,List.mem_cons_self ..⟩
 by_cases hD:D=[]
 ·subst hD;have hlne:l≠[]:=hne.resolve_right (by simp)
  obtain ⟨e,hel,hmin⟩:=least_mem l hlne;have he:=h.ord.2 e hel;refine contra e ops[e] (Array.getElem?_eq_getElem he) (fun hl=>(h.listed e he).1 hl (.inl hel)) (fun j hj=>?_)
  obtain ⟨k1,k2⟩:=inpr e _ (Array.getElem?_eq_getElem he) j hj;rw [h.listed j (by omega)]
  rintro (h1|⟨p,hp,_⟩)
  ·have:=hmin j h1;omega
  ·cases hp
 ·-- the one that was walked first
  have hmin:∃ p∈D,∀ q∈D,p.pos<=q.pos:=by
   have:∀ (D:List Pn),D≠[]->∃ p∈D,∀ q∈D,p.pos<=q.pos:=by
    intro D;induction D with
    | nil=>intro h; exact absurd rfl h
    | cons x r ih =>
     intro _;by_cases hr:r=[]
     ·subst hr;exact ⟨x,List.mem_cons_self ..,fun q hq=>by rcases List.mem_cons.1 hq with rfl|hq; exact Nat.le_refl _; cases hq⟩
     ·obtain ⟨p,hp,hall⟩:=ih hr;rcases Nat.le_total x.pos p.pos with hle|hle
      ·exact ⟨x,List.mem_cons_self ..,fun q hq=>by
        rcases List.mem_cons.1 hq with rfl|hq
        ·exact Nat.le_refl _
        ·exact Nat.le_trans hle (hall q hq)⟩
      ·exact ⟨p,List.mem_cons_of_mem _ hp,fun q hq=>by
        rcases List.mem_cons.1 hq with rfl|hq
        ·exact hle
        ·exact hall q hq⟩
   exact this D hD
  obtain ⟨p,hp,hall⟩:=hmin;have hpo:=(h.pend p hp).1;have hps:=(Array.getElem?_eq_some_iff.1 hpo).1;refine contra p.ix p.o hpo (fun hl=>(h.listed p.ix hps).1 hl (.inr ⟨p,hp,rfl⟩)) (fun j hj=>?_)
  obtain ⟨k1,k2⟩:=inpr p.ix _ hpo j hj;rw [h.listed j (by omega)]
  rintro (h1|⟨q,hq,rfl⟩)
  ·have hj':=h.ord.2 j h1;exact (pairF_inv (h.ahead p hp j h1) hpo (Array.getElem?_eq_getElem hj')).1 k1
  ·have hne':p.pos≠q.pos:=fun e=>by
    have:=h.uniq p hp q hq (.inl e);subst this;omega
   have hlt:p.pos<q.pos:=by have:=hall q hq; omega
   exact (pairF_inv (h.pair p hp q hq hlt).1 hpo (h.pend q hq).1).1 k1
end
theorem bothL_sat:∀ (l:List VT) (t:VT),(bothL l t).sat ↔ ((∀ x∈l,x.sat)/\t.sat)
 | [],t=>by simp [bothL]
 | x::l,t=>by
  simp only [bothL,VT.sat,bothL_sat l t,List.mem_cons,forall_eq_or_imp,and_assoc]
theorem apart_symm {ops:Array Oper} {x y:Oper} (h:x.apart ops y=true):y.apart ops x=true:=by
 obtain ⟨h1,h2,h3⟩:=Oper.apart_spec h;unfold Oper.apart;rw [Bool.and_eq_true];constructor
 ·cases hy:y.dst with
  | none=>rfl
  | some d =>
   simp only [Bool.and_eq_true,Bool.not_eq_true',List.contains_eq_mem,decide_eq_false_iff_not,bne_iff_ne,ne_eq];exact ⟨h3 d hy,fun e=>h2 d e hy⟩
 ·cases hx:x.dst with
  | none=>rfl
  | some d =>
   simp only [Bool.not_eq_true',List.contains_eq_mem,decide_eq_false_iff_not];exact h1 d hx
theorem call_at {P:Program} {ρ:Rho} {M:Mem} {a:Act} {w:World} {o:Oper} {ev:Operand->AV} {f:FuncId} {args:List AV} (hx:∀ x∈o.op.operands,Rel ρ M (a.eval x) (ev x)) (htgt:targetOf o.op ev=.fn f args) :
  ∃ vals,ArgsRel ρ M vals args/\(FnOK P f->(execOp a.eval o).run P w=.ok (.enter f vals) w):=by
 unfold targetOf at htgt;split at htgt
 ·rename_i fo as ts ho;split at htgt
  ·rename_i g first cap hfo;simp only [Target.fn.injEq] at htgt;obtain ⟨rfl,rfl⟩:=htgt;have h1:=hx fo (by simp [ho,Op.operands,Call.operands])
   rw [hfo] at h1;obtain ⟨fs,cs,h2,h3,h4,h5,h6⟩:=h1.fnInv;refine ⟨fs++as.map a.eval++cs,ArgsRel.app (ArgsRel.app ⟨h3,h5⟩ ?_) ⟨h4,h6⟩,fun hfn=>run_call ho h2 hfn⟩
   have:=args_rel (ρ:=ρ) (M:=M) (a:=a) (ev:=ev) as.toList (fun x hxx=>hx x (by simp [ho,Op.operands,Call.operands]; exact .inr (by simpa using hxx)))
   have e:(List.map a.eval as.toList).toArray=as.map a.eval:=by rw [<- Array.toList_map,Array.toArray_toList]
   rw [e] at this;exact this
  ·cases htgt
  ·cases htgt
 ·cases htgt
 ·cases htgt
 ·cases htgt
theorem pureEv_ok0 {E:Env} (hctr:CtrOK E) {op:Op} {ev:Operand->AV} {nd:Bool} {v:AV} (h:pureEv E op ev=some (nd,v)) :
  ∃ f args,targetOf op ev=.fn f args/\args.all AV.isPure=true/\(nd=true->PureC E.P E.gl f args v):=by
 unfold pureEv at h;split at h
 ·rename_i f args ht;split at h
  ·rename_i hp;split at h
   ·rename_i nd' v' hc;split at h
    ·rename_i hv;simp only [Option.some.injEq,Prod.mk.injEq] at h;obtain ⟨rfl,rfl⟩:=h;refine ⟨f,args,ht,hp,fun hnd M W vals hG hM hA=>?_⟩
     have hS:=SRel.empty (M:=M) (W:=W) hM;obtain ⟨h1,h2⟩:=hctr.1 f args _ 0 _ hc _ W 0 _ M _ _ W vals hG hS ⟨hA.1,fun i hi=>.pure (hA.2 i hi)⟩ hnd (by simp [effOK])
     refine ⟨h1,h2.mono fun e W' ⟨u,ρ',M',k1,_,k3,k4,k5⟩=>⟨u,M',k1,k4.isPure hv,k3,k5.hok.mem,fun B i x hx=>?_,k5.keep⟩⟩
     rcases k5.memN B i x hx with h|h|h
     ·exact .inl h
     ·exact .inr h
     ·exact absurd trivial h
    ·cases h
   ·cases h
  ·cases h
 ·cases h
theorem pureEv_ok {E:Env} (hctr:CtrOK E) {o:Oper} {ev:Operand->AV} {nd:Bool} {v:AV} (hev:evOp o.op=true) (h:pureEv E o.op ev=some (nd,v)) (hnd:nd=true):IndOp E o ev v:=by
 obtain ⟨f,args,m1,m2,m3⟩:=pureEv_ok0 hctr h;intro ρ M a w hG hM _ hx r Kc Q hk;have hne:deferOf o.op=none:=by cases ho:o.op <;> first|rfl|(rw [ho] at hev; cases hev)
 obtain ⟨vals,hargs,hrun⟩:=call_at (P:=E.P) (w:=w) hx m1;obtain ⟨hfn,hcl⟩:=m3 hnd M w vals hG hM (hargs.pureP m2);refine wpIn_of hne ?_;rw [hrun hfn,Oper.uponIn_enter]
 refine ⟨fun e=>(by cases e),callsIn_WF.2 (hcl.mono fun e w' ⟨u,M',q1,q2,q3,q4,q5,q6⟩=>?_)⟩
 subst q1;exact hk u w' M' q2 q3 q4 q5 q6
theorem fzEv_ok {E:Env} {o:Oper} {ev:Operand->AV} {nd:Bool} {v:AV} (hev:evOp o.op=true) (h:fzEv E o ev=some (nd,v)) (hnd:nd=true):IndOp E o ev v:=by
 intro ρ M a w hG hM hn hx r Kc Q hk;have hne:deferOf o.op=none:=by cases ho:o.op <;> first|rfl|(rw [ho] at hev; cases hev)
 unfold fzEv at h;split at h
 case h_2=>cases h
 split at h
 case h_2=>cases h
 rename_i hall;split at h
 case h_2=>cases h
 rename_i nd' v0 eff hst;split at h
 case h_2=>cases h
 rename_i v' hfz;simp only [Option.some.injEq,Prod.mk.injEq] at h;obtain ⟨rfl,rfl⟩:=h;subst hnd;have hS:=SRel.emptyA (M:=M) (W:=w) a.tmps hn hM
 have hx':∀ x∈o.op.operands,Rel (fun _ _=>none) M (({ tmps:=a.tmps,defers:=[] }:Act).eval x) (ev x):=by
  intro x hxx;have hp:=List.all_eq_true.1 hall x (by simpa using hxx)
  have:({ tmps:=a.tmps,defers:=[] }:Act).eval x=a.eval x:=by cases x <;> rfl
  rw [this];exact .pure ((hx x hxx).isPure hp)
 have hae:({ tmps:=a.tmps,defers:=[] }:Act).eval=a.eval:=by funext x; cases x <;> rfl
 obtain ⟨u,w',ρ',M',hr,m1,m2,m3,m4⟩:=stepOp_sound (P:=E.P) hS _ hx' true v0 eff none hst rfl (fun p hp=>by cases hp)
 obtain ⟨g,sz,pu,q,m,cc,rfl,rfl,rfl,hpu⟩:=fzOf_eq hfz;have hn1:newOf 0 [(0,Blk.row g sz pu q)]=1:=by simp [newOf]
 rw [hn1] at m4;obtain ⟨M'',f1,f2,f3⟩:=m4.freezeNew (b:=0) (g:=g) (sz:=sz) (m:=m) (pu:=pu) (q:=q) (by simp [setEffF,updH]) hpu m3 (hpm:=fun b=>(T.nil:T Blk).get .dead b) (fun c=>by
  split
  ·rfl
  ·rename_i hc; simp [setEffF,updH,hc])
 rw [hae] at hr;have hfin:=hk u w' M'' f3 (m2.trans f1) f2.hok.mem (fun B i x hx=>by
  rcases f2.memN B i x hx with h|h|h
  ·exact .inl h
  ·exact .inr h
  ·exact absurd trivial h) f2.keep
 refine wpIn_of hne ?_;rcases hr with hr|⟨hr,hu⟩
 ·rw [hr,Oper.uponIn_value]; exact hfin
 ·rw [hr,Oper.uponIn_skip]; subst hu; exact hfin
theorem indEv_ok {E:Env} (hctr:CtrOK E) {o:Oper} {gd:Option GD} {ev:Operand->AV} {nd:Bool} {v:AV} (hev:evOp o.op=true) (h:indEv E o gd ev=some (nd,v)) (hnd:nd=true):IndOp E o ev v:=by
 unfold indEv at h;split at h
 ·rename_i q hq;cases h;exact pureEv_ok hctr hev hq hnd
 ·split at h
  ·exact fzEv_ok hev h hnd
  ·cases h
section
variable {E:Env} {call:CallH} {ops:Array Oper} {lo:Bool} {U:Base} {w0:World} {n:Nat} {Q:Exit->Act->World->Prop} {l:List Nat} {D:List Pn} {c:Nat} {asg:List Nat} {lg:List Foot} {s:St} {ρ:Rho} {M:Mem} {a:Act} {w:World} {listed:Array Bool}
theorem Drawn.run (hG:GlobOK U.M0 E.gl) (ha:aftL ops.toList 0=true) (r:Option Nat) (hsz:listed.size=ops.size) (h:Drawn E ops (predsOf ops.toList []) lo U w0 n l D c asg lg s ρ M a w (listedP listed)) {p:Pn} (hp:p∈D)
  (hr:p.ix∈Region.ready .any ops listed) {Next:Act->World->Prop}
  (next:∀ (u:Value) (w':World) (ρ':Rho) (M':Mem),RX ρ ρ' s.hpf s.nx->MExt M M' ->
   Drawn E ops (predsOf ops.toList []) lo U w0 n l (without D p) c asg lg s ρ' M' (a.put p.o.dst u) w' (listedP (listed.setIfInBounds p.ix true))->Next (a.put p.o.dst u) w') :
  wpOpIn (WF r) 0 E.P ops Q p.ix Next a w:=by
 obtain ⟨h1,h2,h3⟩:=(ready_iff hsz).1 hr;obtain ⟨k1,k3,k4,k5⟩:=h.pend p hp;have hpr:=ready_pr ha h.closed h3;have hlt:∀ q∈D,q.ix<ops.size:=fun q hq=>(Array.getElem?_eq_some_iff.1 (h.pend q hq).1).1
 have hun:∀ q∈D,¬ listedP listed q.ix:=fun q hq hl=>(h.listed q.ix (hlt q hq)).1 hl (.inr ⟨q,hq,rfl⟩)
 have hL:Looks ops p.asg p.tm ρ M a p.o:=by
  intro t ht;refine h.looks p hp t ht fun q hq hlt' e=>?_
  obtain ⟨_,m2⟩:=pairF_inv (h.pair q hq p hp hlt').1 (h.pend q hq).1 k1;rcases m2 with m2|⟨_,m2⟩
  ·exact hun q hq (hpr _ m2)
  ·exact (Oper.apart_spec m2).1 t e ht
 have next':∀ (u:Value) (w':World) (ρ':Rho) (M':Mem),RX ρ ρ' s.hpf s.nx->MExt M M'->SlotOK ρ' M' u p.out->SRel U w0 n ρ' M' (maskF D s.tmf) s.hpf s.nx a w'->Next (a.put p.o.dst u) w':=by
  intro u w' ρ' M' m1 m2 m3 m4;exact next u w' ρ' M' m1 m2 ((h.exec ha hp h3 m1.ext m2 m4 m3).setL (listedP_set (by rw [hsz]; exact h1)))
 have off:(∃ d x,p.gd=some d/\p.out=.opt d.m d.g.1 d.g.2 x)->metG p.gd=false->Next (a.put p.o.dst Go.undef) w:=by
  rintro ⟨d,x,hd1,hd2⟩ hm;refine next' Go.undef w ρ M (RX.refl _ _ _) (MExt.refl M) ?_ h.rel;rw [hd2];refine ⟨fun hh=>?_,fun _=>rfl⟩
  rw [hd1] at hm; simp only [metG] at hm; rw [hm] at hh; cases hh
 unfold wpOpIn;simp only [k1];rcases k3 with ⟨_,k3⟩|⟨hev,k3⟩
 ·cases hm:metG p.gd with
  | true =>
   rw [wanted_off k5 hL hm,if_pos rfl];obtain ⟨u,w1,ρ1,M1,hr,q1,q2,q3,q4⟩:=quiet_exec (P:=E.P) h.rel hG k3 k4 k5 hL hm;refine wpIn_of (quiet_ne k3 hm) ?_;have hn:=next' u w1 ρ1 M1 q1 q2 q3 q4;rcases hr with hr|⟨hr,hu⟩
   ·rw [hr,Oper.uponIn_value]; exact hn
   ·rw [hr,Oper.uponIn_skip]; subst hu; exact hn
  | false =>
   rw [wanted_off k5 hL hm,if_neg (by simp)]
   exact ⟨fun _ _=>trivial,off (k3.2 hm) hm⟩
 ·cases hm:metG p.gd with
  | true =>
   rw [wanted_off k5 hL hm,if_pos rfl];obtain ⟨v,m1,m4⟩:=k3.1 hm
   refine m1 ρ M a w (fun g=>(hG g).mono h.rel.memE) h.rel.hok.mem (by rw [h.rel.size]; exact h.rel.nle) (fun x hxx=>stripO_rel hG h.rel.memE k4 (gd_chain k5 k4 hm) x (fun t ht=>hL t (looks_tmp (ht▸hxx)))) r _ _ fun u w' M' q2 q3 q4 q5 q6=>?_
   refine next' u w' ρ M' (RX.refl _ _ _) q3 ?_ (h.rel.frame q6 q3 q4 q5);rw [m4];exact slot_wrap E.cl hm (.pure q2)
  | false =>
   rw [wanted_off k5 hL hm,if_neg (by simp)]
   exact ⟨fun _ _=>trivial,off (k3.2 hm) hm⟩
theorem Drawn.come (hc:CallS E.P E.gl call) (hctr:CtrOK E) (hG:GlobOK U.M0 E.gl) (ha:aftL ops.toList 0=true) (r:Option Nat) (hsz:listed.size=ops.size) (h:Drawn E ops (predsOf ops.toList []) lo U w0 n l D c asg lg s ρ M a w (listedP listed))
  {j:Nat} (hx:j∈l) (hj:j∈Region.ready .any ops listed) (hevj:evAt ops j=true) {nxt:List Nat->List Foot->St->VT} (hsj:(vcOne E n call ops true (predsOf ops.toList []) nxt j asg lg s).sat) {Next:Act->World->Prop}
  (next:∀ (asg':List Nat) (s1:St) (ρ1:Rho) (M1:Mem) (a':Act) (w1:World),Grow ρ ρ1 s.hpf s1.hpf s.nx s1.nx->MExt M M1 ->
   Drawn E ops (predsOf ops.toList []) lo U w0 n (l.erase j) D c asg' lg s1 ρ1 M1 a' w1 (listedP (listed.setIfInBounds j true))->(nxt asg' lg s1).sat->Next a' w1) :
  wpOpIn (WF r) 0 E.P ops Q j Next a w:=by
 obtain ⟨h1,h2,h3⟩:=(ready_iff hsz).1 hj;have hpr:=ready_pr ha h.closed h3;have hoj:ops[j]?=some ops[j]:=Array.getElem?_eq_getElem h1;generalize hoo:ops[j]=o at hoj;simp only [evAt,hoj] at hevj;simp only [vcOne,hoj,havoc_dr,frzAt_dr] at hsj
 cases hd:dstOK n asg o.dst with
 | false=>simp only [hd] at hsj; exact hsj.elim
 | true =>
  simp only [hd] at hsj;cases hgd:gdOf ops asg s.tmf o with
  | none=>simp only [hgd] at hsj; exact hsj.elim
  | some gd =>
   simp only [hgd,hevj] at hsj;have hgi:=gdOf_is hgd;have hlt:∀ q∈D,q.ix<ops.size:=fun q hq=>(Array.getElem?_eq_some_iff.1 (h.pend q hq).1).1
   have hun:∀ q∈D,¬ listedP listed q.ix:=fun q hq hl=>(h.listed q.ix (hlt q hq)).1 hl (.inr ⟨q,hq,rfl⟩)
   have hL:Looks ops asg s.tmf ρ M a o:=by
    intro t ht;have hn:¬ isDst D t:=by
     rintro ⟨q,hq,e⟩;obtain ⟨_,m2⟩:=pairF_inv (h.ahead q hq j hx) (h.pend q hq).1 hoj;rcases m2 with m2|⟨_,m2⟩
     ·exact hun q hq (hpr _ m2)
     ·exact (Oper.apart_spec m2).1 t e ht
    have:=h.rel.tm t;rw [maskF_get hn] at this;exact ⟨this,fun hta=>h.slots t hta hn⟩
   have next':∀ (s1:St) (ρ1:Rho) (M1:Mem) (u:Value) (w1:World) (out:AV),s1.tm=s.tm->Grow ρ ρ1 s.hpf s1.hpf s.nx s1.nx->MExt M M1->SRel U w0 n ρ1 M1 (maskF D s.tmf) s1.hpf s1.nx a w1->OutShape gd out ->
     SlotOK ρ1 M1 u out->(∀ b∈restR (predsOf ops.toList []) lg j,s1.hpf b=s.hpf b)->(nxt (o.dst.toList++asg) lg (s1.put1 o.dst out)).sat->Next (a.put o.dst u) w1:=by
    intro s1 ρ1 M1 u w1 out ht hg hM hS hsh hout hkeep hk;have hdr:=(h.event hx ha hoj h3 hd hgi hsh hg.rx.ext hM ht hS hout (fun p hp hpe b hb=>?_)).setL (listedP_set (by rw [hsz]; exact h1))
    ·exact next _ _ ρ1 M1 _ w1 (by rw [put1_hpf,put1_nx]; exact hg) hM hdr hk
    ·obtain ⟨d,hd1,hd2,hd3⟩:=h.log p hp hpe;refine hkeep b (List.mem_flatMap.2 ⟨d,List.mem_filter.2 ⟨hd1,?_⟩,by rw [hd3]; exact hb⟩)
     rw [hd2];simp only [List.contains_eq_mem,Bool.not_eq_true',decide_eq_false_iff_not];exact fun hin=>hun p hp (hpr _ hin)
   obtain ⟨k1,k2⟩:=vcEvent_sound (U:=U) (w0:=w0) (n:=n) hc hctr hevj hsj r h.rel hG h.ri hgi hL;unfold wpOpIn;simp only [hoj];cases hm:metG gd with
   | true =>
    rw [wanted_off hgi hL hm,if_pos rfl];refine (k1 hm _ Q fun u w1 ⟨inf,out,s1,ρ1,M1,m1,m2,m3,m4,m5,m6,m7,m8⟩=>?_)
    simp only at m8;split at m8
    ·rename_i hevb;exact next' s1 ρ1 M1 u w1 out m1 m4 m5 m6 m2 m3 (m7 hevb) m8
    ·exact m8.elim
   | false =>
    rw [wanted_off hgi hL hm,if_neg (by simp)]
    refine ⟨fun _ _=>trivial,?_⟩
    obtain ⟨out,m1,m2,m3⟩:=k2 hm;simp only [evB] at m3;exact next' s ρ M Go.undef w out rfl (Grow.refl _ _ _) (MExt.refl M) h.rel m1 (m2 ρ M) (fun _ _=>rfl) m3
theorem Drawn.done (hsz:listed.size=ops.size) (h:Drawn E ops (predsOf ops.toList []) lo U w0 n [] [] c asg lg s ρ M a w (listedP listed)):Region.ready .any ops listed=[]/\SRel U w0 n ρ M s.tmf s.hpf s.nx a w:=by
 have hrel:=h.rel;have hm:maskF [] s.tmf=s.tmf:=by funext t; exact maskF_get (fun ⟨p,hp,_⟩=>by cases hp)
 rw [hm] at hrel;refine ⟨List.eq_nil_iff_forall_not_mem.2 fun i hi=>?_,hrel⟩
 obtain ⟨h1,h2,_⟩:=(ready_iff hsz).1 hi;refine h2 ((h.listed i h1).2 ?_);rintro (h3|⟨p,hp,_⟩)
 ·cases h3
 ·cases hp
theorem any_done {fuel:Nat} (r:Option Nat) (hrd:Region.ready .any ops listed=[]) (hq:Q .normal a w):wpAnyIn (WF r) 0 E.P .any ops Q fuel listed a w:=by
 cases fuel with
 | zero=>exact ⟨hrd,hq⟩
 | succ fuel=>exact ⟨fun _=>hq,by rw [hrd]; simp⟩
end
theorem drawn_any {E:Env} {call:CallH} {ops:Array Oper} (hc:CallS E.P E.gl call) (hctr:CtrOK E) {U:Base} {w0:World} {n:Nat} (hG:GlobOK U.M0 E.gl) (ha:aftL ops.toList 0=true) (r:Option Nat) {Q:Exit->Act->World->Prop} {K:St->VT} {lo:Bool} :
  ∀ (N fv:Nat) (l:List Nat) (D:List Pn) (c:Nat) (asg:List Nat) (lg:List Foot) (s:St) (ρ:Rho) (M:Mem) (a:Act) (w:World) (listed:Array Bool),2 * l.length+D.length<=N->l.length<=fv->listed.size=ops.size ->
   l.Pairwise (fun i j=>pairL ops (predsOf ops.toList []) lo i j=true) ->
   (vcOps E n call ops true (predsOf ops.toList []) lo fv l asg lg s K).sat->Drawn E ops (predsOf ops.toList []) lo U w0 n l D c asg lg s ρ M a w (listedP listed) ->
   (∀ s' ρ' M' a' w',Grow ρ ρ' s.hpf s'.hpf s.nx s'.nx->MExt M M'->SRel U w0 n ρ' M' s'.tmf s'.hpf s'.nx a' w'->(K s').sat->Q .normal a' w') ->
   ∀ fuel,l.length+D.length<=fuel->wpAnyIn (WF r) 0 E.P .any ops Q fuel listed a w:=by
 intro N;induction N with
 | zero =>
  intro fv l D c asg lg s ρ M a w listed hN hfv hsz hpw hs h hK fuel hf;have hl:l=[]:=List.eq_nil_of_length_eq_zero (by omega)
  have hD:D=[]:=List.eq_nil_of_length_eq_zero (by omega)
  subst hl; subst hD;have hs:(K s).sat:=by cases fv <;> exact hs
  obtain ⟨hrd,hrel⟩:=h.done hsz;exact any_done r hrd (hK s ρ M a w (Grow.refl _ _ _) (MExt.refl M) hrel hs)
 | succ N ih =>
  intro fv l D c asg lg s ρ M a w listed hN hfv hsz hpw hs h hK fuel hf;have pend:∀ (fuel:Nat),l.length+D.length<=fuel+1->∀ p∈D,p.ix∈Region.ready .any ops listed ->
    wpOpIn (WF r) 0 E.P ops Q p.ix (wpAnyIn (WF r) 0 E.P .any ops Q fuel (listed.setIfInBounds p.ix true)) a w:=by
   intro fuel hf' p hp hr;refine h.run hG ha r hsz hp hr fun u w' ρ' M' m1 m2 hd=>?_
   have hlen:=without_lt hp;exact ih fv l (without D p) c asg lg s ρ' M' _ w' _ (by omega) hfv (by simp [hsz]) hpw hs hd
    (fun s' ρ'' M'' a' w'' g1 g2 g3 g4=>hK s' ρ'' M'' a' w'' ((⟨m1,Nat.le_refl _,fun _ _ hd=>hd,fun _ k on _ r e=>⟨k,on,r,e⟩⟩:Grow ρ ρ' s.hpf s.hpf s.nx s.nx).trans g1) (m2.trans g2) g3 g4) fuel (by omega)
  cases l with
  | nil =>
   by_cases hD:D=[]
   ·exact ih fv [] D c asg lg s ρ M a w listed (by subst hD; simp) hfv hsz hpw hs h hK fuel hf
   ·cases fuel with
    | zero=>exact absurd (List.eq_nil_of_length_eq_zero (by omega)) hD
    | succ fuel =>
     refine ⟨fun h0=>absurd h0 (h.progress hsz ha (.inr hD)),fun i hi=>?_⟩
     obtain ⟨h1,h2,h3⟩:=(ready_iff hsz).1 hi;have hx:=mt (h.listed i h1).2 h2;simp only [List.not_mem_nil,false_or,Classical.not_not] at hx;obtain ⟨p,hp,rfl⟩:=hx;exact pend fuel hf p hp hi
  | cons i rest =>
   cases fv with
   | zero=>simp at hfv
   | succ fv =>
   have hi:=h.ord.2 i (List.mem_cons_self ..);simp only [vcOps] at hs;rw [bothL_sat] at hs;obtain ⟨halt,hs⟩:=hs;have ho:ops[i]?=some ops[i]:=Array.getElem?_eq_getElem hi;have hlen:rest.length<=fv:=by simpa using hfv
   cases hev:evAt ops i with
   | false =>
    generalize hoo:ops[i]=o at ho;have hev0:=hev;simp only [evAt,ho] at hev;simp only [vcOne,ho,havoc_dr,frzAt_dr] at hs;cases hd:dstOK n asg o.dst with
    | false=>simp only [hd] at hs; exact hs.elim
    | true =>
     simp only [hd] at hs;cases hgd:gdOf ops asg s.tmf o with
     | none=>simp only [hgd] at hs; exact hs.elim
     | some gd =>
      simp only [hgd,hev] at hs;have hgi:=gdOf_is hgd;cases hdf:deferOf o.op with
      | some c =>
       simp only [hdf] at hs;unfold vcDefer at hs;simp only [Bool.not_true,Bool.false_and] at hs;exact hs.elim
      | none =>
      simp only [hdf] at hs;obtain ⟨out,m1,m2,m3⟩:=vcQuiet_inv hs
      have habs:=h.absorb (List.mem_cons_self ..) (fun j hj hne=>pairF_of (pairL_quiet ho hev ((List.pairwise_cons.1 hpw).1 j ((List.mem_cons.1 hj).resolve_left hne)))) ho (fun _=>rfl) hd hgi (.inl ⟨hev,m1⟩) m2
      rw [List.erase_cons_head] at habs
      refine ih fv rest _ (c+1) _ _ (s.put1 o.dst out) ρ M a w listed (by simp only [List.length_cons] at hN ⊢; omega) hlen hsz (List.pairwise_cons.1 hpw).2 m3 habs ?_ fuel (by simp only [List.length_cons] at hf ⊢; omega)
      intro s' ρ' M' a' w' k1 k2 k3 k4;rw [put1_hpf,put1_nx] at k1;exact hK s' ρ' M' a' w' k1 k2 k3 k4
   | true =>
    cases fuel with
    | zero=>simp only [List.length_cons] at hf; omega
    | succ fuel =>
     refine ⟨fun h0=>absurd h0 (h.progress hsz ha (.inl (by simp))),fun j hj=>?_⟩
     obtain ⟨h1,h2,h3⟩:=(ready_iff hsz).1 hj;have hpr:=ready_pr ha h.closed h3;have hx:=mt (h.listed j h1).2 h2;simp only [Classical.not_not] at hx;rcases hx with hx|⟨p,hp,rfl⟩
     ·-- the event that comes up: at the head,or one that waits for nobody
      have hsj:evAt ops j=true/\(vcOne E n call ops true (predsOf ops.toList []) (fun asg lg s=>vcOps E n call ops true (predsOf ops.toList []) lo fv ((i::rest).erase j) asg lg s K) j asg lg s).sat:=by
       rcases List.mem_cons.1 hx with rfl|hx'
       ·refine ⟨hev,?_⟩;rw [List.erase_cons_head];exact hs
       ·have hj':=h.ord.2 j hx;have hp:=(List.pairwise_cons.1 hpw).1 j hx';simp only [pairL,Bool.or_eq_true,Bool.and_eq_true] at hp;rcases hp with hp|⟨⟨⟨hlo,_⟩,hej⟩,_⟩
        ·exfalso;obtain ⟨_,m2⟩:=pairB_inv hp ho (Array.getElem?_eq_getElem hj');rcases m2 with m2|⟨m2,_⟩
         ·exact (h.listed i hi).1 (hpr _ m2) (.inl (List.mem_cons_self ..))
         ·simp only [evAt,ho] at hev;rw [hev] at m2; cases m2
        ·refine ⟨hej,?_⟩;subst hlo;simp only at halt;refine halt _ (List.mem_map.2 ⟨j,?_,rfl⟩);simp only [altsOf,hev];refine List.mem_filter.2 ⟨hx',?_⟩
         simp only [hej,Bool.true_and,List.all_eq_true,Bool.not_eq_true',List.contains_eq_mem,decide_eq_false_iff_not];intro k hk hkl;exact (h.listed k (h.ord.2 k hkl)).1 (hpr k hk) (.inl hkl)
      obtain ⟨hevj,hsj⟩:=hsj;have hle:((i::rest).erase j).length=rest.length:=by rw [List.length_erase_of_mem hx]; rfl
      refine h.come hc hctr hG ha r hsz hx hj hevj hsj fun asg' s1 ρ1 M1 a' w1 hg hM hdr hk=>?_
      refine ih fv _ D c _ lg _ ρ1 M1 _ w1 _ (by rw [hle]; simp only [List.length_cons] at hN; omega) (by rw [hle]; exact hlen) (by simp [hsz]) (hpw.sublist List.erase_sublist) hk hdr ?_ fuel (by rw [hle]; simp only [List.length_cons] at hf; omega)
      intro s' ρ' M' a' w' k1 k2 k3 k4;exact hK s' ρ' M' a' w' (hg.trans k1) (hM.trans k2) k3 k4
     ·exact pend fuel hf p hp hj
theorem drawn_free {E:Env} {call:CallH} {ops:Array Oper} (hc:CallS E.P E.gl call) (hctr:CtrOK E) {U:Base} {w0:World} {n:Nat} (hG:GlobOK U.M0 E.gl) (ha:aftL ops.toList 0=true) (hfr:freeB ops (predsOf ops.toList [])=true) (r:Option Nat) {Q:Exit->Act->World->Prop} {K:St->VT} :
  ∀ (N fv:Nat) (l:List Nat) (D:List Pn) (c:Nat) (asg:List Nat) (lg:List Foot) (s:St) (ρ:Rho) (M:Mem) (a:Act) (w:World) (listed:Array Bool),2 * l.length+D.length<=N->l.length<=fv->listed.size=ops.size ->
   (vcFree E n call ops (predsOf ops.toList []) fv l asg lg s K).sat->Drawn E ops (predsOf ops.toList []) true U w0 n l D c asg lg s ρ M a w (listedP listed) ->
   (∀ s' ρ' M' a' w',Grow ρ ρ' s.hpf s'.hpf s.nx s'.nx->MExt M M'->SRel U w0 n ρ' M' s'.tmf s'.hpf s'.nx a' w'->(K s').sat->Q .normal a' w') ->
   ∀ fuel,l.length+D.length<=fuel->wpAnyIn (WF r) 0 E.P .any ops Q fuel listed a w:=by
 intro N;induction N with
 | zero =>
  intro fv l D c asg lg s ρ M a w listed hN hfv hsz hs h hK fuel hf;have hl:l=[]:=List.eq_nil_of_length_eq_zero (by omega)
  have hD:D=[]:=List.eq_nil_of_length_eq_zero (by omega)
  subst hl; subst hD;have hs:(K s).sat:=by cases fv <;> exact hs
  obtain ⟨hrd,hrel⟩:=h.done hsz;exact any_done r hrd (hK s ρ M a w (Grow.refl _ _ _) (MExt.refl M) hrel hs)
 | succ N ih =>
  intro fv l D c asg lg s ρ M a w listed hN hfv hsz hs h hK fuel hf;have pend:∀ (fuel:Nat),l.length+D.length<=fuel+1->∀ p∈D,p.ix∈Region.ready .any ops listed ->
    wpOpIn (WF r) 0 E.P ops Q p.ix (wpAnyIn (WF r) 0 E.P .any ops Q fuel (listed.setIfInBounds p.ix true)) a w:=by
   intro fuel hf' p hp hr;refine h.run hG ha r hsz hp hr fun u w' ρ' M' m1 m2 hd=>?_
   have hlen:=without_lt hp;exact ih fv l (without D p) c asg lg s ρ' M' _ w' _ (by omega) hfv (by simp [hsz]) hs hd
    (fun s' ρ'' M'' a' w'' g1 g2 g3 g4=>hK s' ρ'' M'' a' w'' ((⟨m1,Nat.le_refl _,fun _ _ hd=>hd,fun _ k on _ r e=>⟨k,on,r,e⟩⟩:Grow ρ ρ' s.hpf s.hpf s.nx s.nx).trans g1) (m2.trans g2) g3 g4) fuel (by omega)
  cases l with
  | nil =>
   by_cases hD:D=[]
   ·exact ih fv [] D c asg lg s ρ M a w listed (by subst hD; simp) hfv hsz hs h hK fuel hf
   ·cases fuel with
    | zero=>exact absurd (List.eq_nil_of_length_eq_zero (by omega)) hD
    | succ fuel =>
     refine ⟨fun h0=>absurd h0 (h.progress hsz ha (.inr hD)),fun i hi=>?_⟩
     obtain ⟨h1,h2,h3⟩:=(ready_iff hsz).1 hi;have hx:=mt (h.listed i h1).2 h2;simp only [List.not_mem_nil,false_or,Classical.not_not] at hx;obtain ⟨p,hp,rfl⟩:=hx;exact pend fuel hf p hp hi
  | cons i0 r0 =>
   cases fv with
   | zero=>simp at hfv
   | succ fv =>
   simp only [vcFree] at hs;split at hs
   ·-- one that needs nothing of what the others do
    rename_i i hfi;have hpi:=List.find?_some hfi;have hil:=List.mem_of_find?_eq_some hfi;simp only [Bool.and_eq_true] at hpi;obtain ⟨hrdy,hq⟩:=hpi;have hi:=h.ord.2 i hil;have ho:ops[i]?=some ops[i]:=Array.getElem?_eq_getElem hi
    have hle:((i0::r0).erase i).length=r0.length:=by rw [List.length_erase_of_mem hil]; rfl
    have hah:∀ j∈i0::r0,j≠i->pairF ops (predsOf ops.toList []) i j:=by
     intro j hj hne oi oj hoi hoj;have hnp:j ∉ (predsOf ops.toList []).getD i []:=by
      intro hin;simp only [readyIn,List.all_eq_true,Bool.not_eq_true',List.contains_eq_mem,decide_eq_false_iff_not] at hrdy;exact hrdy j hin hj
     refine ⟨hnp,?_⟩;simp only [freeB,List.all_eq_true,List.mem_range] at hfr;rcases Nat.lt_or_ge i j with hlt|hge
     ·have:=hfr j (h.ord.2 j hj) i hlt;simp only [hoi,hoj,Bool.or_eq_true,List.contains_eq_mem,decide_eq_true_eq] at this;exact this.imp id fun x=>⟨trivial,x⟩
     ·have:=hfr i hi j (by omega)
      simp only [hoi,hoj,Bool.or_eq_true,List.contains_eq_mem,decide_eq_true_eq] at this;exact .inr ⟨trivial,apart_symm (this.resolve_left hnp)⟩
    generalize hoo:ops[i]=o at ho;simp only [vcOneF,ho] at hs;cases hd:dstOK n asg o.dst with
    | false=>simp only [hd] at hs; exact hs.elim
    | true =>
     simp only [hd] at hs;cases hgd:gdOf ops asg s.tmf o with
     | none=>simp only [hgd] at hs; exact hs.elim
     | some gd =>
      simp only [hgd] at hs;have hgi:=gdOf_is hgd;cases hev:evOp o.op with
      | false =>
       simp only [hev] at hs;cases hdf:deferOf o.op with
       | some c=>simp only [hdf] at hs; exact hs.elim
       | none =>
       simp only [hdf] at hs;obtain ⟨out,m1,m2,m3⟩:=vcQuiet_inv hs;rw [forceLn_eq] at m3;have habs:=h.absorb hil hah ho (fun _=>rfl) hd hgi (.inl ⟨hev,m1⟩) m2
       refine ih fv _ _ (c+1) _ _ (s.put1 o.dst out) ρ M a w listed (by rw [hle]; simp only [List.length_cons] at hN ⊢; omega) (by rw [hle]; simpa using hfv) hsz m3 habs ?_ fuel (by rw [hle]; simp only [List.length_cons] at hf ⊢; omega)
       intro s' ρ' M' a' w' k1 k2 k3 k4;rw [put1_hpf,put1_nx] at k1;exact hK s' ρ' M' a' w' k1 k2 k3 k4
      | true =>
       simp only [hev] at hs;cases hpe:indEv E o gd (stripO asg (gsOf gd) (evOf E.gl s.tmf)) with
       | none=>simp only [hpe] at hs; exact hs.elim
       | some q =>
       obtain ⟨nd,v⟩:=q;simp only [hpe] at hs;have p3:=indEv_ok hctr hev hpe
       have hv':(metG gd=true->nd=true)/\(vcFree E n call ops (predsOf ops.toList []) fv ((i0::r0).erase i) (o.dst.toList++asg) (⟨i,[]⟩::lg) (s.put1 o.dst ((wrapG gd v).norm E.cl)) K).sat:=by
        cases gd with
        | none =>
         simp only [needG,VT.sat] at hs;obtain ⟨hnd,hs⟩:=NB.inv hs;rw [putK_eq,forceLn_eq] at hs;exact ⟨fun _=>hnd,hs⟩
        | some d =>
         simp only [needG,VT.sat] at hs;obtain ⟨hnd,hs⟩:=NB.inv hs;rw [putK_eq,forceLn_eq] at hs;refine ⟨fun hm=>?_,hs⟩
         simp only [metG] at hm;rw [hm] at hnd;cases nd
         ·simp [impB] at hnd
         ·rfl
       have hX:PureX E ⟨c,i,o,asg,s.tmf,gd,(wrapG gd v).norm E.cl⟩:=by
        refine ⟨fun hm=>⟨v,p3 (hv'.1 hm),rfl⟩,fun hm=>?_⟩
        cases gd with
        | none=>simp [metG] at hm
        | some d=>exact ⟨d,_,rfl,by simp only [wrapG,AV.norm_opt]; rfl⟩
       have habs:=h.absorb (rd:=[]) hil hah ho (fun he=>by rw [hev] at he; cases he) hd hgi (.inr ⟨hev,hX⟩) (shape_wrap E.cl gd v)
       refine ih fv _ _ (c+1) _ _ (s.put1 o.dst _) ρ M a w listed (by rw [hle]; simp only [List.length_cons] at hN ⊢; omega) (by rw [hle]; simpa using hfv) hsz hv'.2 habs ?_ fuel (by rw [hle]; simp only [List.length_cons] at hf ⊢; omega)
       intro s' ρ' M' a' w' k1 k2 k3 k4;rw [put1_hpf,put1_nx] at k1;exact hK s' ρ' M' a' w' k1 k2 k3 k4
   ·rename_i hno;rw [List.find?_eq_none] at hno;cases fuel with
    | zero=>simp only [List.length_cons] at hf; omega
    | succ fuel =>
     refine ⟨fun h0=>absurd h0 (h.progress hsz ha (.inl (by simp))),fun j hj=>?_⟩
     obtain ⟨h1,h2,h3⟩:=(ready_iff hsz).1 hj;have hpr:=ready_pr ha h.closed h3;have hx:=mt (h.listed j h1).2 h2;simp only [Classical.not_not] at hx;rcases hx with hx|⟨p,hp,rfl⟩
     ·have hrj:readyIn (predsOf ops.toList []) (i0::r0) j=true:=by
       simp only [readyIn,List.all_eq_true,Bool.not_eq_true',List.contains_eq_mem,decide_eq_false_iff_not];intro k hk hkl;exact (h.listed k (h.ord.2 k hkl)).1 (hpr k hk) (.inl hkl)
      have hmem:j∈(i0::r0).filter (readyIn (predsOf ops.toList []) (i0::r0)):=List.mem_filter.2 ⟨hx,hrj⟩;have hoj:ops[j]?=some ops[j]:=Array.getElem?_eq_getElem h1;have hevj:evAt ops j=true:=by
       have:=hno j hx;rw [hrj,Bool.true_and] at this;simp only [qLike,hoj] at this;simp only [evAt,hoj];cases hev:evOp ops[j].op with
       | true=>rfl
       | false=>rw [hev] at this; simp at this
      have hsj:(vcOne E n call ops true (predsOf ops.toList []) (fun asg lg s=>forceLn ((i0::r0).erase j) fun l=>vcFree E n call ops (predsOf ops.toList []) fv l asg lg s K) j asg lg s).sat:=by
       split at hs
       ·rename_i he; rw [he] at hmem; cases hmem
       ·rename_i i r he;rw [he] at hmem;rw [bothL_sat] at hs;rcases List.mem_cons.1 hmem with rfl|hmem
        ·exact hs.2
        ·exact hs.1 _ (List.mem_map.2 ⟨j,hmem,rfl⟩)
      have hle:((i0::r0).erase j).length=r0.length:=by rw [List.length_erase_of_mem hx]; rfl
      refine h.come hc hctr hG ha r hsz hx hj hevj hsj fun asg' s1 ρ1 M1 a' w1 hg hM hdr hk=>?_
      rw [forceLn_eq] at hk
      refine ih fv _ D c _ lg _ ρ1 M1 _ w1 _ (by rw [hle]; simp only [List.length_cons] at hN; omega) (by rw [hle]; simpa using hfv) (by simp [hsz]) hk hdr ?_ fuel (by rw [hle]; simp only [List.length_cons] at hf; omega)
      intro s' ρ' M' a' w' k1 k2 k3 k4;exact hK s' ρ' M' a' w' (hg.trans k1) (hM.trans k2) k3 k4
     ·exact pend fuel hf p hp hj
theorem vcRegion_sound {E:Env} {call:CallH} {ops:Array Oper} {id:Nat} {dr:Bool} (hm:E.P.follows .mixedOrders=true) (hc:CallS E.P E.gl call) (hctr:CtrOK E) {U:Base} {w0:World} {n:Nat} (hG:GlobOK U.M0 E.gl) {Q:Exit->Act->World->Prop} {K:St->VT}
  {s:St} {ρ:Rho} {M:Mem} {a:Act} {w:World} (r:Option Nat) (hr:isTop E.md=true->r=none/\U.nod=false) (hs:(vcRegion E n call ops dr K s).sat) (h:SRel U w0 n ρ M s.tmf s.hpf s.nx a w)
  (hK:∀ s' ρ' M' a' w',Grow ρ ρ' s.hpf s'.hpf s.nx s'.nx->MExt M M'->SRel U w0 n ρ' M' s'.tmf s'.hpf s'.nx a' w'->(K s').sat->Q .normal a' w'):(Code.region id ops dr).wpIn (WF r) 0 E.P Q a w:=by
 cases dr with
 | false =>
  simp only [vcRegion] at hs;exact wpIn_region (vcOps_straight hc hctr hG r hr _ _ [] [] s ρ M a w (by simp) hs h (fun t ht=>by cases ht) (fun t ht=>by cases ht) (fun t ht=>by cases ht) hK)
 | true =>
  have hrel:SRel U w0 n ρ M s.tmf s.hpf s.nx a { w with drawn:=w.drawn+1 } :=
   ⟨h.size,h.tm,⟨h.hok.mem,h.hok.row,h.hok.inj,h.hok.gen,h.hok.loop,h.hok.linj⟩,h.dead,h.free,⟨h.keep.os,h.keep.tape,h.keep.output,h.keep.size,h.keep.block⟩,h.memN,h.memE,h.own,h.nle,h.ownL,h.defers,h.marks,h.mown,h.nod,h.extGrow (w':={ w with drawn:=w.drawn+1 }) rfl rfl rfl (Nat.le_refl _) (MExt.refl M) (fun _ _ _ hm=>.inl hm) (fun _ _=>rfl)⟩
  have hm0:maskF [] s.tmf=s.tmf:=by funext t; exact maskF_get (fun ⟨p,hp,_⟩=>by cases hp)
  have start:∀ (lo:Bool) (l:List Nat),l.Nodup->(∀ i∈l,i<ops.size)->(∀ i,i<ops.size->i∈l) ->
    Drawn E ops (predsOf ops.toList []) lo U w0 n l [] 0 [] [] s ρ M a { w with drawn:=w.drawn+1 } (listedP (Array.replicate ops.size false)):=by
   intro lo l k2 k3 hall
   refine ⟨by rw [hm0]; exact hrel,fun t ht=>(by cases ht),fun t ht=>(by cases ht),fun p hp=>(by cases hp),fun p hp=>(by cases hp),fun p hp=>(by cases hp),fun p hp=>(by cases hp),fun p hp=>(by cases hp),fun p hp=>(by cases hp),
    fun p hp=>(by cases hp),⟨k2,k3⟩,fun i hi=>⟨fun hl=>?_,fun hl=>?_⟩,fun p hp=>(by cases hp),fun i o hl _=>?_,fun p hp=>(by cases hp)⟩
   ·unfold listedP at hl; simp [hi] at hl
   ·exact absurd (.inl (hall i hi)) hl
   ·exfalso;unfold listedP at hl;rcases Nat.lt_or_ge i ops.size with hi|hi <;> simp [hi] at hl
  simp only [vcRegion] at hs;split at hs
  ·rw [forceLL_eq] at hs;split at hs
   ·rename_i hb;rw [Bool.and_eq_true] at hb;refine wpIn_region_any hm (drawn_free hc hctr hG hb.1 hb.2 r (2 * ops.size) ops.size (List.range ops.size) [] 0 [] [] s ρ M a _ _ (by simp) (by simp) (by simp) hs ?_ hK ops.size (by simp))
    exact start true _ List.nodup_range (fun i hi=>List.mem_range.1 hi) (fun i hi=>List.mem_range.2 hi)
   ·exact hs.elim
  simp only [forceLn_eq,forceLL_eq] at hs;split at hs
  ·rename_i hb;simp only [Bool.and_eq_true,decide_eq_true_eq] at hb;obtain ⟨⟨h2,h3⟩,h4⟩:=hb
   have fin:∀ lo,orderB ops (predsOf ops.toList []) lo (canon ops)=true->(vcOps E n call ops true (predsOf ops.toList []) lo ops.size (canon ops) [] [] s K).sat->(Code.region id ops true).wpIn (WF r) 0 E.P Q a w:=by
    intro lo h1 hs;obtain ⟨k1,k2,k3⟩:=orderB_pw _ h1;refine wpIn_region_any hm ?_;have hall:∀ i,i<ops.size->i∈canon ops:=by
     intro i hi;rw [List.all_eq_true] at h4;simpa using h4 i (List.mem_range.2 hi)
    exact drawn_any hc hctr hG h3 r (2 * (canon ops).length) ops.size (canon ops) [] 0 [] [] s ρ M a _ _ (by simp) (by simp [h2]) (by simp) k1 hs (start lo _ k2 k3 hall) hK ops.size (by simp [h2])
   split at hs
   ·exact fin false ‹_› hs
   ·split at hs
    ·exact fin true ‹_› hs
    ·exact hs.elim
  ·exact hs.elim
end Pw
