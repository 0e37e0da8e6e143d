/- ENGINE, part F10: states that are less well known. -/
import Derived.Test.YtlnpgnipocbfhaaGreatDoorPwF5
import Derived.LoopN
import Derived.Deep.LoopGhost
import Derived.Scope
import Derived.LoopNIn
namespace Pw
open Go
theorem subL_at:∀ (l m:List AV),AV.subL l m->l.length=m.length/\∀ i,i<m.length->AV.sub (l.getD i .undef) (m.getD i .undef)
 | [],[],_=>⟨rfl,fun i hi=>by simp at hi⟩
 | [],_::_,h=>by simp [AV.subL] at h
 | _::_,[],h=>by simp [AV.subL] at h
 | x::l,y::m,h=>by
  simp only [AV.subL] at h;obtain ⟨k1,k2⟩:=subL_at l m h.2;refine ⟨by simp [k1],fun i hi=>?_⟩
  cases i with
  | zero=>simpa using h.1
  | succ i=>simpa using k2 i (by simpa using hi)
theorem subE_at:∀ (l m:List AV),AV.subE l m->l.length=m.length/\∀ i,i<m.length->AV.sub (l.getD i .undef) (m.getD i .undef)/\(l.getD i .undef).cells.length=(m.getD i .undef).cells.length
 | [],[],_=>⟨rfl,fun i hi=>by simp at hi⟩
 | [],_::_,h=>by simp [AV.subE] at h
 | _::_,[],h=>by simp [AV.subE] at h
 | x::l,y::m,h=>by
  simp only [AV.subE] at h;obtain ⟨k1,k2⟩:=subE_at l m h.2;refine ⟨by simp [k1],fun i hi=>?_⟩
  cases i with
  | zero=>simpa using h.1
  | succ i=>simpa using k2 i (by simpa using hi)
theorem subF_at:∀ (l:List AV) (k:Nat) (f:Nat->AV),AV.subF l k f->∀ i,i<l.length->AV.sub (l.getD i .undef) (f (k+i))/\(l.getD i .undef).cells.length=(f (k+i)).cells.length
 | [],_,_,_=>fun i hi=>by simp at hi
 | x::l,k,f,h=>by
  simp only [AV.subF] at h;have k2:=subF_at l (k+1) f h.2;intro i hi;cases i with
  | zero=>simpa using h.1
  | succ i =>
   have:=k2 i (by simpa using hi)
   have e:k+1+i=k+(i+1):=by omega
   rw [e] at this;simpa using this
theorem sub_cells {x y:AV} (h:AV.sub x y) (hl:x.cells.length=y.cells.length):∀ j,j<y.cells.length->AV.sub (x.cells.getD j .undef) (y.cells.getD j .undef):=by
 intro j hj;by_cases hy:y=.undef
 ·subst hy;have:j=0:=by simp [AV.cells] at hj; exact hj
  subst this;have:([AV.undef]:List AV).getD 0 .undef=.undef:=rfl;simp only [AV.cells,this];unfold AV.sub; trivial
 cases y with
 | agg m =>
  cases x <;> first|(simp [AV.sub] at h; done)|skip
  rename_i l;simp only [AV.sub] at h;exact (subL_at l m h).2 j hj
 | undef=>exact absurd rfl hy
 | _ =>
  have:j=0:=by simp [AV.cells] at hj; exact hj
  subst this;cases x <;> first|(simp [AV.sub] at h; done)|(simpa [AV.cells] using h)
theorem RelP.sub {M:Mem} {v:Value} {x:AV} (h:RelP M v x):∀ y,AV.sub x y->RelP M v y:=by
 have elem:∀ {x y:AV} {M:Mem} {vals:Nat->Value} {sz:Nat} (_:x.cells.length=sz) (_:AV.sub x y/\x.cells.length=y.cells.length) (_:∀ j,j<sz->∀ y',AV.sub (x.cells.getD j .undef) y'->RelP M (vals j) y'),
   y.cells.length=sz/\∀ j,j<sz->RelP M (vals j) (y.cells.getD j .undef):=by
  intro x y M vals sz h1 h2 h3;have hy:y.cells.length=sz:=by rw [<- h2.2,h1]
  exact ⟨hy,fun j hj=>h3 j hj _ (sub_cells h2.1 h2.2 j (by rw [hy]; exact hj))⟩
 induction h with
 | undef v=>intro y hs; cases y <;> first|exact .undef v|(simp [AV.sub] at hs; done)
 | opt v m j w x=>intro y hs; cases y <;> first|exact .undef v|exact .opt v _ _ _ _|(simp [AV.sub] at hs; done)
 | int k n=>intro y hs; cases y <;> first|exact .undef _|(simp [AV.sub] at hs; done)|(simp only [AV.sub] at hs; split at hs; (rename_i e; subst e; subst hs; exact .int _ _); exact hs.elim)
 | bool b=>intro y hs; cases y <;> first|exact .undef _|(simp [AV.sub] at hs; done)|(simp only [AV.sub] at hs; subst hs; exact .bool _)
 | str l=>intro y hs; cases y <;> first|exact .undef _|(simp [AV.sub] at hs; done)|(simp only [AV.sub] at hs; subst hs; exact .str _)
 | nilp=>intro y hs; cases y <;> first|exact .undef _|(simp [AV.sub] at hs; done)|exact .nilp
 | nils =>
  intro y hs;cases y with
  | undef=>exact .undef _
  | nils=>exact .nils
  | rol l ex =>
   cases l with
   | nil=>exact .rol0 none 0 ex (by simp [maxLen]) (fun _=>rfl) (fun _=>rfl)
   | cons x l=>simp [AV.sub] at hs
  | rof n f ex=>simp only [AV.sub] at hs; subst hs; exact .rof0 none 0 f ex (by simp [maxLen]) (fun _=>rfl) (fun _=>rfl)
  | gro b i n f=>simp only [AV.sub] at hs; subst hs; exact .groN b i f
  | _=>simp [AV.sub] at hs
 | nilf=>intro y hs; cases y <;> first|exact .undef _|(simp [AV.sub] at hs; done)|exact .nilf
 | nilm=>intro y hs; cases y <;> first|exact .undef _|(simp [AV.sub] at hs; done)|exact .nilm
 | rptr B o j x vals hm hr ih =>
  intro y hs;cases y <;> first|exact .undef _|(simp [AV.sub] at hs; done)|skip
  rename_i y j';simp only [AV.sub] at hs;obtain ⟨hs,rfl⟩:=hs;obtain ⟨k1,k2⟩:=elem (vals:=vals) rfl hs (fun i hi y' hy'=>ih i hi y' hy')
  exact .rptr B o j y vals (fun i hi=>hm i (by rw [<- k1]; exact hi)) (fun i hi=>k2 i (by rw [<- k1]; exact hi))
 | rol B o cap sz l ex vals hc hcm hex hz hm hr ih =>
  intro y hs;cases y <;> first|exact .undef _|(simp [AV.sub] at hs; done)|skip
  ·rename_i m ex';simp only [AV.sub] at hs;obtain ⟨k1,k2⟩:=subE_at l m hs.1;rw [k1];have k3:∀ i,i<m.length->_:=fun i hi=>elem (vals:=vals i) (hz i (by omega)) (k2 i hi) (fun j hj y' hy'=>ih i j (by omega) hj y' hy')
   exact .rol B o cap sz m ex' vals (by omega) hcm (fun e=>by rw [<- k1]; exact hex (hs.2 e)) (fun i hi=>(k3 i hi).1) (fun i j hi hj=>hm i j (by omega) hj) (fun i j hi hj=>(k3 i hi).2 j hj)
  ·rename_i n f ex';simp only [AV.sub] at hs;obtain ⟨k1,k2,k4⟩:=hs;have k2:=subF_at l 0 f k2;simp only [Nat.zero_add] at k2;rw [k1]
   have k3:∀ i,i<n->_:=fun i hi=>elem (vals:=vals i) (hz i (by omega)) (k2 i (by omega)) (fun j hj y' hy'=>ih i j (by omega) hj y' hy')
   exact .rof B o cap sz n f ex' vals (by omega) hcm (fun e=>by rw [<- k1]; exact hex (k4 e)) (fun i hi=>(k3 i hi).1) (fun i j hi hj=>hm i j (by omega) hj) (fun i j hi hj=>(k3 i hi).2 j hj)
 | rof B o cap sz n f ex vals hc hcm hex hz hm hr ih =>
  intro y hs;cases y <;> first|exact .undef _|(simp [AV.sub] at hs; done)|skip
  rename_i n' f' ex';simp only [AV.sub] at hs;obtain ⟨rfl,k2,k4⟩:=hs;have k3:∀ i,i<n->_:=fun i hi=>elem (vals:=vals i) (hz i hi) (k2 i hi) (fun j hj y' hy'=>ih i j hi hj y' hy')
  exact .rof B o cap sz n f' ex' vals hc hcm (fun e=>hex (k4 e)) (fun i hi=>(k3 i hi).1) (fun i j hi hj=>hm i j hi hj) (fun i j hi hj=>(k3 i hi).2 j hj)
 | rol0 a cap ex h1 h2 h3 =>
  intro y hs;cases y <;> first|exact .undef _|(simp [AV.sub] at hs; done)|skip
  ·rename_i m ex';simp only [AV.sub] at hs;obtain ⟨k1,_⟩:=subE_at _ m hs.1;have:m=[]:=List.eq_nil_of_length_eq_zero k1.symm;subst this;exact .rol0 a cap ex' h1 (fun e=>h2 (hs.2 e)) h3
  ·rename_i n f ex';simp only [AV.sub] at hs;obtain ⟨k1,_,k4⟩:=hs;have k1:n=0:=k1.symm;subst k1;exact .rof0 a cap f ex' h1 (fun e=>h2 (k4 e)) h3
 | rof0 a cap f ex h1 h2 h3 =>
  intro y hs;cases y <;> first|exact .undef _|(simp [AV.sub] at hs; done)|skip
  rename_i n f' ex';simp only [AV.sub] at hs;obtain ⟨k1,_,k4⟩:=hs;subst k1;exact .rof0 a cap f' ex' h1 (fun e=>h2 (k4 e)) h3
 | groN b i f =>
  intro y hs;cases y <;> first|exact .undef _|(simp [AV.sub] at hs; done)|skip
  ·rename_i n f' ex';simp only [AV.sub] at hs;obtain ⟨rfl,_,rfl⟩:=hs;exact .rof0 none 0 f' false (by simp [maxLen]) (fun _=>rfl) (fun _=>rfl)
  ·rename_i b' i' n f';simp only [AV.sub] at hs;obtain ⟨rfl,rfl,rfl,_⟩:=hs;exact .groN _ _ f'
 | fnc f fs cs fl cl h1 h2 _ _ ih1 ih2 =>
  intro y hs;cases y <;> first|exact .undef _|(simp [AV.sub] at hs; done)|skip
  rename_i f' a b;simp only [AV.sub] at hs;obtain ⟨rfl,k1,k2⟩:=hs;obtain ⟨m1,m2⟩:=subL_at _ _ k1;obtain ⟨m3,m4⟩:=subL_at _ _ k2
  exact .fnc f fs cs a b (by omega) (by omega) (fun i hi=>ih1 i (by omega) _ (m2 i hi)) (fun i hi=>ih2 i (by omega) _ (m4 i hi))
 | fn f =>
  intro y hs;cases y <;> first|exact .undef _|(simp [AV.sub] at hs; done)|skip
  rename_i f' a b;simp only [AV.sub] at hs;obtain ⟨rfl,h1,h2⟩:=hs;have ha:a=[]:=List.eq_nil_of_length_eq_zero (subL_at _ _ h1).1.symm;have hb:b=[]:=List.eq_nil_of_length_eq_zero (subL_at _ _ h2).1.symm;subst ha; subst hb;exact .fn _
 | agg cs l hsz hr ih =>
  intro y hs;cases y <;> first|exact .undef _|(simp [AV.sub] at hs; done)|skip
  rename_i m;simp only [AV.sub] at hs;obtain ⟨k1,k2⟩:=subL_at l m hs;exact .agg cs m (by omega) (fun i hi=>ih i (by omega) _ (k2 i hi))
 | tup cs l hsz hr ih =>
  intro y hs;cases y <;> first|exact .undef _|(simp [AV.sub] at hs; done)|skip
  rename_i m;simp only [AV.sub] at hs;obtain ⟨k1,k2⟩:=subL_at l m hs;exact .tup cs m (by omega) (fun i hi=>ih i (by omega) _ (k2 i hi))
theorem Rel.sub {ρ:Rho} {M:Mem} {v:Value} {x:AV} (h:Rel ρ M v x):∀ y,AV.sub x y->Rel ρ M v y:=by
 induction h with
 | pure h =>
  intro y hs;exact .pure (h.sub y hs)
 | ptr L b g i j h hi =>
  intro y hs;cases y <;> first|exact .undef _|(simp [AV.sub] at hs; done)|skip
  simp only [AV.sub] at hs;split at hs
  ·rename_i e;obtain ⟨rfl,rfl,rfl⟩:=hs;subst e;exact .ptr L _ _ _ _ h hi
  ·exact hs.elim
 | sl L b g i len cap c h hv hl hc hb hcm hn =>
  intro y hs;cases y <;> first|exact .undef _|(simp [AV.sub] at hs; done)|skip
  simp only [AV.sub] at hs;split at hs
  ·rename_i e;obtain ⟨rfl,rfl,rfl,hcc⟩:=hs;subst e;refine .sl L _ _ _ _ cap _ h hv hl (fun k hk=>?_) hb hcm hn
   rcases hcc with e|e
   ·exact hc k (e.trans hk)
   ·rw [e] at hk; cases hk
  ·exact hs.elim
 | slv L a b g i c h hc =>
  intro y hs;cases y <;> first|exact .undef _|(simp [AV.sub] at hs; done)|skip
  simp only [AV.sub] at hs;split at hs
  ·rename_i e;obtain ⟨rfl,rfl,rfl,hcc⟩:=hs;subst e;refine .slv L a _ _ _ _ h (fun k hk=>?_)
   rcases hcc with e|e
   ·exact hc k (e.trans hk)
   ·rw [e] at hk; cases hk
  ·exact hs.elim
 | yld L b h =>
  intro y hs;cases y <;> first|exact .undef _|(simp [AV.sub] at hs; done)|skip
  simp only [AV.sub] at hs;subst hs;exact .yld L _ h
 | sla L b g i j len h hi hj =>
  intro y hs;cases y <;> first|exact .undef _|(simp [AV.sub] at hs; done)
 | map L b h =>
  intro y hs;cases y <;> first|exact .undef _|(simp [AV.sub] at hs; done)|skip
  simp only [AV.sub] at hs;subst hs;exact .map L _ h
 | fmap L b i h =>
  intro y hs;cases y <;> first|exact .undef _|(simp [AV.sub] at hs; done)|skip
  simp only [AV.sub] at hs;obtain ⟨rfl,rfl⟩:=hs;exact .fmap L _ _ h
 | gro b i n f h h0 hn =>
  intro y hs;cases y <;> first|exact .undef _|(simp [AV.sub] at hs; done)|skip
  ·rename_i n' f' ex';simp only [AV.sub] at hs;obtain ⟨rfl,k2,rfl⟩:=hs;exact .pure (h.sub _ (by unfold AV.sub; exact ⟨rfl,k2,fun e=>e⟩))
  ·rename_i b' i' n' f';simp only [AV.sub] at hs;obtain ⟨rfl,rfl,rfl,k2⟩:=hs;refine .gro _ _ _ f' (h.sub _ (by unfold AV.sub; exact ⟨rfl,k2,fun e=>e⟩)) h0 fun hpos=>?_
   obtain ⟨L,cap,k3,k4,k5,k6⟩:=hn hpos;exact ⟨L,cap,k3,k4,k5,fun q hq=>by rw [<- (k2 q hq).2]; exact k6 q hq⟩
 | fn f fs cs fl cl h1 h2 _ _ ih1 ih2 =>
  intro y hs;cases y <;> first|exact .undef _|(simp [AV.sub] at hs; done)|skip
  rename_i f' a b;simp only [AV.sub] at hs;obtain ⟨rfl,k1,k2⟩:=hs;obtain ⟨m1,m2⟩:=subL_at _ _ k1;obtain ⟨m3,m4⟩:=subL_at _ _ k2
  exact .fn f fs cs a b (by omega) (by omega) (fun i hi=>ih1 i (by omega) _ (m2 i hi)) (fun i hi=>ih2 i (by omega) _ (m4 i hi))
 | agg cs l h _ ih =>
  intro y hs;cases y <;> first|exact .undef _|(simp [AV.sub] at hs; done)|skip
  rename_i m;simp only [AV.sub] at hs;obtain ⟨k1,k2⟩:=subL_at l m hs;exact .agg cs m (by omega) (fun i hi=>ih i (by omega) _ (k2 i hi))
 | tup cs l h _ ih =>
  intro y hs;cases y <;> first|exact .undef _|(simp [AV.sub] at hs; done)|skip
  rename_i m;simp only [AV.sub] at hs;obtain ⟨k1,k2⟩:=subL_at l m hs;exact .tup cs m (by omega) (fun i hi=>ih i (by omega) _ (k2 i hi))
theorem idsBL_at {nx:Nat}:∀ (l:List AV),AV.idsBL nx l=true->∀ i,i<l.length->AV.idsB nx (l.getD i .undef)=true
 | [],_,i,hi=>by simp at hi
 | x::l,h,i,hi=>by
  simp only [AV.idsBL,Bool.and_eq_true] at h;cases i with
  | zero=>simpa using h.1
  | succ i=>simpa using idsBL_at l h.2 i (by simpa using hi)
theorem Rel.cut {ρ ρ':Rho} {M:Mem} {nx:Nat} (hρ:∀ b g L,b<nx->ρ b g=some L->ρ' b g=some L) {v:Value} {x:AV} (h:Rel ρ M v x):AV.idsB nx x=true->Rel ρ' M v x:=by
 induction h with
 | pure h=>exact fun _=>.pure h
 | ptr L b g i j h hi=>intro hb; simp only [AV.idsB,decide_eq_true_eq] at hb; exact .ptr L b g i j (hρ _ _ _ hb h) hi
 | sl L b g i len cap c h hv hl hc hb hcm hn=>intro hx; simp only [AV.idsB,decide_eq_true_eq] at hx; exact .sl L b g i len cap c (hρ _ _ _ hx h) hv hl hc hb hcm hn
 | slv L a b g i c h hc=>intro hx; simp only [AV.idsB,decide_eq_true_eq] at hx; exact .slv L a b g i c (hρ _ _ _ hx h) hc
 | yld L b h=>intro hx; simp only [AV.idsB,decide_eq_true_eq] at hx; exact .yld L b (hρ _ _ _ hx h)
 | sla L b g i j len h hi hj=>intro hx; simp only [AV.idsB,decide_eq_true_eq] at hx; exact .sla L b g i j len (hρ _ _ _ hx h) hi hj
 | map L b h=>intro hx; simp only [AV.idsB,decide_eq_true_eq] at hx; exact .map L b (hρ _ _ _ hx h)
 | fmap L b i h=>intro hx; simp only [AV.idsB,decide_eq_true_eq] at hx; exact .fmap L b i (hρ _ _ _ hx h)
 | gro b i n f h h0 hn=>intro hx; simp only [AV.idsB,decide_eq_true_eq] at hx; exact .gro b i n f h h0 fun hpos=>let ⟨L,cap,k1,k2⟩:=hn hpos; ⟨L,cap,hρ _ _ _ hx k1,k2⟩
 | fn f fs cs fl cl h1 h2 _ _ ih1 ih2 =>
  intro hx;simp only [AV.idsB,Bool.and_eq_true] at hx;exact .fn f fs cs fl cl h1 h2 (fun i hi=>ih1 i hi (idsBL_at fl hx.1 i hi)) (fun i hi=>ih2 i hi (idsBL_at cl hx.2 i hi))
 | agg cs l h _ ih=>intro hx; simp only [AV.idsB] at hx; exact .agg cs l h (fun i hi=>ih i hi (idsBL_at l hx i hi))
 | tup cs l h _ ih=>intro hx; simp only [AV.idsB] at hx; exact .tup cs l h (fun i hi=>ih i hi (idsBL_at l hx i hi))
theorem DfL.sub {ρ ρ':Rho} {M:Mem} {nx:Nat} (hρ:∀ b g L,b<nx->ρ b g=some L->ρ' b g=some L):∀ {ds:List Deferred} {l m:List AV},DfL ρ M ds l->AV.subL l m->AV.idsBL nx m=true->DfL ρ' M ds m
 | [],l,m,h,hs,hi=>by
  unfold DfL at h;subst h;cases m with
  | nil=>rfl
  | cons=>simp [AV.subL] at hs
 | d::ds,l,m,h,hs,hi=>by
  unfold DfL at h ⊢;split
  ·rename_i e; rw [e] at h; exact DfL.sub hρ h hs hi
  ·rename_i e;rw [e] at h;cases l with
   | nil=>exact h.elim
   | cons x l =>
    cases m with
    | nil=>simp [AV.subL] at hs
    | cons y m =>
     simp only [AV.subL] at hs;simp only [AV.idsBL,Bool.and_eq_true] at hi;exact ⟨(h.1.sub y hs.1).cut hρ hi.1,DfL.sub hρ h.2 hs.2 hi.2⟩
  ·rename_i e1 e2;split at h
   ·rename_i e; exact absurd e (e1 _)
   ·rename_i e; exact absurd e (e2 _ _)
   ·exact h
theorem foldl_get {α:Type} (d:α):∀ (l:List (Nat×α)) (t:T α),nodupKeys l=true ->
  (∀ p∈l,(l.foldl (fun t p=>t.set d p.1 p.2) t).get d p.1=p.2)/\(∀ k,(∀ p∈l,p.1≠k)->(l.foldl (fun t p=>t.set d p.1 p.2) t).get d k=t.get d k)
 | [],t,_=>⟨fun p hp=>(by cases hp),fun k _=>rfl⟩
 | (b,y)::r,t,h=>by
  simp only [nodupKeys,Bool.and_eq_true,List.all_eq_true,bne_iff_ne] at h;obtain ⟨k1,k2⟩:=foldl_get d r (t.set d b y) h.2;refine ⟨fun p hp=>?_,fun k hk=>?_⟩
  ·rcases List.mem_cons.1 hp with rfl|hp
   ·simp only [List.foldl_cons];rw [k2 b (fun q hq=>h.1 q hq),T.set_get]; simp
   ·exact k1 p hp
  ·simp only [List.foldl_cons];rw [k2 k (fun q hq=>hk q (List.mem_cons_of_mem _ hq)),T.set_get]
   have:=hk (b,y) (List.mem_cons_self ..);simp only [ne_eq] at this;rw [if_neg (Ne.symm this)]
theorem frMeets_at {s:St} {nx:Nat} {hp':Nat->Blk}:∀ (l:List (Nat×AV)),Spec.frMeets s nx hp' l->∀ p∈l,AV.idsB nx p.2=true/\slotMeets s.nx hp' (s.tmf p.1) p.2
 | [],_,p,hp=>by cases hp
 | (t,y)::r,h,p,hp=>by
  simp only [Spec.frMeets] at h;rcases List.mem_cons.1 hp with rfl|hp
  ·exact NB.inv h.1
  ·exact frMeets_at r h.2 p hp
theorem idsQ_at {nx:Nat} {y:Blk} {p:Prop} (h:y.idsQ nx p):p/\∀ g sz n f,y=.row g sz false (.fn n f)->∀ k,k<n->AV.idsB nx (f k)=true:=by
 unfold Blk.idsQ at h;split at h
 ·exact ⟨h.2,fun g sz n f e=>by cases e; exact h.1⟩
 ·rename_i hn;exact ⟨h,fun g sz n f e=>absurd e (hn _ _ _ _)⟩
theorem hpMeets_at {s:St} {nx:Nat} {hp':Nat->Blk}:∀ (l:List (Nat×Blk)),Spec.hpMeets s nx hp' l->∀ p∈l,Blk.idsB nx p.2=true/\p.1<nx/\blkMeets s.nx p.1 hp' (s.hpf p.1) p.2
 | [],_,p,hp=>by cases hp
 | (b,y)::r,h,p,hp=>by
  rcases List.mem_cons.1 hp with rfl|hp
  ·obtain ⟨h1,h2⟩:=NB.inv h.1;simp only [Bool.and_eq_true,decide_eq_true_eq] at h1;exact ⟨h1.1,h1.2,(idsQ_at h2).1⟩
  ·exact hpMeets_at r h.2 p hp
theorem hpMeets_ids {s:St} {nx:Nat} {hp':Nat->Blk}:∀ (l:List (Nat×Blk)),Spec.hpMeets s nx hp' l->∀ p∈l,∀ g sz n f,p.2=.row g sz false (.fn n f)->∀ k,k<n->AV.idsB nx (f k)=true
 | [],_,p,hp=>by cases hp
 | (b,y)::r,h,p,hp=>by
  rcases List.mem_cons.1 hp with rfl|hp
  ·exact (idsQ_at (NB.inv h.1).2).2
  ·exact hpMeets_ids r h.2 p hp
def metRho (ρ:Rho) (hp':Nat->Blk) (snx nx:Nat):Rho:=fun b g =>
 if b<nx then
  match ρ b g with
  | some L=>some L
  | none=>if snx<=b then (match hp' b with|.row g' sz _ _=>if g=g' then some ⟨0,0,0,sz,0,true,none⟩ else none|_=>none) else none
 else none
theorem sub_row {g sz pu s g' sz' pu' s'} (h:Blk.sub (.row g sz pu s) (.row g' sz' pu' s')):sz=sz'/\g=g'/\(pu'=true->pu=true)/\s.sub' s':=by
 simp only [Blk.sub] at h;split at h
 ·exact ⟨‹_›,h⟩
 ·exact h.elim
theorem sq_sub {s s':Sq} (h:s.sub' s'):s.len=s'.len/\∀ i,i<s'.len->AV.sub (s.get i) (s'.get i)/\(s.get i).cells.length=(s'.get i).cells.length:=by
 cases s with
 | lst l =>
  cases s' with
  | lst m=>exact subE_at l m h
  | fn n f =>
   refine ⟨h.1,fun i hi=>?_⟩
   have:=subF_at l 0 f h.2 i (by rw [h.1]; exact hi)
   rwa [Nat.zero_add] at this
 | fn n f =>
  cases s' with
  | lst m=>exact h.elim
  | fn m f'=>exact ⟨h.1,fun i hi=>h.2 i (by have:=h.1; simp only [Sq.len] at hi; omega)⟩
theorem idsB_cell {nx:Nat} {x:AV} (h:AV.idsB nx x=true) (j:Nat) (hj:j<x.cells.length):AV.idsB nx (x.cells.getD j .undef)=true:=by
 cases x with
 | agg l=>simp only [AV.idsB] at h; exact idsBL_at l h j hj
 | _ =>
  have:j=0:=by simp [AV.cells] at hj; exact hj
  subst this;simpa [AV.cells] using h
theorem hpf_of_met {p:Spec} {nx:Nat} {s:St} (hm:p.met nx s) (b:Nat):(∃ y,(b,y)∈p.hp/\(p.mk' nx).hpf b=y)\/((p.mk' nx).hpf b=.dead):=by
 obtain ⟨hnd,hfr,hhp⟩:=NB.inv hm;simp only [Bool.and_eq_true] at hnd;have getB:=foldl_get Blk.dead p.hp .nil hnd.1.1.2;by_cases hx:∃ y,(b,y)∈p.hp
 ·obtain ⟨y,hy⟩:=hx;exact .inl ⟨y,hy,getB.1 (b,y) hy⟩
 ·refine .inr ?_;have:=getB.2 b (fun q hq e=>hx ⟨q.2,e▸hq⟩)
  simpa [Spec.mk',Spec.hpT,St.hpf,T.get] using this
theorem loopMt_of {p:Spec} {nx:Nat} {s:St} (hm:p.met nx s):∀ b st r,(p.mk' nx).hpf b=.loop st r->b<nx/\∃ st0 r0,s.hpf b=.loop st0 r0 /\
  ((∃ k on sp,st=.abs k on sp/\st0=.abs k on sp)\/(∃ m,st=.mf m/\((∃ es,st0=.mp es/\SBok es m)\/∃ m0,st0=.mf m0/\∀ s,m0 s=m s))\/∃ m m0,st=.mk m/\st0=.mk m0/\m0.sub m):=by
 intro b st r e;have hb:=hpMeets_at p.hp (NB.inv hm).2.2;rcases hpf_of_met hm b with ⟨y,hy,e'⟩|e'
 ·rw [e] at e';subst e';obtain ⟨k1,k2,k3⟩:=hb _ hy;simp only at k1 k2 k3;refine ⟨k2,?_⟩;cases st <;> first|(simp [Blk.idsB] at k1; done)|skip
  case abs k on sp =>
   cases e0:s.hpf b with
   | dead=>rw [e0] at k3; simp [blkMeets,Blk.sub] at k3
   | fam d=>rw [e0] at k3; simp [blkMeets,Blk.sub] at k3
   | row g sz pu sq=>rw [e0] at k3; cases sq <;> simp [blkMeets,Blk.sub] at k3
   | loop st0 r0 =>
    rw [e0] at k3;cases st0 <;> simp only [blkMeets,Blk.sub] at k3
    obtain ⟨rfl,rfl,rfl⟩:=k3;exact ⟨_,r0,rfl,.inl ⟨_,_,_,rfl,rfl⟩⟩
  case mf m =>
   cases e0:s.hpf b with
   | dead=>rw [e0] at k3; simp [blkMeets,Blk.sub] at k3
   | fam d=>rw [e0] at k3; simp [blkMeets,Blk.sub] at k3
   | row g sz pu sq=>rw [e0] at k3; cases sq <;> simp [blkMeets,Blk.sub] at k3
   | loop st0 r0 =>
    rw [e0] at k3;cases st0 <;> simp only [blkMeets,Blk.sub] at k3
    case mp es=>exact ⟨_,r0,rfl,.inr (.inl ⟨m,rfl,.inl ⟨es,rfl,NB.inv k3⟩⟩)⟩
    case mf m0=>exact ⟨_,r0,rfl,.inr (.inl ⟨m,rfl,.inr ⟨m0,rfl,k3⟩⟩)⟩
  case mk m =>
   cases e0:s.hpf b with
   | dead=>rw [e0] at k3; simp [blkMeets,Blk.sub] at k3
   | fam d=>rw [e0] at k3; simp [blkMeets,Blk.sub] at k3
   | row g sz pu sq=>rw [e0] at k3; cases sq <;> simp [blkMeets,Blk.sub] at k3
   | loop st0 r0 =>
    rw [e0] at k3;cases st0 <;> simp only [blkMeets,Blk.sub] at k3
    exact ⟨_,r0,rfl,.inr (.inr ⟨m,_,rfl,rfl,k3⟩)⟩
 ·rw [e] at e'; cases e'
theorem loopAbs_of {p:Spec} {nx:Nat} {s:St} (hm:p.met nx s):∀ b k on sp r,(p.mk' nx).hpf b=.loop (.abs k on sp) r->b<nx/\∃ r0,s.hpf b=.loop (.abs k on sp) r0:=by
 intro b k on sp r e;obtain ⟨h1,st0,r0,h2,h3⟩:=loopMt_of hm b _ r e;refine ⟨h1,?_⟩;rcases h3 with ⟨k',on',sp',e1,e2⟩|⟨m,e1,_⟩|⟨m,m0,e1,_⟩
 ·cases e1;subst e2;exact ⟨r0,h2⟩
 ·cases e1
 ·cases e1
theorem EntOK.anyRho {ρ ρ':Rho} {M:Mem} {es':Array MapEntry} {es:List (AV×AV)} (h:EntOK ρ M es' es) (hb:sbB es=true):EntOK ρ' M es' es :=
 ⟨h.1,fun i hi=>by
  obtain ⟨e,e1,e2,e3⟩:=h.2 i hi;refine ⟨e,e1,e2,?_⟩;have hm:es.getD i (.undef,.undef)∈es:=by
   have:es.getD i (.undef,.undef)=es[i]:=by simp [List.getD,hi]
   rw [this]; exact List.getElem_mem hi
  have h1:=List.all_eq_true.1 hb _ hm;generalize es.getD i (.undef,.undef)=q at e3 h1;obtain ⟨x,y⟩:=q;refine Rel.cut (nx:=0) (fun b g L h=>absurd h (Nat.not_lt_zero b)) e3 ?_
  cases x <;> cases y <;> first|(simp at h1; done)|rfl⟩
theorem cellsM_at {nx:Nat} {hp':Nat->Blk}:∀ (l m:List AV),cellsM nx hp' l m->l.length=m.length/\∀ j,j<m.length->slotMeets nx hp' (l.getD j .undef) (m.getD j .undef)
 | [],[],_=>⟨rfl,fun j hj=>by simp at hj⟩
 | [],_::_,h=>h.elim
 | _::_,[],h=>h.elim
 | x::l,y::m,h=>by
  obtain ⟨k1,k2⟩:=cellsM_at l m h.2;refine ⟨by simp [k1],fun j hj=>?_⟩
  cases j with
  | zero=>simpa using h.1
  | succ j=>simpa using k2 j (by simpa using hj)
def Fam.eqv:Fam->Fam->Prop
 | .rows sz len,.rows sz' len'=>sz=sz'/\∀ i,len i=len' i
 | .maps sh z n has val,.maps sh' z' n' has' val'=>sh=sh'/\z=z'/\n=n'/\∀ i,i<n->∀ q,has i q=has' i q/\val i q=val' i q
 | _,_=>False
theorem FamB.eqv {ρ:Rho} {b:Nat} {d d':Fam} (h:d.eqv d') {B:Nat} (hB:FamB ρ b d' B):FamB ρ b d B:=by
 cases d <;> cases d' <;> simp only [Fam.eqv] at h
 ·obtain ⟨rfl,h⟩:=h;obtain ⟨i,L,h1,h2,h3⟩:=hB;exact ⟨i,L,by rw [h]; exact h1,by rw [h]; exact h2,h3⟩
 ·obtain ⟨rfl,rfl,rfl,h⟩:=h;exact hB
theorem FamAt.eqv {U:Base} {w0:World} {ρ:Rho} {M:Mem} {hp hp':Nat->Blk} {mk:List Nat} {w:World} {b:Nat} {d d':Fam} (h:FamAt U w0 ρ M hp mk w b d) (he:d.eqv d') (hr:∀ b g sz pu s,hp' b=.row g sz pu s->hp b=.row g sz pu s) (hl:∀ b st r,hp' b=.loop st r->hp b=.loop st r) :
  FamAt U w0 ρ M hp' mk w b d':=by
 cases d <;> cases d' <;> simp only [Fam.eqv] at he
 ·obtain ⟨rfl,he⟩:=he;obtain rfl:=funext he;exact h
 ·obtain ⟨rfl,rfl,rfl,he⟩:=he;obtain ⟨a1,a2,a3⟩:=h;refine ⟨fun i hi=>?_,a2,a3⟩
  obtain ⟨L,b1,⟨es,es',c,b2,b3,b4⟩,b5,b6,b7,b8⟩:=a1 i hi;refine ⟨L,b1,⟨es,es',c,b2,b3,b4.1,b4.2.1,fun q=>?_⟩,b5,fun b' g sz pu s L' e1=>b6 b' g sz pu s L' (hr _ _ _ _ _ e1),fun b' st r L' e1=>b7 b' st r L' (hl _ _ _ e1),b8⟩
  have:=b4.2.2 q;simp only at this ⊢;rw [this,(he i hi q).1,(he i hi q).2]
theorem famMt_of {p:Spec} {nx:Nat} {s:St} (hm:p.met nx s):∀ b d,(p.mk' nx).hpf b=.fam d->b<nx/\((∃ d0,s.hpf b=.fam d0/\d0.eqv d)\/(s.nx<=b/\∃ sz len,d=.rows sz len/\1<=sz/\∀ i,len i=0)):=by
 intro b d e;have hb:=hpMeets_at p.hp (NB.inv hm).2.2;rcases hpf_of_met hm b with ⟨y,hy,e'⟩|e'
 ·rw [e] at e';subst e';obtain ⟨k1,k2,k3⟩:=hb _ hy;refine ⟨k2,?_⟩;simp only at k3;cases e0:s.hpf b with
  | dead =>
   rw [e0] at k3;cases d with
   | rows sz len =>
    simp only [blkMeets] at k3;obtain ⟨m1,m2⟩:=NB.inv k3;simp only [Bool.and_eq_true,decide_eq_true_eq] at m1;exact .inr ⟨m1.1,sz,len,rfl,m1.2,m2⟩
   | maps sh z n has val=>simp only [blkMeets,Blk.sub] at k3
  | loop st r=>rw [e0] at k3; simp only [blkMeets,Blk.sub] at k3
  | row g sz pu sq=>rw [e0] at k3; cases sq <;> simp [blkMeets,Blk.sub] at k3
  | fam d0 =>
   rw [e0] at k3;refine .inl ⟨d0,rfl,?_⟩;cases d0 <;> cases d <;> simp only [blkMeets,Blk.sub] at k3 <;> exact k3
 ·rw [e] at e'; cases e'
theorem ExtA.ofFam {U:Base} {w0:World} {ρ:Rho} {M:Mem} {hp:Nat->Blk} {mk:List Nat} {w:World} (h:ExtA U w0 ρ M (fun b=>match hp b with|.fam _=>.dead|x=>x) mk w):ExtA U w0 ρ M hp mk w:=by
 intro b k on sp r e;obtain ⟨C,T,hC⟩:=h b k on sp r (by simp only [e])
 exact ⟨C,T,hC.stab,hC.law,hC.n0,hC.lt,hC.now,fun b' g sz pu s' L e1=>hC.row b' g sz pu s' L (by simp only [e1]),fun b' st r L hne e1=>hC.loop b' st r L hne (by simp only [e1]),fun b' k' on' sp' r' e1=>hC.only b' k' on' sp' r' (by simp only [e1]),hC.me,hC.mem,hC.memB,hC.tm,hC.marks,hC.own⟩
theorem met_sound {U:Base} {w0:World} {n:Nat} {ρ:Rho} {M:Mem} {s:St} {a:Act} {w:World} (h:SRel U w0 n ρ M s.tmf s.hpf s.nx a w) {p:Spec} {nx:Nat} (hm:p.met nx s) :
  SRel U w0 n (metRho ρ (p.mk' nx).hpf s.nx nx) M (p.mk' nx).tmf (p.mk' nx).hpf nx a w /\
  (∀ b g L,b<nx->ρ b g=some L->metRho ρ (p.mk' nx).hpf s.nx nx b g=some L) /\
  (∀ b,b<s.nx->s.hpf b=.dead->(p.mk' nx).hpf b=.dead)/\(∀ b g,b<s.nx->b<nx->metRho ρ (p.mk' nx).hpf s.nx nx b g=ρ b g) /\
  (∀ b g sz pu sq L,(p.mk' nx).hpf b=.row g sz pu sq->metRho ρ (p.mk' nx).hpf s.nx nx b g=some L->L.virt=false->∃ s0 pu0,s.hpf b=.row g sz pu0 s0/\ρ b g=some L):=by
 obtain ⟨hnd,hfr,hhp⟩:=NB.inv hm;simp only [Bool.and_eq_true] at hnd;obtain ⟨⟨hnd,hdD,hdA⟩,hnoabs⟩:=hnd;have fr:=frMeets_at p.fr hfr;have hb:=hpMeets_at p.hp hhp;have getF:=foldl_get AV.undef p.fr .nil hnd.1
 have getB:=foldl_get Blk.dead p.hp .nil hnd.2;have hpf_of:∀ b,(∃ y,(b,y)∈p.hp/\(p.mk' nx).hpf b=y)\/((p.mk' nx).hpf b=.dead):=by
  intro b;by_cases hx:∃ y,(b,y)∈p.hp
  ·obtain ⟨y,hy⟩:=hx;exact .inl ⟨y,hy,getB.1 (b,y) hy⟩
  ·refine .inr ?_;have:=getB.2 b (fun q hq e=>hx ⟨q.2,e▸hq⟩)
   simpa [Spec.mk',Spec.hpT,St.hpf,T.get] using this
 have loopMt:=loopMt_of hm;have hext:∀ b g L,b<nx->ρ b g=some L->metRho ρ (p.mk' nx).hpf s.nx nx b g=some L:=by
  intro b g L hlt e;simp only [metRho,if_pos hlt,e]
 have hold:∀ b g,b<s.nx->b<nx->metRho ρ (p.mk' nx).hpf s.nx nx b g=ρ b g:=by
  intro b g h1 h2;simp only [metRho,if_pos h2];cases e:ρ b g with
  | some L=>rfl
  | none=>simp only [if_neg (Nat.not_le.2 h1)]
 have row:∀ b g sz pu sq,(p.mk' nx).hpf b=.row g sz pu sq->b<nx/\Blk.idsB nx (.row g sz pu sq)=true /\
   ((∃ s0 pu0,s.hpf b=.row g sz pu0 s0/\(pu=true->pu0=true)/\s0.sub' sq)\/(s.nx<=b/\pu=true/\1<=sz/\sq.len=0) \/
    (∃ pu0 b2 g2,s.hpf b=.row g sz pu0 (.lst [.nils])/\pu=false/\sq=.lst [.sl b2 g2 0 0 none]/\s.nx<=b2/\rowIs g2 ((p.mk' nx).hpf b2)) \/
    (∃ pu0 l m,s.hpf b=.row g sz pu0 (.lst [.agg l])/\pu=false/\sq=.lst [.agg m]/\cellsM s.nx (p.mk' nx).hpf l m)):=by
  intro b g sz pu sq hr;rcases hpf_of b with ⟨y,hy,e⟩|e
  ·rw [hr] at e;subst e;obtain ⟨k1,k2,k3⟩:=hb _ hy;refine ⟨k2,k1,?_⟩;simp only at k3;cases e0:s.hpf b with
   | dead =>
    rw [e0] at k3;simp only [blkMeets] at k3;obtain ⟨m1,m2⟩:=NB.inv k3;simp only [Bool.and_eq_true,decide_eq_true_eq] at m1;exact .inr (.inl ⟨m1.1.1,m1.1.2,m1.2,m2⟩)
   | loop st r =>
    rw [e0] at k3;simp only [blkMeets,Blk.sub] at k3
   | fam d =>
    rw [e0] at k3;simp only [blkMeets,Blk.sub] at k3
   | row g0 sz0 pu0 s0 =>
    rw [e0] at k3;unfold blkMeets at k3;split at k3
    ·rename_i g1 sz1 pu1 g2 sz2 pu2 b2 g3 i len c e1 e2;cases e1;cases e2;obtain ⟨m1,rfl,rfl,rfl,m5⟩:=NB.inv k3;simp only [Bool.and_eq_true,decide_eq_true_eq,Bool.not_eq_true'] at m1;obtain ⟨⟨⟨m2,rfl⟩,m3⟩,rfl⟩:=m1
     have hc:c=none:=by cases c <;> simp_all
     subst hc;exact .inr (.inr (.inl ⟨_,_,_,rfl,rfl,rfl,m2,m5⟩))
    ·rename_i g1 sz1 pu1 l g2 sz2 pu2 m e1 e2;cases e1;cases e2;split at k3
     ·obtain ⟨m1,rfl,rfl,m4⟩:=NB.inv k3;exact .inr (.inr (.inr ⟨_,_,_,rfl,by simpa using m1,rfl,m4⟩))
     ·obtain ⟨rfl,rfl,m3,m4⟩:=sub_row k3;exact .inl ⟨_,_,rfl,m3,m4⟩
    ·rename_i e1 e2; cases e1
    ·rename_i e1 e2; cases e1
    ·obtain ⟨rfl,rfl,m3,m4⟩:=sub_row k3;exact .inl ⟨s0,pu0,rfl,m3,m4⟩
  ·rw [hr] at e; cases e
 have virt:∀ b g sz pu sq,(p.mk' nx).hpf b=.row g sz pu sq->s.nx<=b->b<nx->metRho ρ (p.mk' nx).hpf s.nx nx b g=some ⟨0,0,0,sz,0,true,none⟩:=by
  intro b g sz pu sq hr h1 h2;simp only [metRho,if_pos h2,h.free b g h1,if_pos h1,hr,if_true]
 have slot:∀ v x y,Rel ρ M v x->slotMeets s.nx (p.mk' nx).hpf x y->AV.idsB nx y=true->Rel (metRho ρ (p.mk' nx).hpf s.nx nx) M v y:=by
  intro v x y hrel k2 k1;have plain:AV.sub x y->Rel (metRho ρ (p.mk' nx).hpf s.nx nx) M v y:=fun hs=>(hrel.sub y hs).cut hext k1
  by_cases hn:x=.nils
  ·subst hn;cases y <;> first|exact plain k2|skip
   rename_i b g i len cc;simp only [slotMeets] at k2;obtain ⟨m1,m2⟩:=NB.inv k2;simp only [Bool.and_eq_true,decide_eq_true_eq] at m1;obtain ⟨⟨m3,rfl⟩,m5⟩:=m1;obtain ⟨m2,m6⟩:=m2;have hc:cc=none:=by cases cc <;> simp_all
   subst hc;subst m2;cases hr:(p.mk' nx).hpf b with
   | dead=>rw [hr] at m6; cases m6
   | loop st r=>rw [hr] at m6; cases m6
   | fam d=>rw [hr] at m6; cases m6
   | row g' sz' pu' s' =>
    rw [hr] at m6;obtain ⟨rfl,_⟩:=m6;have hlt:b<nx:=by simpa [AV.idsB] using k1
    have hv:v=.slice none 0 0:=by cases hrel with|pure hr=>cases hr; rfl
    rw [hv];exact .slv _ none b g 0 none (virt b g sz' pu' s' hr m3 hlt) (by simp)
  ·have:AV.sub x y:=by
    cases x <;> first|exact absurd rfl hn|exact k2
   exact plain this
 have live:∀ b g sz pu sq L,(p.mk' nx).hpf b=.row g sz pu sq->metRho ρ (p.mk' nx).hpf s.nx nx b g=some L->L.virt=false->∃ s0 pu0,s.hpf b=.row g sz pu0 s0/\ρ b g=some L:=by
  intro b g sz pu sq L hr hL hv;obtain ⟨k1,k2,k3⟩:=row b g sz pu sq hr;rcases k3 with ⟨s0,pu0,k4,_⟩|⟨k4,_⟩|⟨pu0,_,_,k4,_⟩|⟨pu0,_,_,k4,_⟩
  ·obtain ⟨L0,e,_⟩:=h.hok.row b g sz pu0 s0 k4;rw [hext b g L0 k1 e] at hL;cases hL;exact ⟨s0,pu0,k4,e⟩
  ·rw [virt b g sz pu sq hr k4 k1] at hL;cases hL;cases hv
  ·obtain ⟨L0,e,_⟩:=h.hok.row b g sz pu0 _ k4;rw [hext b g L0 k1 e] at hL;cases hL;exact ⟨_,pu0,k4,e⟩
  ·obtain ⟨L0,e,_⟩:=h.hok.row b g sz pu0 _ k4;rw [hext b g L0 k1 e] at hL;cases hL;exact ⟨_,pu0,k4,e⟩
 have absρ:∀ b st0 r0,b<nx->s.hpf b=.loop st0 r0->metRho ρ (p.mk' nx).hpf s.nx nx b 0=ρ b 0:=by
  intro b st0 r0 h1 h2;obtain ⟨L,_,e1,_⟩:=(h.hok.loop b _ r0 h2).at
  rw [hext b 0 L h1 e1,e1]
 have fam:=famMt_of hm;have hExt:Ext U w0 (metRho ρ (p.mk' nx).hpf s.nx nx) M (p.mk' nx).hpf (marksOf a.defers) w:=by
  have hstep:=h.extStep (U':=U) (w0':=w0) (ρ':=metRho ρ (p.mk' nx).hpf s.nx nx) (M':=M) (hp':=fun b=>match (p.mk' nx).hpf b with|.fam _=>(match s.hpf b with|.fam d0=>.fam d0|_=>.dead)|x=>x) (mk':=marksOf a.defers) (w':=w)
   rfl rfl rfl (Nat.le_refl _) (fun b k on sp r e=>?_) (fun b g sz pu sq L h1 h2 h3=>?_) (fun b st r L h1 h2=>?_) (MExt.refl M) (fun _ _ _ hm=>.inl hm) (fun _ hr=>.inl hr) (fun _ h1 h2=>⟨h1,h2⟩) (fun b d e=>?_) (fun _ _=>.inl rfl)
  ·refine ⟨fun b k on sp r e=>?_,fun b d e=>?_⟩
   ·obtain ⟨C,T,hC⟩:=hstep.1 b k on sp r (by simp only [e])
    refine ⟨C,T,hC.stab,hC.law,hC.n0,hC.lt,hC.now,fun b' g sz pu s' L e1=>hC.row b' g sz pu s' L (by simp only [e1]),fun b' st r L hne e1=>hC.loop b' st r L hne (by simp only [e1]),fun b' k' on' sp' r' e1=>hC.only b' k' on' sp' r' (by simp only [e1]),hC.me,hC.mem,hC.memB,hC.tm,hC.marks,hC.own⟩
   ·obtain ⟨k1,k2⟩:=fam b d e;have hna:∀ b' k on sp r,(p.mk' nx).hpf b'≠.loop (.abs k on sp) r:=fun b' k on sp r e'=>by
     obtain ⟨_,r0,e1⟩:=loopAbs_of hm b' k on sp r e';rcases k2 with ⟨d0,e0,_⟩|_
     ·exact (h.ext.2 b d0 e0).1 b' k on sp r0 e1
     ·simp only [Bool.or_eq_true] at hnoabs;rcases hnoabs with h1|h1
      ·rcases hpf_of b with ⟨y,hy,e2⟩|e2
       ·rw [e] at e2;subst e2;have:=List.all_eq_true.1 h1 _ hy;cases this
       ·rw [e] at e2; cases e2
      ·have:=noAbs_get s.hp b' h1;have e1':s.hp.get .dead b'=.loop (.abs k on sp) r0:=e1;rw [e1'] at this;cases this
    have hr:∀ b g sz pu s',(p.mk' nx).hpf b=.row g sz pu s'->(fun b=>match (p.mk' nx).hpf b with|.fam _=>(match s.hpf b with|.fam d0=>.fam d0|_=>.dead)|x=>x) b=Blk.row g sz pu s':=fun b g sz pu s' e1=>by simp only [e1]
    have hl:∀ b st r,(p.mk' nx).hpf b=.loop st r->(fun b=>match (p.mk' nx).hpf b with|.fam _=>(match s.hpf b with|.fam d0=>.fam d0|_=>.dead)|x=>x) b=Blk.loop st r:=fun b st r e1=>by simp only [e1]
    rcases k2 with ⟨d0,e0,he⟩|⟨hge,sz,len,rfl,hsz,hz⟩
    ·obtain ⟨_,q2,q3⟩:=hstep.2 b d0 (by simp only [e,e0])
     refine ⟨hna,q2.eqv he hr hl,fun b' d' B hne e' hB hB'=>?_⟩
     rcases (fam b' d' e').2 with ⟨d1,e1,he'⟩|⟨_,sz,len,rfl,_,hz⟩
     ·exact q3 b' d1 B hne (by simp only [e',e1]) (hB.eqv he) (hB'.eqv he')
     ·obtain ⟨i,L,hi,_⟩:=hB';rw [hz i] at hi; omega
    ·refine ⟨hna,⟨hsz,fun i hi=>?_,fun i l _=>?_,fun i i' L L' hi=>?_⟩,fun b' d' B hne e' hB=>?_⟩
     ·rw [hz i] at hi; omega
     ·simp only [metRho,if_pos k1,h.free b _ hge,if_pos hge,e]
     ·rw [hz i] at hi; omega
     ·obtain ⟨i,L,hi,_⟩:=hB;rw [hz i] at hi; omega
  ·have e':(p.mk' nx).hpf b=.loop (.abs k on sp) r:=by
    split at e
    ·split at e <;> cases e
    ·exact e
   exact (loopAbs_of hm b k on sp r e').2
  ·have e':(p.mk' nx).hpf b=.row g sz pu sq:=by
    split at h1
    ·split at h1 <;> cases h1
    ·exact h1
   obtain ⟨s0,pu0,q1,q2⟩:=live b g sz pu sq L e' h2 h3;exact .inr ⟨b,g,sz,pu0,s0,L,q1,q2,h3,rfl⟩
  ·have e':(p.mk' nx).hpf b=.loop st r:=by
    split at h1
    ·split at h1 <;> cases h1
    ·exact h1
   obtain ⟨k1,st0,r0,k2,_⟩:=loopMt b st r e';rw [absρ b _ _ k1 k2] at h2;exact .inr ⟨_,r0,L,k2,h2,rfl⟩
  ·split at e
   ·rename_i d' e';split at e
    ·rename_i d0 e0;cases e;refine ⟨e0,fun g=>hold b g (h.lt_nx (by rw [e0]; simp)) (fam b d' e').1⟩
    ·cases e
   ·rename_i hx;exact absurd e (hx _)
 have hdf:DfL (metRho ρ (p.mk' nx).hpf s.nx nx) M a.defers (dfL ((p.mk' nx).tmf slotD)):=by
  by_cases hx:∃ y,(slotD,y)∈p.fr
  ·obtain ⟨y,hy⟩:=hx;have e:(p.mk' nx).tmf slotD=y:=getF.1 (slotD,y) hy;rw [e];obtain ⟨k1,k2⟩:=fr _ hy;have k3:=List.all_eq_true.1 hdA _ hy;simp only [bne_self_eq_false,Bool.false_or] at k3;have hd:=h.defers;cases y with
   | opt m j w' x' =>
    cases x' <;> first|(simp [isDf] at k3; done)|skip
    rename_i m';simp only at k1 k2;generalize s.tmf slotD=x at k2 hd;cases x with
    | opt m2 j2 w2 x2 =>
     simp only [slotMeets,AV.sub] at k2;cases x2 <;> first|(simp [AV.sub] at k2; done)|skip
     simp only [AV.sub] at k2;simp only [AV.idsB] at k1;exact hd.sub hext k2 k1
    | _=>simp [slotMeets,AV.sub] at k2
   | _=>simp [isDf] at k3
  ·have e:(p.mk' nx).tmf slotD=.undef:=by
    have:=getF.2 slotD (fun q hq e=>hx ⟨q.2,e▸hq⟩)
    simpa [Spec.mk',Spec.tmT,St.tmf,T.get] using this
   rw [e];have hany:p.fr.any (fun q=>q.1==slotD)=false:=by
    rw [List.any_eq_false];intro q hq e;exact hx ⟨q.2,by rw [<- (show q.1=slotD by simpa using e)]; exact hq⟩
   rw [hany,Bool.false_or] at hdD;have hd:=h.defers;cases hu:s.tmf slotD <;> rw [hu] at hdD hd <;> first|(simp [isUndef] at hdD; done)|skip
   exact (hd.mono (M':=M) (ρ':=ρ) (RExt.refl ρ) (MExt.refl M)).sub hext (by simp [dfL,AV.subL]) rfl
 refine ⟨⟨h.size,fun t=>?_,⟨h.hok.mem,fun b g sz pu sq hr=>?_,?_,fun b g sz pu sq hr g' hg'=>?_,fun b st r hl=>?_,fun b b' st st' r r' L L' hl hl' f1 f2 hB=>?_⟩,fun b hbb=>?_,fun b g hbb=>?_,h.keep,h.memN,h.memE,?_,
  h.nle,fun b st r L hl f1 hU=>?_,hdf,h.marks,h.mown,h.nod,?_⟩,hext,fun b h1 h2=>?_,hold,live⟩
 case refine_5 =>
  obtain ⟨k1,st0,r0,k2,k3⟩:=loopMt b st r hl;rcases k3 with ⟨k,on,sp,rfl,rfl⟩|⟨m,rfl,⟨es,rfl,hes⟩|⟨m0,rfl,hmm⟩⟩|⟨m,m0,rfl,rfl,hsh,hz,hmm⟩
  ·obtain ⟨L,k',on',sp',lp,e0,e1,e2,e3,e4⟩:=(h.hok.loop b _ r0 k2).absOK;exact .inr (.inr ⟨L,k',on',sp',lp,e0,hext b 0 L k1 e1,e2,e3,e4⟩)
  ·obtain ⟨L,es1,es',c,e0,e1,e2,e3,e4⟩:=(h.hok.loop b _ r0 k2).mapOK;cases e0;exact .inr (.inl ⟨L,es,es',c,.inr (.inl ⟨m,rfl,hes⟩),hext b 0 L k1 e1,e2,e3,e4.anyRho hes.1⟩)
  ·obtain ⟨L,es,es',c,hes,e1,e2,e3,e4⟩:=(h.hok.loop b _ r0 k2).mfOK;exact .inr (.inl ⟨L,es,es',c,.inr (.inl ⟨m,rfl,hes.1,fun q=>(hes.2 q).trans (hmm q)⟩),hext b 0 L k1 e1,e2,e3,e4.anyRho hes.1⟩)
  ·obtain ⟨L,es,es',c,hes,e1,e2,e3,e4⟩:=(h.hok.loop b _ r0 k2).mkOK
   exact .inr (.inl ⟨L,es,es',c,.inr (.inr ⟨m,rfl,by rw [<- hsh]; exact hes.1,by rw [<- hz]; exact hes.2.1,fun q=>by rw [<- hz,hes.2.2 q,(hmm q).1,(hmm q).2]⟩),hext b 0 L k1 e1,e2,e3,e4.lits (fun e he=>(hes.1 e he).2)⟩)
 case refine_6 =>
  obtain ⟨k1,st0,r0,k2,_⟩:=loopMt b st r hl;obtain ⟨m1,st0',r0',m2,_⟩:=loopMt b' st' r' hl';rw [absρ b _ _ k1 k2] at f1;rw [absρ b' _ _ m1 m2] at f2;exact h.hok.linj b b' _ _ _ _ L L' k2 m2 f1 f2 hB
 case refine_10 =>
  obtain ⟨k1,st0,r0,k2,_⟩:=loopMt b st r hl;rw [absρ b _ _ k1 k2] at f1;exact h.ownL b _ _ L k2 f1 hU
 case refine_11=>exact hExt
 ·-- slots
  by_cases hx:∃ y,(t,y)∈p.fr
  ·obtain ⟨y,hy⟩:=hx;have e:(p.mk' nx).tmf t=y:=getF.1 (t,y) hy;rw [e];obtain ⟨k1,k2⟩:=fr _ hy;have hrel:=h.tm t;simp only at k1 k2
   have plain:AV.sub (s.tmf t) y->Rel (metRho ρ (p.mk' nx).hpf s.nx nx) M (a.tmps.getD t Go.undef) y:=fun hs=>(hrel.sub y hs).cut hext k1
   generalize hxx:s.tmf t=x at k2 hrel plain;by_cases hn:x=.nils
   ·subst hn;cases y <;> first|exact plain k2|skip
    rename_i b g i len cc;simp only [slotMeets] at k2;obtain ⟨m1,m2⟩:=NB.inv k2;simp only [Bool.and_eq_true,decide_eq_true_eq] at m1;obtain ⟨⟨m3,rfl⟩,m5⟩:=m1;obtain ⟨m2,m6⟩:=m2;have hc:cc=none:=by cases cc <;> simp_all
    subst hc;subst m2;cases hr:(p.mk' nx).hpf b with
    | dead=>rw [hr] at m6; cases m6
    | loop st r=>rw [hr] at m6; cases m6
    | fam d=>rw [hr] at m6; cases m6
    | row g' sz' pu' s' =>
     rw [hr] at m6;obtain ⟨rfl,_⟩:=m6;have hlt:b<nx:=by simpa [AV.idsB] using k1
     have hnil:∀ v,Rel ρ M v .nils->v=.slice none 0 0:=fun v hr=>by cases hr with|pure hr=>cases hr; rfl
     have hv:=hnil _ hrel;rw [hv];exact .slv _ none b g 0 none (virt b g sz' pu' s' hr m3 hlt) (by simp)
   ·have:AV.sub x y:=by
     cases x <;> first|exact absurd rfl hn|exact k2
    exact plain this
  ·have e:(p.mk' nx).tmf t=.undef:=by
    have:=getF.2 t (fun q hq e=>hx ⟨q.2,e▸hq⟩)
    simpa [Spec.mk',Spec.tmT,St.tmf,T.get] using this
   rw [e]; exact .undef _
 ·obtain ⟨k1,k2,k3⟩:=row b g sz pu sq hr;rcases k3 with ⟨s0,pu0,k4,k5,k6⟩|⟨k4,k5,k6,k7⟩|⟨pu0,b2,g2,k4,k5,k6,k7,k8⟩|⟨pu0,l,m,k4,k5,k6,k7⟩
  ·obtain ⟨L,e1,e2,e3,e4⟩:=h.hok.row b g sz pu0 s0 k4;obtain ⟨m1,m2⟩:=sq_sub k6;refine ⟨L,hext b g L k1 e1,e2,by rw [<- m1]; exact e3,?_⟩
   rw [<- m1];rcases e4 with e4|⟨hv,c,e,h5,h6,h7,h8,h9⟩
   ·exact .inl e4
   ·refine .inr ⟨hv,c,e,h5,h6,h7,h8,fun i hi=>?_⟩
    obtain ⟨q1,q2⟩:=h9 i hi;obtain ⟨m3,m4⟩:=m2 i (by omega)
    refine ⟨by omega,fun j hj=>?_⟩
    obtain ⟨v,r1,r2,r3,r4⟩:=q2 j hj;have hsub:=sub_cells m3 m4 j (by omega)
    have hpure:pu=true->RelP M v ((sq.get i).cells.getD j .undef):=fun hp=>(r4 (k5 hp)).sub _ hsub
    refine ⟨v,r1,r2,?_,hpure⟩;cases pu with
    | true=>exact .pure (hpure rfl)
    | false =>
     cases sq with
     | lst l =>
      refine (r3.sub _ hsub).cut hext ?_;simp only [Blk.idsB] at k2;have hle:(Sq.lst l).len=l.length:=rfl;have:=idsBL_at l k2 i (by omega)
      exact idsB_cell this j (by have hge:(Sq.lst l).get i=l.getD i .undef:=rfl; rw [<- hge]; omega)
     | fn nn f =>
      refine (r3.sub _ hsub).cut hext ?_;rcases hpf_of b with ⟨y,hy,e'⟩|e'
      ·rw [hr] at e';subst e';have hids:=hpMeets_ids p.hp hhp _ hy g sz nn f rfl i (by have:(Sq.fn nn f).len=nn:=rfl; omega)
       exact idsB_cell hids j (by have hge:(Sq.fn nn f).get i=f i:=rfl; rw [<- hge]; omega)
      ·rw [hr] at e'; cases e'
  ·exact ⟨_,virt b g sz pu sq hr k4 k1,rfl,⟨k6,k7⟩,.inl ⟨rfl,k7⟩⟩
  ·subst k5;subst k6;obtain ⟨L,e1,e2,e3,e4⟩:=h.hok.row b g sz pu0 _ k4;refine ⟨L,hext b g L k1 e1,e2,e3,?_⟩;rcases e4 with e4|⟨hv,c,e,h5,h6,h7,h8,h9⟩
   ·exact .inl e4
   ·refine .inr ⟨hv,c,e,h5,h6,h7,h8,fun i hi=>?_⟩
    have hi0:i=0:=by have:(Sq.lst [AV.sl b2 g2 0 0 none]).len=1:=rfl; omega
    subst hi0;obtain ⟨q1,q2⟩:=h9 0 (by show 0<1; omega)
    have hsz:sz=1:=by rw [<- q1]; rfl
    subst hsz;refine ⟨rfl,fun j hj=>?_⟩
    have hj0:j=0:=by omega
    subst hj0;obtain ⟨v,r1,r2,r3,r4⟩:=q2 0 hj;refine ⟨v,r1,r2,?_,fun hp=>by cases hp⟩
    have hnil:v=.slice none 0 0:=by
     have r3':Rel ρ M v .nils:=r3;cases r3' with|pure hr=>cases hr; rfl
    rw [hnil];have hb2:b2<nx:=by simpa [Blk.idsB,AV.idsBL,AV.idsB] using k2
    show Rel _ M (.slice none 0 0) (.sl b2 g2 0 0 none);cases hr2:(p.mk' nx).hpf b2 with
    | dead=>rw [hr2] at k8; cases k8
    | loop st r=>rw [hr2] at k8; cases k8
    | fam d=>rw [hr2] at k8; cases k8
    | row g' sz' pu' s' =>
     rw [hr2] at k8;obtain ⟨rfl,_⟩:=k8;exact .slv _ none b2 g2 0 none (virt b2 g2 sz' pu' s' hr2 k7 hb2) (by simp)
  ·subst k5;subst k6;obtain ⟨L,e1,e2,e3,e4⟩:=h.hok.row b g sz pu0 _ k4;refine ⟨L,hext b g L k1 e1,e2,e3,?_⟩;rcases e4 with e4|⟨hv,c,e,h5,h6,h7,h8,h9⟩
   ·exact .inl e4
   ·refine .inr ⟨hv,c,e,h5,h6,h7,h8,fun i hi=>?_⟩
    have hi0:i=0:=by have:(Sq.lst [AV.agg m]).len=1:=rfl; omega
    subst hi0;obtain ⟨q1,q2⟩:=h9 0 (by show 0<1; omega)
    obtain ⟨c1,c2⟩:=cellsM_at l m k7;have q1':l.length=sz:=q1;refine ⟨by show m.length=sz; omega,fun j hj=>?_⟩
    obtain ⟨v,r1,r2,r3,r4⟩:=q2 j hj;have r3':Rel ρ M v (l.getD j .undef):=r3;refine ⟨v,r1,r2,?_,fun hp=>by cases hp⟩
    have hk2:AV.idsB nx (m.getD j .undef)=true:=by
     have:AV.idsBL nx m=true:=by simpa [Blk.idsB,AV.idsBL,AV.idsB] using k2
     exact idsBL_at m this j (by omega)
    exact slot v _ _ r3' (c2 j (by omega)) hk2
 ·intro b b' g g' sz sz' pu pu' s1 s2 L L' h1 h2 e1 e2 v1 v2 hB;obtain ⟨s0,pu0,q1,q2⟩:=live b g sz pu s1 L h1 e1 v1;obtain ⟨s0',pu0',q3,q4⟩:=live b' g' sz' pu' s2 L' h2 e2 v2
  exact h.hok.inj b b' g g' sz sz' pu0 pu0' s0 s0' L L' q1 q3 q2 q4 v1 v2 hB
 ·obtain ⟨k1,k2,k3⟩:=row b g sz pu sq hr;have keyG:∀ pu0 s0,s.hpf b=.row g sz pu0 s0->metRho ρ (p.mk' nx).hpf s.nx nx b g'=none:=by
   intro pu0 s0 k4;have hlt:b<s.nx:=by
    rcases Nat.lt_or_ge b s.nx with h1|h1
    ·exact h1
    ·rw [h.dead b h1] at k4; cases k4
   rw [hold b g' hlt k1];exact h.hok.gen b g sz pu0 s0 k4 g' hg'
  rcases k3 with ⟨s0,pu0,k4,_⟩|⟨k4,_⟩|⟨pu0,_,_,k4,_⟩|⟨pu0,_,_,k4,_⟩
  ·exact keyG pu0 s0 k4
  ·simp only [metRho,if_pos k1,h.free b g' k4,if_pos k4,hr];rw [if_neg (by omega)]
  ·exact keyG pu0 _ k4
  ·exact keyG pu0 _ k4
 ·cases hr:(p.mk' nx).hpf b with
  | dead=>rfl
  | loop st r=>have:=(loopMt _ _ _ hr).1; omega
  | fam d=>have:=(fam _ _ hr).1; omega
  | row g sz pu sq=>have:=(row b g sz pu sq hr).1; omega
 ·simp only [metRho];rw [if_neg (by omega)]
 ·intro b g sz pu sq L hr hL hv hU;obtain ⟨s0,pu0,q1,q2⟩:=live b g sz pu sq L hr hL hv;exact h.own b g sz pu0 s0 L q1 q2 hv hU
 ·cases hr:(p.mk' nx).hpf b with
  | dead=>rfl
  | loop st r =>
   obtain ⟨_,_,_,k2,_⟩:=loopMt _ _ _ hr;rw [h2] at k2; cases k2
  | fam d =>
   rcases (fam _ _ hr).2 with ⟨d0,k2,_⟩|⟨k2,_⟩
   ·rw [h2] at k2; cases k2
   ·omega
  | row g sz pu sq =>
   obtain ⟨k1,k2,k3⟩:=row b g sz pu sq hr;rcases k3 with ⟨s0,pu0,k4,_⟩|⟨k4,_⟩|⟨pu0,_,_,k4,_⟩|⟨pu0,_,_,k4,_⟩
   ·rw [h2] at k4; cases k4
   ·omega
   ·rw [h2] at k4; cases k4
   ·rw [h2] at k4; cases k4
theorem keepT_get (hp0:T Blk):∀ (keep:List Nat) (t:T Blk) (b:Nat),(keepT hp0 keep t).get .dead b=if b∈keep then hp0.get .dead b else t.get .dead b
 | [],t,b=>by simp [keepT]
 | k::r,t,b=>by
  simp only [keepT];rw [keepT_get hp0 r,T.set_get];by_cases h1:b∈r <;> by_cases h2:b=k <;> simp [h1,h2]
theorem stEq_ok {st st':LSt} {s:LoopState} {p:Option Code} (h:stEq st st'=true) (k:stOK st' s p):stOK st s p:=by
 cases st <;> cases st' <;> first|(simp [stEq] at h; done)|exact k
theorem metO_sound {U:Base} {w0:World} {n:Nat} {ρ ρ0:Rho} {M M0:Mem} {s s0:St} {a:Act} {w wA:World} (h:SRel U w0 n ρ M s.tmf s.hpf s.nx a w) {p:Spec} {nx:Nat} (hm:p.met nx s) {keep:List Nat}
  (hL:∀ b st r,s0.hpf b=.loop st r->LoopOK ρ0 M0 wA b st r) (hk:keepOK s0.hp keep nx s.hp=true) (hρ:RExt ρ0 ρ) (hM:MExt M0 M) (free0:∀ b g,s0.nx<=b->ρ0 b g=none) (hle:s0.nx<=nx) :
  ∃ ρ2,SRel U w0 n ρ2 M (p.mkO nx s0.hp keep).tmf (p.mkO nx s0.hp keep).hpf nx a w /\
  (∀ b g L,b<nx->ρ b g=some L->ρ2 b g=some L) /\
  (∀ b,b<s.nx->s.hpf b=.dead->(p.mkO nx s0.hp keep).hpf b=.dead)/\(∀ b g,b<s.nx->b<nx->ρ2 b g=ρ b g) /\
  (∀ b k on sp r,(p.mkO nx s0.hp keep).hpf b=.loop (.abs k on sp) r->∃ k0 on0 r0,s.hpf b=.loop (.abs k0 on0 sp) r0):=by
 obtain ⟨k1,k2,k3,k4,k5⟩:=met_sound h hm;have hget:∀ b,(p.mkO nx s0.hp keep).hpf b=if b∈keep then s0.hpf b else (p.mk' nx).hpf b:=fun b=>keepT_get s0.hp keep _ b
 have hkp:∀ b∈keep,b<nx/\∃ st r st' r',s0.hpf b=.loop st r/\s.hpf b=.loop st' r'/\stEq st st'=true:=by
  intro b hb;have:=List.all_eq_true.1 hk b hb;simp only [Bool.and_eq_true,decide_eq_true_eq] at this;refine ⟨this.1,?_⟩;have h2:=this.2;show ∃ st r st' r',s0.hp.get .dead b=.loop st r/\s.hp.get .dead b=.loop st' r'/\stEq st st'=true
  generalize s0.hp.get .dead b=x at h2;generalize s.hp.get .dead b=y at h2;cases x <;> cases y <;> first|(simp [loopSame] at h2; done)|exact ⟨_,_,_,_,rfl,rfl,h2⟩
 have hrow:∀ b g sz pu sq,(p.mkO nx s0.hp keep).hpf b=.row g sz pu sq->(p.mk' nx).hpf b=.row g sz pu sq:=by
  intro b g sz pu sq e;rw [hget b] at e;split at e
  ·obtain ⟨_,st,r,_,_,e1,_⟩:=hkp b ‹_›;rw [e1] at e; cases e
  ·exact e
 have hloop:∀ b st r,(p.mkO nx s0.hp keep).hpf b=.loop st r->(b∈keep/\s0.hpf b=.loop st r)\/(b ∉ keep/\(p.mk' nx).hpf b=.loop st r):=by
  intro b st r e;rw [hget b] at e;split at e
  ·exact .inl ⟨‹_›,e⟩
  ·exact .inr ⟨‹_›,e⟩
 have hlt:∀ b st r,s.hpf b=.loop st r->b<s.nx:=fun b st r e=>by
  rcases Nat.lt_or_ge b s.nx with h1|h1
  ·exact h1
  ·rw [h.dead b h1] at e; cases e
 have live:∀ b st r L,(p.mkO nx s0.hp keep).hpf b=.loop st r->metRho ρ (p.mk' nx).hpf s.nx nx b 0=some L->∃ st2 r2,s.hpf b=.loop st2 r2/\ρ b 0=some L:=by
  intro b st r L e f;rcases hloop b st r e with ⟨hb,e0⟩|⟨hb,e0⟩
  ·obtain ⟨hbn,_,_,st2,r2,_,q2,_⟩:=hkp b hb;rw [k4 b 0 (hlt _ _ _ q2) hbn] at f;exact ⟨_,_,q2,f⟩
  ·obtain ⟨hbn,st0,r0,q2,_⟩:=loopMt_of hm b st r e0;rw [k4 b 0 (hlt _ _ _ q2) hbn] at f;exact ⟨_,_,q2,f⟩
 refine ⟨_,⟨k1.size,k1.tm,⟨k1.hok.mem,fun b g sz pu sq e=>k1.hok.row b g sz pu sq (hrow _ _ _ _ _ e),fun b b' g g' sz sz' pu pu' s1 s2 L L' e1 e2=>k1.hok.inj b b' g g' sz sz' pu pu' s1 s2 L L' (hrow _ _ _ _ _ e1) (hrow _ _ _ _ _ e2),
   fun b g sz pu sq e=>k1.hok.gen b g sz pu sq (hrow _ _ _ _ _ e),fun b st r e=>?_,fun b b' st st' r r' L L' e1 e2 f1 f2 hB=>?_⟩,fun b hb=>?_,k1.free,k1.keep,k1.memN,k1.memE,fun b g sz pu sq L e=>k1.own b g sz pu sq L (hrow _ _ _ _ _ e),k1.nle,fun b st r L e f hU=>?_,k1.defers,k1.marks,k1.mown,k1.nod,?_⟩,k2,?_,k4,?_⟩
 case refine_5 =>
  have hfamO:∀ b d,(p.mkO nx s0.hp keep).hpf b=.fam d->(p.mk' nx).hpf b=.fam d:=by
   intro b d e;rw [hget b] at e;split at e
   ·obtain ⟨_,st,r,_,_,e1,_⟩:=hkp b ‹_›;rw [e1] at e; cases e
   ·exact e
  refine ⟨(h.extStep (ρ':=metRho ρ (p.mk' nx).hpf s.nx nx) (M':=M) (U':=U) (w0':=w0) (mk':=marksOf a.defers) (w':=w) (hp':=fun b=>match (p.mkO nx s0.hp keep).hpf b with|.fam _=>.dead|x=>x) rfl rfl rfl (Nat.le_refl _) (fun b k on sp r e=>?_) (fun b g sz pu sq L h1 h2 h3=>?_) (fun b st r L h1 h2=>?_) (MExt.refl M) (fun _ _ _ hm=>.inl hm) (fun _ hr=>.inl hr) (fun _ h1 h2=>⟨h1,h2⟩) (fun b d e=>?_) (fun _ _=>.inl rfl)).1.ofFam,fun b d e=>?_⟩
  case refine_4 =>
   split at e
   ·cases e
   ·rename_i hx; exact absurd e (hx _)
  case refine_5 =>
   obtain ⟨q1,q2,q3⟩:=k1.ext.2 b d (hfamO b d e);refine ⟨fun b' k on sp r e'=>?_,?_,fun b' d' B hne e'=>q3 b' d' B hne (hfamO b' d' e')⟩
   ·rcases hloop b' _ r e' with ⟨hb,e0⟩|⟨hb,e0⟩
    ·obtain ⟨hbn,st1,r1,st2,r2,e1,e2,e3⟩:=hkp b' hb;rw [e0] at e1; cases e1;cases st2 <;> simp [stEq] at e3
    ·exact q1 b' k on sp r e0
   ·cases d with
    | rows sz len=>exact q2
    | maps sh z nn has val =>
     obtain ⟨a1,a2,a3⟩:=q2;refine ⟨fun i hi=>?_,a2,a3⟩
     obtain ⟨L,b1,b2,b5,b6,b7,b8⟩:=a1 i hi;refine ⟨L,b1,b2,b5,fun b' g sz pu s L' e1=>b6 b' g sz pu s L' (hrow _ _ _ _ _ e1),fun b' st r L' e1 e2 hB=>?_,b8⟩
     obtain ⟨st2,r2,q1',q2'⟩:=live b' st r L' e1 e2;rcases (famMt_of hm b _ (hfamO b _ e)).2 with ⟨d0,e0,he⟩|⟨_,_,_,hd,_⟩
     ·cases d0 with
      | rows sz' len'=>exact he.elim
      | maps sh' z' n' has' val' =>
       obtain ⟨_,_,rfl,_⟩:=he;obtain ⟨L2,c1,_,_,_,c7,_⟩:=(h.ext.2 b _ e0).2.1.1 i hi;have:=k4 b i (h.lt_nx (by rw [e0]; simp)) (famMt_of hm b _ (hfamO b _ e)).1
       rw [b1,c1] at this;cases this;exact c7 b' st2 r2 L' q1' q2' hB
     ·cases hd
  ·have e:(p.mkO nx s0.hp keep).hpf b=.loop (.abs k on sp) r:=by
    split at e
    ·cases e
    ·exact e
   rcases hloop b _ r e with ⟨hb,e0⟩|⟨hb,e0⟩
   ·obtain ⟨hbn,st1,r1,st2,r2,e1,e2,e3⟩:=hkp b hb;rw [e0] at e1; cases e1;cases st2 <;> simp [stEq] at e3
   ·exact (loopAbs_of hm b k on sp r e0).2
  ·have h1:(p.mkO nx s0.hp keep).hpf b=.row g sz pu sq:=by
    split at h1
    ·cases h1
    ·exact h1
   obtain ⟨s0',pu0,q1,q2⟩:=k5 b g sz pu sq L (hrow _ _ _ _ _ h1) h2 h3;exact .inr ⟨b,g,sz,pu0,s0',L,q1,q2,h3,rfl⟩
  ·have h1:(p.mkO nx s0.hp keep).hpf b=.loop st r:=by
    split at h1
    ·cases h1
    ·exact h1
   obtain ⟨st2,r2,q1,q2⟩:=live b st r L h1 h2;exact .inr ⟨st2,r2,L,q1,q2,rfl⟩
 case refine_7 =>
  intro b k on sp r e;rcases hloop b _ r e with ⟨hb,e0⟩|⟨hb,e0⟩
  ·obtain ⟨hbn,st1,r1,st2,r2,e1,e2,e3⟩:=hkp b hb;rw [e0] at e1; cases e1;cases st2 <;> simp [stEq] at e3
  ·exact ⟨_,_,(loopAbs_of hm b k on sp r e0).2⟩
 ·rcases hloop b st r e with ⟨hb,e0⟩|⟨hb,e0⟩
  case inr=>exact k1.hok.loop b st r e0
  obtain ⟨hbn,st1,r1,st2,r2,e1,e2,e3⟩:=hkp b hb;rw [e0] at e1; cases e1;have hst:st.isRec=true/\st2.isRec=true:=by cases st <;> cases st2 <;> first|(simp [stEq] at e3; done)|exact ⟨rfl,rfl⟩
  obtain ⟨L,lp,x,y,f1,f2,_,_,f5,f6,f7,f8,f9,f10,f11⟩:=(hL b st r e0).record hst.1;obtain ⟨L2,lp2,x2,y2,g1,g2,g3,g4,_⟩:=(h.hok.loop b st2 r2 e2).record hst.2;have hLL:L2=L:=by have:=hρ b 0 L f1; rw [g1] at this; cases this; rfl
  subst hLL;rw [f2] at g2; cases g2;refine .inl ⟨L2,lp,x2,y2,k2 b 0 L2 hbn g1,f2,g3,stEq_ok e3 g4,f5,f6,f7,f8,f9,f10,fun t=>(f11 t).mono (fun b' g' L' e'=>?_) hM⟩
  refine k2 b' g' L' ?_ (hρ _ _ _ e');rcases Nat.lt_or_ge b' s0.nx with h1|h1
  ·omega
  ·rw [free0 b' g' h1] at e'; cases e'
 ·obtain ⟨st2,r2,q1,q2⟩:=live b st r L e1 f1;obtain ⟨st2',r2',q1',q2'⟩:=live b' st' r' L' e2 f2;exact h.hok.linj b b' _ _ _ _ L L' q1 q1' q2 q2' hB
 ·rw [hget b];split
  ·have:=(hkp b ‹_›).1; omega
  ·exact k1.dead b hb
 ·obtain ⟨st2,r2,q1,q2⟩:=live b st r L e f;exact h.ownL b _ _ L q1 q2 hU
 ·intro b h2 h3;rw [hget b];split
  ·obtain ⟨_,_,_,_,_,_,q2,_⟩:=hkp b ‹_›;rw [h3] at q2; cases q2
  ·exact k3 b h2 h3
def exOf:Ex->Exit
 | .normal=>.normal
 | .exit id=>.exit id
 | .ret=>.ret
def CodeK (U:Base) (w0:World) (n:Nat) (ρ:Rho) (M:Mem) (s:St) (K:Ex->St->VT) (Q:Exit->Act->World->Prop):Prop :=
 ∀ ex s' ρ' M' a' w',Grow ρ ρ' s.hpf s'.hpf s.nx s'.nx->MExt M M'->SRel U w0 n ρ' M' s'.tmf s'.hpf s'.nx a' w'->(K ex s').sat->Q (exOf ex) a' w'
theorem CodeK.trans {U w0 n ρ ρ1 M M1} {s s1:St} {K Q} (h:CodeK U w0 n ρ M s K Q) (hg:Grow ρ ρ1 s.hpf s1.hpf s.nx s1.nx) (hM:MExt M M1):CodeK U w0 n ρ1 M1 s1 K Q :=
 fun ex s' ρ' M' a' w' k1 k2 k3 k4=>h ex s' ρ' M' a' w' (hg.trans k1) (hM.trans k2) k3 k4
theorem wpIn_scope_straight {F:Fence} {n:Nat} {P:Program} {Q:Exit->Act->World->Prop} {a:Act} {w:World} {c:Code} (h:c.wpIn F n P (Exit.noGoto Q) a w):(Code.scope c).wpIn F n P Q a w:=by
 intro b k cs hro hb hr;have s1:StepsIn (Machine.fenced P F) P (lone (b.atR a (.code (.scope c)::k)) cs w) (lone (b.atR a (.code c::.inScope c::k)) cs w) :=
  .one (fenced_calm hb hr rfl) (step_lone_go (by simp [stepG,stepG.exec,Frame.atR]))
 have s2:∀ a w,StepsIn (Machine.fenced P F) P (lone (b.atR a (.inScope c::k)) cs w) (lone (b.atR a k) cs w):=fun a w =>
  .one (fenced_calm hb hr rfl) (step_lone_go (by simp [stepG,stepG.exec,Frame.atR]))
 obtain ⟨e,a₁,w₁,hq,harr⟩:=h b (.inScope c::k) cs hro hb hr;have hx:∀ id,exitTo id (.inScope c::k)=exitTo id k:=fun id=>by simp [exitTo]
 cases e with
 | normal=>exact ⟨.normal,a₁,w₁,hq,s1.trans (StepsIn.trans harr (s2 _ _))⟩
 | exit id =>
  exact ⟨.exit id,a₁,w₁,hq,fun k' hk=>s1.trans (harr.1 k' (by rw [hx]; exact hk)),
   fun hr' hk=>let ⟨k₁,h1,h2⟩:=harr.2 hr' (by rw [hx]; exact hk); ⟨k₁,h1,s1.trans h2⟩⟩
 | goto l=>exact hq.elim
 | ret=>exact ⟨_,a₁,w₁,hq,.of_steps s1 harr⟩
 | panic ch=>exact ⟨_,a₁,w₁,hq,.of_steps s1 harr⟩
 | outgrown=>exact ⟨_,a₁,w₁,hq,.of_steps s1 harr⟩
theorem wpIn_loop_g {F:Fence} {rm:Nat} {P:Program} {Q:Exit->Act->World->Prop} {a:Act} {w:World} {c:Code} (I:Nat->Act->World->Prop) (n₀:Nat) (h₀:I n₀ a w)
  (round:∀ n a w,I n a w->c.wpIn F rm P (Exit.then (fun a' w'=>∃ n',n'<n/\I n' a' w') Q) a w):(Code.loop c).wpIn F rm P Q a w:=by
 refine wpIn_loop (fun a w=>∃ n,I n a w) (fun a w=>leastOf (fun n=>I n a w)) ⟨n₀,h₀⟩ ?_
 intro a w hI;refine wpIn_mono (round _ a w (leastOf_spec hI).1) ?_;intro e a' w' hq;cases e with
 | normal =>
  obtain ⟨n',hlt,hI'⟩:=hq;exact show (∃ n,I n a' w')/\leastOf (fun n=>I n a' w')<leastOf (fun n=>I n a w) from ⟨⟨n',hI'⟩,Nat.lt_of_le_of_lt ((leastOf_spec ⟨n',hI'⟩).2 n' hI') hlt⟩
 | exit id=>exact hq
 | goto l=>exact hq
 | ret=>exact hq
 | panic ch=>exact hq
 | outgrown=>exact hq
def ModeOK (md:Mode) (nod:Bool) (ρ:Rho) (r:Option Nat):Prop :=
 match md with
 | .top=>r=none/\nod=false
 | .nodef=>r=none
 | .round b=>nod=false/\∃ L,ρ b 0=some L/\r=some L.B
theorem ModeOK.mono {md nod ρ ρ' r} (h:ModeOK md nod ρ r) (hρ:RExt ρ ρ'):ModeOK md nod ρ' r:=by
 cases md with
 | top=>exact h
 | nodef=>exact h
 | round b=>obtain ⟨h1,L,h2,h3⟩:=h; exact ⟨h1,L,hρ _ _ _ h2,h3⟩
theorem ModeOK.top {md nod ρ r} (h:ModeOK md nod ρ r) (ht:isTop md=true):r=none/\nod=false:=by
 cases md with
 | top=>exact h
 | nodef=>cases ht
 | round b=>cases ht
theorem SRel.setLoop {U w0 n ρ M tm hp nx a w} (h:SRel U w0 n ρ M tm hp nx a w) {b:Nat} {st:LSt} {r:LoopB} (hb:hp b=.loop st r) {L:Loc} (hL:ρ b 0=some L) {lp:Loop} (hlp:L.rc=some lp) (s:LoopState) (p:Option Code) (x:Blk)
  (hx:x=.dead\/∃ st',x=.loop st' r/\stOK st' s p):SRel U w0 n ρ M tm (updH hp b x) nx a (w.putObj L.B (.loop { lp with state:=s,pending:=p })):=by
 have hrec:RecOK ρ M w b st r:=by
  rcases h.hok.loop b st r hb with hr|⟨L1,es,es',c,_,e1,e2,_⟩|⟨L1,_,_,_,_,_,e1,e2,_⟩
  ·exact hr
  ·rw [hL] at e1; cases e1;rw [hlp] at e2; cases e2
  ·rw [hL] at e1; cases e1;rw [hlp] at e2; cases e2
 obtain ⟨L1,lp1,s1,p1,e1,e2,e3,e4,e5,e6,e7,e8,e9,e10,e11⟩:=hrec;rw [hL] at e1; cases e1;rw [hlp] at e2; cases e2;have hlt:=heap_lt e3
 have hnew:∀ B,B≠L.B->(w.putObj L.B (.loop { lp with state:=s,pending:=p })).heap[B]?=w.heap[B]?:=fun B hB=>World.putObj_heap_other hB
 have hsame:(w.putObj L.B (.loop { lp with state:=s,pending:=p })).heap[L.B]?=some (.loop { lp with state:=s,pending:=p }):=World.putObj_heap_same hlt
 have hrow:∀ b' g sz pu sq,updH hp b x b'=.row g sz pu sq->hp b'=.row g sz pu sq:=by
  intro b' g sz pu sq e;simp only [updH] at e;split at e
  ·rcases hx with rfl|⟨st',rfl,_⟩ <;> cases e
  ·exact e
 have hloop:∀ b' st' r',updH hp b x b'=.loop st' r'->(b'=b/\r'=r/\stOK st' s p)\/(b'≠b/\hp b'=.loop st' r'):=by
  intro b' st' r' e;simp only [updH] at e;split at e
  ·rcases hx with rfl|⟨st2,rfl,hs⟩
   ·cases e
   ·cases e; exact .inl ⟨‹_›,rfl,hs⟩
  ·exact .inr ⟨‹_›,e⟩
 have hany:∀ b' st' r',updH hp b x b'=.loop st' r'->∃ st2,hp b'=.loop st2 r':=by
  intro b' st' r' e;rcases hloop b' st' r' e with ⟨rfl,rfl,_⟩|⟨_,e⟩
  ·exact ⟨_,hb⟩
  ·exact ⟨_,e⟩
 refine ⟨h.size,h.tm,⟨fun B i v hm=>?_,fun b' g sz pu sq e=>?_,fun b1 b2 g1 g2 sz1 sz2 pu1 pu2 s1 s2 L1 L2 f1 f2=>h.hok.inj b1 b2 g1 g2 sz1 sz2 pu1 pu2 s1 s2 L1 L2 (hrow _ _ _ _ _ f1) (hrow _ _ _ _ _ f2),fun b' g sz pu sq e=>h.hok.gen b' g sz pu sq (hrow _ _ _ _ _ e),
  fun b' st' r' e=>?_,fun b1 b2 st1 st2 r1 r2 L1 L2 f1 f2=>?_⟩,fun b' hb'=>?_,h.free,?_,h.memN,h.memE,fun b' g sz pu sq L' e=>h.own b' g sz pu sq L' (hrow _ _ _ _ _ e),h.nle,fun b' st' r' L' e=>?_,h.defers,⟨h.marks.1,fun q hq=>?_⟩,h.mown,h.nod,
  h.extStep (w':=w.putObj L.B (.loop { lp with state:=s,pending:=p })) rfl rfl rfl (by rw [World.putObj_size]; exact Nat.le_refl _) (fun b' k on sp r' e=>?_) (fun b' g sz pu s L' h1 h2 h3=>.inr ⟨b',g,sz,pu,s,L',hrow _ _ _ _ _ h1,h2,h3,rfl⟩)
   (fun b' st' r' L' h1 h2=>(by obtain ⟨st2,e⟩:=hany _ _ _ h1; exact .inr ⟨st2,r',L',e,h2,rfl⟩)) (MExt.refl M) (fun _ _ _ hm=>.inl hm) (fun _ hr=>.inl hr) (fun _ h1 h2=>⟨h1,h2⟩) (fun b' d e=>?_) (fun B _=>?_)⟩
 case refine_10 =>
  simp only [updH] at e;split at e
  ·rcases hx with rfl|⟨st',rfl,_⟩ <;> cases e
  ·exact ⟨e,fun _=>rfl⟩
 case refine_9 =>
  rcases hloop b' _ _ e with ⟨_,_,e2⟩|⟨_,e2⟩
  ·exact e2.elim
  ·exact ⟨_,e2⟩
 case refine_11 =>
  by_cases hB:B=L.B
  ·refine .inr (.inr (.inl ⟨b,_,r,L,hb,fun k on sp e=>?_,hL,hB.symm⟩))
   rw [e] at e4; exact e4.elim
  ·exact .inl (hnew B hB)
 ·have hc:=h.hok.mem B i v hm;have hne:B≠L.B:=fun e=>by
   rw [e] at hc;have:=hc.1;simp [World.cell?,e3] at this
  rw [cell_congr (hnew B hne)];exact hc
 ·obtain ⟨L',k1,k2,k3,k4⟩:=h.hok.row b' g sz pu sq (hrow _ _ _ _ _ e);refine ⟨L',k1,k2,k3,?_⟩;rcases k4 with k4|⟨hv,c,ee,k5,k6⟩
  ·exact .inl k4
  ·refine .inr ⟨hv,c,ee,?_,k6⟩;rw [hnew L'.B (fun e'=>by rw [e',e3] at k5; cases k5)]
   exact k5
 ·rcases hloop b' st' r' e with ⟨rfl,rfl,hs⟩|⟨hne,e'⟩
  ·exact .inl ⟨L,lp,s,p,hL,hlp,hsame,hs,e5,e6,e7,e8,e9,e10,e11⟩
  ·refine (h.hok.loop b' st' r' e').mono (RExt.refl ρ) (MExt.refl M) fun L' hL' lp' e2=>?_
   rw [hnew L'.B (fun eB=>hne (h.hok.linj b' b _ _ _ _ L' L e' hb hL' hL eB))]
   exact e2
 ·obtain ⟨_,f1'⟩:=hany _ _ _ f1;obtain ⟨_,f2'⟩:=hany _ _ _ f2;exact h.hok.linj b1 b2 _ _ _ _ L1 L2 f1' f2'
 ·simp only [updH];split
  ·subst b';have:=h.lt_nx (b:=b) (by rw [hb]; simp)
   omega
  ·exact h.dead b' hb'
 ·refine ⟨h.keep.os,h.keep.tape,h.keep.output,by rw [World.putObj_size]; exact h.keep.size,fun B hU hB=>?_⟩
  have hne:B≠L.B:=fun e=>by
   have:=h.ownL b st r L hb hL (e▸hU);omega
  rw [hnew B hne];exact h.keep.block B hU hB
 ·obtain ⟨_,e'⟩:=hany _ _ _ e;exact h.ownL b' _ _ L' e'
 ·have hq':=h.marks.2 q hq;rw [hnew q (fun e=>by rw [e,e3] at hq'; cases hq')]
  exact hq'
end Pw
