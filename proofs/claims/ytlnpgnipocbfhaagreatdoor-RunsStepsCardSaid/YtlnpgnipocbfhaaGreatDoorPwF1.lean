/- ENGINE, part F1: what is laid bare is the same; stores. -/
import Derived.Test.YtlnpgnipocbfhaaGreatDoorPwEF
import Derived.Orders
import Derived.RangeFuncRecord
import Derived.OrdersIn
namespace Pw
open Go
theorem VT.sat_of_chk:∀ (t:VT),t.chk=true->t.sat
 | .leafB b,h=>h
 | .need b t,h=>by
  cases b with
  | true=>exact VT.sat_of_chk t h
  | false=>simp [VT.chk] at h
 | .vb b t e,h=>by
  cases b with
  | true=>exact VT.sat_of_chk t h
  | false=>exact VT.sat_of_chk e h
 | .both t e,h=>by
  simp only [VT.chk,Bool.and_eq_true] at h;exact ⟨VT.sat_of_chk t h.1,VT.sat_of_chk e h.2⟩
 | .fail _ _,h=>by simp [VT.chk] at h
 | .leaf _,h=>by simp [VT.chk] at h
 | .all _ _,h=>by simp [VT.chk] at h
 | .imp _ _,h=>by simp [VT.chk] at h
 | .and _ _,h=>by simp [VT.chk] at h
theorem NB.inv {b:Bool} {p:Prop} (h:NB b p):b=true/\p:=by
 cases b with
 | true=>exact ⟨rfl,h⟩
 | false=>exact h.elim
theorem VB.inv {b:Bool} {p q:Prop} (h:VB b p q):(b=true/\p)\/(b=false/\q):=by
 cases b with
 | true=>exact .inl ⟨rfl,h⟩
 | false=>exact .inr ⟨rfl,h⟩
section
variable {α:Type} (d:α)
theorem T.path_get:∀ (f i:Nat) (x:α) (k:Nat),i<f->(T.path d f i x).get d k=if k=i then x else d
 | 0,_,_,_,h=>by omega
 | f+1,i,x,k,h=>by
  simp only [T.path];split
  ·rename_i hi;subst hi;simp only [T.get];split <;> simp_all
  ·rename_i hi;split
   ·rename_i ho;simp only [T.get];split
    ·rename_i hk; subst hk; rw [if_neg (by omega)]
    ·rename_i hk;split
     ·rename_i hk2;rw [T.path_get f (i / 2) x (k / 2) (by omega)]
      by_cases hki:k=i
      ·subst hki; simp
      ·rw [if_neg (by omega),if_neg hki]
     ·rename_i hk2;rw [if_neg (by omega)]
   ·rename_i ho;simp only [T.get];split
    ·rename_i hk; subst hk; rw [if_neg (by omega)]
    ·rename_i hk;split
     ·rename_i hk2;rw [if_neg (by omega)]
     ·rename_i hk2;rw [T.path_get f (i / 2 - 1) x (k / 2 - 1) (by omega)]
      by_cases hki:k=i
      ·subst hki; simp
      ·rw [if_neg (by omega),if_neg hki]
theorem T.set_get:∀ (t:T α) (i:Nat) (x:α) (k:Nat),(t.set d i x).get d k=if k=i then x else t.get d k
 | .nil,i,x,k=>by
  simp only [T.set];rw [T.path_get d (i+1) i x k (by omega)]
  simp only [T.get]
 | .node v l r,i,x,k=>by
  simp only [T.set];split
  ·rename_i hi;subst hi;simp only [T.get];split <;> simp_all
  ·rename_i hi;split
   ·rename_i ho;simp only [T.get];split
    ·rename_i hk; subst hk; rw [if_neg (by omega)]
    ·rename_i hk;split
     ·rename_i hk2;rw [T.set_get l (i / 2) x (k / 2)];by_cases hki:k=i
      ·subst hki; simp
      ·rw [if_neg (by omega),if_neg hki]
     ·rename_i hk2;rw [if_neg (by omega)]
   ·rename_i ho;simp only [T.get];split
    ·rename_i hk; subst hk; rw [if_neg (by omega)]
    ·rename_i hk;split
     ·rename_i hk2;rw [if_neg (by omega)]
     ·rename_i hk2;rw [T.set_get r (i / 2 - 1) x (k / 2 - 1)];by_cases hki:k=i
      ·subst hki; simp
      ·rw [if_neg (by omega),if_neg hki]
theorem T.pathK_eq:∀ (f i:Nat) (x:α) (K:T α->VT),T.pathK d f i x K=K (T.path d f i x)
 | 0,_,_,_=>rfl
 | f+1,i,x,K=>by
  simp only [T.pathK,T.path];split
  ·rfl
  ·split
   ·rw [T.pathK_eq f]
   ·rw [T.pathK_eq f]
theorem T.setK_eq:∀ (t:T α) (i:Nat) (x:α) (K:T α->VT),T.setK d t i x K=K (t.set d i x)
 | .nil,i,x,K=>by simp only [T.setK,T.set]; exact T.pathK_eq d _ _ _ _
 | .node v l r,i,x,K=>by
  simp only [T.setK,T.set];split
  ·rfl
  ·split
   ·rw [T.setK_eq l]
   ·rw [T.setK_eq r]
end
theorem forceN_eq (n:Nat) (K:Nat->VT):forceN n K=K n:=by cases n <;> rfl
theorem forceLn_eq:∀ (l:List Nat) (K:List Nat->VT),forceLn l K=K l
 | [],_=>rfl
 | x::l,K=>by simp only [forceLn,forceN_eq]; exact forceLn_eq l _
theorem forceLL_eq:∀ (l:List (List Nat)) (K:List (List Nat)->VT),forceLL l K=K l
 | [],_=>rfl
 | x::l,K=>by simp only [forceLL,forceLn_eq]; exact forceLL_eq l _
mutual
def AV.norm (cl:Bool):AV->AV
 | .agg l=>.agg (AV.normL cl l)
 | .tup l=>.tup (AV.normL cl l)
 | .rol l ex=>.rol (AV.normL cl l) ex
 | .rptr x j=>.rptr (AV.norm cl x) j
 | .fn f a b=>.fn f (AV.normL cl a) (AV.normL cl b)
 | .opt m j w x=>.opt m j w (AV.norm cl x)
 | .rof n f ex=>match cl with|true=>.rol ((List.range n).map f) ex|false=>.rof n f ex
 | .undef=>.undef
 | .int k n=>.int k n
 | .bool b=>.bool b
 | .str s=>.str s
 | .nils=>.nils
 | .nilp=>.nilp
 | .nilf=>.nilf
 | .nilm=>.nilm
 | .ptr b g i j=>.ptr b g i j
 | .sl b g i len cap=>.sl b g i len cap
 | .map b=>.map b
 | .yld b=>.yld b
 | .sla b g i j len=>.sla b g i j len
 | .gro b i n f=>.gro b i n f
 | .fmap b i=>.fmap b i
def AV.normL (cl:Bool):List AV->List AV
 | []=>[]
 | x::l=>AV.norm cl x::AV.normL cl l
end
theorem AV.normL_eq (cl:Bool):∀ l,AV.normL cl l=l.map (AV.norm cl)
 | []=>rfl
 | x::l=>by simp [AV.normL,AV.normL_eq cl l]
theorem force0_eq (x:AV) (K:AV->VT):AV.force0 x K=K x:=by
 cases x <;> simp only [AV.force0]
 case int k n=>cases n <;> simp [forceN_eq]
 case bool b=>cases b <;> rfl
theorem forceT_eq:∀ (l:List AV) (K:List AV->VT),forceT l K=K l
 | [],_=>rfl
 | x::l,K=>by simp only [forceT,force0_eq,forceT_eq l]
mutual
theorem AV.norm_false:∀ x:AV,x.norm false=x
 | .agg l=>by simp only [AV.norm]; rw [AV.normL_false l]
 | .tup l=>by simp only [AV.norm]; rw [AV.normL_false l]
 | .rol l ex=>by simp only [AV.norm]; rw [AV.normL_false l]
 | .rptr x j=>by simp only [AV.norm]; rw [AV.norm_false x]
 | .fn f a b=>by simp only [AV.norm]; rw [AV.normL_false a,AV.normL_false b]
 | .opt m j w x=>by simp only [AV.norm]; rw [AV.norm_false x]
 | .rof n f ex=>by simp only [AV.norm]
 | .undef|.int ..|.bool _|.str _|.nils|.nilp|.nilf|.nilm|.ptr ..|.sl ..|.map _|.yld _|.sla ..|.gro ..|.fmap ..=>by simp only [AV.norm]
theorem AV.normL_false:∀ l:List AV,AV.normL false l=l
 | []=>by simp only [AV.normL]
 | x::l=>by simp only [AV.normL]; rw [AV.norm_false x,AV.normL_false l]
end
mutual
theorem AV.force_eq (cl:Bool):∀ (x:AV) (K:AV->VT),AV.force cl x K=K (x.norm cl)
 | .int k n,K=>by cases cl <;> cases n <;> simp [AV.force,AV.norm,forceN_eq]
 | .bool b,K=>by cases cl <;> cases b <;> rfl
 | .agg l,K=>by simp only [AV.force,AV.norm]; exact AV.forceL_eq cl l _
 | .tup l,K=>by simp only [AV.force,AV.norm]; exact AV.forceL_eq cl l _
 | .rol l ex,K=>by simp only [AV.force,AV.norm]; exact AV.forceL_eq cl l _
 | .rptr x j,K=>by
  cases cl with
  | false=>simp only [AV.force,AV.norm_false]
  | true=>simp only [AV.force,AV.norm]; exact AV.force_eq true x _
 | .fn f a b,K=>by
  simp only [AV.force,AV.norm];rw [AV.forceL_eq cl a,AV.forceL_eq cl b]
 | .opt m j w x,K=>by simp only [AV.force,AV.norm]; exact AV.force_eq cl x _
 | .rof n f ex,K=>by cases cl <;> simp [AV.force,AV.norm,forceT_eq]
 | .undef,_=>rfl
 | .str _,_=>rfl
 | .nils,_=>rfl
 | .nilp,_=>rfl
 | .nilf,_=>rfl
 | .nilm,_=>rfl
 | .ptr ..,_=>rfl
 | .sl ..,_=>rfl
 | .map _,_=>rfl
 | .yld _,_=>rfl
 | .sla ..,_=>rfl
 | .gro ..,_=>rfl
 | .fmap ..,_=>rfl
theorem AV.forceL_eq (cl:Bool):∀ (l:List AV) (K:List AV->VT),AV.forceL cl l K=K (AV.normL cl l)
 | [],_=>rfl
 | x::l,K=>by
  simp only [AV.forceL,AV.normL];rw [AV.force_eq cl x,AV.forceL_eq cl l]
end
theorem AV.norm_undef (cl:Bool):AV.norm cl .undef=.undef:=by simp [AV.norm]
theorem AV.normL_length (cl:Bool) (l:List AV):(AV.normL cl l).length=l.length:=by simp [AV.normL_eq]
theorem getD_map_norm (cl:Bool) (l:List AV) (i:Nat):(l.map (AV.norm cl)).getD i .undef=(l.getD i .undef).norm cl:=by
 simp only [List.getD_eq_getElem?_getD,List.getElem?_map];cases l[i]? <;> simp [AV.norm_undef]
theorem AV.normL_getD (cl:Bool) (l:List AV) (i:Nat):(AV.normL cl l).getD i .undef=(l.getD i .undef).norm cl:=by
 rw [AV.normL_eq,getD_map_norm]
theorem AV.norm_cells (cl:Bool) (x:AV):(x.norm cl).cells=x.cells.map (AV.norm cl):=by
 cases x <;> simp only [AV.norm,AV.cells,List.map_cons,List.map_nil,AV.normL_eq]
 case rof n f ex=>cases cl <;> simp [AV.cells]
theorem RelP.norm (cl:Bool) {M:Mem} {v:Value} {x:AV} (h:RelP M v x):RelP M v (x.norm cl):=by
 induction h with
 | undef v=>exact .undef v
 | opt v m j w x=>exact .opt v m j w _
 | int k n=>exact .int k n
 | bool b=>exact .bool b
 | str l=>exact .str l
 | nilp=>exact .nilp
 | nils=>exact .nils
 | nilf=>exact .nilf
 | nilm=>exact .nilm
 | rptr B o j x vals hm hr ih =>
  refine .rptr B o j _ vals (fun i hi=>hm i ?_) (fun i hi=>?_)
  ·simpa [AV.norm_cells] using hi
  ·rw [AV.norm_cells,getD_map_norm];exact ih i (by simpa [AV.norm_cells] using hi)
 | rol B o cap sz l ex vals hc hcm hex hz hm hr ih =>
  have hl:(AV.normL cl l).length=l.length:=AV.normL_length cl l;simp only [AV.norm];rw [<- hl]
  refine .rol B o cap sz _ ex vals (by rw [hl]; exact hc) hcm (by rw [hl]; exact hex) (fun i hi=>?_) (fun i j hi hj=>hm i j (by rwa [hl] at hi) hj) (fun i j hi hj=>?_)
  ·rw [AV.normL_getD,AV.norm_cells,List.length_map];exact hz i (by rwa [hl] at hi)
  ·rw [AV.normL_getD,AV.norm_cells,getD_map_norm];exact ih i j (by rwa [hl] at hi) hj
 | rof B o cap sz n f ex vals hc hcm hex hz hm hr ih =>
  cases cl with
  | false=>exact .rof B o cap sz n f ex vals hc hcm hex hz hm hr
  | true =>
   have hl:((List.range n).map f).length=n:=by simp
   have hg:∀ i,i<n->((List.range n).map f).getD i .undef=f i:=fun i hi=>by simp [List.getD_eq_getElem?_getD,List.getElem?_map,hi]
   have:=RelP.rol (M:=M) B o cap sz ((List.range n).map f) ex vals (by rw [hl]; exact hc) hcm (by rw [hl]; exact hex)
    (fun i hi=>by rw [hl] at hi; rw [hg i hi]; exact hz i hi) (fun i j hi hj=>hm i j (by rwa [hl] at hi) hj) (fun i j hi hj=>by rw [hl] at hi; rw [hg i hi]; exact hr i j hi hj)
   rw [hl] at this;exact this
 | rol0 a cap ex h1 h2 h3=>exact .rol0 a cap ex h1 h2 h3
 | rof0 a cap f ex h1 h2 h3 =>
  cases cl with
  | false=>exact .rof0 a cap f ex h1 h2 h3
  | true=>exact .rol0 a cap ex h1 h2 h3
 | groN b i f=>exact .groN b i f
 | fn f=>exact .fn f
 | fnc f fs cs fl cl' h1 h2 _ _ ih1 ih2 =>
  refine .fnc f fs cs _ _ (by rw [AV.normL_length]; exact h1) (by rw [AV.normL_length]; exact h2) (fun i hi=>?_) (fun i hi=>?_)
  ·rw [AV.normL_getD]; exact ih1 i (by rwa [AV.normL_length] at hi)
  ·rw [AV.normL_getD]; exact ih2 i (by rwa [AV.normL_length] at hi)
 | agg cs l hs hr ih =>
  refine .agg cs _ (by rw [AV.normL_length]; exact hs) (fun i hi=>?_)
  rw [AV.normL_getD];exact ih i (by rwa [AV.normL_length] at hi)
 | tup cs l hs hr ih =>
  refine .tup cs _ (by rw [AV.normL_length]; exact hs) (fun i hi=>?_)
  rw [AV.normL_getD];exact ih i (by rwa [AV.normL_length] at hi)
theorem Rel.norm (cl:Bool) {ρ:Rho} {M:Mem} {v:Value} {x:AV} (h:Rel ρ M v x):Rel ρ M v (x.norm cl):=by
 induction h with
 | pure h=>exact .pure (h.norm cl)
 | ptr L b g i j h hi=>exact .ptr L b g i j h hi
 | sl L b g i len cap c h hv hl hc hb hcm hn=>exact .sl L b g i len cap c h hv hl hc hb hcm hn
 | slv L a b g i c h hc=>exact .slv L a b g i c h hc
 | yld L b h=>exact .yld L b h
 | sla L b g i j len h hi hj=>exact .sla L b g i j len h hi hj
 | map L b h=>exact .map L b h
 | fmap L b i h=>exact .fmap L b i h
 | gro b i n f h h0 hn=>exact .gro b i n f h h0 hn
 | fn f fs cs fl cl' h1 h2 _ _ ih1 ih2 =>
  refine .fn f fs cs _ _ (by rw [AV.normL_length]; exact h1) (by rw [AV.normL_length]; exact h2) (fun i hi=>?_) (fun i hi=>?_)
  ·rw [AV.normL_getD]; exact ih1 i (by rwa [AV.normL_length] at hi)
  ·rw [AV.normL_getD]; exact ih2 i (by rwa [AV.normL_length] at hi)
 | agg cs l h _ ih =>
  refine .agg cs _ (by rw [AV.normL_length]; exact h) (fun i hi=>?_)
  rw [AV.normL_getD]; exact ih i (by rwa [AV.normL_length] at hi)
 | tup cs l h _ ih =>
  refine .tup cs _ (by rw [AV.normL_length]; exact h) (fun i hi=>?_)
  rw [AV.normL_getD]; exact ih i (by rwa [AV.normL_length] at hi)
def Sq.norm (cl:Bool):Sq->Sq
 | .lst l=>.lst (AV.normL cl l)
 | .fn n f=>match cl with|true=>.lst ((List.range n).map f)|false=>.fn n f
def Blk.norm (cl:Bool):Blk->Blk
 | .dead=>.dead
 | .loop st r=>.loop st r
 | .fam d=>.fam d
 | .row g sz pu s=>.row g sz pu (s.norm cl)
theorem Blk.force_eq (cl:Bool) (x:Blk) (K:Blk->VT):Blk.force cl x K=K (x.norm cl):=by
 cases x with
 | dead=>rfl
 | loop=>rfl
 | fam=>rfl
 | row g sz pu s =>
  cases s with
  | lst l=>simp only [Blk.force,Blk.norm,Sq.norm]; rw [AV.forceL_eq]; cases pu <;> rfl
  | fn n f=>cases cl <;> cases pu <;> simp [Blk.force,Blk.norm,Sq.norm,forceT_eq]
theorem Sq.norm_len (cl:Bool) (s:Sq):(s.norm cl).len=s.len:=by
 cases s with
 | lst l=>simp [Sq.norm,Sq.len,AV.normL_length]
 | fn n f=>cases cl <;> simp [Sq.norm,Sq.len]
theorem Sq.norm_get (cl:Bool) (s:Sq) (i:Nat) (hi:i<s.len):(s.norm cl).get i=s.get i\/(s.norm cl).get i=(s.get i).norm cl:=by
 cases s with
 | lst l=>exact .inr (AV.normL_getD cl l i)
 | fn n f =>
  simp only [Sq.len] at hi;cases cl with
  | true=>exact .inl (by simp [Sq.norm,Sq.get,List.getD_eq_getElem?_getD,List.getElem?_map,hi])
  | false=>exact .inl rfl
theorem RowOK.norm (cl:Bool) {ρ M w b g sz pu s} (h:RowOK ρ M w b g sz pu s):RowOK ρ M w b g sz pu (s.norm cl):=by
 obtain ⟨L,h1,h2,h3,h4⟩:=h;refine ⟨L,h1,h2,?_,?_⟩
 ·rw [Sq.norm_len]; exact h3
 ·rw [Sq.norm_len];rcases h4 with h4|⟨hv,c,e,h5,h6,h7,h8,h9⟩
  ·exact .inl h4
  ·refine .inr ⟨hv,c,e,h5,h6,h7,h8,fun i hi=>?_⟩
   obtain ⟨k1,k2⟩:=h9 i hi;rcases Sq.norm_get cl s i hi with hg|hg
   ·rw [hg]; exact ⟨k1,k2⟩
   ·rw [hg,AV.norm_cells];refine ⟨by rw [List.length_map]; exact k1,fun j hj=>?_⟩
    obtain ⟨v,m1,m2,m3,m4⟩:=k2 j hj;rw [getD_map_norm];exact ⟨v,m1,m2,m3.norm cl,fun hp=>(m4 hp).norm cl⟩
theorem SRel.hpNorm (cl:Bool) {U w0 n ρ M tm hp hp' nx a w} (h:SRel U w0 n ρ M tm hp nx a w) (hh:∀ b,hp' b=hp b\/hp' b=(hp b).norm cl):SRel U w0 n ρ M tm hp' nx a w:=by
 have key:∀ b g sz pu s,hp' b=.row g sz pu s->∃ s0,hp b=.row g sz pu s0/\(s=s0\/s=s0.norm cl):=by
  intro b g sz pu s hb;rcases hh b with h1|h1
  ·exact ⟨s,h1▸hb,.inl rfl⟩
  ·rw [hb] at h1;cases h0:hp b with
   | dead=>rw [h0] at h1; simp [Blk.norm] at h1
   | loop=>rw [h0] at h1; simp [Blk.norm] at h1
   | fam=>rw [h0] at h1; simp [Blk.norm] at h1
   | row g0 sz0 pu0 s0 =>
    rw [h0] at h1;simp only [Blk.norm,Blk.row.injEq] at h1;obtain ⟨rfl,rfl,rfl,rfl⟩:=h1;exact ⟨s0,rfl,.inr rfl⟩
 have keyF:∀ b d,hp' b=.fam d->hp b=.fam d:=by
  intro b d hb;rcases hh b with h1|h1
  ·exact h1▸hb
  ·rw [hb] at h1;cases h0:hp b with
   | dead=>rw [h0] at h1; simp [Blk.norm] at h1
   | row=>rw [h0] at h1; simp [Blk.norm] at h1
   | loop=>rw [h0] at h1; simp [Blk.norm] at h1
   | fam d' =>
    rw [h0] at h1;simp only [Blk.norm] at h1;exact h1.symm
 have keyL:∀ b st r,hp' b=.loop st r->hp b=.loop st r:=by
  intro b st r hb;rcases hh b with h1|h1
  ·exact h1▸hb
  ·rw [hb] at h1;cases h0:hp b with
   | dead=>rw [h0] at h1; simp [Blk.norm] at h1
   | row=>rw [h0] at h1; simp [Blk.norm] at h1
   | fam=>rw [h0] at h1; simp [Blk.norm] at h1
   | loop st' r' =>
    rw [h0] at h1;simp only [Blk.norm] at h1;exact h1.symm
 refine ⟨h.size,h.tm,⟨h.hok.mem,fun b g sz pu s hb=>?_,?_,fun b g sz pu s hb=>?_,fun b st r hb=>h.hok.loop b st r (keyL b st r hb),fun b b' st st' r r' L L' h1 h2=>h.hok.linj b b' st st' r r' L L' (keyL _ _ _ h1) (keyL _ _ _ h2)⟩,fun b hb=>?_,h.free,h.keep,h.memN,h.memE,?_,
  h.nle,fun b st r L hb=>h.ownL b st r L (keyL _ _ _ hb),h.defers,h.marks,h.mown,h.nod,
  h.extStep rfl rfl rfl (Nat.le_refl _) (fun _ _ _ _ r e=>⟨r,keyL _ _ _ e⟩) (fun b g sz pu s L h1 h2 h3=>(by obtain ⟨s0,h0,_⟩:=key b g sz pu s h1; exact .inr ⟨b,g,sz,pu,s0,L,h0,h2,h3,rfl⟩))
   (fun _ st r L h1 h2=>.inr ⟨st,r,L,keyL _ _ _ h1,h2,rfl⟩) (MExt.refl M) (fun _ _ _ hm=>.inl hm) (fun _ hr=>.inl hr) (fun _ h1 h2=>⟨h1,h2⟩) (fun b d e=>⟨keyF b d e,fun _=>rfl⟩) (fun _ _=>.inl rfl)⟩
 ·obtain ⟨s0,h0,hs⟩:=key b g sz pu s hb;have hr:=h.hok.row b g sz pu s0 h0;rcases hs with rfl|rfl
  ·exact hr
  ·exact hr.norm cl
 ·intro b b' g g' sz sz' pu pu' s s' L L' h1 h2 e1 e2 v1 v2 hB;obtain ⟨s0,h0,_⟩:=key b g sz pu s h1;obtain ⟨s0',h0',_⟩:=key b' g' sz' pu' s' h2;exact h.hok.inj b b' g g' sz sz' pu pu' s0 s0' L L' h0 h0' e1 e2 v1 v2 hB
 ·obtain ⟨s0,h0,_⟩:=key b g sz pu s hb;exact h.hok.gen b g sz pu s0 h0
 ·rcases hh b with h1|h1
  ·rw [h1]; exact h.dead b hb
  ·rw [h1,h.dead b hb]; rfl
 ·intro b g sz pu s L hb hL hv hU;obtain ⟨s0,h0,_⟩:=key b g sz pu s hb;exact h.own b g sz pu s0 L h0 hL hv hU
theorem setEffF_norm (cl:Bool):∀ (r:List (Nat×Blk)) (f g:Nat->Blk),(∀ b,f b=g b\/f b=(g b).norm cl)->∀ b,
  setEffF f (r.map fun p=>(p.1,p.2.norm cl)) b=setEffF g r b\/setEffF f (r.map fun p=>(p.1,p.2.norm cl)) b=(setEffF g r b).norm cl
 | [],_,_,h,b=>h b
 | (b1,y)::r,f,g,h,b=>by
  simp only [List.map_cons,setEffF];refine setEffF_norm cl r _ _ (fun b'=>?_) b
  simp only [updH];split
  ·exact .inr rfl
  ·exact h b'
theorem effK_eq (cl:Bool):∀ (eff:List (Nat×Blk)) (hp:T Blk) (K:T Blk->VT),
  ∃ hp',effK cl hp eff K=K hp'/\∀ b,hp'.get .dead b=setEffF (fun b=>hp.get .dead b) (eff.map fun p=>(p.1,p.2.norm cl)) b
 | [],hp,K=>⟨hp,rfl,fun b=>rfl⟩
 | (b0,x)::r,hp,K=>by
  simp only [effK,Blk.force_eq,T.setK_eq,setEffF,List.map_cons];obtain ⟨hp',h1,h2⟩:=effK_eq cl r (hp.set .dead b0 (x.norm cl)) K;refine ⟨hp',h1,fun b=>?_⟩
  rw [h2 b];congr 1;funext b';simp only [T.set_get,updH]
theorem effK_spec (cl:Bool) (eff:List (Nat×Blk)) (hp:T Blk) (K:T Blk->VT) :
  ∃ hp',effK cl hp eff K=K hp'/\∀ b,hp'.get .dead b=setEffF (fun b=>hp.get .dead b) eff b\/hp'.get .dead b=(setEffF (fun b=>hp.get .dead b) eff b).norm cl:=by
 obtain ⟨hp',h1,h2⟩:=effK_eq cl eff hp K;refine ⟨hp',h1,fun b=>?_⟩
 rw [h2 b];exact setEffF_norm cl eff _ _ (fun _=>.inl rfl) b
def SlotOK (ρ:Rho) (M:Mem) (v:Value):AV->Prop
 | .opt m _ _ x=>(m=true->Rel ρ M v x)/\(m=false->v=Go.undef)
 | x=>Rel ρ M v x
theorem SlotOK.mono {ρ ρ' M M' v x} (h:SlotOK ρ M v x) (hρ:RExt ρ ρ') (hM:MExt M M'):SlotOK ρ' M' v x:=by
 cases x <;> first|exact Rel.mono hρ hM h|exact ⟨fun hm=>(h.1 hm).mono hρ hM,h.2⟩
theorem SlotOK.norm (cl:Bool) {ρ M v x} (h:SlotOK ρ M v x):SlotOK ρ M v (x.norm cl):=by
 cases x with
 | opt m j w x=>exact ⟨fun hm=>(h.1 hm).norm cl,h.2⟩
 | rof n f ex =>
  have:=Rel.norm cl (show Rel ρ M v (.rof n f ex) from h);cases cl <;> exact this
 | _=>exact Rel.norm cl h
theorem SlotOK.rel {ρ M v x} (h:SlotOK ρ M v x):Rel ρ M v x:=by
 cases x <;> first|exact h|exact .pure (.opt ..)
theorem slot_of_rel {ρ M v x} (h:Rel ρ M v x) (hx:∀ m j w y,x≠.opt m j w y):SlotOK ρ M v x:=by
 cases x <;> first|exact h|exact absurd rfl (hx _ _ _ _)
section
variable {ops:Array Oper} {asg:List Nat} {tm:Nat->AV}
theorem guards_mono:∀ (n:Nat) (q:Nat×Bool) (r),guards ops asg tm n q=some r->∀ k,n<=k->guards ops asg tm k q=some r
 | 0,_,_,h,_,_=>by simp [guards] at h
 | n+1,(j,want),r,h,k,hk=>by
  obtain ⟨k,rfl⟩:∃ k',k=k'+1:=⟨k - 1,by omega⟩
  simp only [guards] at h ⊢;split at h
  ·rename_i t ht;split at h
   ·rename_i hc;rw [if_pos hc];split at h
    ·exact h
    ·rename_i m j' w' c hx;obtain ⟨p,hp,hr⟩:=Option.bind_eq_some_iff.1 h;exact Option.bind_eq_some_iff.2 ⟨p,guards_mono n _ _ hp k (by omega),hr⟩
    ·cases h
   ·cases h
  ·cases h
def RI (ops:Array Oper) (asg:List Nat) (tm:Nat->AV):Prop :=
 ∀ t∈asg,∀ m j w x,tm t=.opt m j w x->∃ l,guards ops asg tm 20 (j,w)=some (l,m)
theorem guards_put {t0:Nat} {v:AV} (h0:t0 ∉ asg):∀ (n:Nat) (q:Nat×Bool) (r),guards ops asg tm n q=some r ->
  guards ops (t0::asg) (fun t=>if t=t0 then v else tm t) n q=some r
 | 0,_,_,h=>by simp [guards] at h
 | n+1,(j,want),r,h=>by
  simp only [guards] at h ⊢;split at h
  ·rename_i t ht;split at h
   ·rename_i hc;have hc':t∈asg:=by simpa using hc
    have hne:t≠t0:=fun e=>h0 (e▸hc')
    have:(t0::asg).contains t=true:=by simp [hc']
    simp only [ht,this,if_true,if_neg hne];split at h
    ·rename_i c hx;exact h
    ·rename_i m j' w' c hx;obtain ⟨p,hp,hr⟩:=Option.bind_eq_some_iff.1 h;exact Option.bind_eq_some_iff.2 ⟨p,guards_put h0 n _ _ hp,hr⟩
    ·cases h
   ·cases h
  ·cases h
theorem guards_chain (hRI:RI ops asg tm):∀ (n:Nat) (q:Nat×Bool) (l),n<=20->guards ops asg tm n q=some (l,true) ->
  ∀ q'∈l,∃ l',guards ops asg tm 20 q'=some (l',true)
 | 0,_,_,_,h=>by simp [guards] at h
 | n+1,(j,want),l,hn,h=>by
  have hwhole:=guards_mono (n+1) (j,want) _ h 20 hn;simp only [guards] at h;split at h
  ·rename_i t ht;split at h
   ·rename_i hc;have hc':t∈asg:=by simpa using hc
    split at h
    ·rename_i c hx;simp only [Option.some.injEq,Prod.mk.injEq] at h;intro q' hq';rw [<- h.1] at hq';simp only [List.mem_singleton] at hq';subst hq';exact ⟨l,hwhole⟩
    ·rename_i m j' w' c hx;simp only [Option.bind_eq_some_iff,Option.some.injEq,Prod.mk.injEq] at h;obtain ⟨⟨l2,m2⟩,hp,hl,hm⟩:=h;have hm1:m=true:=by
      cases m
      ·simp at hm
      ·rfl
     obtain ⟨l3,hl3⟩:=hRI t hc' m j' w' _ hx;have h20:=guards_mono n _ _ hp 20 (by omega)
     rw [hl3] at h20;simp only [Option.some.injEq,Prod.mk.injEq] at h20;have hm2:m2=true:=by rw [<- h20.2,hm1]
     subst hm2;intro q' hq';rw [<- hl] at hq';rcases List.mem_cons.1 hq' with e|hq'
     ·subst e; exact ⟨l,hwhole⟩
     ·exact guards_chain hRI n (j',w') l2 (by omega) hp q' hq'
    ·cases h
   ·cases h
  ·cases h
def Looks (ops:Array Oper) (asg:List Nat) (tm:Nat->AV) (ρ:Rho) (M:Mem) (a:Act) (o:Oper):Prop :=
 ∀ t∈o.looksAt ops,Rel ρ M (a.tmps.getD t Go.undef) (tm t)/\(t∈asg->SlotOK ρ M (a.tmps.getD t Go.undef) (tm t))
theorem yielded_eq {a:Act} {j t:Nat} (ht:(ops[j]?).bind (·.dst)=some t):yielded ops a.tmps j=match a.tmps.getD t Go.undef with|.bool b=>some b|_=>none:=by
 unfold yielded;rw [ht];simp only [Option.bind_some];rcases Nat.lt_or_ge t a.tmps.size with h|h
 ·simp [h,Array.getElem?_eq_getElem];cases a.tmps[t] <;> rfl
 ·simp [Array.getElem?_eq_none h,Go.undef]
theorem guard_met {ρ M} {a:Act} {o:Oper} {g:Nat×Bool} {l m} {n:Nat} (hL:Looks ops asg tm ρ M a o) (hg:o.guard=some g) (h:guards ops asg tm n g=some (l,m)) :
  Region.wanted o (yielded ops a.tmps)=m:=by
 obtain ⟨j,want⟩:=g;simp only [Region.wanted,hg];cases n with
 | zero=>simp [guards] at h
 | succ n =>
  simp only [guards] at h;split at h
  ·rename_i t ht;split at h
   ·rename_i hc;have hc':t∈asg:=by simpa using hc
    have hlook:t∈o.looksAt ops:=by simp [Oper.looksAt,hg,ht]
    have hs:=(hL t hlook).2 hc';rw [yielded_eq ht];split at h
    ·rename_i c hx;rw [hx] at hs;rw [Rel.boolInv (show Rel ρ M _ (.bool c) from hs)];simp only [Option.some.injEq,Prod.mk.injEq] at h;rw [<- h.2];cases want <;> cases c <;> rfl
    ·rename_i m' j' w' c hx;rw [hx] at hs;simp only [Option.bind_eq_some_iff,Option.some.injEq,Prod.mk.injEq] at h;obtain ⟨⟨l2,m2⟩,hp,hl,hm⟩:=h;rw [<- hm];cases m' with
     | true =>
      rw [Rel.boolInv (hs.1 rfl)];cases want <;> cases c <;> rfl
     | false =>
      rw [hs.2 rfl];cases want <;> simp [Go.undef]
    ·cases h
   ·cases h
  ·cases h
end
def GlobOK (M0:Mem) (gl:Nat->AV):Prop:=∀ g,RelP M0 (.pointer (some ⟨g,0,none⟩)) (gl g)
section
variable {ops:Array Oper} {asg:List Nat} {tm:Nat->AV} {ρ:Rho} {M M0:Mem} {a:Act} {o:Oper} {gl:Nat->AV}
theorem strip_rel (hRI:RI ops asg tm) {gs:List (Nat×Bool)} (hgs:∀ q∈gs,∀ l m,guards ops asg tm 20 q=some (l,m)->m=true) {t:Nat} {v:Value}
  (h:Rel ρ M v (tm t)/\(t∈asg->SlotOK ρ M v (tm t))):Rel ρ M v (strip asg gs t (tm t)):=by
 unfold strip;split
 ·rename_i m j w x hx;split
  ·rename_i hc;simp only [Bool.and_eq_true,List.contains_iff_mem] at hc;obtain ⟨hc1,hc2⟩:=hc;obtain ⟨l,hl⟩:=hRI t hc1 m j w x hx;have hs:=h.2 hc1;rw [hx] at hs;exact hs.1 (hgs _ hc2 l m hl)
  ·exact .undef v
 ·exact h.1
theorem stripO_rel (hG:GlobOK M0 gl) (hM:MExt M0 M) (hRI:RI ops asg tm) {gs:List (Nat×Bool)} (hgs:∀ q∈gs,∀ l m,guards ops asg tm 20 q=some (l,m)->m=true) (x:Operand)
  (h:∀ t,x=.tmp t->Rel ρ M (a.tmps.getD t Go.undef) (tm t)/\(t∈asg->SlotOK ρ M (a.tmps.getD t Go.undef) (tm t))):Rel ρ M (a.eval x) (stripO asg gs (evOf gl tm) x):=by
 cases x with
 | tmp t=>exact strip_rel hRI hgs (h t rfl)
 | const v=>exact .pure (avOf_rel M v)
 | global g=>exact .pure ((hG g).mono hM)
 | func f=>exact .pure (.fn _)
end
theorem looks_tmp {ops:Array Oper} {o:Oper} {t:Nat} (h:Operand.tmp t∈o.op.operands):t∈o.looksAt ops :=
 List.mem_append_left _ (List.mem_filterMap.2 ⟨.tmp t,by simpa using h,rfl⟩)
def gdIs (ops:Array Oper) (asg:List Nat) (tm:Nat->AV) (o:Oper):Option GD->Prop
 | none=>o.guard=none
 | some d=>o.guard=some d.g/\guards ops asg tm 20 d.g=some (d.l,d.m)
theorem gdOf_is {ops asg tm o gd} (h:gdOf ops asg tm o=some gd):gdIs ops asg tm o gd:=by
 unfold gdOf at h;cases hg:o.guard with
 | none=>simp [hg] at h; subst h; exact hg
 | some g =>
  simp only [hg,Option.map_eq_some_iff] at h;obtain ⟨p,h1,h2⟩:=h;subst h2;exact ⟨hg,h1⟩
def metG:Option GD->Bool
 | none=>true
 | some d=>d.m
theorem gd_wanted {ops asg tm ρ M} {a:Act} {o:Oper} {gd:Option GD} (hg:gdIs ops asg tm o gd) (hL:Looks ops asg tm ρ M a o):Region.wanted o (yielded ops a.tmps)=metG gd:=by
 cases gd with
 | none=>simp only [gdIs] at hg; simp [Region.wanted,hg,metG]
 | some d=>exact guard_met hL hg.1 hg.2
theorem gd_chain {ops asg tm} {o:Oper} {gd:Option GD} (hg:gdIs ops asg tm o gd) (hRI:RI ops asg tm) (hm:metG gd=true):∀ q∈gsOf gd,∀ l m,guards ops asg tm 20 q=some (l,m)->m=true:=by
 intro q hq l m hl
 suffices ∃ l',guards ops asg tm 20 q=some (l',true) by
  obtain ⟨l',h'⟩:=this;rw [hl] at h';simp only [Option.some.injEq,Prod.mk.injEq] at h';exact h'.2
 revert q
 cases gd with
 | none=>intro q hq; simp [gsOf] at hq
 | some d =>
  intro q hq _;simp only [metG] at hm;have:=hg.2;rw [hm] at this;exact guards_chain hRI 20 d.g d.l (Nat.le_refl _) this q hq
def QOK (P:Program) (gl:Nat->AV) (ops:Array Oper) (asg:List Nat) (tm:Nat->AV) (hp:Nat->Blk) (nx:Nat) (cl:Bool) (gd:Option GD) (o:Oper) (out:AV):Prop :=
 (metG gd=true->∃ v ob,opSR P gl ops asg (gsOf gd) o tm hp nx=some ⟨true,v,[],ob⟩/\(∀ p,ob=some p->p)/\out=(wrapG gd v).norm cl) /\
 (metG gd=false->∃ d x,gd=some d/\out=.opt d.m d.g.1 d.g.2 x)
section
variable {P:Program} {o:Oper} {U:Base} {w0:World} {n:Nat} {ρ:Rho} {M:Mem} {tmX tm:Nat->AV} {hp:Nat->Blk} {nx:Nat} {a:Act} {w:World} {ops:Array Oper} {asg:List Nat} {gl:Nat->AV}
theorem pick_run {c x y:Operand} (ho:o.op=.pick c x y) {b:Bool} (hb:a.eval c=.bool b):(execOp a.eval o).run P w=.ok (.value (if b then a.eval x else a.eval y)) w:=by
 simp [execOp,ho,hb,asBool]
theorem AV.clean_ne (x:AV) (m j w y):x.clean≠.opt m j w y:=by cases x <;> simp [AV.clean]
theorem Rel.clean {ρ M v} {x:AV} (h:Rel ρ M v x):Rel ρ M v x.clean:=by
 cases x <;> first|exact h|exact .undef v
theorem slot_wrap {ρ M v x} {gd:Option GD} (cl:Bool) (hm:metG gd=true) (h:Rel ρ M v x):SlotOK ρ M v ((wrapG gd x).norm cl):=by
 cases gd with
 | none=>exact (slot_of_rel h.clean (AV.clean_ne x)).norm cl
 | some d =>
  refine SlotOK.norm cl ?_;exact ⟨fun _=>h,fun hm'=>by simp only [metG] at hm; rw [hm] at hm'; cases hm'⟩
theorem guard_of_slot (hRI:RI ops asg tm) {gs:List (Nat×Bool)} (hgs:∀ q∈gs,∀ l m,guards ops asg tm 20 q=some (l,m)->m=true) {t j:Nat} {c:Bool}
  (ht:(ops[j]?).bind (·.dst)=some t) (hc:strip asg gs t (tm t)=.bool c):∀ q∈(j,c)::gs,∀ l m,guards ops asg tm 20 q=some (l,m)->m=true:=by
 intro q hq l m hg;rcases List.mem_cons.1 hq with rfl|hq
 ·have hw:∀ (c:Bool),isW c c=true:=fun c=>by cases c <;> rfl
  obtain ⟨k,hk⟩:∃ k,(20:Nat)=k+1:=⟨19,rfl⟩
  rw [hk] at hg;simp only [guards,ht] at hg;split at hg
  ·rename_i hca;split at hg
   ·rename_i c' hx;rw [hx] at hc;simp only [strip,AV.bool.injEq] at hc;subst hc;simp only [Option.some.injEq,Prod.mk.injEq] at hg;rw [<- hg.2,hw]
   ·rename_i m' j' w' c' hx;rw [hx] at hc;simp only [strip] at hc;split at hc
    ·rename_i hin;simp only [AV.bool.injEq] at hc;subst hc;simp only [Bool.and_eq_true,List.contains_iff_mem] at hin;obtain ⟨l2,hl2⟩:=hRI t hin.1 m' j' w' _ hx;have hm':=hgs _ hin.2 _ _ hl2;obtain ⟨p,hp,hr⟩:=Option.bind_eq_some_iff.1 hg
     simp only [Option.some.injEq,Prod.mk.injEq] at hr;rw [<- hr.2,hm',hw]; rfl
    ·cases hc
   ·cases hg
  ·cases hg
 ·exact hgs q hq l m hg
theorem quiet_exec (h:SRel U w0 n ρ M tmX hp nx a w) (hG:GlobOK U.M0 gl) {cl:Bool} {gd:Option GD} {out:AV} (hq:QOK P gl ops asg tm hp nx cl gd o out) (hRI:RI ops asg tm)
  (hgd:gdIs ops asg tm o gd) (hL:Looks ops asg tm ρ M a o) (hm:metG gd=true) :
  ∃ u w' ρ' M',((execOp a.eval o).run P w=.ok (.value u) w'\/((execOp a.eval o).run P w=.ok .skip w'/\u=Go.undef)) /\
   RX ρ ρ' hp nx/\MExt M M'/\SlotOK ρ' M' u out/\SRel U w0 n ρ' M' tmX hp nx a w':=by
 obtain ⟨v,ob,hs,hob,rfl⟩:=hq.1 hm;have hgs:=gd_chain hgd hRI hm;have hx:∀ x∈o.op.operands,Rel ρ M (a.eval x) (stripO asg (gsOf gd) (evOf gl tm) x):=fun x hxx =>
  stripO_rel hG h.memE hRI hgs x (fun t ht=>hL t (looks_tmp (ht▸hxx)))
 have step:stepOp P o.op (stripO asg (gsOf gd) (evOf gl tm)) hp nx=some ⟨true,v,[],ob⟩->∃ u w' ρ' M',((execOp a.eval o).run P w=.ok (.value u) w'\/((execOp a.eval o).run P w=.ok .skip w'/\u=Go.undef)) /\
   RX ρ ρ' hp nx/\MExt M M'/\SlotOK ρ' M' u ((wrapG gd v).norm cl)/\SRel U w0 n ρ' M' tmX hp nx a w':=by
  intro hst;obtain ⟨u,w',ρ',M',hr,hρ,hM,hv,hS⟩:=stepOp_sound (P:=P) h _ hx true v [] ob hst rfl hob;exact ⟨u,w',ρ',M',hr,hρ,hM,slot_wrap cl hm hv,hS⟩
 unfold opSR at hs;split at hs
 ·rename_i t x y ho;split at hs
  ·rename_i c j hc hj;obtain ⟨r,hr,hr2⟩:=Option.bind_eq_some_iff.1 hs;simp only [ok1,Option.some.injEq,SR.mk.injEq] at hr2;obtain ⟨_,rfl,_,_⟩:=hr2;have hjt:(ops[j]?).bind (·.dst)=some t:=by
    rw [List.findIdx?_eq_some_iff_getElem] at hj;obtain ⟨hlt,hjt,_⟩:=hj;have hlt':j<ops.size:=by simpa using hlt
    simp only [Array.getElem_toList,beq_iff_eq] at hjt;simp [Array.getElem?_eq_getElem hlt',hjt]
   have hcond:a.eval (.tmp t)=.bool c:=by
    have:=hx (.tmp t) (by simp [ho,Op.operands])
    rw [hc] at this;exact this.boolInv
   have hga:=guard_of_slot hRI hgs hjt (show strip asg (gsOf gd) t (tm t)=.bool c from hc);have arm:∀ z,z∈o.op.operands->Rel ρ M (a.eval z) (stripO asg ((j,c)::gsOf gd) (evOf gl tm) z):=fun z hz =>
    stripO_rel hG h.memE hRI hga z (fun t ht=>hL t (looks_tmp (ht▸hz)))
   refine ⟨_,w,ρ,M,.inl (pick_run ho hcond),RX.refl ρ hp nx,MExt.refl M,slot_wrap cl hm ?_,h⟩;unfold pickAV at hr;split at hr
   ·rename_i bx by_ hbx hby;have hxr:c=true->a.eval x=.bool bx:=fun e=>by
     subst e;have:=arm x (by simp [ho,Op.operands])
     rw [hbx] at this;exact this.boolInv
    have hyr:c=false->a.eval y=.bool by_:=fun e=>by
     subst e;have:=arm y (by simp [ho,Op.operands])
     rw [hby] at this;exact this.boolInv
    have key:∀ r',(if c then a.eval x else a.eval y)=.bool r'->Rel ρ M (if c then a.eval x else a.eval y) (.bool r'):=fun r' e=>by rw [e]; exact .pure (.bool r')
    split at hr
    ·simp only [Option.some.injEq] at hr;subst hr;refine key _ ?_;cases c with
     | true=>simp [Act.eval]
     | false=>simp [hyr rfl]
    ·simp only [Option.some.injEq] at hr;subst hr;refine key _ ?_;cases c with
     | true=>simp [hxr rfl]
     | false=>simp [Act.eval]
    ·simp only [Option.some.injEq] at hr;subst hr;refine key _ ?_;cases c with
     | true=>simp [hxr rfl]
     | false=>simp [hyr rfl]
   ·cases hr
  ·cases hs
 ·cases hs
 ·exact step hs
theorem AV.norm_opt (cl:Bool) (m j w x):AV.norm cl (.opt m j w x)=.opt m j w (x.norm cl):=by simp [AV.norm]
end
structure Grow (ρ ρ':Rho) (hp hp':Nat->Blk) (nx nx':Nat):Prop where
 rx:RX ρ ρ' hp nx
 le:nx<=nx'
 dead:∀ b,b<nx->hp b=.dead->hp' b=.dead
 abs:∀ b k on sp r,hp' b=.loop (.abs k on sp) r->∃ k0 on0 r0,hp b=.loop (.abs k0 on0 sp) r0
theorem Grow.refl (ρ:Rho) (hp:Nat->Blk) (nx:Nat):Grow ρ ρ hp hp nx nx:=⟨RX.refl ρ hp nx,Nat.le_refl _,fun _ _ h=>h,fun _ k on _ r e=>⟨k,on,r,e⟩⟩
theorem Grow.trans {ρ ρ' ρ'' hp hp' hp'' nx nx' nx''} (h:Grow ρ ρ' hp hp' nx nx') (k:Grow ρ' ρ'' hp' hp'' nx' nx''):Grow ρ ρ'' hp hp'' nx nx'' :=
 ⟨⟨h.rx.ext.trans k.rx.ext,fun b g h1 h2=>by rw [k.rx.dead b g (Nat.lt_of_lt_of_le h1 h.le) (h.dead b h1 h2),h.rx.dead b g h1 h2]⟩,Nat.le_trans h.le k.le,
  fun b h1 h2=>k.dead b (Nat.lt_of_lt_of_le h1 h.le) (h.dead b h1 h2),fun b k' on sp r e=>by obtain ⟨k1,on1,r1,e1⟩:=k.abs b k' on sp r e; exact h.abs b k1 on1 sp r1 e1⟩
theorem newOf_le:∀ (eff:List (Nat×Blk)) (nx:Nat),nx<=newOf nx eff
 | [],_=>Nat.le_refl _
 | (b,x)::r,nx=>by
  simp only [newOf];refine Nat.le_trans ?_ (newOf_le r _);split <;> omega
theorem setEffF_keeps:∀ (eff:List (Nat×Blk)) (hp:Nat->Blk) (b:Nat),(∀ p∈eff,p.1≠b)->setEffF hp eff b=hp b
 | [],_,_,_=>rfl
 | (b0,x)::r,hp,b,h=>by
  simp only [setEffF];rw [setEffF_keeps r _ b (fun p hp=>h p (List.mem_cons_of_mem _ hp))]
  have:=h (b0,x) (List.mem_cons_self ..);simp only [ne_eq] at this;simp [updH,Ne.symm this]
theorem effOK_dead {hp:Nat->Blk} {nx:Nat} {eff:List (Nat×Blk)} (h:effOK hp nx eff=true) (b:Nat) (hb:b<nx) (hd:hp b=.dead):setEffF hp eff b=.dead:=by
 rw [setEffF_keeps eff hp b,hd];intro p hp' e;simp only [effOK,List.all_eq_true] at h;have:=h p hp';rw [e,hd] at this;simp at this;omega
theorem setEffF_abs:∀ (eff:List (Nat×Blk)) (hp:Nat->Blk) (b:Nat) (k:Nat) (on:Bool) (sp:AbsS) (r:LoopB),(∀ p∈eff,notAbs p.2=true)->setEffF hp eff b=.loop (.abs k on sp) r->hp b=.loop (.abs k on sp) r
 | [],_,_,_,_,_,_,_,e=>e
 | (b0,x)::l,hp,b,k,on,sp,r,h,e=>by
  have e2:=setEffF_abs l (updH hp b0 x) b k on sp r (fun p hp=>h p (List.mem_cons_of_mem _ hp)) e
  simp only [updH] at e2;split at e2
  ·have:=h (b0,x) (List.mem_cons_self ..);simp only at this;rw [e2] at this;cases this
  ·exact e2
theorem effOK_abs {hp:Nat->Blk} {nx:Nat} {eff:List (Nat×Blk)} (h:effOK hp nx eff=true):∀ p∈eff,notAbs p.2=true:=by
 intro p hp';simp only [effOK,List.all_eq_true,Bool.and_eq_true] at h;exact (h p hp').2
theorem norm_abs {cl:Bool} {x:Blk} {k on sp r} (e:x.norm cl=.loop (.abs k on sp) r):x=.loop (.abs k on sp) r:=by
 cases x <;> simp [Blk.norm] at e ⊢
 exact e
section
variable {P:Program} {o:Oper} {U:Base} {w0:World} {n:Nat} {ρ:Rho} {M:Mem} {tm tmX:Nat->AV} {hp:Nat->Blk} {nx:Nat} {a:Act} {w:World}
def maskBase (U:Base) (w0:World) (ρ:Rho) (M:Mem) (hp:Nat->Blk) (a:Act) (R:List Nat):Base :=
 ⟨fun B=>(∃ b g sz pu s L,b∈R/\hp b=.row g sz pu s/\ρ b g=some L/\L.virt=false/\L.B=B)\/(∃ b st r L,b∈R/\hp b=.loop st r/\ρ b 0=some L/\L.B=B)\/B∈marksOf a.defers\/(U.U B/\B<w0.heap.size),M,false,false⟩
theorem SRel.mask (h:SRel U w0 n ρ M tm hp nx a w) (R:List Nat) {hpm:Nat->Blk} (hm:∀ b,hpm b=if b∈R then .dead else hp b):SRel (maskBase U w0 ρ M hp a R) w n ρ M tm hpm nx a w:=by
 have key:∀ b g sz pu s,hpm b=.row g sz pu s->hp b=.row g sz pu s/\b ∉ R:=by
  intro b g sz pu s hb;rw [hm b] at hb;split at hb
  ·cases hb
  ·exact ⟨hb,‹_›⟩
 have keyL:∀ b st r,hpm b=.loop st r->hp b=.loop st r/\b ∉ R:=by
  intro b st r hb;rw [hm b] at hb;split at hb
  ·cases hb
  ·exact ⟨hb,‹_›⟩
 have noRow:∀ b g sz pu s L B,hp b=.row g sz pu s->ρ b g=some L->L.virt=false->L.B=B->(∀ lp:LM,w.heap[B]?≠some lp.obj)/\B ∉ marksOf a.defers:=by
  intro b g sz pu s L B hr hL hv hB;obtain ⟨L1,e1,_,_,h4⟩:=h.hok.row b g sz pu s hr;rw [hL] at e1; cases e1;rcases h4 with h4|⟨_,c,e,h5,_⟩
  ·rw [hv] at h4; cases h4.1
  ·subst hB;refine ⟨fun lp e=>?_,fun hmk=>?_⟩
   ·rw [h5] at e; cases lp <;> cases e
   ·have:=h.marks.2 _ hmk; rw [h5] at this; cases this
 refine ⟨h.size,h.tm,⟨h.hok.mem,fun b g sz pu s hb=>h.hok.row b g sz pu s (key _ _ _ _ _ hb).1,?_,fun b g sz pu s hb=>h.hok.gen b g sz pu s (key _ _ _ _ _ hb).1,fun b st r hb=>h.hok.loop b st r (keyL _ _ _ hb).1,fun b b' st st' r r' L L' h1 h2=>h.hok.linj b b' st st' r r' L L' (keyL _ _ _ h1).1 (keyL _ _ _ h2).1⟩,fun b hb=>?_,h.free,
  Keep.refl _ w,fun B i v hv=>.inl hv,MExt.refl M,?_,h.nle,?_,h.defers,h.marks,fun e=>(by cases e),fun e=>(by cases e),fun b k on sp r e=>?_,fun b d e=>?_⟩
 case refine_6 =>
  have keyF:∀ b d,hpm b=.fam d->hp b=.fam d:=by
   intro b d hb;rw [hm b] at hb;split at hb
   ·cases hb
   ·exact hb
  have e1:=keyF b d e;obtain ⟨q1,q2,q3⟩:=h.ext.2 b d e1;refine ⟨fun b' k on sp r e'=>q1 b' k on sp r (keyL _ _ _ e').1,q2.chg (fun _=>rfl) (fun B hB=>?_),fun b' d' B hne e'=>q3 b' d' B hne (keyF b' d' e')⟩
  obtain ⟨k1,k2,k3,k4⟩:=h.famB_own e1 hB;have hlt:=h.famB_lt e1 hB;refine ⟨fun hU=>?_,fun b' g sz pu s L' e1=>k2 b' g sz pu s L' (key _ _ _ _ _ e1).1,fun b' st r L' e1=>k3 b' st r L' (keyL _ _ _ e1).1,k4⟩
  rcases hU with ⟨b',g',sz',pu',s',L',h3,h4,h5,h6,h7⟩|⟨b',st',r',L',h3,h4,h5,h6⟩|hmk|⟨hU,hlt'⟩
  ·exact absurd h7 (k2 b' g' sz' pu' s' L' h4 h5 h6)
  ·exact absurd h6 (k3 b' st' r' L' h4 h5)
  ·exact absurd rfl (k4 B hmk)
  ·have:=k1 hU; omega
 case refine_5 =>
  obtain ⟨e1,hbR⟩:=keyL _ _ _ e;obtain ⟨C,T,hC⟩:=h.ext.1 b k on sp r e1
  refine ⟨C,T,hC.stab,hC.law,hC.n0,hC.lt,hC.now,fun b' g sz pu s L h1 h2 h3=>hC.row b' g sz pu s L (key _ _ _ _ _ h1).1 h2 h3,fun b' st r' L hne h1 h2=>hC.loop b' st r' L hne (keyL _ _ _ h1).1 h2,fun b' k' on' sp' r' h1=>hC.only b' k' on' sp' r' (keyL _ _ _ h1).1,hC.me,hC.mem,hC.memB,hC.tm,hC.marks,fun B hB hU=>?_⟩
  rcases hU with ⟨b',g',sz',pu',s',L',h3,h4,h5,h6,rfl⟩|⟨b',st,r',L',h3,h4,h5,rfl⟩|hmk|⟨hU,hlt⟩
  ·exact absurd hB (hC.row b' g' sz' pu' s' L' h4 h5 h6).1
  ·by_cases hbb:b'=b
   ·exact absurd (hbb▸h3) hbR
   ·exact absurd hB (hC.loop b' st r' L' hbb h4 h5).1
  ·exact absurd hB (hC.marks B hmk).1
  ·have:=hC.own B hB hU; omega
 ·intro b b' g g' sz sz' pu pu' s s' L L' h1 h2;exact h.hok.inj b b' g g' sz sz' pu pu' s s' L L' (key _ _ _ _ _ h1).1 (key _ _ _ _ _ h2).1
 ·rw [hm b];split
  ·rfl
  ·exact h.dead b hb
 ·intro b g sz pu s L hb hL hv hU;obtain ⟨h1,h2⟩:=key _ _ _ _ _ hb;rcases hU with ⟨b',g',sz',pu',s',L',h3,h4,h5,h6,h7⟩|⟨b',st,r,L',h3,h4,h5,h6⟩|hmk|⟨hU,hlt⟩
  ·have:=h.hok.inj b b' g g' sz sz' pu pu' s s' L L' h1 h4 hL h5 hv h6 h7.symm;exact absurd (this▸h3) h2
  ·obtain ⟨L1,lp,e1,e3⟩:=(h.hok.loop b' st r h4).at
   rw [h5] at e1; cases e1;rw [h6] at e3;exact absurd e3 ((noRow b g sz pu s L L.B h1 hL hv rfl).1 _)
  ·exact absurd hmk (noRow b g sz pu s L L.B h1 hL hv rfl).2
  ·have:=h.own b g sz pu s L h1 hL hv hU;omega
 ·intro b st r L hb hL hU;obtain ⟨h1,h2⟩:=keyL _ _ _ hb;obtain ⟨L1,lp,e1,e3⟩:=(h.hok.loop b st r h1).at
  rw [hL] at e1; cases e1;rcases hU with ⟨b',g',sz',pu',s',L',h3,h4,h5,h6,h7⟩|⟨b',st',r',L',h3,h4,h5,h6⟩|hmk|⟨hU,hlt⟩
  ·exact absurd (h7▸e3) ((noRow b' g' sz' pu' s' L' L'.B h4 h5 h6 rfl).1 _)
  ·have:=h.hok.linj b b' st st' r r' L L' h1 h4 hL h5 h6.symm;exact absurd (this▸h3) h2
  ·have:=h.marks.2 _ hmk; rw [e3] at this; cases lp <;> cases this
  ·have:=h.ownL b st r L h1 hL hU;omega
theorem SRel.mask_marks (h:SRel U w0 n ρ M tm hp nx a w) (R:List Nat):∀ r∈marksOf a.defers,(maskBase U w0 ρ M hp a R).U r/\r<w.heap.size :=
 fun r hr=>⟨.inr (.inr (.inl hr)),heap_lt (h.marks.2 r hr)⟩
theorem SRel.unmask (h:SRel U w0 n ρ M tm hp nx a w) (R:List Nat) {hpm hpm' hp':Nat->Blk} {ρ':Rho} {M':Mem} {nx':Nat} {w':World} (hm:∀ b,hpm b=if b∈R then .dead else hp b)
  (h':SRel (maskBase U w0 ρ M hp a R) w n ρ' M' tm hpm' nx' a w') (hg:Grow ρ ρ' hpm hpm' nx nx') (hM:MExt M M') (hb:∀ b,hp' b=if b∈R then hp b else hpm' b) (hR:∀ b∈R,notAbs (hp b)=true/\notFam (hp b)=true) :
  SRel U w0 n ρ' M' tm hp' nx' a w'/\Grow ρ ρ' hp hp' nx nx':=by
 have lt:∀ b g sz pu s,hp b=.row g sz pu s->b<nx:=fun b g sz pu s hr=>by
  rcases Nat.lt_or_ge b nx with h1|h1
  ·exact h1
  ·rw [h.dead b h1] at hr; cases hr
 have ltL:∀ b st r,hp b=.loop st r->b<nx:=fun b st r hr=>by
  rcases Nat.lt_or_ge b nx with h1|h1
  ·exact h1
  ·rw [h.dead b h1] at hr; cases hr
 have sameρ:∀ b g,b∈R->b<nx->ρ' b g=ρ b g:=fun b g hbR hlt=>hg.rx.dead b g hlt (by rw [hm b,if_pos hbR])
 have back:∀ b g sz pu s,b∈R->hp b=.row g sz pu s->RowOK ρ' M' w' b g sz pu s/\(∀ L,ρ b g=some L->L.virt=false->L.B<w.heap.size/\(maskBase U w0 ρ M hp a R).U L.B):=by
  intro b g sz pu s hbR hr;obtain ⟨L,h1,h2,h3,h4⟩:=h.hok.row b g sz pu s hr;rcases h4 with h4|⟨hv,c,e,h5,h6,h7,h8,h9⟩
  ·refine ⟨⟨L,hg.rx.ext _ _ _ h1,h2,h3,.inl h4⟩,fun L' hL' hv'=>?_⟩
   rw [h1] at hL'; cases hL';rw [h4.1] at hv'; cases hv'
  ·have hlt:=heap_lt h5;have hU:(maskBase U w0 ρ M hp a R).U L.B:=.inl ⟨b,g,sz,pu,s,L,hbR,hr,h1,hv,rfl⟩;refine ⟨⟨L,hg.rx.ext _ _ _ h1,h2,h3,.inr ⟨hv,c,e,?_,h6,h7,fun i=>?_,fun i hi=>⟨(h9 i hi).1,fun j hj=>?_⟩⟩⟩,fun L' hL' hv'=>?_⟩
   ·rw [h'.keep.block L.B hU hlt]; exact h5
   ·cases hmm:M' L.B i with
    | none=>rfl
    | some v =>
     rcases h'.memN L.B i v hmm with h10|h10|h10
     ·have h11:M L.B i=some v:=h10;rw [h8 i] at h11; cases h11
     ·omega
     ·exact absurd hU h10
   ·obtain ⟨v,m1,m2,m3,m4⟩:=(h9 i hi).2 j hj;exact ⟨v,m1,m2,m3.mono hg.rx.ext hM,fun hp=>(m4 hp).mono hM⟩
   ·rw [h1] at hL'; cases hL';exact ⟨hlt,hU⟩
 have backL:∀ b st r,b∈R->hp b=.loop st r->LoopOK ρ' M' w' b st r/\(∀ L,ρ b 0=some L->L.B<w.heap.size/\(maskBase U w0 ρ M hp a R).U L.B):=by
  intro b st r hbR hr;have hU:∀ L,ρ b 0=some L->(maskBase U w0 ρ M hp a R).U L.B:=fun L hL=>.inr (.inl ⟨b,st,r,L,hbR,hr,hL,rfl⟩)
  have hl:=h.hok.loop b st r hr;refine ⟨hl.mono hg.rx.ext hM fun L hL lp e=>?_,fun L hL=>⟨?_,hU L hL⟩⟩
  ·rw [h'.keep.block L.B (hU L hL) (heap_lt e)]; exact e
  ·obtain ⟨L1,lp,e1,e3⟩:=hl.at
   rw [hL] at e1; cases e1;exact heap_lt e3
 have loopAt:∀ b st r,hp' b=.loop st r->(b∈R/\hp b=.loop st r)\/(b ∉ R/\hpm' b=.loop st r):=by
  intro b st r hr;rw [hb b] at hr;split at hr
  ·exact .inl ⟨‹_›,hr⟩
  ·exact .inr ⟨‹_›,hr⟩
 have crossL:∀ b b' st st' r r' L L',b∈R->hp b=.loop st r->hpm' b'=.loop st' r'->ρ' b 0=some L->ρ' b' 0=some L'->L.B≠L'.B:=by
  intro b b' st st' r r' L L' hbR hr hr' e e' hB;have e0:ρ b 0=some L:=by rw [<- sameρ b 0 hbR (ltL _ _ _ hr)]; exact e
  obtain ⟨hlt,hU⟩:=(backL b st r hbR hr).2 L e0;have:=h'.ownL b' st' r' L' hr' e' (hB▸hU);omega
 have rowAt:∀ b g sz pu s,hp' b=.row g sz pu s->(b∈R/\hp b=.row g sz pu s)\/(b ∉ R/\hpm' b=.row g sz pu s):=by
  intro b g sz pu s hr;rw [hb b] at hr;split at hr
  ·exact .inl ⟨‹_›,hr⟩
  ·exact .inr ⟨‹_›,hr⟩
 have cross:∀ b b' g g' sz sz' pu pu' s s' L L',b∈R->hp b=.row g sz pu s->hpm' b'=.row g' sz' pu' s'->ρ' b g=some L->ρ' b' g'=some L'->L.virt=false->L'.virt=false->L.B≠L'.B:=by
  intro b b' g g' sz sz' pu pu' s s' L L' hbR hr hr' e e' hv hv' hB;have e0:ρ b g=some L:=by rw [<- sameρ b g hbR (lt _ _ _ _ _ hr)]; exact e
  obtain ⟨hlt,hU⟩:=(back b g sz pu s hbR hr).2 L e0 hv;have:=h'.own b' g' sz' pu' s' L' hr' e' hv' (hB▸hU);omega
 have hloop:∀ b st r,hp' b=.loop st r->LoopOK ρ' M' w' b st r:=by
  intro b st r hr;rcases loopAt b st r hr with ⟨k1,k2⟩|⟨k1,k2⟩
  ·exact (backL b st r k1 k2).1
  ·exact h'.hok.loop b st r k2
 have hlinj:∀ b b' st st' r r' L L',hp' b=.loop st r->hp' b'=.loop st' r'->ρ' b 0=some L->ρ' b' 0=some L'->L.B=L'.B->b=b':=by
  intro b b' st st' r r' L L' h1 h2 e1 e2 hB;rcases loopAt b st r h1 with ⟨k1,k2⟩|⟨k1,k2⟩ <;> rcases loopAt b' st' r' h2 with ⟨k3,k4⟩|⟨k3,k4⟩
  ·rw [sameρ b 0 k1 (ltL _ _ _ k2)] at e1;rw [sameρ b' 0 k3 (ltL _ _ _ k4)] at e2;exact h.hok.linj b b' st st' r r' L L' k2 k4 e1 e2 hB
  ·exact absurd hB (crossL b b' st st' r r' L L' k1 k2 k4 e1 e2)
  ·exact absurd hB.symm (crossL b' b st' st r' r L' L k3 k4 k2 e2 e1)
  ·exact h'.hok.linj b b' st st' r r' L L' k2 k4 e1 e2 hB
 refine ⟨⟨h'.size,h'.tm,⟨h'.hok.mem,fun b g sz pu s hr=>?_,?_,?_,hloop,hlinj⟩,fun b hbb=>?_,h'.free,?_,?_,h.memE.trans hM,?_,h'.nle,?_,h'.defers,h'.marks,h.mown,h.nod,fun b k on sp r e=>?_,fun b d e=>?_⟩,⟨⟨hg.rx.ext,?_⟩,hg.le,?_,fun b k on sp r e=>?_⟩⟩
 case refine_10 =>
  have famAt:∀ b d,hp' b=.fam d->b ∉ R/\hpm' b=.fam d:=by
   intro b d e;rw [hb b] at e;split at e
   ·rename_i hbR;have:=(hR b hbR).2;rw [e] at this; cases this
   ·exact ⟨‹_›,e⟩
  obtain ⟨hbR,e1⟩:=famAt b d e;obtain ⟨q1,q2,q3⟩:=h'.ext.2 b d e1;refine ⟨fun b' k on sp r e'=>?_,q2.chg (fun _=>rfl) (fun B hB=>?_),fun b' d' B hne e'=>q3 b' d' B hne (famAt b' d' e').2⟩
  ·rcases loopAt b' _ r e' with ⟨k1,k2⟩|⟨k1,k2⟩
   ·have:=(hR b' k1).1;rw [k2] at this; cases this
   ·exact q1 b' k on sp r k2
  ·obtain ⟨k1,k2,k3,k4⟩:=h'.famB_own e1 hB;refine ⟨fun hU=>?_,fun b' g sz pu s L' f1 f2 f3 f4=>?_,fun b' st r L' f1 f2 f4=>?_,k4⟩
   ·rcases Nat.lt_or_ge B w0.heap.size with hlt|hge
    ·have:=k1 (.inr (.inr (.inr ⟨hU,hlt⟩)));have:=h.keep.size;omega
    ·exact hge
   ·rcases rowAt b' g sz pu s f1 with ⟨m1,m2⟩|⟨m1,m2⟩
    ·rw [sameρ b' g m1 (lt _ _ _ _ _ m2)] at f2;obtain ⟨hlt,hU⟩:=(back b' g sz pu s m1 m2).2 L' f2 f3;rw [f4] at hlt hU;have:=k1 hU;omega
    ·exact k2 b' g sz pu s L' m2 f2 f3 f4
   ·rcases loopAt b' st r f1 with ⟨m1,m2⟩|⟨m1,m2⟩
    ·rw [sameρ b' 0 m1 (ltL _ _ _ m2)] at f2;obtain ⟨hlt,hU⟩:=(backL b' st r m1 m2).2 L' f2;rw [f4] at hlt hU;have:=k1 hU;omega
    ·exact k3 b' st r L' m2 f2 f4
 case refine_13 =>
  rcases loopAt b _ r e with ⟨_,e1⟩|⟨hbR,e1⟩
  ·exact ⟨k,on,r,e1⟩
  ·obtain ⟨k0,on0,r0,e2⟩:=hg.abs b k on sp r e1;rw [hm b,if_neg hbR] at e2;exact ⟨k0,on0,r0,e2⟩
 case refine_9 =>
  rcases loopAt b _ r e with ⟨hbR,e1⟩|⟨hbR,e1⟩
  ·have:=(hR b hbR).1;rw [e1] at this;cases this
  ·obtain ⟨C,T,hC⟩:=h'.ext.1 b k on sp r e1;obtain ⟨k0,on0,r0,e2⟩:=hg.abs b k on sp r e1;rw [hm b,if_neg hbR] at e2;obtain ⟨C0,T0,hC0⟩:=h.ext.1 b k0 on0 sp r0 e2
   refine ⟨C,T,hC.stab,hC.law,hC.n0,hC.lt,hC.now,fun b' g sz pu s L h1 h2 h3=>?_,fun b' st r' L hne h1 h2=>?_,fun b' k' on' sp' r' h1=>?_,hC.me,hC.mem,hC.memB,hC.tm,hC.marks,fun B hB hU=>?_⟩
   case refine_3 =>
    rcases loopAt b' _ r' h1 with ⟨k1,k2⟩|⟨k1,k2⟩
    ·have:=(hR b' k1).1;rw [k2] at this;cases this
    ·exact hC.only b' k' on' sp' r' k2
   ·rcases rowAt b' g sz pu s h1 with ⟨k1,k2⟩|⟨k1,k2⟩
    ·rw [sameρ b' g k1 (lt _ _ _ _ _ k2)] at h2;obtain ⟨hlt,hU⟩:=(back b' g sz pu s k1 k2).2 L h2 h3;exact ⟨fun hc=>by have:=hC.own L.B hc hU; omega,(hC0.row b' g sz pu s L k2 h2 h3).2⟩
    ·exact hC.row b' g sz pu s L k2 h2 h3
   ·rcases loopAt b' st r' h1 with ⟨k1,k2⟩|⟨k1,k2⟩
    ·rw [sameρ b' 0 k1 (ltL _ _ _ k2)] at h2;obtain ⟨hlt,hU⟩:=(backL b' st r' k1 k2).2 L h2;exact ⟨fun hc=>by have:=hC.own L.B hc hU; omega,(hC0.loop b' st r' L hne k2 h2).2⟩
    ·exact hC.loop b' st r' L hne k2 h2
   ·rcases Nat.lt_or_ge B w0.heap.size with hlt|hge
    ·have:=hC.own B hB (.inr (.inr (.inr ⟨hU,hlt⟩)));have:=h.keep.size;omega
    ·exact hge
 ·rcases rowAt b g sz pu s hr with ⟨h1,h2⟩|⟨h1,h2⟩
  ·exact (back b g sz pu s h1 h2).1
  ·exact h'.hok.row b g sz pu s h2
 ·intro b b' g g' sz sz' pu pu' s s' L L' h1 h2 e1 e2 v1 v2 hB;rcases rowAt b g sz pu s h1 with ⟨k1,k2⟩|⟨k1,k2⟩ <;> rcases rowAt b' g' sz' pu' s' h2 with ⟨k3,k4⟩|⟨k3,k4⟩
  ·rw [sameρ b g k1 (lt _ _ _ _ _ k2)] at e1;rw [sameρ b' g' k3 (lt _ _ _ _ _ k4)] at e2;exact h.hok.inj b b' g g' sz sz' pu pu' s s' L L' k2 k4 e1 e2 v1 v2 hB
  ·exact absurd hB (cross b b' g g' sz sz' pu pu' s s' L L' k1 k2 k4 e1 e2 v1 v2)
  ·exact absurd hB.symm (cross b' b g' g sz' sz pu' pu s' s L' L k3 k4 k2 e2 e1 v2 v1)
  ·exact h'.hok.inj b b' g g' sz sz' pu pu' s s' L L' k2 k4 e1 e2 v1 v2 hB
 ·intro b g sz pu s hr g' hg';rcases rowAt b g sz pu s hr with ⟨k1,k2⟩|⟨k1,k2⟩
  ·rw [sameρ b g' k1 (lt _ _ _ _ _ k2)];exact h.hok.gen b g sz pu s k2 g' hg'
  ·exact h'.hok.gen b g sz pu s k2 g' hg'
 ·rw [hb b];split
  ·exact h.dead b (Nat.le_trans hg.le hbb)
  ·exact h'.dead b hbb
 ·refine ⟨h'.keep.os.trans h.keep.os,h'.keep.tape.trans h.keep.tape,h'.keep.output.trans h.keep.output,Nat.le_trans h.keep.size h'.keep.size,fun B hU hB=>?_⟩
  rw [h'.keep.block B (.inr (.inr (.inr ⟨hU,hB⟩))) (Nat.lt_of_lt_of_le hB h.keep.size)];exact h.keep.block B hU hB
 ·intro B i v hv;rcases h'.memN B i v hv with h1|h1|h1
  ·exact h.memN B i v h1
  ·exact .inr (.inl (Nat.le_trans h.keep.size h1))
  ·by_cases hU:U.U B
   ·rcases Nat.lt_or_ge B w0.heap.size with hlt|hge
    ·exact absurd (.inr (.inr (.inr ⟨hU,hlt⟩))) h1
    ·exact .inr (.inl hge)
   ·exact .inr (.inr hU)
 ·intro b g sz pu s L hr hL hv hU;rcases rowAt b g sz pu s hr with ⟨k1,k2⟩|⟨k1,k2⟩
  ·rw [sameρ b g k1 (lt _ _ _ _ _ k2)] at hL;exact h.own b g sz pu s L k2 hL hv hU
  ·rcases Nat.lt_or_ge L.B w0.heap.size with hlt|hge
   ·have:=h'.own b g sz pu s L k2 hL hv (.inr (.inr (.inr ⟨hU,hlt⟩)));have:=h.keep.size;omega
   ·exact hge
 ·intro b st r L hr hL hU;rcases loopAt b st r hr with ⟨k1,k2⟩|⟨k1,k2⟩
  ·rw [sameρ b 0 k1 (ltL _ _ _ k2)] at hL;exact h.ownL b st r L k2 hL hU
  ·rcases Nat.lt_or_ge L.B w0.heap.size with hlt|hge
   ·have:=h'.ownL b st r L k2 hL (.inr (.inr (.inr ⟨hU,hlt⟩)));have:=h.keep.size;omega
   ·exact hge
 ·intro b g h1 h2;by_cases hbR:b∈R
  ·exact sameρ b g hbR h1
  ·exact hg.rx.dead b g h1 (by rw [hm b,if_neg hbR]; exact h2)
 ·intro b h1 h2;rw [hb b];split
  ·exact h2
  ·rename_i hbR;exact hg.dead b h1 (by rw [hm b,if_neg hbR]; exact h2)
end
theorem maskK_eq:∀ (R:List Nat) (hp:T Blk) (K:T Blk->VT),∃ hp',maskK hp R K=K hp'/\∀ b,hp'.get .dead b=if b∈R then .dead else hp.get .dead b
 | [],hp,K=>⟨hp,rfl,fun b=>by simp⟩
 | b0::r,hp,K=>by
  simp only [maskK,T.setK_eq];obtain ⟨hp',h1,h2⟩:=maskK_eq r (hp.set .dead b0 .dead) K;refine ⟨hp',h1,fun b=>?_⟩
  rw [h2 b,T.set_get];by_cases hb:b=b0 <;> by_cases hr:b∈r <;> simp [hb,hr]
theorem backK_eq (old:T Blk):∀ (R:List Nat) (hp:T Blk) (K:T Blk->VT),∃ hp',backK old hp R K=K hp'/\∀ b,hp'.get .dead b=if b∈R then old.get .dead b else hp.get .dead b
 | [],hp,K=>⟨hp,rfl,fun b=>by simp⟩
 | b0::r,hp,K=>by
  simp only [backK,T.setK_eq];obtain ⟨hp',h1,h2⟩:=backK_eq old r (hp.set .dead b0 (old.get .dead b0)) K;refine ⟨hp',h1,fun b=>?_⟩
  rw [h2 b,T.set_get];by_cases hb:b=b0 <;> by_cases hr:b∈r <;> simp [hb,hr]
def memOf (W:World):Mem:=fun B i=>match W.cell? ⟨B,i,none⟩ with
 | some v=>if v.oneCell' then some v else none
 | none=>none
theorem memOf_some {W:World} {B i:Nat} {v:Value} (h:memOf W B i=some v):W.cell? ⟨B,i,none⟩=some v/\v.oneCell'=true:=by
 unfold memOf at h;split at h
 ·rename_i w hw;split at h
  ·cases h; exact ⟨hw,by assumption⟩
  ·cases h
 ·cases h
theorem memOf_mk {W:World} {B i:Nat} {v:Value} (h:W.cell? ⟨B,i,none⟩=some v) (hv:v.oneCell'=true):memOf W B i=some v:=by
 simp [memOf,h,hv]
theorem DfL.nil {ρ ρ':Rho} {M M':Mem}:∀ {ds:List Deferred},DfL ρ M ds []->DfL ρ' M' ds []
 | [],h=>h
 | d::ds,h=>by
  unfold DfL at h ⊢;cases e:d.target with
  | collected b=>rw [e] at h; exact DfL.nil (ds:=ds) h
  | fn f cap=>rw [e] at h; exact h
  | nil=>rw [e] at h; exact h
  | builtin b cs=>rw [e] at h; exact h
  | coroexit=>rw [e] at h; exact h
section
variable {U:Base} {w0:World} {n:Nat} {ρ:Rho} {M:Mem} {tm:Nat->AV} {hp:Nat->Blk} {nx:Nat} {a:Act} {w:World}
theorem SRel.setTm (h:SRel U w0 n ρ M tm hp nx a w) {tm':Nat->AV} (ht:∀ t,Rel ρ M (a.tmps.getD t Go.undef) (tm' t)) (hd:DfL ρ M a.defers (dfL (tm' slotD))):SRel U w0 n ρ M tm' hp nx a w :=
 ⟨h.size,ht,h.hok,h.dead,h.free,h.keep,h.memN,h.memE,h.own,h.nle,h.ownL,hd,h.marks,h.mown,h.nod,h.ext⟩
theorem RowOK.mono {ρ ρ':Rho} {M M':Mem} {w w':World} {b g sz:Nat} {pu:Bool} {s:Sq} (h:RowOK ρ M w b g sz pu s) (hρ:RExt ρ ρ') (hM:MExt M M') (hn:∀ L,ρ b g=some L->L.virt=false->∀ i v,M' L.B i≠some v)
  (hw:∀ L,ρ b g=some L->L.virt=false->L.B<w.heap.size->w'.heap[L.B]?=w.heap[L.B]?):RowOK ρ' M' w' b g sz pu s:=by
 obtain ⟨L,h1,h2,h3,h4⟩:=h;refine ⟨L,hρ _ _ _ h1,h2,h3,?_⟩;rcases h4 with h4|⟨hv,c,e,h5,h6,h7,h8,h9⟩
 ·exact .inl h4
 ·refine .inr ⟨hv,c,e,(hw L h1 hv (heap_lt h5)).trans h5,h6,h7,fun i=>?_,fun i hi=>⟨(h9 i hi).1,fun j hj=>?_⟩⟩
  ·cases hm:M' L.B i with
   | none=>rfl
   | some v=>exact absurd hm (hn L h1 hv i v)
  ·obtain ⟨v,m1,m2,m3,m4⟩:=(h9 i hi).2 j hj;exact ⟨v,m1,m2,m3.mono hρ hM,fun hp=>(m4 hp).mono hM⟩
theorem SRel.rowBlk (h:SRel U w0 n ρ M tm hp nx a w) {b g sz pu s L} (e1:hp b=.row g sz pu s) (e2:ρ b g=some L) (e3:L.virt=false):(∃ c e,w.heap[L.B]?=some (.cells c e (0,0)))/\∀ i v,M L.B i≠some v:=by
 obtain ⟨L1,f1,_,_,f4⟩:=h.hok.row b g sz pu s e1;rw [e2] at f1; cases f1;rcases f4 with f4|⟨_,c,e,f4,_,_,f5,_⟩
 ·rw [e3] at f4; cases f4.1
 ·exact ⟨⟨c,e,f4⟩,fun i v hv=>by rw [f5 i] at hv; cases hv⟩
def InR (ρ:Rho) (hp:Nat->Blk) (R:List Nat) (B:Nat):Prop:=∃ b g sz pu s L,b∈R/\hp b=.row g sz pu s/\ρ b g=some L/\L.virt=false/\L.B=B
open Classical in
noncomputable def memR (w:World) (ρ:Rho) (M:Mem) (hp:Nat->Blk) (R:List Nat):Mem:=fun B i=>if InR ρ hp R B then memOf w B i else M B i
theorem SRel.freeze (h:SRel U w0 n ρ M tm hp nx a w) (R:List Nat) {hpm:Nat->Blk} (hm:∀ b,hpm b=if b∈R then .dead else hp b) :
  MExt M (memR w ρ M hp R)/\SRel U w0 n ρ (memR w ρ M hp R) tm hpm nx a w:=by
 have hin:∀ B,InR ρ hp R B->∀ i v,M B i≠some v:=by
  rintro B ⟨b,g,sz,pu,s,L,e0,e1,e2,e3,rfl⟩;exact (h.rowBlk e1 e2 e3).2
 have hext:MExt M (memR w ρ M hp R):=fun B i v hv=>by
  unfold memR;rw [if_neg (fun hB=>hin B hB i v hv)]
  exact hv
 have key:∀ b g sz pu s,hpm b=.row g sz pu s->hp b=.row g sz pu s/\b ∉ R:=by
  intro b g sz pu s hb;rw [hm b] at hb;split at hb
  ·cases hb
  ·exact ⟨hb,‹_›⟩
 have keyL:∀ b st r,hpm b=.loop st r->hp b=.loop st r:=by
  intro b st r hb;rw [hm b] at hb;split at hb
  ·cases hb
  ·exact hb
 have keyF:∀ b d,hpm b=.fam d->hp b=.fam d:=by
  intro b d hb;rw [hm b] at hb;split at hb
  ·cases hb
  ·exact hb
 have mem:∀ B i v,memR w ρ M hp R B i=some v->w.cell? ⟨B,i,none⟩=some v/\v.oneCell'=true:=by
  intro B i v hv;unfold memR at hv;split at hv
  ·exact memOf_some hv
  ·exact h.hok.mem B i v hv
 refine ⟨hext,h.size,fun t=>(h.tm t).mono (RExt.refl ρ) hext,⟨mem,fun b g sz pu s hb=>?_,fun b b' g g' sz sz' pu pu' s s' L L' h1 h2=>h.hok.inj b b' g g' sz sz' pu pu' s s' L L' (key _ _ _ _ _ h1).1 (key _ _ _ _ _ h2).1,fun b g sz pu s hb=>h.hok.gen b g sz pu s (key _ _ _ _ _ hb).1,
   fun b st r hb=>(h.hok.loop b st r (keyL _ _ _ hb)).mono (RExt.refl ρ) hext fun _ _ _ e=>e,fun b b' st st' r r' L L' h1 h2=>h.hok.linj b b' st st' r r' L L' (keyL _ _ _ h1) (keyL _ _ _ h2)⟩,fun b hb=>?_,h.free,h.keep,fun B i v hv=>?_,h.memE.trans hext,
  fun b g sz pu s L hb=>h.own b g sz pu s L (key _ _ _ _ _ hb).1,h.nle,fun b st r L hb=>h.ownL b st r L (keyL _ _ _ hb),h.defers.mono (RExt.refl ρ) hext,h.marks,h.mown,h.nod,?_⟩
 ·obtain ⟨h1,h2⟩:=key _ _ _ _ _ hb;refine (h.hok.row b g sz pu s h1).mono (RExt.refl ρ) hext (fun L hL hv i v hmm=>?_) fun _ _ _ _=>rfl
  unfold memR at hmm;split at hmm
  ·rename_i hB;obtain ⟨b',g',sz',pu',s',L',e0,e1,e2,e3,e4⟩:=hB;have:=h.hok.inj b' b g' g sz' sz pu' pu s' s L' L e1 h1 e2 hL e3 hv e4;exact h2 (this▸e0)
  ·exact (h.rowBlk h1 hL hv).2 i v hmm
 ·rw [hm b];split
  ·rfl
  ·exact h.dead b hb
 ·unfold memR at hv;split at hv
  ·rename_i hB;obtain ⟨b',g',sz',pu',s',L',e0,e1,e2,e3,rfl⟩:=hB;by_cases hU:U.U L'.B
   ·exact .inr (.inl (h.own b' g' sz' pu' s' L' e1 e2 e3 hU))
   ·exact .inr (.inr hU)
  ·exact h.memN B i v hv
 ·refine h.ext.step h.mine_mem rfl rfl rfl (Nat.le_refl _) (fun _ _ _ _ r e=>⟨r,keyL _ _ _ e⟩) (fun b g sz pu s L h1 h2 h3=>.inr ⟨b,g,sz,pu,s,L,(key _ _ _ _ _ h1).1,h2,h3,rfl⟩) (fun _ st r L h1 h2=>.inr ⟨st,r,L,keyL _ _ _ h1,h2,rfl⟩)
   hext (fun B i v hv=>?_) (fun _ hr=>.inl hr) (fun _ h1 h2=>⟨h1,h2⟩) (fun b d e=>⟨keyF b d e,fun _=>rfl⟩) (fun _ _=>.inl rfl)
  unfold memR at hv;split at hv
  ·rename_i hB;obtain ⟨b',g',sz',pu',s',L',e0,e1,e2,e3,e4⟩:=hB;exact .inr (.inr (.inl ⟨b',g',sz',pu',s',L',e1,e2,e3,e4⟩))
  ·exact .inl hv
end
theorem Sq.map_len (h:AV->AV) (s:Sq):(s.map h).len=s.len:=by cases s <;> simp [Sq.map,Sq.len]
theorem Sq.map_get (h:AV->AV) (s:Sq) (i:Nat) (hi:i<s.len):(s.map h).get i=h (s.get i):=by
 cases s with
 | lst l =>
  simp only [Sq.len] at hi;simp [Sq.map,Sq.get,List.getD,hi]
 | fn n f=>rfl
theorem frzXC_eq {d:Nat} {hp:Nat->Blk} {x:AV} (h:gensC hp x=true):frzXC d hp x=frzC d hp x:=by
 cases x with
 | sl b g i len c =>
  cases d with
  | zero=>rfl
  | succ d =>
   simp only [gensC] at h;simp only [frzXC,frzC];split
   ·rename_i hb;rw [hb] at h;rw [if_pos (of_decide_eq_true h)]
   ·rfl
 | _=>rfl
theorem frzXC_map {d:Nat} {hp:Nat->Blk}:∀ {l:List AV},gensCL hp l=true->l.map (frzXC d hp)=l.map (frzC d hp)
 | [],_=>rfl
 | x::l,h=>by
  simp only [gensCL,Bool.and_eq_true] at h;rw [List.map_cons,List.map_cons,frzXC_eq h.1,frzXC_map h.2]
theorem frzXE_eq {d:Nat} {hp:Nat->Blk} {x:AV} (h:gensE hp x=true):frzXE d hp x=frzE d hp x:=by
 cases x
 case agg l=>exact congrArg AV.agg (frzXC_map h)
 case sl b g i len c=>exact frzXC_eq (x:=.sl b g i len c) h
 all_goals rfl
theorem frzXE_map {d:Nat} {hp:Nat->Blk}:∀ {l:List AV},gensEL hp l=true->l.map (frzXE d hp)=l.map (frzE d hp)
 | [],_=>rfl
 | x::l,h=>by
  simp only [gensEL,Bool.and_eq_true] at h;rw [List.map_cons,List.map_cons,frzXE_eq h.1,frzXE_map h.2]
theorem frzX_eq {d:Nat} {hp:Nat->Blk} {x:AV} (h:gensX hp x=true):frzX d hp x=frz d hp x:=by
 cases x
 case tup l=>exact congrArg AV.tup (frzXE_map h)
 case agg l=>exact frzXE_eq (x:=.agg l) h
 case sl b g i len c=>exact frzXE_eq (x:=.sl b g i len c) h
 all_goals rfl
theorem frzY_off {d:Nat} {hp:Nat->Blk} {x:AV} (hx:∀ b g i j,x≠.ptr b g i j):frzY d hp x=frzX d hp x/\gensY hp x=gensX hp x:=by
 cases x <;> first|exact ⟨rfl,rfl⟩|exact absurd rfl (hx _ _ _ _)
theorem frzY_eq {d:Nat} {hp:Nat->Blk} {x:AV} (h:gensY hp x=true):frzY d hp x=frz d hp x:=by
 by_cases hx:∃ b g i j,x=.ptr b g i j
 ·obtain ⟨b,g,i,j,rfl⟩:=hx;cases d with
  | zero=>rfl
  | succ d =>
   show _=frzC (d+1) hp (.ptr b g i j);simp only [gensY] at h;simp only [frzY,frzC];split
   ·rename_i pu s hb;rw [hb] at h;simp only [Bool.and_eq_true,decide_eq_true_eq] at h;rw [if_pos h.1];cases pu with
    | true=>rfl
    | false =>
     show AV.rptr (frzXE d hp (s.get i)) j=AV.rptr (elF (frzC d hp) (s.get i)) j;rw [frzXE_eq h.2];cases s.get i <;> rfl
   ·rfl
 ·obtain ⟨e1,e2⟩:=frzY_off (d:=d) (hp:=hp) fun b g i j e=>hx ⟨b,g,i,j,e⟩
  rw [e2] at h;rw [e1];exact frzX_eq h
theorem frzX_map {d:Nat} {hp:Nat->Blk}:∀ {l:List AV},gensAll hp l=true->l.map (frzX d hp)=l.map (frz d hp)
 | [],_=>rfl
 | x::l,h=>by
  simp only [gensAll,Bool.and_eq_true] at h;rw [List.map_cons,List.map_cons,frzX_eq h.1,frzX_map h.2]
theorem isPureCell_cell {x:AV} (h:x.isPureCell=true):x.cells=[x]:=by cases x <;> simp_all [AV.isPureCell,AV.cells]
theorem Sq.ro_cells (s:Sq) (ex:Bool):(s.ro ex).cells=[s.ro ex]:=by cases s <;> rfl
theorem frzC_cells (d:Nat) (hp:Nat->Blk) (x:AV):(frzC d hp x).cells=[frzC d hp x]:=by
 have pc:∀ y:AV,(bif y.isPureCell then y else AV.undef).cells=[bif y.isPureCell then y else AV.undef]:=fun y=>by
  cases h:y.isPureCell
  ·rfl
  ·exact isPureCell_cell h
 cases d with
 | zero=>exact pc x
 | succ d =>
  cases x with
  | sl b g i len c =>
   simp only [frzC];split
   ·split
    ·exact Sq.ro_cells _ _
    ·rfl
   ·rfl
  | ptr b g i j =>
   simp only [frzC];split
   ·split <;> rfl
   ·rfl
  | fn f a b=>simp only [frzC]; rfl
  | gro b i n f=>simp only [frzC]; rfl
  | _=>simp only [frzC]; exact pc _
theorem frzE_cells (d:Nat) (hp:Nat->Blk) (x:AV):(frzE d hp x).cells=x.cells.map (frzC d hp):=by
 cases x with
 | agg l=>rfl
 | _=>simp only [frzE]; rw [frzC_cells]; rfl
theorem ro_rel {M:Mem} {B o cap sz:Nat} {s:Sq} {ex:Bool} (hc:s.len<=cap) (hcm:cap<=maxLen) (hex:ex=true->cap=s.len)
  (hz:∀ i,i<s.len->(s.get i).cells.length=sz) (hm:∀ i j,i<s.len->j<sz->∃ v,M B (o+i * sz+j)=some v/\RelP M v ((s.get i).cells.getD j .undef)) :
  RelP M (.slice (some ⟨B,o,none⟩) s.len cap) (s.ro ex):=by
 have h1:∀ i j,i<s.len->j<sz->M B (o+i * sz+j)=some ((M B (o+i * sz+j)).getD undef):=fun i j hi hj=>by
  obtain ⟨v,hv,_⟩:=hm i j hi hj;rw [hv];rfl
 have h2:∀ i j,i<s.len->j<sz->RelP M ((M B (o+i * sz+j)).getD undef) ((s.get i).cells.getD j .undef):=fun i j hi hj=>by
  obtain ⟨v,hv,hr⟩:=hm i j hi hj;rw [hv];exact hr
 cases s with
 | lst l=>exact .rol B o cap sz l ex (fun i j=>(M B (o+i * sz+j)).getD undef) hc hcm hex hz h1 h2
 | fn n f=>exact .rof B o cap sz n f ex (fun i j=>(M B (o+i * sz+j)).getD undef) hc hcm hex hz h1 h2
theorem ro_rel0 {M:Mem} {a:Option Addr} {s:Sq} {ex:Bool} (hs:s.len=0):RelP M (.slice a 0 0) (s.ro ex):=by
 cases s with
 | lst l =>
  obtain rfl:l=[]:=List.eq_nil_of_length_eq_zero hs;exact .rol0 a 0 ex (by simp) (fun _=>rfl) (fun _=>rfl)
 | fn n f =>
  obtain rfl:n=0:=hs;exact .rof0 a 0 f ex (by simp) (fun _=>rfl) (fun _=>rfl)
section
variable {ρ:Rho} {M M2:Mem} {hp:Nat->Blk} {w:World}
theorem frzC_rel (hok:HOK ρ M hp w) (hM:MExt M M2) (hrow:∀ b g sz pu s L,hp b=.row g sz pu s->ρ b g=some L->L.virt=false->∀ i v,w.cell? ⟨L.B,i,none⟩=some v->v.oneCell'=true->M2 L.B i=some v) :
  ∀ (d:Nat) (v:Value) (x:AV),Rel ρ M v x->RelP M2 v (frzC d hp x):=by
 have pc:∀ (v:Value) (y:AV),Rel ρ M v y->RelP M2 v (bif y.isPureCell then y else AV.undef):=fun v y hr=>by
  cases h:y.isPureCell
  ·exact .undef v
  ·exact (hr.pureCell h).mono hM
 intro d;induction d with
 | zero=>exact fun v x hr=>pc v x hr
 | succ d ih =>
  have el:∀ b g sz pu s,hp b=.row g sz pu s->∀ L,ρ b g=some L->L.virt=false->∀ i,i<s.len->∀ y,y=(bif pu then s.get i else frzE d hp (s.get i)) ->
    y.cells.length=sz/\∀ j,j<sz->∃ v,M2 L.B (L.o+i * sz+j)=some v/\RelP M2 v (y.cells.getD j .undef):=by
   intro b g sz pu s hb L hL hv i hi y hy;obtain ⟨L',e1,e2,e3,e4⟩:=hok.row b g sz pu s hb;rw [hL] at e1;cases e1;rcases e4 with e4|⟨_,c,e,h5,h6,h7,h8,h9⟩
   ·rw [hv] at e4;cases e4.1
   obtain ⟨k1,k2⟩:=h9 i hi;have hcells:y.cells=bif pu then (s.get i).cells else (s.get i).cells.map (frzC d hp):=by
    cases pu with
    | true=>rw [hy]; rfl
    | false=>rw [hy]; exact frzE_cells d hp (s.get i)
   refine ⟨by rw [hcells]; cases pu <;> simp [k1],fun j hj=>?_⟩
   obtain ⟨v,m1,m2,m3,m4⟩:=k2 j hj;refine ⟨v,hrow b g sz pu s L hb hL hv _ v ?_ m2,?_⟩
   ·simp [World.cell?,h5,m1]
   ·rw [hcells];cases pu with
    | true=>exact (m4 rfl).mono hM
    | false =>
     have hlt:j<(s.get i).cells.length:=by omega
     have:=ih v _ m3;simp only [cond_false,List.getD_eq_getElem?_getD,List.getElem?_map,List.getElem?_eq_getElem hlt,Option.map_some,Option.getD_some] at this ⊢;exact this
  intro v x hr;cases x with
  | sl b g i len c =>
   simp only [frzC];cases hb:hp b with
   | dead=>exact .undef v
   | loop st r=>exact .undef v
   | fam d=>exact .undef v
   | row g' sz pu s =>
    simp only [];by_cases hg:g=g'
    ·subst hg;simp only [if_true];have hlen:∀ q:Sq,(puS pu (elF (frzC d hp)) q).len=q.len:=fun q=>by
      cases pu
      ·exact Sq.map_len _ _
      ·rfl
     cases hr with
     | pure h=>cases h
     | sl L _ _ _ _ cap _ h hv hl hc hbb hcm hn =>
      obtain ⟨L',e1,e2,e3,e4⟩:=hok.row b g sz pu s hb;rw [h] at e1;cases e1;have hsub:i+len<=s.len:=by omega
      have hl':=(hlen (s.sub i len)).trans (Sq.sub_len s i len hsub);subst e2;generalize hq:puS pu (elF (frzC d hp)) (s.sub i len)=q at hl' ⊢;have get:∀ k,k<len->q.get k=(bif pu then s.get (i+k) else frzE d hp (s.get (i+k))):=fun k hk=>by
       rw [<- hq];cases pu
       ·simp only [cond_false];show (Sq.map (elF (frzC d hp)) (s.sub i len)).get k=_;rw [Sq.map_get _ _ _ (by rw [Sq.sub_len s i len hsub]; exact hk),Sq.sub_get s i len k hk]
        cases s.get (i+k) <;> rfl
       ·simp only [cond_true];show (s.sub i len).get k=_;rw [Sq.sub_get s i len k hk]
      have hres:=ro_rel (M:=M2) (B:=L.B) (o:=L.o+i * L.sz) (cap:=cap) (sz:=L.sz) (s:=q) (ex:=decide (c=some len)) (by omega) hcm (fun hex=>by
        rw [hl'];exact hc len (of_decide_eq_true hex))
       (fun k hk=>(el b g L.sz pu s hb L h hv (i+k) (by omega) _ (get k (by omega))).1)
       (fun k j hk hj=>by
        obtain ⟨v,hv1,hv2⟩:=(el b g L.sz pu s hb L h hv (i+k) (by omega) _ (get k (by omega))).2 j hj
        refine ⟨v,?_,hv2⟩;rw [<- hv1];congr 1;rw [Nat.add_mul];omega)
      rw [hl'] at hres;exact hres
     | slv L a _ _ _ _ h hc =>
      refine ro_rel0 ((hlen _).trans ?_);cases s <;> simp [Sq.sub,Sq.len]
    ·simp only [hg,if_false];exact .undef v
  | ptr b g i j =>
   simp only [frzC];cases hb:hp b with
   | dead=>exact .undef v
   | loop st r=>exact .undef v
   | fam d=>exact .undef v
   | row g' sz pu s =>
    simp only [];by_cases hg:g=g'/\i<s.len
    ·obtain ⟨rfl,hi⟩:=hg;simp only [hi,and_self,if_true];obtain ⟨L,h,rfl,_⟩:=hr.ptrInv;obtain ⟨L',e1,e2,e3,e4⟩:=hok.row b g sz pu s hb;rw [h] at e1;cases e1;have hv:L.virt=false:=by
      rcases e4 with e4|e4
      ·omega
      ·exact e4.1
     generalize hy:puE pu (elF (frzC d hp)) (s.get i)=y;have hy':y=bif pu then s.get i else frzE d hp (s.get i):=by
      rw [<- hy];cases pu
      ·simp only [cond_false];cases s.get i <;> rfl
      ·rfl
     obtain ⟨k1,k2⟩:=el b g sz pu s hb L h hv i hi y hy';rw [e2];refine .rptr L.B (L.o+i * sz) j y (fun k=>(M2 L.B (L.o+i * sz+k)).getD undef) (fun k hk=>?_) (fun k hk=>?_)
     ·obtain ⟨v,hv1,_⟩:=k2 k (by omega)
      rw [hv1];rfl
     ·obtain ⟨v,hv1,hv2⟩:=k2 k (by omega)
      rw [hv1];exact hv2
    ·simp only [hg,if_false];exact .undef v
  | fn f a b =>
   simp only [frzC];obtain ⟨fs,cs,rfl,h1,h2,h3,h4⟩:=hr.fnInv;refine .fnc f fs cs _ _ (by simpa using h1) (by simpa using h2) (fun i hi=>?_) (fun i hi=>?_)
   ·have hi':i<a.length:=by simpa using hi
    have:=ih _ _ (h3 i hi');simpa [List.getD_eq_getElem?_getD,hi'] using this
   ·have hi':i<b.length:=by simpa using hi
    have:=ih _ _ (h4 i hi');simpa [List.getD_eq_getElem?_getD,hi'] using this
  | gro b i n f=>simp only [frzC]; exact hr.groInv.1.mono hM
  | _=>simp only [frzC]; exact pc v _ hr
theorem frzE_rel (hok:HOK ρ M hp w) (hM:MExt M M2) (hrow:∀ b g sz pu s L,hp b=.row g sz pu s->ρ b g=some L->L.virt=false->∀ i v,w.cell? ⟨L.B,i,none⟩=some v->v.oneCell'=true->M2 L.B i=some v)
  (d:Nat) (v:Value) (x:AV) (h:Rel ρ M v x):RelP M2 v (frzE d hp x):=by
 cases x with
 | agg l =>
  obtain ⟨cs,rfl,hs,hr⟩:=h.aggInv;refine .agg cs _ (by simp [hs]) fun i hi=>?_
  have hi':i<l.length:=by simpa using hi
  have:=frzC_rel hok hM hrow d _ _ (hr i hi');simpa [List.getD_eq_getElem?_getD,hi'] using this
 | _=>simp only [frzE]; exact frzC_rel hok hM hrow d v _ h
theorem frz_rel (hok:HOK ρ M hp w) (hM:MExt M M2) (hrow:∀ b g sz pu s L,hp b=.row g sz pu s->ρ b g=some L->L.virt=false->∀ i v,w.cell? ⟨L.B,i,none⟩=some v->v.oneCell'=true->M2 L.B i=some v)
  (d:Nat) (v:Value) (x:AV) (h:Rel ρ M v x):RelP M2 v (frz d hp x):=by
 cases x with
 | tup l =>
  obtain ⟨cs,rfl,hs,hr⟩:=h.tupInv;refine .tup cs _ (by simp [hs]) fun i hi=>?_
  have hi':i<l.length:=by simpa using hi
  have:=frzE_rel hok hM hrow d _ _ (hr i hi');simpa [List.getD_eq_getElem?_getD,hi'] using this
 | _=>simp only [frz]; exact frzE_rel hok hM hrow d v _ h
end
theorem HOK.only {ρ:Rho} {M:Mem} {hp hp2:Nat->Blk} {w:World} (h:HOK ρ M hp w) (hr:∀ b g sz pu s,hp2 b=.row g sz pu s->hp b=.row g sz pu s) (hl:∀ b st r,hp2 b≠.loop st r):HOK ρ M hp2 w :=
 ⟨h.mem,fun b g sz pu s e=>h.row b g sz pu s (hr _ _ _ _ _ e),fun b b' g g' sz sz' pu pu' s s' L L' e1 e2=>h.inj b b' g g' sz sz' pu pu' s s' L L' (hr _ _ _ _ _ e1) (hr _ _ _ _ _ e2),fun b g sz pu s e=>h.gen b g sz pu s (hr _ _ _ _ _ e),
  fun b st r e=>absurd e (hl b st r),fun b _ st _ r _ _ _ e=>absurd e (hl b st r)⟩
theorem onlyR_row {R:List Nat} {hp:Nat->Blk} {b g sz pu s} (h:onlyR R hp b=.row g sz pu s):b∈R/\hp b=.row g sz pu s:=by
 unfold onlyR at h;split at h
 ·rename_i g' sz' pu' s' e;split at h
  ·rename_i hc;cases h;exact ⟨by simpa using hc,e⟩
  ·cases h
 ·cases h
theorem onlyR_loop {R:List Nat} {hp:Nat->Blk} {b st r}:onlyR R hp b≠.loop st r:=by
 intro h;unfold onlyR at h;split at h
 ·split at h <;> cases h
 ·cases h
section
variable {U:Base} {w0:World} {n:Nat} {ρ:Rho} {M:Mem} {tm:Nat->AV} {hp:Nat->Blk} {nx:Nat} {a:Act} {w:World}
theorem SRel.freezeNew (h:SRel U w0 n ρ M tm hp nx a w) {b g sz m:Nat} {pu:Bool} {q:Sq} (hb:hp b=.row g sz pu q) (hpu:pu=true) {u:Value} {c:Option Nat} (hu:Rel ρ M u (.sl b g 0 m c)) {hpm:Nat->Blk} (hm:∀ c,hpm c=if c=b then .dead else hp c) :
  ∃ M',MExt M M'/\SRel U w0 n ρ M' tm hpm nx a w/\RelP M' u ((q.sub 0 m).ro (fzEx c m)):=by
 have hex:fzEx c m=decide (c=some m):=by
  cases c with
  | none=>rfl
  | some k =>
   rw [Bool.eq_iff_iff];simp only [fzEx,decide_eq_true_eq,Option.some.injEq];exact ⟨Nat.eq_of_beq_eq_true,fun e=>e▸Nat.beq_refl k⟩
 rw [hex];obtain ⟨h1,h2⟩:=h.freeze [b] (hpm:=hpm) (fun c=>by rw [hm c]; simp)
 refine ⟨_,h1,h2,?_⟩;have hok:HOK ρ M (fun c=>if c=b then .row g sz pu q else .dead) w:=by
  have hr:∀ c g' sz' pu' s',(if c=b then Blk.row g sz pu q else .dead)=.row g' sz' pu' s'->hp c=.row g' sz' pu' s':=by
   intro c g' sz' pu' s' e;split at e
   ·rename_i hc; subst hc; cases e; exact hb
   ·cases e
  have hl:∀ c st r,(if c=b then Blk.row g sz pu q else .dead)≠.loop st r:=by
   intro c st r e;split at e <;> cases e
  exact ⟨h.hok.mem,fun c g' sz' pu' s' e=>h.hok.row c g' sz' pu' s' (hr _ _ _ _ _ e),fun b1 b2 g1 g2 sz1 sz2 pu1 pu2 s1 s2 L1 L2 f1 f2=>h.hok.inj b1 b2 g1 g2 sz1 sz2 pu1 pu2 s1 s2 L1 L2 (hr _ _ _ _ _ f1) (hr _ _ _ _ _ f2),
   fun c g' sz' pu' s' e=>h.hok.gen c g' sz' pu' s' (hr _ _ _ _ _ e),fun c st r e=>absurd e (hl c st r),fun b1 b2 st1 st2 r1 r2 L1 L2 f1=>absurd f1 (hl b1 st1 r1)⟩
 have:=frzC_rel hok h1 (fun c g' sz' pu' s' L e1 e2 e3 i v hv hv1=>by
  try simp only at e1
  split at e1
  ·rename_i hc;subst hc;cases e1;unfold memR;rw [if_pos ⟨c,g,sz,pu,q,L,by simp,hb,e2,e3,rfl⟩]
   exact memOf_mk hv hv1
  ·cases e1) 1 u _ hu
 simp only [frzC,if_pos,hpu,puS] at this;simpa using this
theorem SRel.freezeVal (h:SRel U w0 n ρ M tm hp nx a w) (R:List Nat) {hpm:Nat->Blk} (hm:∀ b,hpm b=if b∈R then .dead else hp b) {u:Value} {x:AV} (hu:Rel ρ M u x) (d:Nat) (hg:gensX (onlyR R hp) x=true) :
  ∃ M',MExt M M'/\SRel U w0 n ρ M' tm hpm nx a w/\RelP M' u (frzX d (onlyR R hp) x):=by
 obtain ⟨h1,h2⟩:=h.freeze R hm;refine ⟨_,h1,h2,?_⟩;rw [frzX_eq hg];refine frz_rel (h.hok.only (fun b g sz pu s e=>(onlyR_row e).2) (fun b st r=>onlyR_loop)) h1 (fun b g sz pu s L e1 e2 e3 i v hv hv1=>?_) d u x hu
 obtain ⟨e0,e1⟩:=onlyR_row e1;unfold memR;rw [if_pos ⟨b,g,sz,pu,s,L,e0,e1,e2,e3,rfl⟩];exact memOf_mk hv hv1
theorem SRel.freezeValY (h:SRel U w0 n ρ M tm hp nx a w) (R:List Nat) {hpm:Nat->Blk} (hm:∀ b,hpm b=if b∈R then .dead else hp b) {u:Value} {x:AV} (hu:Rel ρ M u x) (d:Nat) (hg:gensY (onlyR R hp) x=true) :
  ∃ M',MExt M M'/\SRel U w0 n ρ M' tm hpm nx a w/\RelP M' u (frzY d (onlyR R hp) x):=by
 obtain ⟨h1,h2⟩:=h.freeze R hm;refine ⟨_,h1,h2,?_⟩;rw [frzY_eq hg];refine frz_rel (h.hok.only (fun b g sz pu s e=>(onlyR_row e).2) (fun b st r=>onlyR_loop)) h1 (fun b g sz pu s L e1 e2 e3 i v hv hv1=>?_) d u x hu
 obtain ⟨e0,e1⟩:=onlyR_row e1;unfold memR;rw [if_pos ⟨b,g,sz,pu,s,L,e0,e1,e2,e3,rfl⟩];exact memOf_mk hv hv1
end
def FnOK (P : Program) (f : FuncId) : Prop := ∃ fn, P.funcs[f]? = some fn /\ fn.body.isSome = true /\ (fn.name == "runtime.NumGoroutine") = false
def CallPost (U:Base) (w0:World) (n:Nat) (ρ:Rho) (M:Mem) (tm:Nat->AV) (hp:Nat->Blk) (nx:Nat) (a:Act) (K:AV->(Nat->Blk)->Nat->Rho->Mem->Prop) (e:Ending) (w':World):Prop :=
 ∃ v x ρ' M' hp' nx',e=.returned v/\Grow ρ ρ' hp hp' nx nx'/\MExt M M'/\Rel ρ' M' v x/\SRel U w0 n ρ' M' tm hp' nx' a w'/\K x hp' nx' ρ' M'
def ArgsRel (ρ:Rho) (M:Mem) (vals:Array Value) (args:List AV):Prop :=
 vals.size=args.length/\∀ i,i<args.length->Rel ρ M (vals.getD i Go.undef) (args.getD i .undef)
abbrev WF (r:Option Nat):Fence:={ Fence.wide with round:=r }
theorem callsIn_WF {r:Option Nat} {P:Program} {f:FuncId} {args:Array Value} {w:World} {R:Ending->World->Prop}:CallsIn (WF r) 0 P f args w R ↔ Calls P f args w R:=callsIn_wide (n:=0)
theorem wpIn_of {r:Option Nat} {P:Program} {o:Oper} {a:Act} {w:World} {next:Act->World->Prop} {Q:Exit->Act->World->Prop} (hne:deferOf o.op=none)
  (h:o.uponIn (WF r) 0 P a next Q ((execOp a.eval o).run P w)):o.wpIn (WF r) 0 P a w next Q:=by
 refine ⟨fun _ _=>trivial,?_⟩
 rw [Oper.semAt_eq _ _ _ (fun c e=>by rw [e] at hne; cases hne)]
 exact h
def Reach (P:Program) (ρ:Rho) (c:Callee) (vals:Array Value) (w:World) (R:Ending->World->Prop):Prop :=
 match c with
 | .fn f=>FnOK P f/\Calls P f vals w R
 | .dfn f=>FnOK P f/\∀ u,CallsDIn Fence.wide 0 P f vals u w fun e u' w'=>u'=u/\R e w'
 | .rnd b=>∃ L f tmps assign body,ρ b 0=some L/\(Instr.yield L.B vals).run P w=.ok (.round L.B f tmps assign body) w/\RoundIn Fence.wide 0 P L.B f tmps assign body w R
def CallS (P:Program) (gl:Nat->AV) (call:CallH):Prop :=
 ∀ c args hp nx K,(call c args hp nx K).sat->∀ U w0 n ρ M tm a w vals,GlobOK U.M0 gl->SRel U w0 n ρ M tm (fun b=>hp.get .dead b) nx a w->(∀ r∈marksOf a.defers,U.U r/\r<w0.heap.size)->ArgsRel ρ M vals args ->
  Reach P ρ c vals w (CallPost U w0 n ρ M tm (fun b=>hp.get .dead b) nx a fun x hp' nx' _ _=>∃ hpt:T Blk,(∀ b,hpt.get .dead b=hp' b)/\(K x hpt nx').sat)
def OutOK (P:Program) (f:FuncId) (vals:Array Value) (U:Base) (w0:World) (n:Nat) (ρ:Rho) (M:Mem) (tm:Nat->AV) (hp:Nat->Blk) (nx:Nat) (a:Act) (w:World):Out->Prop
 | .ret nd v eff=>nd=true->effOK hp nx eff=true->FnOK P f/\Calls P f vals w fun e w'=>∃ u ρ' M',e=.returned u/\RX ρ ρ' hp nx/\MExt M M'/\Rel ρ' M' u v /\
   SRel U w0 n ρ' M' tm (setEffF hp eff) (newOf nx eff) a w'
 | .ite b t e=>(b=true->OutOK P f vals U w0 n ρ M tm hp nx a w t)/\(b=false->OutOK P f vals U w0 n ρ M tm hp nx a w e)
def IterC (P:Program) (gl:Nat->AV) (h:FuncId) (first cap:List AV) (it:Itr):Prop :=
 ∀ (M:Mem) (W:World) (fs cs:Array Value) (sp:AbsS) (k:Nat) (C T:Nat->Prop),
  GlobOK M gl->MemOK M W->ArgsP M fs first->ArgsP M cs cap->sp.Stable->sp.Law->sp.P=P->sp.n0<=W.heap.size->(∀ B,C B->B<W.heap.size)->C sp.l->(∃ lp,W.heap[sp.l]?=some (.loop lp)) ->
  (∀ B i v,M B i=some v->¬ C B)->(∀ B i v,M B i=some v->B<sp.n0->sp.M0 B i=some v)->(∀ B,T B->∃ i v,M B i=some v)->sp.Φ k C T W ->
  k+it.len<=sp.len->(∀ j M vals,j<it.len->ArgsP M vals (it.el j)->ArgsP M vals (sp.el (k+j))) ->
  FnOK P h/\Calls P h (fs++#[.func (.yield sp.l) #[] #[]]++cs) W fun e W'=>∃ (C' T':Nat->Prop) (u:Value) (M':Mem),
   e=.returned u/\MExt M M'/\MemOK M' W'/\(∀ B i v,M' B i=some v->M B i=some v\/(W.heap.size<=B/\¬ C' B))/\(∀ B,C' B->C B\/W.heap.size<=B)/\(∀ B,T' B->∃ i v,M' B i=some v)/\C' sp.l/\(∀ B,C' B->B<W'.heap.size) /\
   (∃ lp,W'.heap[sp.l]?=some (.loop lp))/\Keep (fun B=>¬ C B) W W' /\
   ((RelP (fun _ _=>none) u it.v1/\sp.Φ (k+it.len) C' T' W')\/(RelP (fun _ _=>none) u it.v2/\∃ k',sp.Ψ k' C' T' W'))
def IterY (P:Program) (gl:Nat->AV) (h:FuncId) (l:Nat) (args:List AV) (it:Itr):Prop :=
 ∀ (M:Mem) (W:World) (vals:Array Value) (sp:AbsS) (k:Nat) (C T:Nat->Prop),sp.l=l ->
  GlobOK M gl->MemOK M W->ArgsP M vals args->sp.Stable->sp.Law->sp.P=P->sp.n0<=W.heap.size->(∀ B,C B->B<W.heap.size)->C sp.l->(∃ lp,W.heap[sp.l]?=some (.loop lp)) ->
  (∀ B i v,M B i=some v->¬ C B)->(∀ B i v,M B i=some v->B<sp.n0->sp.M0 B i=some v)->(∀ B,T B->∃ i v,M B i=some v)->sp.Φ k C T W ->
  k+it.len<=sp.len->(∀ j M vals,j<it.len->ArgsP M vals (it.el j)->ArgsP M vals (sp.el (k+j))) ->
  FnOK P h/\Calls P h vals W fun e W'=>∃ (C' T':Nat->Prop) (u:Value) (M':Mem),
   e=.returned u/\MExt M M'/\MemOK M' W'/\(∀ B i v,M' B i=some v->M B i=some v\/(W.heap.size<=B/\¬ C' B))/\(∀ B,C' B->C B\/W.heap.size<=B)/\(∀ B,T' B->∃ i v,M' B i=some v)/\C' sp.l/\(∀ B,C' B->B<W'.heap.size) /\
   (∃ lp,W'.heap[sp.l]?=some (.loop lp))/\Keep (fun B=>¬ C B) W W' /\
   ((RelP (fun _ _=>none) u it.v1/\sp.Φ (k+it.len) C' T' W')\/(RelP (fun _ _=>none) u it.v2/\∃ k',sp.Ψ k' C' T' W'))
def ItrOK (E:Env):Prop:=(∀ h first cap it,E.itr h first cap=some it->it.nd=true->IterC E.P E.gl h first cap it)/\∀ h l args it,E.itrY h l args=some it->it.nd=true->IterY E.P E.gl h l args it
theorem itr_none {E:Env} (h:E.itr=fun _ _ _=>none) (h2:E.itrY=fun _ _ _=>none:=by rfl):ItrOK E:=⟨fun g first cap it e=>(by rw [h] at e; cases e),fun g l args it e=>(by rw [h2] at e; cases e)⟩
def CtrC (E:Env):Prop :=
 ∀ f args hp nx out,E.ctr f args hp nx=some out->∀ U w0 n ρ M tm a w vals,GlobOK U.M0 E.gl->SRel U w0 n ρ M tm hp nx a w->ArgsRel ρ M vals args->OutOK E.P f vals U w0 n ρ M tm hp nx a w out
def CtrOK (E:Env):Prop:=CtrC E/\ItrOK E
theorem ArgsRel.norm (cl:Bool) {ρ M vals args} (h:ArgsRel ρ M vals args):ArgsRel ρ M vals (AV.normL cl args) :=
 ⟨by rw [AV.normL_length]; exact h.1,fun i hi=>by rw [AV.normL_getD]; exact (h.2 i (by rwa [AV.normL_length] at hi)).norm cl⟩
theorem out_call {P:Program} {cl:Bool}:∀ (out:Out) {f:FuncId} {vals:Array Value} {U w0 n ρ M tm} {hp:T Blk} {nx a w} {K:AV->T Blk->Nat->VT},
  (outVT cl hp nx K out).sat->OutOK P f vals U w0 n ρ M tm (fun b=>hp.get .dead b) nx a w out ->
  FnOK P f/\Calls P f vals w (CallPost U w0 n ρ M tm (fun b=>hp.get .dead b) nx a fun x hp' nx' _ _=>∃ hpt:T Blk,(∀ b,hpt.get .dead b=hp' b)/\(K x hpt nx').sat)
 | .ret nd v eff,f,vals,U,w0,n,ρ,M,tm,hp,nx,a,w,K,hs,ho=>by
  simp only [outVT,VT.sat] at hs;obtain ⟨hnd,hs⟩:=NB.inv hs;split at hs
  ·rename_i he;obtain ⟨h1,h2⟩:=ho hnd he;refine ⟨h1,h2.mono fun e w' ⟨u,ρ',M',h3,h4,h5,h6,h7⟩=>?_⟩
   obtain ⟨hp',h8,h9⟩:=effK_spec cl eff hp (fun hp=>forceN (newOf nx eff) fun nx=>K v hp nx)
   rw [h8,forceN_eq] at hs;refine ⟨u,v,ρ',M',fun b=>hp'.get .dead b,newOf nx eff,h3,⟨h4,newOf_le eff nx,fun b hb hd=>?_,fun b k on sp r e=>?_⟩,h5,h6,h7.hpNorm cl h9,hp',fun _=>rfl,hs⟩
   case refine_2 =>
    refine ⟨k,on,r,setEffF_abs eff _ b k on sp r (effOK_abs he) ?_⟩;rcases h9 b with h10|h10
    ·rw [<- h10]; exact e
    ·rw [e] at h10; exact norm_abs h10.symm
   rcases h9 b with h10|h10
   ·exact h10.trans (effOK_dead he b hb hd)
   ·refine h10.trans ?_;rw [effOK_dead he b hb hd];rfl
  ·exact hs.elim
 | .ite b t e,f,vals,U,w0,n,ρ,M,tm,hp,nx,a,w,K,hs,ho=>by
  simp only [outVT,VT.sat] at hs;rcases VB.inv hs with ⟨hb,hs⟩|⟨hb,hs⟩
  ·exact out_call t hs (ho.1 hb)
  ·exact out_call e hs (ho.2 hb)
def St.put1 (s:St) (dst:Option Tmp) (v:AV):St :=
 match dst with
 | some d=>⟨s.tm.set .undef d v,s.hp,s.nx⟩
 | none=>s
theorem putK_eq (cl:Bool) (s:St) (dst:Option Tmp) (v:AV) (K:St->VT):putK cl s dst v K=K (s.put1 dst (v.norm cl)):=by
 cases dst with
 | none=>rfl
 | some d=>simp only [putK,St.put1,AV.force_eq,T.setK_eq]
def putF (tm:Nat->AV) (dst:Option Tmp) (v:AV):Nat->AV:=fun t=>if dst=some t then v else tm t
theorem put1_tmf (s:St) (dst:Option Tmp) (v:AV):(s.put1 dst v).tmf=putF s.tmf dst v:=by
 funext t;cases dst with
 | none=>simp [St.put1,putF]
 | some d =>
  simp only [St.put1,St.tmf,putF,T.set_get,Option.some.injEq];by_cases h:t=d
  ·simp [h]
  ·simp [h,Ne.symm h]
theorem put1_hpf (s:St) (dst:Option Tmp) (v:AV):(s.put1 dst v).hpf=s.hpf:=by cases dst <;> rfl
theorem put1_nx (s:St) (dst:Option Tmp) (v:AV):(s.put1 dst v).nx=s.nx:=by cases dst <;> rfl
theorem put_getD (a:Act) (dst:Option Tmp) (v:Value) (t:Nat):(a.put dst v).tmps.getD t Go.undef=if dst=some t/\t<a.tmps.size then v else a.tmps.getD t Go.undef:=by
 cases dst with
 | none=>simp [Act.put]
 | some d =>
  simp only [Act.put,Option.some.injEq];by_cases h:d=t
  ·subst h;by_cases hl:d<a.tmps.size
   ·simp [hl]
   ·simp [hl]
  ·simp [h,Array.getElem?_setIfInBounds_ne h]
theorem SRel.put {U w0 n ρ M tm hp nx a w} (h:SRel U w0 n ρ M tm hp nx a w) {dst:Option Tmp} {u:Value} {tm':Nat->AV} (hD:tm' slotD=tm slotD) (ht:∀ t,(dst=some t/\t<n->Rel ρ M u (tm' t))/\(¬ (dst=some t/\t<n)->Rel ρ M (a.tmps.getD t Go.undef) (tm' t))) :
  SRel U w0 n ρ M tm' hp nx (a.put dst u) w:=by
 refine ⟨?_,fun t=>?_,h.hok,h.dead,h.free,h.keep,h.memN,h.memE,h.own,h.nle,h.ownL,?_,?_,?_,?_,?_⟩
 ·cases dst <;> simp [Act.put,h.size]
 ·rw [put_getD,h.size];split
  ·exact (ht t).1 ‹_›
  ·exact (ht t).2 ‹_›
 ·rw [hD];cases dst <;> exact h.defers
 ·cases dst <;> exact h.marks
 ·cases dst <;> exact h.mown
 ·cases dst <;> exact h.nod
 ·cases dst <;> exact h.ext
def OutShape (gd:Option GD) (out:AV):Prop:=∀ m j w x,out=.opt m j w x->∃ d,gd=some d/\m=d.m/\(j,w)=d.g
theorem norm_ne_opt {cl:Bool} {x:AV} (h:∀ m j w y,x≠.opt m j w y):∀ m j w y,x.norm cl≠.opt m j w y:=by
 intro m j w y;cases x <;> simp only [AV.norm] <;> try (intro h'; cases h'; done)
 ·cases cl <;> simp
 ·exact absurd rfl (h _ _ _ _)
theorem shape_wrap (cl:Bool) (gd:Option GD) (v:AV):OutShape gd ((wrapG gd v).norm cl):=by
 intro m j w x hx;cases gd with
 | none=>exact absurd hx (norm_ne_opt (AV.clean_ne v) _ _ _ _)
 | some d =>
  simp only [wrapG,AV.norm_opt,AV.opt.injEq] at hx;exact ⟨d,rfl,hx.1.symm,by rw [<- hx.2.1,<- hx.2.2.1]⟩
theorem shape_clean (cl:Bool) (gd:Option GD) (v:AV):OutShape gd (v.clean.norm cl):=fun _ _ _ _ hx=>absurd hx (norm_ne_opt (AV.clean_ne v) _ _ _ _)
theorem RI.put {ops:Array Oper} {asg:List Nat} {tm:Nat->AV} {o:Oper} {gd:Option GD} {out:AV} (hRI:RI ops asg tm) (hgd:gdIs ops asg tm o gd) (hsh:OutShape gd out) {n:Nat} (hd:dstOK n asg o.dst=true) :
  RI ops (o.dst.toList++asg) (putF tm o.dst out):=by
 cases hdst:o.dst with
 | none =>
  have:putF tm none out=tm:=by funext t; simp [putF]
  rw [this]; exact hRI
 | some t0 =>
  rw [hdst] at hd;simp only [dstOK,Bool.and_eq_true,decide_eq_true_eq,Bool.not_eq_true'] at hd;have h0:t0 ∉ asg:=by simpa using hd.2
  have hpf:putF tm (some t0) out=fun t=>if t=t0 then out else tm t:=by
   funext t; simp only [putF,Option.some.injEq];by_cases h:t=t0
   ·simp [h]
   ·simp [h,Ne.symm h]
  rw [hpf];intro t ht m j w x hx;simp only [Option.toList,List.singleton_append,List.mem_cons] at ht;by_cases htt:t=t0
  ·subst htt;simp only [if_true] at hx;obtain ⟨d,hgd',rfl,hq⟩:=hsh m j w x hx;subst hgd';exact ⟨d.l,by rw [hq]; exact guards_put h0 20 d.g _ hgd.2⟩
  ·simp only [if_neg htt] at hx;obtain ⟨l,hl⟩:=hRI t (ht.resolve_left htt) m j w x hx;exact ⟨l,guards_put h0 20 _ _ hl⟩
theorem vcQuiet_inv {E:Env} {ops:Array Oper} {asg:List Nat} {o:Oper} {gd:Option GD} {s:St} {K:St->VT} (h:(vcQuiet E ops asg o gd s K).sat) :
  ∃ out,QOK E.P E.gl ops asg s.tmf s.hpf s.nx E.cl gd o out/\OutShape gd out/\(K (s.put1 o.dst out)).sat:=by
 unfold vcQuiet at h;split at h
 ·rename_i nd v ob hs;rw [putK_eq] at h;have key:∀ (hh:metG gd=true->nd=true/\∀ p,ob=some p->p) (hk:(K (s.put1 o.dst ((wrapG gd v).norm E.cl))).sat),
    ∃ out,QOK E.P E.gl ops asg s.tmf s.hpf s.nx E.cl gd o out/\OutShape gd out/\(K (s.put1 o.dst out)).sat:=by
   intro hh hk;refine ⟨_,⟨fun hm=>?_,fun hm=>?_⟩,shape_wrap E.cl gd v,hk⟩
   ·obtain ⟨h1,h2⟩:=hh hm;exact ⟨v,ob,by rw [hs,h1],h2,rfl⟩
   ·cases gd with
    | none=>simp [metG] at hm
    | some d=>exact ⟨d,_,rfl,by simp only [wrapG,AV.norm_opt]; rfl⟩
  cases gd with
  | none =>
   simp only [needG,VT.sat] at h;obtain ⟨hnd,h⟩:=NB.inv h;cases ob with
   | none=>exact key (fun _=>⟨hnd,fun p hp=>by cases hp⟩) h
   | some p=>exact key (fun _=>⟨hnd,fun p' hp'=>by cases hp'; exact h.1⟩) h.2
  | some d =>
   simp only [needG,VT.sat] at h;obtain ⟨hnd,h⟩:=NB.inv h;have himp:metG (some d)=true->nd=true:=by
    intro hm;simp only [metG] at hm;rw [hm] at hnd;cases nd
    ·simp [impB] at hnd
    ·rfl
   cases ob with
   | none=>exact key (fun hm=>⟨himp hm,fun p hp=>by cases hp⟩) h
   | some p=>exact key (fun hm=>⟨himp hm,fun p' hp'=>by cases hp'; exact h.1 hm⟩) h.2
 ·cases gd with
  | none=>exact h.elim
  | some d =>
   simp only [splitG,VT.sat] at h;rcases VB.inv h with ⟨_,h⟩|⟨hb,h⟩
   ·exact h.elim
   ·rw [offG,putK_eq] at h;refine ⟨_,⟨fun hm=>?_,fun hm=>⟨d,_,rfl,AV.norm_opt ..⟩⟩,?_,h⟩
    ·simp only [metG] at hm; rw [hb] at hm; cases hm
    ·intro m j w x hx;simp only [AV.norm_opt,AV.opt.injEq] at hx;exact ⟨d,rfl,hx.1.symm,by rw [<- hx.2.1,<- hx.2.2.1]⟩
section
variable {P:Program} {o:Oper} {a:Act} {w:World}
theorem run_call {f:Operand} {args:Array Operand} {ts:Array TypeId} (ho:o.op=.call { callee:=.value f,args:=args,argTypes:=ts }) {g:FuncId} {first cap:Array Value} (hf:a.eval f=.func (.func g) first cap)
  (hfn:FnOK P g):(execOp a.eval o).run P w=.ok (.enter g (first++args.map a.eval++cap)) w:=by
 obtain ⟨fn,h1,h2,h3⟩:=hfn;have h4:fn.body≠none:=by intro hb; rw [hb] at h2; cases h2
 have h5 : fn.name ≠ "runtime.NumGoroutine" := by simpa using h3
 simp [execOp,ho,resolve,hf,Deferred.ofValue,invoke,callFunc,h1,h5,h4]
theorem run_round {f:Operand} {args:Array Operand} {ts:Array TypeId} (ho:o.op=.call { callee:=.value f,args:=args,argTypes:=ts }) {l:Nat} (hf:a.eval f=.func (.yield l) #[] #[])
  {x:Next} (hy:(Instr.yield l (args.map a.eval)).run P w=.ok x w):(execOp a.eval o).run P w=.ok x w:=by
 simp [execOp,ho,resolve,hf,Deferred.ofValue,invoke,hy]
end
theorem args_rel {ρ M} {a:Act} {ev:Operand->AV} (args:List Operand) (h:∀ x∈args,Rel ρ M (a.eval x) (ev x)):ArgsRel ρ M (args.map a.eval).toArray (args.map ev):=by
 refine ⟨by simp,fun i hi=>?_⟩
 have hi':i<args.length:=by simpa using hi
 have:=h args[i] (List.getElem_mem hi');simpa [hi'] using this
theorem ArgsRel.app {ρ M} {v v':Array Value} {l l':List AV} (h:ArgsRel ρ M v l) (h':ArgsRel ρ M v' l'):ArgsRel ρ M (v++v') (l++l'):=by
 refine ⟨by simp [h.1,h'.1],fun i hi=>?_⟩
 rcases Nat.lt_or_ge i l.length with hl|hl
 ·have:=h.2 i hl;have hv:i<v.size:=by rw [h.1]; exact hl
  rw [List.getD_eq_getElem?_getD,List.getElem?_append_left hl,Array.getD_eq_getD_getElem?,Array.getElem?_append_left hv];rw [List.getD_eq_getElem?_getD,Array.getD_eq_getD_getElem?] at this;exact this
 ·have hi2:i - l.length<l'.length:=by simp at hi; omega
  have:=h'.2 (i - l.length) hi2;have hv:v.size<=i:=by rw [h.1]; exact hl
  rw [List.getD_eq_getElem?_getD,List.getElem?_append_right hl];rw [Array.getD_eq_getD_getElem?,Array.getElem?_append_right hv,h.1];rw [List.getD_eq_getElem?_getD,Array.getD_eq_getD_getElem?] at this;exact this
section
variable {E:Env} {U:Base} {w0:World} {n:Nat} {ρ:Rho} {M:Mem} {tmX:Nat->AV} {a:Act} {w:World} {ops:Array Oper} {asg:List Nat} {o:Oper} {gd:Option GD} {s:St} {call:CallH} {R:List Nat} {K:EvI->St->VT}
def EvK (U:Base) (w0:World) (n:Nat) (ρ:Rho) (M:Mem) (tmX:Nat->AV) (a:Act) (gd:Option GD) (o:Oper) (s:St) (R:List Nat) (K:EvI->St->VT) (u:Value) (w':World):Prop :=
 ∃ (inf:EvI) (out:AV) (s':St) (ρ':Rho) (M':Mem),s'.tm=s.tm/\OutShape gd out/\SlotOK ρ' M' u out/\Grow ρ ρ' s.hpf s'.hpf s.nx s'.nx/\MExt M M'/\SRel U w0 n ρ' M' tmX s'.hpf s'.nx a w' /\
  (evB R inf=true->∀ b∈R,s'.hpf b=s.hpf b)/\(K inf (s'.put1 o.dst out)).sat
theorem fzOf_eq {fz:List Tmp} {dst:Option Tmp} {nx:Nat} {v:AV} {eff:List (Nat×Blk)} {v':AV} (h:fzOf fz dst nx v eff=some v') :
  ∃ g sz pu q m c,eff=[(nx,.row g sz pu q)]/\v=.sl nx g 0 m c/\v'=(q.sub 0 m).ro (fzEx c m)/\pu=true:=by
 unfold fzOf at h;split at h
 ·cases h
 ·split at h
  ·split at h
   ·split at h
    ·split at h
     ·rename_i hd;obtain ⟨rfl,rfl,rfl,rfl⟩:=of_decide_eq_true hd;cases h;exact ⟨_,_,_,_,_,_,rfl,rfl,rfl,rfl⟩
     ·cases h
    ·cases h
   ·cases h
  ·cases h
theorem apZ_sound {E:Env} {o:Oper} {U:Base} {w0:World} {n:Nat} {ρ:Rho} {M:Mem} {tm:Nat->AV} {s:St} {a:Act} {w:World} (h:SRel U w0 n ρ M tm s.hpf s.nx a w) (ev:Operand->AV) (hx:∀ x∈o.op.operands,Rel ρ M (a.eval x) (ev x)) {nd v}
  (hs:apZ E o ev s=some (nd,v)) (hn:nd=true) :
  (∃ g sz m m' F,OpOut E.P o U w0 n ρ M tm s.hpf s.nx a w (.sl s.nx g 0 m none) [(s.nx,.row g sz true (.fn m' F))]/\v=.rof m F false) \/
   (∃ u,(execOp a.eval o).run E.P w=.ok (.value u) w/\RelP M u v):=by
 unfold apZ at hs;split at hs
 ·cases hs
 split at hs
 ·cases hs
 split at hs
 ·cases hs
 split at hs
 case h_2=>cases hs
 rename_i c hop;split at hs
 case h_2=>cases hs
 rename_i ts t2 q x hc1 hc2 hc3;split at hs
 case h_2=>cases hs
 rename_i ht2;have e2:c.argTypes=#[ts,t2]:=by
  rw [<- Array.toList_inj];exact hc2
 have e3:c.args=#[q,x]:=by
  rw [<- Array.toList_inj];exact hc3
 have e:o.op=.call { callee:=.builtin .append,args:=#[q,x],argTypes:=#[ts,t2] }:=by
  rw [hop];obtain ⟨c1,c2,c3⟩:=c;simp only at hc1 e2 e3;subst hc1 e2 e3;rfl
 have hq:q∈o.op.operands:=by rw [e]; simp [Op.operands,Call.operands]
 have hx':x∈o.op.operands:=by rw [e]; simp [Op.operands,Call.operands]
 rcases step_appendZ h ts t2 q x e ev (hx q hq) (hx x hx') (srcOK_spec ht2) nd v hs hn with k|⟨k1,k2⟩
 ·exact .inl k
 ·exact .inr ⟨_,k1,k2⟩
theorem evSR_sound {E:Env} {o:Oper} {U:Base} {w0:World} {n:Nat} {ρ:Rho} {M:Mem} {tm:Nat->AV} {s:St} {a:Act} {w:World} (h:SRel U w0 n ρ M tm s.hpf s.nx a w) (ev:Operand->AV) (hx:∀ x∈o.op.operands,Rel ρ M (a.eval x) (ev x)) (v eff ob)
  (hs:evSR E o ev s=some ⟨true,v,eff,ob⟩) (hob:∀ p,ob=some p->p):OpOut E.P o U w0 n ρ M tm s.hpf s.nx a w v eff:=by
 unfold evSR at hs;split at hs
 ·rename_i v' eff' hm;cases hs;exact step_mkEff h hm
 ·cases hs
 ·exact stepOp_sound h ev hx true v eff ob hs rfl hob
theorem vcEvent_sound (hc:CallS E.P E.gl call) (hctr:CtrOK E) (hev:evOp o.op=true) (hv:(vcEvent E call R asg o gd s K).sat) (r:Option Nat) (h:SRel U w0 n ρ M tmX s.hpf s.nx a w) (hG:GlobOK U.M0 E.gl)
  (hRI:RI ops asg s.tmf) (hgd:gdIs ops asg s.tmf o gd) (hL:Looks ops asg s.tmf ρ M a o) :
  (metG gd=true->∀ (Kc:Act->World->Prop) (Q:Exit->Act->World->Prop),(∀ u w',EvK U w0 n ρ M tmX a gd o s R K u w'->Kc (a.put o.dst u) w')->o.wpIn (WF r) 0 E.P a w Kc Q) /\
  (metG gd=false->∃ out,OutShape gd out/\(∀ ρ M,SlotOK ρ M Go.undef out)/\(K .pure (s.put1 o.dst out)).sat):=by
 have hne:deferOf o.op=none:=by cases ho:o.op <;> first|rfl|(rw [ho] at hev; cases hev)
 have hx:metG gd=true->∀ x∈o.op.operands,Rel ρ M (a.eval x) (stripO asg (gsOf gd) (evOf E.gl s.tmf) x):=fun hm x hxx =>
  stripO_rel hG h.memE hRI (gd_chain hgd hRI hm) x (fun t ht=>hL t (looks_tmp (ht▸hxx)))
 have off:∀ t:VT,(splitG E.cl gd s o.dst (K .pure) t).sat->(metG gd=true->t.sat)/\(metG gd=false->∃ out,OutShape gd out/\(∀ ρ M,SlotOK ρ M Go.undef out)/\(K .pure (s.put1 o.dst out)).sat):=by
  intro t ht;cases gd with
  | none=>exact ⟨fun _=>ht,fun hm=>by simp [metG] at hm⟩
  | some d =>
   simp only [splitG,VT.sat] at ht;rcases VB.inv ht with ⟨hb,ht⟩|⟨hb,ht⟩
   ·exact ⟨fun _=>ht,fun hm=>by simp only [metG] at hm; rw [hb] at hm; cases hm⟩
   ·refine ⟨fun hm=>(by simp only [metG] at hm; rw [hb] at hm; cases hm),fun _=>?_⟩
    rw [offG,putK_eq] at ht;refine ⟨_,?_,?_,ht⟩
    ·intro m j w x hx;simp only [AV.norm_opt,AV.opt.injEq] at hx;exact ⟨d,rfl,hx.1.symm,by rw [<- hx.2.1,<- hx.2.2.1]⟩
    ·intro ρ M;rw [AV.norm_opt,hb];exact ⟨fun hh=>(by cases hh),fun _=>rfl⟩
 unfold vcEvent at hv;simp only at hv;split at hv
 ·obtain ⟨h1,h2⟩:=off _ hv;exact ⟨fun hm=>(h1 hm).elim,h2⟩
 ·rename_i f args htgt;rw [AV.forceL_eq] at hv;have hcall:metG gd=true->∃ fo as ts vals,o.op=.call { callee:=.value fo,args:=as,argTypes:=ts }/\ArgsRel ρ M vals (AV.normL E.cl args) /\
    (FnOK E.P f->(execOp a.eval o).run E.P w=.ok (.enter f vals) w):=by
   intro hm;have hx:=hx hm;unfold targetOf at htgt;split at htgt
   ·rename_i fo as ts ho;split at htgt
    ·rename_i g first cap hfo;simp only [Target.fn.injEq] at htgt;obtain ⟨rfl,rfl⟩:=htgt;have h1:=hx fo (by simp [ho,Op.operands,Call.operands])
     rw [hfo] at h1;obtain ⟨fs,cs,h2,h3,h4,h5,h6⟩:=h1.fnInv;refine ⟨fo,as,ts,fs++as.map a.eval++cs,ho,ArgsRel.norm E.cl (ArgsRel.app (ArgsRel.app ⟨h3,h5⟩ ?_) ⟨h4,h6⟩),fun hfn=>run_call ho h2 hfn⟩
     have:=args_rel (ρ:=ρ) (M:=M) (a:=a) (ev:=stripO asg (gsOf gd) (evOf E.gl s.tmf)) as.toList (fun x hxx=>hx x (by simp [ho,Op.operands,Call.operands]; exact .inr (by simpa using hxx)))
     have e:(List.map a.eval as.toList).toArray=as.map a.eval:=by rw [<- Array.toList_map,Array.toArray_toList]
     rw [e] at this;exact this
    ·cases htgt
    ·cases htgt
   ·cases htgt
   ·cases htgt
   ·cases htgt
  have enter:∀ (vals:Array Value) (hr:(execOp a.eval o).run E.P w=.ok (.enter f vals) w) (Post:Ending->World->Prop) (hcl:Calls E.P f vals w Post) (Kc:Act->World->Prop) (Q:Exit->Act->World->Prop),
    (∀ e w',Post e w'->∃ u,e=.returned u/\Kc (a.put o.dst u) w')->o.wpIn (WF r) 0 E.P a w Kc Q:=by
   intro vals hr Post hcl Kc Q hk;refine wpIn_of hne ?_;rw [hr,Oper.uponIn_enter];refine ⟨fun e=>(by cases e),callsIn_WF.2 (hcl.mono fun e w' hp=>?_)⟩
   obtain ⟨u,rfl,hk⟩:=hk e w' hp;exact hk
  split at hv
  ·rename_i nd v hctr';have hv':(metG gd=true->nd=true)/\(K .pure (s.put1 o.dst ((wrapG gd v).norm E.cl))).sat:=by
    cases gd with
    | none =>
     simp only [needG,VT.sat] at hv;obtain ⟨hnd,hv⟩:=NB.inv hv;rw [putK_eq] at hv;exact ⟨fun _=>hnd,hv⟩
    | some d =>
     simp only [needG,VT.sat] at hv;obtain ⟨hnd,hv⟩:=NB.inv hv;rw [putK_eq] at hv;refine ⟨fun hm=>?_,hv⟩
     simp only [metG] at hm;rw [hm] at hnd;cases nd
     ·simp [impB] at hnd
     ·rfl
   refine ⟨fun hm Kc Q hk=>?_,fun hm=>⟨_,shape_wrap E.cl gd v,?_,hv'.2⟩⟩
   ·obtain ⟨fo,as,ts,vals,ho,hargs,hrun⟩:=hcall hm;obtain ⟨hfn,hcl⟩:=hctr.1 f _ _ _ _ hctr' U w0 n ρ M tmX a w vals hG h hargs (hv'.1 hm) (by simp [effOK])
    refine enter vals (hrun hfn) _ hcl Kc Q (fun e w' ⟨u,ρ',M',h1,h2,h3,h4,h5⟩=>⟨u,h1,hk u w' ?_⟩)
    exact ⟨.pure,_,s,ρ',M',rfl,shape_wrap E.cl gd v,slot_wrap E.cl hm h4,⟨h2,Nat.le_refl _,fun _ _ hd=>hd,fun _ k on _ r e=>⟨k,on,r,e⟩⟩,h3,h5,fun _ _ _=>rfl,hv'.2⟩
   ·intro ρ M;cases gd with
    | none=>simp [metG] at hm
    | some d =>
     simp only [metG] at hm;simp only [wrapG,AV.norm_opt];exact ⟨fun hh=>(by rw [hm] at hh; cases hh),fun _=>rfl⟩
  ·obtain ⟨h1,h2⟩:=off _ hv;refine ⟨fun hm Kc Q hk=>?_,h2⟩
   have hv2:=h1 hm;split at hv2
   case h_2=>exact hv2.elim
   rename_i hokR;obtain ⟨fo,as,ts,vals,ho,hargs,hrun⟩:=hcall hm;obtain ⟨hpm,hm1,hm2⟩:=maskK_eq R s.hp (fun hp=>call (.fn f) (AV.normL E.cl args) hp s.nx fun v hp nx=>backK s.hp hp R fun hp=>putK E.cl ⟨s.tm,hp,nx⟩ o.dst v.clean (K .pure))
   rw [hm1] at hv2;have hmask:=h.mask R (hpm:=fun b=>hpm.get .dead b) hm2
   obtain ⟨hfn,hcl⟩:=hc (.fn f) _ hpm s.nx _ hv2 _ w n ρ M tmX a w vals (fun g=>(hG g).mono h.memE) hmask (h.mask_marks R) hargs
   refine enter vals (hrun hfn) _ hcl Kc Q (fun e w' ⟨u,x,ρ',M',hp',nx',k1,k2,k3,k4,k5,hpt,k6,k7⟩=>⟨u,k1,hk u w' ?_⟩)
   obtain ⟨hpb,m1,m2⟩:=backK_eq s.hp R hpt (fun hp=>putK E.cl ⟨s.tm,hp,nx'⟩ o.dst x.clean (K .pure))
   rw [m1,putK_eq] at k7;obtain ⟨k8,k9⟩:=h.unmask R (hpm:=fun b=>hpm.get .dead b) (hp':=fun b=>hpb.get .dead b) hm2 k5 k2 k3 (fun b=>by
    rw [m2 b];split
    ·rfl
    ·exact k6 b) (fun b hb=>by have:=List.all_eq_true.1 hokR b hb; simp only [Bool.and_eq_true] at this; exact this)
   exact ⟨.pure,_,⟨s.tm,hpb,nx'⟩,ρ',M',rfl,shape_clean E.cl gd x,SlotOK.norm E.cl (slot_of_rel k4.clean (AV.clean_ne x)),k9,k3,k8,fun _ b hb=>by
    show hpb.get .dead b=_;rw [m2 b,if_pos hb]; rfl,k7⟩
 ·rename_i b args htgt;rw [AV.forceL_eq] at hv;obtain ⟨h1,h2⟩:=off _ hv;refine ⟨fun hm Kc Q hk=>?_,h2⟩
  have hv2:=h1 hm;split at hv2
  case h_2=>exact hv2.elim
  rename_i hokR;have hround:∃ fo as ts L,o.op=.call { callee:=.value fo,args:=as,argTypes:=ts }/\ArgsRel ρ M (as.map a.eval) (AV.normL E.cl args)/\ρ b 0=some L/\a.eval fo=.func (.yield L.B) #[] #[]:=by
   have hx:=hx hm;unfold targetOf at htgt;split at htgt
   ·rename_i fo as ts ho;split at htgt
    ·cases htgt
    ·rename_i b' hfo;simp only [Target.rnd.injEq] at htgt;obtain ⟨rfl,rfl⟩:=htgt;have h1:=hx fo (by simp [ho,Op.operands,Call.operands])
     rw [hfo] at h1;obtain ⟨L,h2,h3⟩:=h1.yldInv;refine ⟨fo,as,ts,L,ho,ArgsRel.norm E.cl ?_,h2,h3⟩
     have:=args_rel (ρ:=ρ) (M:=M) (a:=a) (ev:=stripO asg (gsOf gd) (evOf E.gl s.tmf)) as.toList (fun x hxx=>hx x (by simp [ho,Op.operands,Call.operands]; exact .inr (by simpa using hxx)))
     have e:(List.map a.eval as.toList).toArray=as.map a.eval:=by rw [<- Array.toList_map,Array.toArray_toList]
     rw [e] at this;exact this
    ·cases htgt
   ·cases htgt
   ·cases htgt
   ·cases htgt
  obtain ⟨fo,as,ts,L,ho,hargs,hL0,hfo⟩:=hround;obtain ⟨hpm,hm1,hm2⟩:=maskK_eq R s.hp (fun hp=>call (.rnd b) (AV.normL E.cl args) hp s.nx fun v hp nx=>backK s.hp hp R fun hp=>putK E.cl ⟨s.tm,hp,nx⟩ o.dst v.clean (K .pure))
  rw [hm1] at hv2;have hmask:=h.mask R (hpm:=fun b=>hpm.get .dead b) hm2
  obtain ⟨L',f,tmps,assign,body,hL',hy,hcl⟩:=hc (.rnd b) _ hpm s.nx _ hv2 _ w n ρ M tmX a w _ (fun g=>(hG g).mono h.memE) hmask (h.mask_marks R) hargs
  rw [hL0] at hL'; cases hL';refine wpIn_of hne ?_;rw [run_round ho hfo hy,Oper.uponIn_round];refine ⟨fun e=>(by cases e),RoundIn.mono (F:=WF r) (n:=0) hcl fun e w' hp=>?_⟩
  obtain ⟨u,x,ρ',M',hp',nx',rfl,k2,k3,k4,k5,hpt,k6,k7⟩:=hp;refine hk u w' ?_;obtain ⟨hpb,m1,m2⟩:=backK_eq s.hp R hpt (fun hp=>putK E.cl ⟨s.tm,hp,nx'⟩ o.dst x.clean (K .pure))
  rw [m1,putK_eq] at k7;obtain ⟨k8,k9⟩:=h.unmask R (hpm:=fun b=>hpm.get .dead b) (hp':=fun b=>hpb.get .dead b) hm2 k5 k2 k3 (fun b=>by
   rw [m2 b];split
   ·rfl
   ·exact k6 b) (fun b hb=>by have:=List.all_eq_true.1 hokR b hb; simp only [Bool.and_eq_true] at this; exact this)
  exact ⟨.pure,_,⟨s.tm,hpb,nx'⟩,ρ',M',rfl,shape_clean E.cl gd x,SlotOK.norm E.cl (slot_of_rel k4.clean (AV.clean_ne x)),k9,k3,k8,fun _ b hb=>by
   show hpb.get .dead b=_;rw [m2 b,if_pos hb]; rfl,k7⟩
 ·rename_i htgt;obtain ⟨h1,h2⟩:=off _ hv;refine ⟨fun hm Kc Q hk=>?_,h2⟩
  have hv2:=h1 hm;split at hv2
  ·rename_i nd v' haz;simp only [VT.sat] at hv2;obtain ⟨hnd,hv2⟩:=NB.inv hv2;rw [forceN_eq,putK_eq] at hv2
   have fin:∀ u w',((execOp a.eval o).run E.P w=.ok (.value u) w'\/((execOp a.eval o).run E.P w=.ok .skip w'/\u=undef))->EvK U w0 n ρ M tmX a gd o s R K u w'->o.wpIn (WF r) 0 E.P a w Kc Q:=fun u w' hr hfin=>by
    refine wpIn_of hne ?_;rcases hr with hr|⟨hr,hu⟩
    ·rw [hr,Oper.uponIn_value]; exact hk u w' hfin
    ·rw [hr,Oper.uponIn_skip]; subst hu; exact hk _ w' hfin
   rcases apZ_sound (E:=E) h _ (hx hm) haz hnd with ⟨g,sz,m,m',F,hop,rfl⟩|⟨u,hr,hrel⟩
   ·obtain ⟨u,w',ρ',M',hr,m1,m2,m3,m4⟩:=hop;have hn1:newOf s.nx [(s.nx,Blk.row g sz true (.fn m' F))]=s.nx+1:=by simp [newOf]
    rw [hn1] at m4;obtain ⟨M'',f1,f2,f3⟩:=m4.freezeNew (b:=s.nx) (g:=g) (sz:=sz) (m:=m) (pu:=true) (q:=.fn m' F) (by simp [setEffF,updH]) rfl m3 (hpm:=s.hpf) (fun c=>by
     split
     ·rename_i hc; subst hc; exact h.dead _ (Nat.le_refl _)
     ·rename_i hc; simp [setEffF,updH,hc])
    have f4:RelP M'' u (.rof m F false):=by
     have e:((Sq.fn m' F).sub 0 m).ro (fzEx none m)=.rof m (fun k=>F (0+k)) false:=rfl
     rw [e] at f3;have e2:(fun k=>F (0+k))=F:=by funext k; rw [Nat.zero_add]
     rwa [e2] at f3
    exact fin u w' hr ⟨.pure,_,⟨s.tm,s.hp,s.nx+1⟩,ρ',M'',rfl,shape_clean E.cl gd _,SlotOK.norm E.cl (slot_of_rel (Rel.pure f4).clean (AV.clean_ne _)),⟨m1,Nat.le_succ _,fun _ _ hd=>hd,fun _ k on _ r e=>⟨k,on,r,e⟩⟩,m2.trans f1,f2,fun _ _ _=>rfl,hv2⟩
   ·exact fin u w (.inl hr) ⟨.pure,_,⟨s.tm,s.hp,s.nx+1⟩,ρ,M,rfl,shape_clean E.cl gd _,SlotOK.norm E.cl (slot_of_rel (Rel.pure hrel).clean (AV.clean_ne _)),⟨RX.refl ρ _ _,Nat.le_succ _,fun _ _ hd=>hd,fun _ k on _ r e=>⟨k,on,r,e⟩⟩,MExt.refl M,h.more (Nat.le_succ _),fun _ _ _=>rfl,hv2⟩
  split at hv2
  ·rename_i nd v eff hst;simp only [VT.sat] at hv2;obtain ⟨hnd,hv2⟩:=NB.inv hv2;subst hnd;split at hv2
   ·rename_i he;obtain ⟨u,w',ρ',M',hr,m1,m2,m3,m4⟩:=evSR_sound (E:=E) h _ (hx hm) v eff none hst (fun p hp=>by cases hp)
    have fin:EvK U w0 n ρ M tmX a gd o s R K u w'->o.wpIn (WF r) 0 E.P a w Kc Q:=fun hfin=>by
     refine wpIn_of hne ?_;rcases hr with hr|⟨hr,hu⟩
     ·rw [hr,Oper.uponIn_value]; exact hk u w' hfin
     ·rw [hr,Oper.uponIn_skip]; subst hu; exact hk _ w' hfin
    split at hv2
    ·rename_i v' hfz;obtain ⟨g,sz,pu,q,m,cc,rfl,rfl,rfl,hpu⟩:=fzOf_eq hfz;rw [forceN_eq,putK_eq] at hv2;have hn1:newOf s.nx [(s.nx,Blk.row g sz pu q)]=s.nx+1:=by simp [newOf]
     rw [hn1] at m4;obtain ⟨M'',f1,f2,f3⟩:=m4.freezeNew (b:=s.nx) (g:=g) (sz:=sz) (m:=m) (pu:=pu) (q:=q) (by simp [setEffF,updH]) hpu m3 (hpm:=s.hpf) (fun c=>by
      split
      ·rename_i hc; subst hc; exact h.dead _ (Nat.le_refl _)
      ·rename_i hc; simp [setEffF,updH,hc])
     exact fin ⟨.pure,_,⟨s.tm,s.hp,s.nx+1⟩,ρ',M'',rfl,shape_clean E.cl gd _,SlotOK.norm E.cl (slot_of_rel (Rel.pure f3).clean (AV.clean_ne _)),⟨m1,Nat.le_succ _,fun _ _ hd=>hd,fun _ k on _ r e=>⟨k,on,r,e⟩⟩,m2.trans f1,f2,fun _ _ _=>rfl,hv2⟩
    obtain ⟨hp',k1,k0⟩:=effK_eq E.cl eff s.hp (fun hp=>forceN (newOf s.nx eff) fun nx=>putK E.cl ⟨s.tm,hp,nx⟩ o.dst v.clean (K (.eff (eff.map (·.1)))))
    have k2:∀ b,hp'.get .dead b=setEffF (fun b=>s.hp.get .dead b) eff b\/hp'.get .dead b=(setEffF (fun b=>s.hp.get .dead b) eff b).norm E.cl:=fun b=>by
     rw [k0 b];exact setEffF_norm E.cl eff _ _ (fun _=>.inl rfl) b
    rw [k1,forceN_eq,putK_eq] at hv2;replace hv2:(K (.eff (eff.map (·.1))) ((⟨s.tm,hp',newOf s.nx eff⟩:St).put1 o.dst (AV.norm E.cl v.clean))).sat:=hv2;have hfin:EvK U w0 n ρ M tmX a gd o s R K u w':=by
     refine ⟨.eff (eff.map (·.1)),_,⟨s.tm,hp',newOf s.nx eff⟩,ρ',M',rfl,shape_clean E.cl gd v,SlotOK.norm E.cl (slot_of_rel m3.clean (AV.clean_ne v)),⟨m1,newOf_le eff s.nx,fun b hb hd=>?_,fun b k on sp r e=>?_⟩,m2,m4.hpNorm E.cl k2,fun hev b hb=>?_,hv2⟩
     case refine_2 =>
      refine ⟨k,on,r,setEffF_abs eff _ b k on sp r (effOK_abs he) ?_⟩;rcases k2 b with h10|h10
      ·exact h10.symm.trans e
      ·have e':hp'.get .dead b=.loop (.abs k on sp) r:=e;rw [e'] at h10; exact norm_abs h10.symm
     ·rcases k2 b with k3|k3
      ·exact k3.trans (effOK_dead he b hb hd)
      ·refine k3.trans ?_;rw [show setEffF (fun b=>s.hp.get .dead b) eff b=.dead from effOK_dead he b hb hd]
       rfl
     ·show hp'.get .dead b=_;rw [k0 b,setEffF_keeps]
      ·rfl
      ·intro p hp e;obtain ⟨q,hq,rfl⟩:=List.mem_map.1 hp;simp only [evB,disj,List.all_eq_true,Bool.not_eq_true'] at hev;have:=hev b hb;simp only [List.contains_eq_mem,decide_eq_false_iff_not,List.mem_map] at this;exact this ⟨q,hq,e⟩
    exact fin hfin
   ·exact hv2.elim
  ·exact hv2.elim
end
end Pw
