/- ENGINE, part E: each operation does what the abstract step says. -/
import Derived.Test.YtlnpgnipocbfhaaGreatDoorPwA
import Derived.Laws.Bits
import Derived.Laws.StructEq
import Derived.Laws.Slices
import Derived.Laws.BytesString
import Derived.Lib.ConvBytes
import Derived.DeepKeys
import Derived.Laws.Concat
import Derived.Lib.IndexBytes
namespace Pw
open Go
section
variable {P:Program} {o:Oper} {U:Base} {w0:World} {n:Nat} {ρ:Rho} {M:Mem} {tm:Nat->AV} {hp:Nat->Blk} {nx:Nat} {a:Act} {w:World}
theorem run_v (s:Sem Value) (w:World):(do let x <- s; pure (Next.value x):Sem Next).run P w=(s.run P w).andThen fun x w'=>.ok (.value x) w':=by
 simp
theorem run_binInt (op:BinOp) (t:TypeId) (k k':IntKind) (x y:Int) (need:Bool) (v:AV) (eff) (ob)
  (h:binAV P op t (.int k x) (.int k' y)=some ⟨need,v,eff,ob⟩) (hn:need=true) :
  eff=[]/\ob=none/\∃ u,(Go.binOp op t (.int k x) (.int k' y)).run P w=.ok u w/\RelP M u v:=by
 subst hn;cases op
 case shl =>
  simp only [binAV,okN,Option.some.injEq,SR.mk.injEq,decide_eq_true_eq] at h;obtain ⟨h0,rfl,rfl,rfl⟩:=h;exact ⟨rfl,rfl,_,by simp [Go.binOp,Op.shift,show ¬ (y<0) from by omega,shlI],.int k _⟩
 case shr =>
  simp only [binAV,okN,Option.some.injEq,SR.mk.injEq,decide_eq_true_eq] at h;obtain ⟨h0,rfl,rfl,rfl⟩:=h;exact ⟨rfl,rfl,_,by simp [Go.binOp,Op.shift,show ¬ (y<0) from by omega,shrI],.int k _⟩
 all_goals
  simp only [binAV] at h;split at h
  case isFalse=>cases h
  rename_i hk;subst hk
 all_goals
  simp only [okN,ok1,cmpInt,Option.bind_some,Option.bind_none,Option.some.injEq,SR.mk.injEq,bne_iff_ne,ne_eq,reduceCtorEq] at h
 all_goals
  obtain ⟨h0,rfl,rfl,rfl⟩:=h;refine ⟨rfl,rfl,?_⟩
  first
  | (refine ⟨.int k _,?_,.int k _⟩; simp [Go.binOp,Op.intArith,Op.intBits,Op.intDiv,h0,andI,orI,xorI,andNotI]; done)
  | (refine ⟨.bool _,?_,.bool _⟩; simp [Go.binOp,Op.intCmp]; done)
theorem run_eqGuard_plain (op:BinOp) (t:TypeId) (x y:Operand) (u v:Value) (h1:u≠.nilIface) (h2:∀ cs,u≠.agg cs):(eqGuard op t x y u v).run P w=.ok () w:=by
 cases op <;> first|rfl|(cases u <;> first|rfl|exact absurd rfl h1|exact absurd rfl (h2 _))
theorem run_binStr (op:BinOp) (t:TypeId) (x y:List UInt8) (need:Bool) (v:AV) (eff) (ob)
  (h:binAV P op t (.str x) (.str y)=some ⟨need,v,eff,ob⟩) (hn:need=true) :
  eff=[]/\ob=none/\∃ u,(Go.binOp op t (.string ⟨⟨x⟩⟩) (.string ⟨⟨y⟩⟩)).run P w=.ok u w/\RelP M u v:=by
 subst hn;have hl:∀ l:List UInt8,(ByteArray.mk ⟨l⟩).toList=l:=fun l=>by rw [ByteArray.toList_eq]
 cases op
 case add =>
  simp only [binAV,okN,Option.some.injEq,SR.mk.injEq,decide_eq_true_eq] at h;obtain ⟨h0,rfl,rfl,rfl⟩:=h;refine ⟨rfl,rfl,.string ⟨⟨x++y⟩⟩,?_,.str _⟩
  have h1:(ByteArray.mk ⟨x⟩).size+(ByteArray.mk ⟨y⟩).size<=9223372036854775807:=by simp [ByteArray.size]; omega
  have:=run_string_add_sum (P:=P) w (ByteArray.mk ⟨x⟩) (ByteArray.mk ⟨y⟩) h1;simp only [Go.binOp];rw [this,ByteArray.mk_append_mk]
 all_goals
  simp only [binAV,okN,ok1,Option.some.injEq,SR.mk.injEq,reduceCtorEq] at h
 all_goals
  obtain ⟨h0,rfl,rfl,rfl⟩:=h;refine ⟨rfl,rfl,.bool _,?_,.bool _⟩;simp [Go.binOp,Op.stringOp,hl]
theorem run_binBool (op:BinOp) (t:TypeId) (x y:Bool) (need:Bool) (v:AV) (eff) (ob)
  (h:binAV P op t (.bool x) (.bool y)=some ⟨need,v,eff,ob⟩) :
  eff=[]/\ob=none/\∃ u,(Go.binOp op t (.bool x) (.bool y)).run P w=.ok u w/\RelP M u v:=by
 simp only [binAV] at h;split at h
 ·rename_i hu;simp only [ok1,Option.some.injEq,SR.mk.injEq] at h;obtain ⟨h0,rfl,rfl,rfl⟩:=h;exact ⟨rfl,rfl,.bool (x==y),run_eql_bool w t x y hu,.bool _⟩
 ·rename_i hu;simp only [ok1,Option.some.injEq,SR.mk.injEq] at h;obtain ⟨h0,rfl,rfl,rfl⟩:=h;exact ⟨rfl,rfl,.bool (!(x==y)),run_neq_bool w t x y hu,.bool _⟩
 ·cases h
end
theorem eqCells_cons (x y:AV) (l m:List AV):eqCells (x::l) (y::m)=match eqCell x y,eqCells l m with|some a,some b=>some (a&&b)|_,_=>none:=by
 rw [eqCells];cases eqCell x y <;> cases eqCells l m <;> rfl
theorem eqCells_len:∀ (l m:List AV) (r:Bool),eqCells l m=some r->l.length=m.length
 | [],[],_,_=>rfl
 | [],_::_,_,h=>by simp [eqCells] at h
 | _::_,[],_,h=>by simp [eqCells] at h
 | x::l,y::m,r,h=>by
  rw [eqCells_cons] at h;split at h
  ·rename_i a b h1 h2;simp [eqCells_len l m b h2]
  ·cases h
theorem eqCells_append:∀ (a c b d:List AV) (r:Bool),a.length=b.length->eqCells (a++c) (b++d)=some r ->
  ∃ r1 r2,eqCells a b=some r1/\eqCells c d=some r2/\r=(r1&&r2)
 | [],c,[],d,r,_,h=>⟨true,r,by simp [eqCells],h,by simp⟩
 | [],_,_::_,_,_,hl,_=>by simp at hl
 | _::_,_,[],_,_,hl,_=>by simp at hl
 | x::a,c,y::b,d,r,hl,h=>by
  simp only [List.cons_append] at h;rw [eqCells_cons] at h;split at h
  ·rename_i a1 b1 h1 h2;obtain ⟨r1,r2,h3,h4,h5⟩:=eqCells_append a c b d b1 (by simpa using hl) h2
   refine ⟨a1&&r1,r2,?_,h4,?_⟩
   ·rw [eqCells_cons,h1,h3]
   ·cases h; rw [h5,Bool.and_assoc]
  ·cases h
section
variable {P:Program} (w:World)
theorem eq_isAgg {d:TypeDesc} {t:TypeId} (hu:P.underlying t=some d):(isAgg t).run P w=.ok (isAggT P t) w:=by
 unfold isAgg isAggT;rw [Sem.run_bind,run_underlying hu w,hu];cases d <;> rfl
theorem part_vOf {e:TypeId} {d:TypeDesc} (hu:P.underlying e=some d) (hs:isAggT P e=true\/P.cellsOf e=1) (l:List AV) (off:Nat) (h:off+P.cellsOf e<=l.length) :
  (part e (l.map cvA).toArray off).run P w=.ok (vOf (isAggT P e) ((l.drop off).take (P.cellsOf e))) w:=by
 obtain ⟨i,hi⟩:=info_of_underlying hu;unfold part;rw [Sem.run_bind,eq_isAgg w hu];simp only [Result.andThen_ok];cases ha:isAggT P e with
 | true =>
  rw [if_pos rfl,Sem.run_bind,run_sizeOf' hi];simp only [Result.andThen_ok,Sem.run_pure,vOf];congr 2;apply Array.ext';simp [Array.toList_extract,List.extract,List.map_take,List.map_drop]
 | false =>
  have hs1:P.cellsOf e=1:=by rcases hs with hs|hs <;> first|exact hs|(rw [ha] at hs; cases hs)
  have hlt:off<l.length:=by omega
  simp [vOf,hs1,hlt,List.getD]
def EqP (P:Program) (mm dd:Nat) (e:TypeId):Prop :=
 ∀ (w:World) (l m:List AV) (r:Bool),l.length=P.cellsOf e->kindsOK P mm e l=true->eqCells l m=some r ->
  (Op.equalIn dd e (vOf (isAggT P e) l) (vOf (isAggT P e) m)).run P w=.ok r w
theorem drop_drop' (l:List AV) (a b:Nat):(l.drop a).drop b=l.drop (a+b):=by simp
theorem run_eqFieldsP (mm dd:Nat) (l m:List AV) (c:Nat):∀ (fs:List Field) (k:Nat) (r:Bool),
  (∀ f ∈ fs, f.name ≠ "_" /\ (∃ d, P.underlying f.type = some d) /\ (isAggT P f.type = true \/ P.cellsOf f.type = 1) /\ EqP P mm dd f.type /\ kindsOK P mm f.type ((l.drop f.offset).take (P.cellsOf f.type)) = true) ->
  tiles P c fs k=true->l.length=c->m.length=c->k<=c->eqCells (l.drop k) (m.drop k)=some r ->
  (Op.eqFields dd (l.map cvA).toArray (m.map cvA).toArray fs).run P w=.ok r w
 | [],k,r,_,ht,hl,hm,hk,he=>by
  simp only [tiles,beq_iff_eq] at ht;rw [List.drop_eq_nil_of_le (by omega),List.drop_eq_nil_of_le (by omega)] at he
  simp only [eqCells,Option.some.injEq] at he;subst he;simp [Op.eqFields]
 | f::fs,k,r,hall,ht,hl,hm,hk,he=>by
  obtain ⟨hn,⟨d,hu⟩,hs,hE,hK⟩:=hall f (by simp)
  simp only [tiles,Bool.and_eq_true,beq_iff_eq] at ht;obtain ⟨hoff,ht⟩:=ht;have hle:∀ (gs:List Field) (j:Nat),tiles P c gs j=true->j<=c:=by
   intro gs;induction gs with
   | nil=>intro j h; simp only [tiles,beq_iff_eq] at h; omega
   | cons g gs ih=>intro j h; simp only [tiles,Bool.and_eq_true,beq_iff_eq] at h; have:=ih _ h.2; omega
  have hk':=hle fs _ ht;have e1:l.drop k=(l.drop k).take (P.cellsOf f.type)++l.drop (k+P.cellsOf f.type):=by rw [<- drop_drop',List.take_append_drop]
  have e2:m.drop k=(m.drop k).take (P.cellsOf f.type)++m.drop (k+P.cellsOf f.type):=by rw [<- drop_drop',List.take_append_drop]
  rw [e1,e2] at he;obtain ⟨r1,r2,h1,h2,h3⟩:=eqCells_append _ _ _ _ _ (by simp; omega) he
  have ih:=run_eqFieldsP mm dd l m c fs (k+P.cellsOf f.type) r2 (fun g hg=>hall g (by simp [hg])) ht hl hm hk' h2
  have p1:=part_vOf (P:=P) w hu hs l k (by omega)
  have p2:=part_vOf (P:=P) w hu hs m k (by omega)
  have p3:=hE w _ _ r1 (by simp; omega) (by rw [<- hoff]; exact hK) h1
  simp only [Op.eqFields,hn,ne_eq,not_false_eq_true,if_true,Sem.run_bind,hoff,p1,p2,p3,Result.andThen_ok];subst h3;cases r1
  ·simp
  ·simpa using ih
theorem run_eqItemsP (mm dd:Nat) (e:TypeId) (d:TypeDesc) (hu:P.underlying e=some d) (hs:isAggT P e=true\/P.cellsOf e=1) (hE:EqP P mm dd e) (l m:List AV):∀ (n k:Nat) (r:Bool),
  (∀ i∈List.range' k n,kindsOK P mm e ((l.drop (i * P.cellsOf e)).take (P.cellsOf e))=true)->l.length=(k+n) * P.cellsOf e->m.length=(k+n) * P.cellsOf e->eqCells (l.drop (k * P.cellsOf e)) (m.drop (k * P.cellsOf e))=some r ->
  (Op.eqItems dd e (P.cellsOf e) (l.map cvA).toArray (m.map cvA).toArray (List.range' k n)).run P w=.ok r w
 | 0,k,r,hK,hl,hm,he=>by
  rw [List.drop_eq_nil_of_le (by rw [hl]; simp),List.drop_eq_nil_of_le (by rw [hm]; simp)] at he
  simp only [eqCells,Option.some.injEq] at he;subst he;simp [Op.eqItems]
 | n+1,k,r,hK,hl,hm,he=>by
  have hk:k * P.cellsOf e+P.cellsOf e<=(k+(n+1)) * P.cellsOf e:=by
   rw [<- Nat.succ_mul]; exact Nat.mul_le_mul_right _ (by omega)
  have e1:l.drop (k * P.cellsOf e)=(l.drop (k * P.cellsOf e)).take (P.cellsOf e)++l.drop ((k+1) * P.cellsOf e):=by rw [Nat.succ_mul,<- drop_drop',List.take_append_drop]
  have e2:m.drop (k * P.cellsOf e)=(m.drop (k * P.cellsOf e)).take (P.cellsOf e)++m.drop ((k+1) * P.cellsOf e):=by rw [Nat.succ_mul,<- drop_drop',List.take_append_drop]
  rw [e1,e2] at he;obtain ⟨r1,r2,h1,h2,h3⟩:=eqCells_append _ _ _ _ _ (by simp; omega) he
  have ih:=run_eqItemsP mm dd e d hu hs hE l m n (k+1) r2 (fun i hi=>hK i (by rw [List.range'_succ]; exact List.mem_cons_of_mem _ hi)) (by rw [hl]; congr 1; omega) (by rw [hm]; congr 1; omega) h2
  have p1:=part_vOf (P:=P) w hu hs l (k * P.cellsOf e) (by omega)
  have p2:=part_vOf (P:=P) w hu hs m (k * P.cellsOf e) (by omega)
  have p3:=hE w _ _ r1 (by simp; omega) (hK k (by rw [List.range'_succ]; exact List.mem_cons_self ..)) h1
  simp only [List.range'_succ,Op.eqItems,Sem.run_bind,p1,p2,p3,Result.andThen_ok];subst h3;cases r1
  ·simp
  ·simpa using ih
theorem plainEq_shape:∀ (d:Nat) (t:TypeId),plainEq P d t=true->(∃ k,P.underlying t=some k)/\(isAggT P t=true\/P.cellsOf t=1)
 | 0,_,h=>by simp [plainEq] at h
 | d+1,t,h=>by
  unfold plainEq at h;split at h
  ·rename_i hu; exact ⟨⟨_,hu⟩,.inr (by simpa using h)⟩
  ·rename_i hu; exact ⟨⟨_,hu⟩,.inr (by simpa using h)⟩
  ·rename_i hu; exact ⟨⟨_,hu⟩,.inr (by simpa using h)⟩
  ·rename_i hu; exact ⟨⟨_,hu⟩,.inl (by simp [isAggT,hu])⟩
  ·rename_i hu; exact ⟨⟨_,hu⟩,.inl (by simp [isAggT,hu])⟩
  ·cases h
theorem run_equalP:∀ (m:Nat) (d:Nat) (t:TypeId),plainEq P m t=true->EqP P m (d+m) t
 | 0,_,_,h=>by simp [plainEq] at h
 | m+1,d,t,h=>by
  intro w l l' r hl hK he;have hl':=eqCells_len _ _ _ he;unfold plainEq at h;have one:isAggT P t=false->P.cellsOf t=1->(∃ k,P.underlying t=some k/\(k=.bool\/(∃ q,k=.int q)\/k=.string)) ->
    (Op.equalIn (d+(m+1)) t (vOf (isAggT P t) l) (vOf (isAggT P t) l')).run P w=.ok r w:=by
   intro ha hs ⟨k,hu,hkind⟩;rw [ha];rw [hs] at hl;rw [hl] at hl';obtain ⟨x,rfl⟩:∃ x,l=[x]:=by match l,hl with|[x],_=>exact ⟨x,rfl⟩
   obtain ⟨y,rfl⟩:∃ y,l'=[y]:=by match l',hl' with|[y],_=>exact ⟨y,rfl⟩
   rw [eqCells_cons] at he;simp only [eqCells] at he;unfold kindsOK at hK;rw [hu] at hK;rcases hkind with rfl|⟨q,rfl⟩|rfl
   ·cases x <;> simp only [reduceCtorEq,Bool.false_eq_true] at hK
    cases y <;> simp only [eqCell,reduceCtorEq,Option.some.injEq,Bool.and_true] at he
    subst he;simp [vOf,cvA,Op.equalIn,run_underlying hu]
   ·cases x <;> simp only [reduceCtorEq,Bool.false_eq_true] at hK
    rename_i q1 n1;cases y <;> simp only [eqCell,reduceCtorEq,Option.some.injEq,Bool.and_true] at he
    rename_i q2 n2;by_cases hq:q1=q2
    ·rw [if_pos hq] at he;simp only [Bool.and_true,Option.some.injEq] at he;subst he; subst hq;simp [vOf,cvA,Op.equalIn,run_underlying hu]
    ·rw [if_neg hq] at he;simp at he
   ·cases x <;> simp only [reduceCtorEq,Bool.false_eq_true] at hK
    cases y <;> simp only [eqCell,reduceCtorEq,Option.some.injEq,Bool.and_true] at he
    subst he;rename_i s1 s2;have hb:((ByteArray.mk ⟨s1⟩)==(ByteArray.mk ⟨s2⟩))=(s1==s2):=by
     rw [beq_toListBytes,ByteArray.toList_eq,ByteArray.toList_eq]
    simp [vOf,cvA,Op.equalIn,run_underlying hu,hb]
  split at h
  ·rename_i hu; exact one (by simp [isAggT,hu]) (by simpa using h) ⟨_,hu,.inl rfl⟩
  ·rename_i hu; exact one (by simp [isAggT,hu]) (by simpa using h) ⟨_,hu,.inr (.inl ⟨_,rfl⟩)⟩
  ·rename_i hu; exact one (by simp [isAggT,hu]) (by simpa using h) ⟨_,hu,.inr (.inr rfl)⟩
  ·rename_i fs hu;simp only [Bool.and_eq_true,Bool.not_eq_true',List.all_eq_true,bne_iff_ne,ne_eq] at h;obtain ⟨⟨h1,h2⟩,h3⟩:=h;have hf:P.fieldsOf t=fs:=by simp [Program.fieldsOf,hu]
   have ha:isAggT P t=true:=by simp [isAggT,hu]
   rw [ha];have:=run_equalIn_struct (P:=P) w (d+m) t (l.map cvA).toArray (l'.map cvA).toArray (by rw [hf]; exact hu) h2
   simp only [vOf];rw [show d+(m+1)=d+m+1 from rfl,this,hf];unfold kindsOK at hK;rw [hu] at hK;simp only [List.all_eq_true] at hK
   refine run_eqFieldsP w m (d+m) l l' (P.cellsOf t) fs.toList 0 r (fun f hfm=>?_) h3 hl (by omega) (Nat.zero_le _) (by simpa using he)
   have hp:=h1 f hfm;have hsh:=plainEq_shape m f.type hp.2;exact ⟨hp.1,hsh.1,hsh.2,run_equalP m d f.type hp.2,hK f hfm⟩
  ·rename_i n e hu;simp only [Bool.and_eq_true,beq_iff_eq] at h;have ha:isAggT P t=true:=by simp [isAggT,hu]
   have hsh:=plainEq_shape m e h.1;obtain ⟨k,hk⟩:=hsh.1;obtain ⟨i,hi⟩:=info_of_underlying hk;rw [ha];simp only [vOf];rw [show d+(m+1)=d+m+1 from rfl,run_equalIn_array w (d+m) _ _ hu hi,List.range_eq_range'];unfold kindsOK at hK
   rw [hu] at hK;simp only [List.all_eq_true] at hK;exact run_eqItemsP w m (d+m) e k hk hsh.2 (run_equalP m d e h.1) l l' n 0 r hK (by rw [hl,h.2]; simp) (by rw [<- hl',hl,h.2]; simp) (by simpa using he)
  ·cases h
end
theorem add_eq (B off n:Nat):(⟨B,off,none⟩:Addr).add n=⟨B,off+n,none⟩:=by unfold Addr.add; split <;> simp_all
theorem avCell_rel (M:Mem) (v:Value):RelP M v (avCell v):=by
 cases v with
 | int k n=>exact .int _ _
 | bool b=>exact .bool _
 | string s=>obtain ⟨⟨l⟩⟩:=s; exact .str _
 | pointer a=>cases a; exact .nilp; exact .undef _
 | slice a l c =>
  cases a with
  | none =>
   simp only [avCell];split
   ·rename_i h; obtain ⟨rfl,rfl⟩:=h; exact .nils
   ·exact .undef _
  | some a=>exact .undef _
 | map r=>cases r; exact .nilm; exact .undef _
 | func f x y =>
  simp only [avCell];split
  ·rename_i h;obtain ⟨h1,h2⟩:=h;rw [Array.eq_empty_of_size_eq_zero h1,Array.eq_empty_of_size_eq_zero h2];exact .fn _
  ·exact .undef _
 | nilFunc=>exact .nilf
 | _=>exact .undef _
theorem avOf_rel (M:Mem) (v:Value):RelP M v (avOf v):=by
 cases v with
 | agg cs =>
  refine .agg cs _ (by simp) (fun i hi=>?_)
  have hi':i<cs.size:=by simpa using hi
  have e1:(cs.toList.map avCell).getD i .undef=avCell cs[i]:=by simp [List.getD,hi']
  have e2:cs.getD i undef=cs[i]:=by simp [Array.getD,hi']
  rw [e1,e2]; exact avCell_rel M _
 | _=>exact avCell_rel M _
theorem Rel.pureCell {ρ M} {v:Value} {x:AV} (h:Rel ρ M v x) (hx:x.isPureCell=true):RelP M v x:=by
 cases h with
 | pure h=>exact h
 | fn f fs cs fl cl h1 h2 _ _ =>
  cases fl <;> cases cl <;> simp [AV.isPureCell] at hx
  simp at h1 h2;subst h1; subst h2;exact .fn f
 | _=>simp [AV.isPureCell] at hx
theorem Rel.elemAt {ρ M} {v:Value} {x:AV} {sz:Nat} (h:Rel ρ M v x) (hx:x.okElem sz=true) (j:Nat) (hj:j<sz) :
  ∃ u,v.cells[j]?=some u/\u.oneCell'=true/\Rel ρ M u (x.cells.getD j .undef)/\(x.isPure=true->RelP M u (x.cells.getD j .undef)):=by
 obtain ⟨h1,h2,h3⟩:=h.elem hx;obtain ⟨h4,h5⟩:=h3 j hj;have e:v.cells[j]?=some (v.cells.getD j Go.undef):=by simp [Array.getD,show j<v.cells.size by omega]
 refine ⟨_,e,h4,h5,fun hp=>h5.pureCell ?_⟩
 have hmem:x.cells.getD j .undef∈x.cells:=by
  have:x.cells.getD j .undef=x.cells[j]'(by omega):=by simp [List.getD,show j<x.cells.length by omega]
  rw [this]; exact List.getElem_mem _
 cases x with
 | agg l=>simp only [AV.isPure,List.all_eq_true] at hp; exact hp _ hmem
 | undef=>simp [AV.okElem,AV.isCell] at hx
 | tup l=>simp [AV.okElem,AV.isCell] at hx
 | opt m j w x=>simp [AV.okElem,AV.isCell] at hx
 | _=>rw [List.mem_singleton.1 hmem]; exact hp
section
variable {P:Program} {o:Oper} {U:Base} {w0:World} {n:Nat} {ρ:Rho} {M:Mem} {tm:Nat->AV} {hp:Nat->Blk} {nx:Nat} {a:Act} {w:World}
theorem run_loadVar (t:TypeId) (hi:∃ d,P.underlying t=some d) (B off:Nat) (vals:Nat->Value)
  (h:∀ k,k<P.cellsOf t->w.cell? ⟨B,off+k,none⟩=some (vals k)) (h1:isAggT P t=true\/w.cell? ⟨B,off,none⟩=some (vals 0)) :
  (loadVar t ⟨B,off,none⟩).run P w=.ok (if isAggT P t then .agg ((List.range (P.cellsOf t)).map vals).toArray else vals 0) w:=by
 obtain ⟨d,hu⟩:=hi;obtain ⟨i,hi⟩:=info_of_underlying hu;unfold loadVar;rw [Sem.run_bind,eq_isAgg w hu];simp only [Result.andThen_ok];cases ha:isAggT P t with
 | true =>
  rw [if_pos rfl,Sem.run_bind,run_sizeOf' hi];simp only [Result.andThen_ok,Sem.run_bind,if_true];rw [run_loadCells w ⟨B,off,none⟩ (P.cellsOf t) vals (fun j hj=>by rw [add_eq]; exact h j hj)]
  simp
 | false =>
  rw [ha] at h1;have h2:=h1.resolve_left (by simp)
  rw [if_neg (by simp),if_neg (by simp),run_load]
  simp [h2]
theorem run_storeVar (t:TypeId) (hi:∃ i,P.info? t=some i) (B off:Nat) (e:TypeId) (c:Array Value) (v:Value) (hg:w.heap[B]?=some (.cells c e (0,0)))
  (hs:v.cells.size=P.cellsOf t) (hfit:off+v.cells.size<=c.size) (h1:∀ x∈v.cells.toList,x.oneCell'=true) :
  (storeVar t ⟨B,off,none⟩ v).run P w=.ok () (w.setRow B (c.toList.take off++v.cells.toList++c.toList.drop (off+v.cells.size)).toArray):=by
 obtain ⟨i,hi⟩:=hi;have:=run_storeCells_at P B off e v.cells.toList 0 c w hg (by simpa using hfit) h1
 unfold storeVar;rw [Sem.run_bind,run_sizeOf' hi];simp only [Result.andThen_ok];rw [if_neg (by simp [hs])]
 simpa using this
theorem okElem_one {x:AV} {sz:Nat} (h:x.okElem sz=true):x.cells.length=sz:=by
 cases x with
 | agg l=>simp only [AV.okElem,Bool.and_eq_true,beq_iff_eq] at h; exact h.1
 | undef=>simp [AV.okElem,AV.isCell] at h
 | tup l=>simp [AV.okElem,AV.isCell] at h
 | opt m j w x=>simp [AV.okElem,AV.isCell] at h
 | _=>simp only [AV.okElem,Bool.and_eq_true,beq_iff_eq] at h; simp [AV.cells,h.1]
theorem out_new (h:SRel U w0 n ρ M tm hp nx a w) (t:TypeId) {v:Value} {x:AV} (hr:Rel ρ M v x) (hx:x.okElem (P.cellsOf t)=true) (h1:1<=P.cellsOf t)
  (hrun:(execOp a.eval o).run P w=.ok (.value (.pointer (some ⟨w.heap.size,0,none⟩))) (w.alloc (.cells v.cells t))) :
  OpOut P o U w0 n ρ M tm hp nx a w (.ptr nx 0 0 0) [(nx,.row 0 (P.cellsOf t) x.isPure (.lst [x]))]:=by
 have hsz:=(hr.elem hx).1;refine ⟨_,_,updR ρ nx 0 ⟨w.heap.size,0,v.cells.size,P.cellsOf t,1,false,none⟩,M,.inl hrun,RX.upd (updR_ext _ (h.free nx 0 (Nat.le_refl _))) (.inl (Nat.le_refl _)),MExt.refl M,?_,
  h.alloc (P.cellsOf t) x.isPure (.lst [x]) v.cells t w rfl rfl rfl rfl h1 (by simp [Sq.len,hsz]) ?_⟩
 ·have:=Rel.ptr (ρ:=updR ρ nx 0 ⟨w.heap.size,0,v.cells.size,P.cellsOf t,1,false,none⟩) (M:=M) _ nx 0 0 0 (updR_same _ _ _ _) (by simp)
  simpa using this
 ·intro i hi;have:i=0:=by simpa [Sq.len] using hi
  subst this;refine ⟨by simpa [Sq.get] using okElem_one hx,fun j hj=>?_⟩
  obtain ⟨u,k1,k2,k3,k4⟩:=hr.elemAt hx j hj;exact ⟨u,by simpa using k1,k2,by simpa [Sq.get] using k3,by simpa [Sq.get] using k4⟩
theorem step_alloc (h:SRel U w0 n ρ M tm hp nx a w) (t:TypeId) (ho:o.op=.alloc t) (ev:Operand->AV) (need v eff ob)
  (hs:stepOp P (.alloc t) ev hp nx=some ⟨need,v,eff,ob⟩):OpOut P o U w0 n ρ M tm hp nx a w v eff:=by
 simp only [stepOp,zeroAV,Option.bind_eq_some_iff,Option.map_eq_some_iff] at hs;obtain ⟨z,⟨zv,⟨i,hi,hz⟩,rfl⟩,hs⟩:=hs;split at hs
 case isFalse=>cases hs
 rename_i hx;simp only [Bool.and_eq_true,decide_eq_true_eq] at hx;cases hs;refine out_new h t (.pure (avOf_rel M zv)) hx.1 hx.2 ?_;simp [execOp,ho,Instr.alloc,zeroValue,typeInfo,hi,hz,newVar,newRow]
theorem step_box (h:SRel U w0 n ρ M tm hp nx a w) (t:TypeId) (x:Operand) (ho:o.op=.box t x) (ev:Operand->AV) (hev:Rel ρ M (a.eval x) (ev x)) (need v eff ob)
  (hs:stepOp P (.box t x) ev hp nx=some ⟨need,v,eff,ob⟩):OpOut P o U w0 n ρ M tm hp nx a w v eff:=by
 simp only [stepOp] at hs;split at hs
 case isFalse=>cases hs
 rename_i hx;simp only [Bool.and_eq_true,decide_eq_true_eq] at hx;cases hs;refine out_new h t hev hx.1 hx.2 ?_;simp [execOp,ho,Instr.box,newVar,newRow]
theorem getD_append_left {α:Type} (l m:List α) (i:Nat) (d:α) (h:i<l.length):(l++m).getD i d=l.getD i d:=by
 simp [List.getD,List.getElem?_append_left h]
theorem rel_part {ρ M} {x:AV} (t:TypeId) (j:Nat) (vals:Nat->Value) {v:AV}
  (hp:partAV P t x j=some v) (hv:∀ k,k<x.cells.length->Rel ρ M (vals k) (x.cells.getD k .undef)) :
  (∃ d,P.underlying t=some d) /\
  ((isAggT P t=true/\j+P.cellsOf t<=x.cells.length/\Rel ρ M (.agg ((List.range (P.cellsOf t)).map fun k=>vals (j+k)).toArray) v) \/
  (isAggT P t=false/\j<x.cells.length/\Rel ρ M (vals j) v)):=by
 unfold partAV at hp;split at hp
 ·cases hp
 rename_i hu;refine ⟨?_,?_⟩
 ·cases h:P.underlying t with
  | none=>simp [h] at hu
  | some d=>exact ⟨d,rfl⟩
 split at hp
 ·rename_i ha;simp only at hp;split at hp
  ·rename_i hle;cases hp;refine .inl ⟨ha,hle,.agg _ _ (by simp; omega) (fun i hi=>?_)⟩
   have hi':i<P.cellsOf t:=by simp at hi; omega
   have e1:((x.cells.drop j).take (P.cellsOf t)).getD i .undef=x.cells.getD (j+i) .undef:=by
    simp [List.getD,List.getElem?_take,hi',List.getElem?_drop]
   have e2:((List.range (P.cellsOf t)).map fun k=>vals (j+k)).toArray.getD i undef=vals (j+i):=by
    simp [Array.getD,hi']
   rw [e1,e2];exact hv _ (by omega)
  ·cases hp
 ·rename_i ha;have hlt:j<x.cells.length:=by
   rcases Nat.lt_or_ge j x.cells.length with h|h
   ·exact h
   ·rw [List.getElem?_eq_none h] at hp; cases hp
  have e1:x.cells.getD j .undef=v:=by simp [List.getD,hp]
  refine .inr ⟨by simpa using ha,hlt,?_⟩
  rw [<- e1];exact hv j hlt
theorem out_load (h:SRel U w0 n ρ M tm hp nx a w) (t:TypeId) (x:AV) (B off j:Nat) (vals:Nat->Value) {v:AV}
  (hp':partAV P t x j=some v) (hv:∀ k,k<x.cells.length->w.cell? ⟨B,off+k,none⟩=some (vals k)/\Rel ρ M (vals k) (x.cells.getD k .undef))
  (q:Operand) (ho:o.op=.load t q) (hq:a.eval q=.pointer (some ⟨B,off+j,none⟩)):OpOut P o U w0 n ρ M tm hp nx a w v []:=by
 obtain ⟨hu,hc⟩:=rel_part (P:=P) (ρ:=ρ) (M:=M) t j vals hp' (fun k hk=>(hv k hk).2)
 have hrun:∀ u,(loadVar t ⟨B,off+j,none⟩).run P w=.ok u w->(execOp a.eval o).run P w=.ok (.value u) w:=by
  intro u hl;simp [execOp,ho,Instr.loadAt,Instr.sureAddr,hq,hl]
 rcases hc with ⟨ha,hle,hr⟩|⟨ha,hlt,hr⟩
 ·refine OpOut.same h (hrun _ ?_) hr;have:=run_loadVar (P:=P) (w:=w) t hu B (off+j) (fun k=>vals (j+k)) (fun k hk=>by
   have:=(hv (j+k) (by omega)).1
   rwa [<- Nat.add_assoc] at this) (.inl ha)
  rw [ha,if_pos rfl] at this;exact this
 ·refine OpOut.same h (hrun _ ?_) hr;have hcell:=(hv j hlt).1;obtain ⟨d,hu⟩:=hu;unfold loadVar;rw [Sem.run_bind,eq_isAgg w hu,ha];simp only [Result.andThen_ok,Bool.false_eq_true,if_false];rw [run_load];simp [hcell]
theorem row_cells {b g sz pu s} (h:SRel U w0 n ρ M tm hp nx a w) (hb:hp b=.row g sz pu s) (i:Nat) (hi:i<s.len) :
  ∃ L,ρ b g=some L/\L.sz=sz/\L.virt=false/\∃ vals:Nat->Value,(s.get i).cells.length=sz/\∀ k,k<(s.get i).cells.length ->
   w.cell? ⟨L.B,L.o+i * L.sz+k,none⟩=some (vals k)/\Rel ρ M (vals k) ((s.get i).cells.getD k .undef):=by
 obtain ⟨L,h1,h2,h3,h4⟩:=h.rowLoc hb;rcases h4 with h4|⟨hv,c,e,h5,h6,h7,h8,h9⟩
 ·omega
 obtain ⟨h10,h11⟩:=h9 i hi;refine ⟨L,h1,h2,hv,fun k=>c.getD (L.o+i * sz+k) undef,h10,fun k hk=>?_⟩
 obtain ⟨v,k1,k2,k3,k4⟩:=h11 k (by omega)
 have e1:c.getD (L.o+i * sz+k) undef=v:=by
  obtain ⟨hlt,he⟩:=Array.getElem?_eq_some_iff.1 k1;simp [Array.getD,hlt,he]
 subst h2;refine ⟨?_,?_⟩
 ·rw [cell_of_row w L.B _ c e (0,0) h5,k1];exact congrArg some e1.symm
 ·show Rel ρ M (c.getD (L.o+i * L.sz+k) undef) _;rw [e1]; exact k3
theorem step_load (h:SRel U w0 n ρ M tm hp nx a w) (t:TypeId) (q:Operand) (ho:o.op=.load t q) (ev:Operand->AV) (hev:Rel ρ M (a.eval q) (ev q)) (need v eff ob)
  (hs:stepOp P (.load t q) ev hp nx=some ⟨need,v,eff,ob⟩) (hn:need=true):OpOut P o U w0 n ρ M tm hp nx a w v eff:=by
 simp only [stepOp] at hs;split at hs
 ·rename_i b g i j he;rw [he] at hev;obtain ⟨L,hL,hq,hi⟩:=hev.ptrInv;split at hs
  ·rename_i g' sz pu s hb;simp only [Option.bind_eq_some_iff,okN,Option.some.injEq,SR.mk.injEq] at hs;obtain ⟨x,hx,h1,rfl,rfl,rfl⟩:=hs;rw [<- h1] at hn;have hg:g=g':=by simpa using hn
   subst hg;obtain ⟨L',e1,e2,e3,_⟩:=h.rowLoc hb;rw [hL] at e1; cases e1;rw [Sq.getL_eq (by omega)] at hx
   obtain ⟨L',e1,e2,e3,vals,e4,e5⟩:=row_cells h hb i (by omega)
   rw [hL] at e1; cases e1;exact out_load h t (s.get i) L.B (L.o+i * L.sz) j vals hx e5 q ho hq
  ·cases hs
 ·rename_i x j he;rw [he] at hev;simp only [Option.bind_eq_some_iff,ok1,Option.some.injEq,SR.mk.injEq] at hs;obtain ⟨y,hy,h1,rfl,rfl,rfl⟩:=hs;generalize hq:a.eval q=qv at hev;cases hev with
  | pure hev =>
   cases hev with
   | rptr B off j x vals hm hr =>
    exact out_load h t x B off j vals hy (fun k hk=>⟨(h.hok.mem _ _ _ (hm k hk)).1,.pure (hr k hk)⟩) q ho hq
 ·cases hs
theorem spliced {α:Type} (l xs:List α) (o k:Nat) (h:o+xs.length<=l.length) :
  (l.take o++xs++l.drop (o+xs.length))[k]?=if k<o then l[k]? else if k<o+xs.length then xs[k - o]? else l[k]?:=by
 have h1:(l.take o).length=o:=by simp; omega
 by_cases hk:k<o
 ·rw [if_pos hk,List.append_assoc,List.getElem?_append_left (by omega),List.getElem?_take,if_pos hk]
 ·rw [if_neg hk,List.append_assoc,List.getElem?_append_right (by omega),h1]
  by_cases hk2:k<o+xs.length
  ·rw [if_pos hk2,List.getElem?_append_left (by omega)]
  ·rw [if_neg hk2,List.getElem?_append_right (by omega),List.getElem?_drop]
   congr 1; omega
theorem spliced_len {α:Type} (l xs:List α) (o:Nat) (h:o+xs.length<=l.length):(l.take o++xs++l.drop (o+xs.length)).length=l.length:=by
 simp; omega
theorem oneAV_cells {y z:AV} {sz:Nat} (h:oneAV y=some z) (hy:y.okElem sz=true):z.cells=y.cells/\y.cells.length=1:=by
 cases y with
 | agg l =>
  match l,h,hy with
  | [x],h,hy =>
   simp only [oneAV,Option.some.injEq] at h;subst h;simp only [AV.okElem,List.all_cons,List.all_nil,Bool.and_true,Bool.and_eq_true] at hy;exact ⟨cells_isCell hy.2,rfl⟩
 | _=>cases h; exact ⟨rfl,rfl⟩
theorem putAV_cells {x y z:AV} {j sz:Nat} (h:putAV x j y=some z) (hy:y.okElem sz=true) :
  z.cells=splice x.cells j y.cells/\j+y.cells.length<=x.cells.length:=by
 have one:x.cells=[x]->(if j=0 then oneAV y else none)=some z->z.cells=splice x.cells j y.cells/\j+y.cells.length<=x.cells.length:=by
  intro hx h;split at h
  ·rename_i hj;obtain ⟨h1,h2⟩:=oneAV_cells h hy;rw [hx,h1,hj];refine ⟨?_,by simp [h2]⟩
   rw [splice,h2];simp
  ·cases h
 cases x with
 | agg l =>
  simp only [putAV] at h;split at h
  ·rename_i hle;cases h;exact ⟨rfl,hle⟩
  ·cases h
 | _=>exact one rfl h
theorem Sq.len_set (s:Sq) (i:Nat) (x:AV):(s.set i x).len=s.len:=by cases s <;> simp [Sq.set,Sq.len]
theorem Sq.get_set (s:Sq) (i k:Nat) (x:AV) (hi:i<s.len):(s.set i x).get k=if k=i then x else s.get k:=by
 cases s with
 | lst l =>
  simp only [Sq.len] at hi;simp only [Sq.set,Sq.get,List.getD,List.getElem?_set];by_cases h:i=k
  ·subst h; simp [hi]
  ·rw [if_neg h,if_neg (Ne.symm h)]
 | fn n f=>exact mergeAV_eq (k=i) x (f k)
theorem idx_ne {i i' k k' sz:Nat} (hk:k<sz) (hk':k'<sz) (h:i≠i'):i * sz+k≠i' * sz+k':=by
 rcases Nat.lt_or_gt_of_ne h with h1|h1
 ·have:i * sz+sz<=i' * sz:=by rw [<- Nat.succ_mul]; exact Nat.mul_le_mul_right _ h1
  omega
 ·have:i' * sz+sz<=i * sz:=by rw [<- Nat.succ_mul]; exact Nat.mul_le_mul_right _ h1
  omega
theorem step_store (h:SRel U w0 n ρ M tm hp nx a w) (t:TypeId) (q x:Operand) (ho:o.op=.store t q x) (ev:Operand->AV) (hev:Rel ρ M (a.eval q) (ev q)) (hev2:Rel ρ M (a.eval x) (ev x)) (need v eff ob)
  (hs:stepOp P (.store t q x) ev hp nx=some ⟨need,v,eff,ob⟩) (hn:need=true):OpOut P o U w0 n ρ M tm hp nx a w v eff:=by
 simp only [stepOp] at hs;split at hs
 case h_2=>cases hs
 rename_i b g i j he;rw [he] at hev;obtain ⟨L,hL,hq,hiL⟩:=hev.ptrInv;split at hs
 case h_2=>cases hs
 rename_i g' sz pu s hb;split at hs
 case isFalse=>cases hs
 rename_i hg;obtain ⟨hok,hpos⟩:=hg;simp only [Option.bind_eq_some_iff,Option.some.injEq,SR.mk.injEq] at hs;obtain ⟨y,hy,h1,rfl,rfl,rfl⟩:=hs;rw [<- h1] at hn;have hg:g=g':=by simpa using hn
 subst hg;obtain ⟨L',e1,e2,e3,hc⟩:=h.rowLoc hb;rw [hL] at e1; cases e1;have hi:i<s.len:=by omega
 rcases hc with hc|⟨hv,c,e,h5,h6,h7,h8,h9⟩
 ·omega
 obtain ⟨hyc,hyl⟩:=putAV_cells hy hok;obtain ⟨hel1,hel2,hel3⟩:=hev2.elem hok;have hxs:=(h9 i hi).1;subst e2;have hx2:(ev x).cells.length=(a.eval x).cells.size:=by rw [hel1,hel2]
 have hfit:L.o+i * L.sz+j+(a.eval x).cells.size<=c.size:=by
  have hle:L.o+i * L.sz+L.sz<=c.size:=by
   have:i * L.sz+L.sz<=s.len * L.sz:=by rw [<- Nat.succ_mul]; exact Nat.mul_le_mul_right _ hi
   omega
  omega
 have hinfo:∃ i,P.info? t=some i:=let ⟨i,hi,_⟩:=info_of_cells (P:=P) (t:=t) hpos; ⟨i,hi⟩
 have hst:=run_storeVar (P:=P) (w:=w) t hinfo L.B (L.o+i * L.sz+j) e c (a.eval x) h5 hel1 hfit (by
  intro u hu;obtain ⟨k,hk,rfl⟩:=List.getElem_of_mem hu;have hk':k<P.cellsOf t:=by simpa [hel1] using hk
  have:=(hel3 k hk').1;simpa [Array.getD,show k<(a.eval x).cells.size by omega] using this)
 generalize hc':(c.toList.take (L.o+i * L.sz+j)++(a.eval x).cells.toList++c.toList.drop (L.o+i * L.sz+j+(a.eval x).cells.size)).toArray=c' at hst;have hcsz:c'.size=c.size:=by
  rw [<- hc'];have:=spliced_len c.toList (a.eval x).cells.toList (L.o+i * L.sz+j) (by simpa using hfit)
  simpa using this
 have hnew:(w.setRow L.B c').heap[L.B]?=some (.cells c' e (0,0)):=setRow_heap w L.B c _ e (0,0) h5;refine ⟨undef,w.setRow L.B c',ρ,M,.inr ⟨?_,rfl⟩,RX.refl ρ hp nx,MExt.refl M,Rel.undef _,?_⟩
 ·simp [execOp,ho,Instr.storeAt,Instr.sureAddr,hq,hst]
 ·refine h.upd b g L.sz (pu&&(ev x).isPure) (s.set i y) L (RExt.refl ρ) (fun _ _ _=>rfl) hL
   ⟨L,hL,rfl,⟨e3.1,by rw [Sq.len_set]; exact e3.2⟩,.inr ⟨hv,_,e,hnew,by rw [hcsz,h6],by rw [Sq.len_set]; exact h7,h8,fun i' hi'=>?_⟩⟩
   (.inr (.inr ⟨g,L.sz,pu,s,L,hb,hL,hv,rfl⟩)) (fun g' hg'=>h.hok.gen b g L.sz pu s hb g' hg') rfl rfl rfl (by simp) (fun B hB hne=>setRow_other w L.B B _ (by
    rcases hne with h0|h0
    ·rw [hv] at h0; cases h0
    ·exact h0))
  rw [Sq.len_set] at hi';rw [Sq.get_set s i i' y hi];have hlen:(if i'=i then y else s.get i').cells.length=L.sz:=by
   split
   ·rw [hyc];have:=spliced_len (s.get i).cells (ev x).cells j hyl;rw [splice,this,hxs]
   ·exact (h9 i' hi').1
  refine ⟨hlen,fun k hk=>?_⟩
  rw [<- hc'];simp only [List.getElem?_toArray];have hsp:=spliced c.toList (a.eval x).cells.toList (L.o+i * L.sz+j) (L.o+i' * L.sz+k) (by simpa using hfit)
  simp only [Array.length_toList] at hsp;rw [hsp];by_cases hii:i'=i
  ·subst hii;simp only [if_true];rw [hyc];have hsp2:=spliced (s.get i').cells (ev x).cells j k hyl
   have hgd:(splice (s.get i').cells j (ev x).cells).getD k .undef=(if k<j then (s.get i').cells[k]? else if k<j+(ev x).cells.length then (ev x).cells[k - j]? else (s.get i').cells[k]?).getD .undef:=by
    rw [splice,List.getD,hsp2]
   rw [hgd];by_cases hkj:k<j
   ·rw [if_pos (by omega),if_pos hkj]
    obtain ⟨v,k1,k2,k3,k4⟩:=(h9 i' hi').2 k hk;exact ⟨v,by simpa using k1,k2,k3,fun hp=>k4 (by simp at hp; exact hp.1)⟩
   ·rw [if_neg (by omega),if_neg hkj]
    by_cases hkx:k<j+(ev x).cells.length
    ·rw [if_pos (by omega),if_pos hkx]
     obtain ⟨u,k1,k2,k3,k4⟩:=hev2.elemAt hok (k - j) (by omega)
     refine ⟨u,?_,k2,by simpa [List.getD] using k3,fun hp=>by simpa [List.getD] using k4 (by simp at hp; exact hp.2)⟩
     rw [show L.o+i' * L.sz+k - (L.o+i' * L.sz+j)=k - j by omega]
     simpa using k1
    ·rw [if_neg (by omega),if_neg hkx]
     obtain ⟨v,k1,k2,k3,k4⟩:=(h9 i' hi').2 k hk;exact ⟨v,by simpa using k1,k2,k3,fun hp=>k4 (by simp at hp; exact hp.1)⟩
  ·simp only [if_neg hii];obtain ⟨v,k1,k2,k3,k4⟩:=(h9 i' hi').2 k hk;refine ⟨v,?_,k2,k3,fun hp=>k4 (by simp at hp; exact hp.1)⟩
   have hjz:j+(a.eval x).cells.size<=L.sz:=by omega
   by_cases hlt:L.o+i' * L.sz+k<L.o+i * L.sz+j
   ·rw [if_pos hlt]; simpa using k1
   ·rw [if_neg hlt,if_neg ?_]
    ·simpa using k1
    ·intro hlt2;have hne:=@idx_ne i' i k (i' * L.sz+k - i * L.sz) L.sz hk (by omega) hii
     omega
end
section
variable {P:Program} {o:Oper} {U:Base} {w0:World} {n:Nat} {ρ:Rho} {M:Mem} {tm:Nat->AV} {hp:Nat->Blk} {nx:Nat} {a:Act} {w:World}
theorem vOf_rel {ρ M} {v:Value} {l:List AV} {m:List AV} {r:Bool} (h:Rel ρ M v (.agg l)) (he:eqCells l m=some r\/eqCells m l=some r):v=vOf true l:=by
 obtain ⟨cs,rfl,hs,hr⟩:=h.aggInv;simp only [vOf];congr 1;apply Array.ext
 ·simp [hs]
 ·intro i h1 h2;have hi:i<l.length:=by omega
  have hri:=hr i hi;have e1:cs.getD i undef=cs[i]:=by simp [Array.getD,h1]
  have e2:l.getD i .undef=l[i]:=by simp [List.getD,hi]
  rw [e1,e2] at hri;have key:∀ (l m:List AV) (r:Bool),eqCells l m=some r\/eqCells m l=some r->∀ i (hi:i<l.length),∃ y,(eqCell l[i] y).isSome=true\/(eqCell y l[i]).isSome=true:=by
   intro l;induction l with
   | nil=>intro m r _ i hi; simp at hi
   | cons x l ih =>
    intro m r he i hi;cases m with
    | nil=>rcases he with he|he <;> simp [eqCells] at he
    | cons y m =>
     rcases he with he|he
     ·rw [eqCells_cons] at he;split at he
      ·rename_i a b h1 h2;cases i with
       | zero=>exact ⟨y,.inl (by simp [h1])⟩
       | succ i=>exact ih m b (.inl h2) i (by simpa using hi)
      ·cases he
     ·rw [eqCells_cons] at he;split at he
      ·rename_i a b h1 h2;cases i with
       | zero=>exact ⟨y,.inr (by simp [h1])⟩
       | succ i=>exact ih m b (.inr h2) i (by simpa using hi)
      ·cases he
  obtain ⟨y,hy⟩:=key l m r he i hi;simp only [List.getElem_toArray,List.getElem_map];generalize l[i]=x at hy hri;cases x with
  | int k n=>exact hri.intInv
  | bool b=>exact hri.boolInv
  | str s=>exact hri.strInv
  | _=>rcases hy with hy|hy <;> (cases y <;> simp [eqCell] at hy)
theorem eqGuardType_plain:∀ (m:Nat) (d:Nat) (t:TypeId),m<=d->plainEq P m t=true->P.eqGuardType d t=false
 | 0,_,_,_,h=>by simp [plainEq] at h
 | m+1,0,_,hd,_=>by omega
 | m+1,d+1,t,hd,h=>by
  unfold plainEq at h;unfold Program.eqGuardType;split at h
  ·rename_i hu; simp [hu]
  ·rename_i hu; simp [hu]
  ·rename_i hu; simp [hu]
  ·rename_i fs hu;simp only [Bool.and_eq_true,List.all_eq_true,bne_iff_ne,ne_eq] at h;simp only [hu];rw [<- Array.any_toList,List.any_eq_false];intro f hf;have:=eqGuardType_plain m d f.type (by omega) (h.1.1 f hf).2
   simp [this]
  ·rename_i n e hu;simp only [Bool.and_eq_true] at h;simp only [hu];exact eqGuardType_plain m d e (by omega) h.1
  ·cases h
theorem run_binAgg (op:BinOp) (t:TypeId) (x y:Operand) (u v':Value) (l m:List AV) (hu:Rel ρ M u (.agg l)) (hv:Rel ρ M v' (.agg m)) (need:Bool) (v:AV) (eff) (ob)
  (h:binAV P op t (.agg l) (.agg m)=some ⟨need,v,eff,ob⟩) :
  eff=[]/\ob=none/\∃ r,(do eqGuard op t x y u v'; Go.binOp op t u v':Sem Value).run P w=.ok r w/\RelP M r v:=by
 simp only [binAV] at h;split at h
 case isFalse=>cases h
 rename_i hc;simp only [Bool.and_eq_true,beq_iff_eq] at hc;obtain ⟨⟨⟨h1,h2⟩,h3⟩,h4⟩:=hc;have main:∀ r,eqCells l m=some r->(Op.equal t u v').run P w=.ok r w:=by
  intro r he;rw [vOf_rel hu (.inl he),vOf_rel hv (.inr he)];have:=run_equalP (P:=P) 20 9980 t h1 w l m r h3 h4 he;rw [h2] at this;exact this
 obtain ⟨cs,rfl,_,_⟩:=hu.aggInv;obtain ⟨ds,rfl,_,_⟩:=hv.aggInv;have hg:P.eqGuardType P.depth t=false:=eqGuardType_plain 20 P.depth t (by simp only [Program.depth,Made.depth]; omega) h1
 have guard:∀ op',op'=.eql\/op'=.neq->(eqGuard op' t x y (.agg cs) (.agg ds)).run P w=.ok () w:=by
  intro op' ho;rcases ho with rfl|rfl <;> simp [eqGuard,hg]
 cases op
 case eql =>
  simp only [Option.bind_eq_some_iff,ok1,Option.some.injEq,SR.mk.injEq] at h;obtain ⟨r,he,h0,rfl,rfl,rfl⟩:=h;refine ⟨rfl,rfl,.bool r,?_,.bool _⟩;rw [Sem.run_bind,guard _ (.inl rfl)]
  simp only [Result.andThen_ok,Go.binOp,Sem.run_bind,main r he,Sem.run_pure]
 case neq =>
  simp only [Option.bind_eq_some_iff,ok1,Option.some.injEq,SR.mk.injEq] at h;obtain ⟨r,he,h0,rfl,rfl,rfl⟩:=h;refine ⟨rfl,rfl,.bool (!r),?_,.bool _⟩;rw [Sem.run_bind,guard _ (.inr rfl)]
  simp only [Result.andThen_ok,Go.binOp,Sem.run_bind,main r he,Sem.run_pure]
 all_goals cases h
theorem equalIn_ptr_nil (d:Nat) {t e:TypeId} (p:Option Addr) (h:P.underlying t=some (.pointer e)):(Op.equalIn (d+1) t (.pointer p) (.pointer none)).run P w=.ok p.isNone w:=by
 cases p <;> simp [Op.equalIn,run_underlying h]
theorem equalIn_slc_nil (d:Nat) {t e:TypeId} (a:Option Addr) (l c:Nat) (h:P.underlying t=some (.slice e)):(Op.equalIn (d+1) t (.slice a l c) (.slice none 0 0)).run P w=.ok a.isNone w:=by
 cases a <;> simp [Op.equalIn,run_underlying h]
theorem equalIn_fn_nil (d:Nat) {t:TypeId} {x y z} (f:Fn) (fs cs:Array Value) (h:P.underlying t=some (.func x y z)):(Op.equalIn (d+1) t (.func f fs cs) .nilFunc).run P w=.ok false w:=by
 simp [Op.equalIn,run_underlying h]
theorem equalIn_nil_nil (d:Nat) {t:TypeId} {x y z} (h:P.underlying t=some (.func x y z)):(Op.equalIn (d+1) t .nilFunc .nilFunc).run P w=.ok true w:=by
 simp [Op.equalIn,run_underlying h]
def EqNil (P:Program) (w:World) (t:TypeId) (u v':Value) (b:Bool):Prop :=
 (Go.binOp .eql t u v').run P w=.ok (.bool b) w/\(Go.binOp .neq t u v').run P w=.ok (.bool (!b)) w/\u≠.nilIface/\∀ cs,u≠.agg cs
theorem eqNil_ptr {t e:TypeId} (p:Option Addr) (h:P.underlying t=some (.pointer e)):EqNil P w t (.pointer p) (.pointer none) p.isNone:=by
 have h1:(Op.equal t (.pointer p) (.pointer none)).run P w=.ok p.isNone w:=equalIn_ptr_nil 9999 p h;refine ⟨?_,?_,by simp,by simp⟩ <;> simp only [Go.binOp] <;> simp [h1]
theorem eqNil_slc {t e:TypeId} (a:Option Addr) (l c:Nat) (h:P.underlying t=some (.slice e)):EqNil P w t (.slice a l c) (.slice none 0 0) a.isNone:=by
 have h1:(Op.equal t (.slice a l c) (.slice none 0 0)).run P w=.ok a.isNone w:=equalIn_slc_nil 9999 a l c h;refine ⟨?_,?_,by simp,by simp⟩ <;> simp only [Go.binOp] <;> simp [h1]
theorem eqNil_fn {t:TypeId} {x y z} (f:Fn) (fs cs:Array Value) (h:P.underlying t=some (.func x y z)):EqNil P w t (.func f fs cs) .nilFunc false:=by
 have h1:(Op.equal t (.func f fs cs) .nilFunc).run P w=.ok false w:=equalIn_fn_nil 9999 f fs cs h;refine ⟨?_,?_,by simp,by simp⟩ <;> simp only [Go.binOp] <;> simp [h1]
theorem eqNil_nil {t:TypeId} {x y z} (h:P.underlying t=some (.func x y z)):EqNil P w t .nilFunc .nilFunc true:=by
 have h1:(Op.equal t .nilFunc .nilFunc).run P w=.ok true w:=equalIn_nil_nil 9999 h;refine ⟨?_,?_,by simp,by simp⟩ <;> simp only [Go.binOp] <;> simp [h1]
theorem run_nilIs {t:TypeId} {u v':Value} {x y:AV} (hu:Rel ρ M u x) (hv:Rel ρ M v' y) {b:Bool} (h:nilIs P t x y=some (true,b)) :
  EqNil P w t u v' b:=by
 unfold nilIs at h;split at h
 ·rename_i e hut;have hy:y=.nils:=by cases x <;> cases y <;> first|rfl|(cases h; done)
  subst hy;have hv:v'=.slice none 0 0:=by cases hv with|pure hv=>cases hv; rfl
  subst hv;cases x <;> first|(cases h; done)|skip
  ·cases hu with
   | pure hu =>
    cases hu;simp only [Option.some.injEq,Prod.mk.injEq] at h;obtain ⟨_,rfl⟩:=h;exact eqNil_slc none 0 0 hut
  ·rename_i b' g i len c;simp only [Option.some.injEq,Prod.mk.injEq] at h;obtain ⟨h1,rfl⟩:=h;cases hu with
   | pure hu=>cases hu
   | sl L _ _ _ _ cap _ q1 q2 q3 q4 q5 q6 q7=>exact eqNil_slc (some _) _ _ hut
   | slv L a _ _ _ _ q1 q2 =>
    exfalso;cases c with
    | none=>simp at h1
    | some k =>
     have:=q2 k rfl;subst this;simp at h1
  ·rename_i l ex;simp only [Option.some.injEq,Prod.mk.injEq,decide_eq_true_eq] at h;obtain ⟨h1,rfl⟩:=h;cases hu with
   | pure hu =>
    cases hu with
    | rol B o cap sz _ _ vals=>exact eqNil_slc (some _) _ _ hut
    | rol0=>simp at h1
  ·rename_i n f ex;simp only [Option.some.injEq,Prod.mk.injEq,decide_eq_true_eq] at h;obtain ⟨h1,rfl⟩:=h;cases hu with
   | pure hu =>
    cases hu with
    | rof B o cap sz _ _ _ vals=>exact eqNil_slc (some _) _ _ hut
    | rof0=>simp at h1
 ·rename_i e hut;have hy:y=.nilp:=by cases x <;> cases y <;> first|rfl|(cases h; done)
  subst hy;have hv:v'=.pointer none:=by cases hv with|pure hv=>cases hv; rfl
  subst hv;cases x <;> first|(cases h; done)|skip
  ·cases hu with
   | pure hu =>
    cases hu;simp only [Option.some.injEq,Prod.mk.injEq] at h;obtain ⟨_,rfl⟩:=h;exact eqNil_ptr none hut
  ·simp only [Option.some.injEq,Prod.mk.injEq] at h;obtain ⟨_,rfl⟩:=h;obtain ⟨L,_,rfl,_⟩:=hu.ptrInv;exact eqNil_ptr (some _) hut
  ·simp only [Option.some.injEq,Prod.mk.injEq] at h;obtain ⟨_,rfl⟩:=h;cases hu with
   | pure hu=>cases hu; exact eqNil_ptr (some _) hut
 ·rename_i e1 e2 e3 hut;have hy:y=.nilf:=by cases x <;> cases y <;> first|rfl|(cases h; done)
  subst hy;have hv:v'=.nilFunc:=by cases hv with|pure hv=>cases hv; rfl
  subst hv;cases x <;> first|(cases h; done)|skip
  ·cases hu with
   | pure hu =>
    cases hu;simp only [Option.some.injEq,Prod.mk.injEq] at h;obtain ⟨_,rfl⟩:=h;exact eqNil_nil hut
  ·simp only [Option.some.injEq,Prod.mk.injEq] at h;obtain ⟨_,rfl⟩:=h;obtain ⟨fs,cs,rfl,_⟩:=hu.fnInv;exact eqNil_fn _ _ _ hut
  ·simp only [Option.some.injEq,Prod.mk.injEq] at h;obtain ⟨_,rfl⟩:=h;obtain ⟨L,_,rfl⟩:=hu.yldInv;exact eqNil_fn _ _ _ hut
 ·cases h
theorem step_bin (h:SRel U w0 n ρ M tm hp nx a w) (op:BinOp) (t t2:TypeId) (x y:Operand) (ho:o.op=.binOp op t x y t2) (ev:Operand->AV) (hx:Rel ρ M (a.eval x) (ev x)) (hy:Rel ρ M (a.eval y) (ev y)) (need v eff ob)
  (hs:stepOp P (.binOp op t x y t2) ev hp nx=some ⟨need,v,eff,ob⟩) (hn:need=true):OpOut P o U w0 n ρ M tm hp nx a w v eff:=by
 simp only [stepOp] at hs;have fin:∀ r,(do eqGuard op t x y (a.eval x) (a.eval y); Go.binOp op t (a.eval x) (a.eval y):Sem Value).run P w=.ok r w->RelP M r v->eff=[]->OpOut P o U w0 n ρ M tm hp nx a w v eff:=by
  intro r hr hv he;subst he;refine OpOut.same h ?_ (.pure hv);simp only [execOp,ho];rw [run_v,hr];rfl
 have plain:∀ u v',a.eval x=u->a.eval y=v'->u≠.nilIface->(∀ cs,u≠.agg cs)->(∃ r,(Go.binOp op t u v').run P w=.ok r w/\RelP M r v)->eff=[]->OpOut P o U w0 n ρ M tm hp nx a w v eff:=by
  intro u v' e1 e2 h1 h2 ⟨r,hr,hv⟩ he;refine fin r ?_ hv he;rw [e1,e2,Sem.run_bind,run_eqGuard_plain op t x y u v' h1 h2];exact hr
 have nilcase:nilAV P op t (ev x) (ev y)=some ⟨need,v,eff,ob⟩->OpOut P o U w0 n ρ M tm hp nx a w v eff:=by
  intro hs;unfold nilAV at hs;split at hs
  ·rename_i nd b hb;split at hs
   ·simp only [okN,Option.some.injEq,SR.mk.injEq] at hs;obtain ⟨rfl,rfl,rfl,rfl⟩:=hs;subst hn;obtain ⟨k1,_,k2,k3⟩:=run_nilIs (P:=P) (w:=w) hx hy hb;exact plain _ _ rfl rfl k2 k3 ⟨.bool b,k1,.bool _⟩ rfl
   ·simp only [okN,Option.some.injEq,SR.mk.injEq] at hs;obtain ⟨rfl,rfl,rfl,rfl⟩:=hs;subst hn;obtain ⟨_,k1,k2,k3⟩:=run_nilIs (P:=P) (w:=w) hx hy hb;exact plain _ _ rfl rfl k2 k3 ⟨.bool (!b),k1,.bool _⟩ rfl
   ·cases hs
  ·cases hs
 generalize hex:ev x=ex at hs hx nilcase;generalize hey:ev y=ey at hs hy nilcase;cases ex <;> cases ey <;> first
  | exact nilcase hs
  | skip
 ·have e1:=hx.intInv;have e2:=hy.intInv;obtain ⟨h1,h2,h3⟩:=run_binInt (P:=P) (M:=M) (w:=w) op t _ _ _ _ need v eff ob hs hn;exact plain _ _ e1 e2 (by simp) (by simp) h3 h1
 ·have e1:=hx.boolInv;have e2:=hy.boolInv;obtain ⟨h1,h2,h3⟩:=run_binBool (P:=P) (M:=M) (w:=w) op t _ _ need v eff ob hs;exact plain _ _ e1 e2 (by simp) (by simp) h3 h1
 ·have e1:=hx.strInv;have e2:=hy.strInv;obtain ⟨h1,h2,h3⟩:=run_binStr (P:=P) (M:=M) (w:=w) op t _ _ need v eff ob hs hn;exact plain _ _ e1 e2 (by simp) (by simp) h3 h1
 ·obtain ⟨h1,h2,r,h3,h4⟩:=run_binAgg (P:=P) (w:=w) op t x y _ _ _ _ hx hy need v eff ob hs;exact fin r h3 h4 h1
end
section
variable {P:Program} {o:Oper} {U:Base} {w0:World} {n:Nat} {ρ:Rho} {M:Mem} {tm:Nat->AV} {hp:Nat->Blk} {nx:Nat} {a:Act} {w:World}
theorem Rel.rptrInv {ρ M} {v:Value} {x:AV} {j:Nat} (h:Rel ρ M v (.rptr x j)):∃ B o',∃ vals:Nat->Value,v=.pointer (some ⟨B,o'+j,none⟩) /\
  (∀ i,i<x.cells.length->M B (o'+i)=some (vals i))/\(∀ i,i<x.cells.length->RelP M (vals i) (x.cells.getD i .undef)):=by
 cases h with
 | pure h=>cases h with|rptr B o' j x vals hm hr=>exact ⟨B,o',vals,rfl,hm,hr⟩
theorem step_nilCheck (h:SRel U w0 n ρ M tm hp nx a w) (x:Operand) (ho:o.op=.nilCheck x) (ev:Operand->AV) (hx:Rel ρ M (a.eval x) (ev x)) (need v eff ob)
  (hs:stepOp P (.nilCheck x) ev hp nx=some ⟨need,v,eff,ob⟩):OpOut P o U w0 n ρ M tm hp nx a w v eff:=by
 simp only [stepOp] at hs;split at hs
 ·rename_i b g i j he;cases hs;rw [he] at hx ⊢;obtain ⟨L,hL,hq,hi⟩:=hx.ptrInv;exact OpOut.same h (by simp [execOp,ho,hq]) hx
 ·rename_i y j he;cases hs;rw [he] at hx ⊢;obtain ⟨B,o',vals,hq,_,_⟩:=hx.rptrInv;exact OpOut.same h (by simp [execOp,ho,hq]) hx
 ·rename_i f fl cl he;cases hs;rw [he] at hx ⊢;obtain ⟨fs,cs,hq,_,_⟩:=hx.fnInv;exact OpOut.same h (by simp [execOp,ho,hq]) hx
 ·cases hs
theorem step_un (h:SRel U w0 n ρ M tm hp nx a w) (op:UnOp) (t:TypeId) (x:Operand) (ho:o.op=.unOp op t x) (ev:Operand->AV) (hx:Rel ρ M (a.eval x) (ev x)) (need v eff ob)
  (hs:stepOp P (.unOp op t x) ev hp nx=some ⟨need,v,eff,ob⟩):OpOut P o U w0 n ρ M tm hp nx a w v eff:=by
 cases op
 case not =>
  simp only [stepOp] at hs;split at hs
  ·rename_i b he;cases hs;rw [he] at hx;have hq:=hx.boolInv;exact OpOut.same h (u:=.bool (!b)) (by simp [execOp,ho,hq,Op.unary]) (.pure (.bool _))
  ·cases hs
 case neg =>
  simp only [stepOp] at hs;split at hs
  ·rename_i k m he;cases hs;rw [he] at hx;have hq:=hx.intInv;exact OpOut.same h (u:=.int k (k.wrap (0 - m))) (by simp [execOp,ho,hq,Op.unary,Op.intArith]) (.pure (.int _ _))
  ·cases hs
 all_goals (simp [stepOp] at hs)
theorem step_makeFunc (h:SRel U w0 n ρ M tm hp nx a w) (f:Fn) (fs cs:Array Operand) (ho:o.op=.makeFunc f fs cs) (ev:Operand->AV) (hx:∀ x,x∈fs\/x∈cs->Rel ρ M (a.eval x) (ev x)) (need v eff ob)
  (hs:stepOp P (.makeFunc f fs cs) ev hp nx=some ⟨need,v,eff,ob⟩):OpOut P o U w0 n ρ M tm hp nx a w v eff:=by
 simp only [stepOp,ok1,Option.some.injEq,SR.mk.injEq] at hs;obtain ⟨_,rfl,rfl,rfl⟩:=hs;refine OpOut.same h (u:=.func f (fs.map a.eval) (cs.map a.eval)) (by simp [execOp,ho,Instr.makeFunc]) ?_
 refine .fn f _ _ _ _ (by simp) (by simp) (fun i hi=>?_) (fun i hi=>?_)
 ·have hi':i<fs.size:=by simpa using hi
  have:=hx fs[i] (.inl (Array.getElem_mem hi'));simpa [Array.getD,List.getD,hi'] using this
 ·have hi':i<cs.size:=by simpa using hi
  have:=hx cs[i] (.inr (Array.getElem_mem hi'));simpa [Array.getD,List.getD,hi'] using this
theorem step_extract (h:SRel U w0 n ρ M tm hp nx a w) (x:Operand) (i:Nat) (ho:o.op=.extract x i) (ev:Operand->AV) (hx:Rel ρ M (a.eval x) (ev x)) (need v eff ob)
  (hs:stepOp P (.extract x i) ev hp nx=some ⟨need,v,eff,ob⟩):OpOut P o U w0 n ρ M tm hp nx a w v eff:=by
 simp only [stepOp] at hs;split at hs
 ·rename_i l he;simp only [Option.bind_eq_some_iff,ok1,Option.some.injEq,SR.mk.injEq] at hs;obtain ⟨y,hy,_,rfl,rfl,rfl⟩:=hs;rw [he] at hx;obtain ⟨cs,hq,hsz,hr⟩:=hx.tupInv;have hi:i<l.length:=(List.getElem?_eq_some_iff.1 hy).1;have:=hr i hi
  have e1:l.getD i .undef=y:=by simp [List.getD,hy]
  have hi':i<cs.size:=by omega
  rw [e1] at this;exact OpOut.same h (by simp [execOp,ho,hq,Instr.extract,Array.getElem?_eq_getElem hi',Array.getD,hi']) this
 ·cases hs
theorem step_fieldAddr (h:SRel U w0 n ρ M tm hp nx a w) (t:TypeId) (x:Operand) (f:Nat) (ho:o.op=.fieldAddr t x f) (ev:Operand->AV) (hx:Rel ρ M (a.eval x) (ev x)) (need v eff ob)
  (hs:stepOp P (.fieldAddr t x f) ev hp nx=some ⟨need,v,eff,ob⟩):OpOut P o U w0 n ρ M tm hp nx a w v eff:=by
 simp only [stepOp] at hs;split at hs
 case h_2=>cases hs
 rename_i fs hu;simp only [Option.bind_eq_some_iff] at hs;obtain ⟨fd,hf,hs⟩:=hs;split at hs
 ·cases hs
 rename_i hz;obtain ⟨i',hi',hsz⟩:=info_of_cells (P:=P) (t:=fd.type) (by omega)
 have hf':fs[f]?=some fd:=by simpa using hf
 have run:∀ B off,a.eval x=.pointer (some ⟨B,off,none⟩)->(execOp a.eval o).run P w=.ok (.value (.pointer (some ⟨B,off+fd.offset,none⟩))) w:=by
  intro B off hq;simp [execOp,ho,hq,Instr.fieldAt,run_underlying hu,hf',Instr.sureAddr,fieldPlace,run_sizeOf' hi',hz,add_eq]
 split at hs
 ·rename_i b g i j he;cases hs;rw [he] at hx;obtain ⟨L,hL,hq,hi⟩:=hx.ptrInv;refine OpOut.same h (run _ _ hq) ?_;rw [Nat.add_assoc];exact .ptr L b g i (j+fd.offset) hL hi
 ·rename_i y j he;cases hs;rw [he] at hx;obtain ⟨B,o',vals,hq,hm,hr⟩:=hx.rptrInv;refine OpOut.same h (run _ _ hq) ?_;rw [Nat.add_assoc];exact .pure (.rptr B o' (j+fd.offset) y vals hm hr)
 ·cases hs
theorem aggVals {ρ M} {u:Value} {l:List AV} (h:Rel ρ M u (.agg l)):∃ cs:Array Value,u=.agg cs/\cs.size=l.length/\∀ k,k<(AV.agg l).cells.length->Rel ρ M (cs.getD k undef) ((AV.agg l).cells.getD k .undef):=h.aggInv
theorem run_part {t:TypeId} (cs:Array Value) (l:List AV) (j:Nat) {v:AV} (hs:cs.size=l.length)
  (hr:∀ k,k<(AV.agg l).cells.length->Rel ρ M (cs.getD k undef) ((AV.agg l).cells.getD k .undef)) (hp:partAV P t (.agg l) j=some v) :
  ∃ u,(part t cs j).run P w=.ok u w/\Rel ρ M u v:=by
 obtain ⟨⟨d,hu⟩,hc⟩:=rel_part (P:=P) (ρ:=ρ) (M:=M) t j (fun k=>cs.getD k undef) hp hr
 obtain ⟨i,hi⟩:=info_of_underlying hu;unfold part;rw [Sem.run_bind,eq_isAgg w hu];simp only [Result.andThen_ok];rcases hc with ⟨ha,hle,hr⟩|⟨ha,hlt,hr⟩
 ·rw [ha,if_pos rfl,Sem.run_bind,run_sizeOf' hi];refine ⟨_,rfl,?_⟩;have e:cs.extract j (j+P.cellsOf t)=((List.range (P.cellsOf t)).map fun k=>cs.getD (j+k) undef).toArray:=by
   apply Array.ext
   ·simp [AV.cells] at hle ⊢; omega
   ·intro k h1 h2;have hk:k<P.cellsOf t:=by simpa using h2
    simp only [AV.cells] at hle;have:j+k<cs.size:=by omega
    simp [Array.getD,this]
  show Rel ρ M (.agg (cs.extract j (j+P.cellsOf t))) v;rw [e]; exact hr
 ·rw [ha,if_neg (by simp)]
  have hlt':j<cs.size:=by simp only [AV.cells] at hlt; omega
  refine ⟨cs.getD j undef,?_,hr⟩;simp [Array.getD,hlt']
theorem step_field (h:SRel U w0 n ρ M tm hp nx a w) (t:TypeId) (x:Operand) (f:Nat) (ho:o.op=.field t x f) (ev:Operand->AV) (hx:Rel ρ M (a.eval x) (ev x)) (need v eff ob)
  (hs:stepOp P (.field t x f) ev hp nx=some ⟨need,v,eff,ob⟩):OpOut P o U w0 n ρ M tm hp nx a w v eff:=by
 simp only [stepOp] at hs;split at hs
 case h_2=>cases hs
 rename_i fs hu;simp only [Option.bind_eq_some_iff] at hs;obtain ⟨fd,hf,hs⟩:=hs;have hf':fs[f]?=some fd:=by simpa using hf
 split at hs
 ·rename_i l he;simp only [Option.bind_eq_some_iff,ok1,Option.some.injEq,SR.mk.injEq] at hs;obtain ⟨y,hy,_,rfl,rfl,rfl⟩:=hs;rw [he] at hx;obtain ⟨cs,hq,hsz,hr⟩:=aggVals hx;obtain ⟨u,hu2,hr2⟩:=run_part (P:=P) (w:=w) cs l fd.offset hsz hr hy
  exact OpOut.same h (by simp [execOp,ho,hq,Instr.field,run_underlying hu,hf',asAgg,hu2]) hr2
 ·cases hs
theorem step_index (h:SRel U w0 n ρ M tm hp nx a w) (t:TypeId) (x ix:Operand) (ho:o.op=.index t x ix) (ev:Operand->AV) (hx:Rel ρ M (a.eval x) (ev x)) (hix:Rel ρ M (a.eval ix) (ev ix)) (need v eff ob)
  (hs:stepOp P (.index t x ix) ev hp nx=some ⟨need,v,eff,ob⟩) (hn:need=true):OpOut P o U w0 n ρ M tm hp nx a w v eff:=by
 simp only [stepOp,indexAV] at hs;split at hs
 ·rename_i s k i hu he hei;simp only [okN,Option.some.injEq,SR.mk.injEq] at hs;obtain ⟨h0,rfl,rfl,rfl⟩:=hs;rw [he] at hx; rw [hei] at hix;have hq:=hx.strInv;have hi:=hix.intInv;rw [<- h0] at hn;have hn':0<=i/\i<s.length:=by simpa using hn
  have hlt:i.toNat<s.length:=by omega
  refine OpOut.same h (u:=.int .u8 ((s.getD i.toNat 0).toNat)) ?_ (.pure (.int _ _));have e1:(ByteArray.mk ⟨s⟩)[i.toNat]?=some (s.getD i.toNat 0):=by
   have hsz:i.toNat<(ByteArray.mk ⟨s⟩).size:=by simpa [ByteArray.size] using hlt
   have h2:s[i.toNat]?=some (ByteArray.mk ⟨s⟩)[i.toNat]:=Lib.data_getElem? (ByteArray.mk ⟨s⟩) i.toNat hsz;rw [getElem?_pos (ByteArray.mk ⟨s⟩) i.toNat hsz];simp [List.getD,h2]
  simp [execOp,ho,hq,hi,Instr.index,asIntOf,run_underlying hu,hn'.1,e1]
 ·rename_i nn e l k i hu he hei;simp only [Option.bind_eq_some_iff,okN,Option.some.injEq,SR.mk.injEq] at hs;obtain ⟨y,hy,h0,rfl,rfl,rfl⟩:=hs;rw [he] at hx; rw [hei] at hix;obtain ⟨cs,hq,hsz,hr⟩:=aggVals hx;have hi:=hix.intInv
  rw [<- h0] at hn;have hn':0<=i/\i<nn:=by simpa using hn
  obtain ⟨⟨d,hd⟩,_⟩:=rel_part (P:=P) (ρ:=ρ) (M:=M) e (i.toNat * P.cellsOf e) (fun k=>cs.getD k undef) hy hr
  obtain ⟨ii,hii⟩:=info_of_underlying hd;obtain ⟨u,hu2,hr2⟩:=run_part (P:=P) (w:=w) cs l _ hsz hr hy;refine OpOut.same h ?_ hr2;simp [execOp,ho,hq,hi,Instr.index,asIntOf,run_underlying hu,hn'.1,hn'.2,run_sizeOf' hii,hu2]
 ·cases hs
end
def ROf (M:Mem) (v:Value) (n:Nat) (f:Nat->AV) (ex:Bool):Prop :=
 (n=0/\∃ a cap,v=.slice a 0 cap/\cap<=maxLen/\(ex=true->cap=0)/\(a=none->cap=0)) \/
 (0<n/\∃ B o cap sz,∃ vals:Nat->Nat->Value,v=.slice (some ⟨B,o,none⟩) n cap/\n<=cap/\cap<=maxLen/\(ex=true->cap=n) /\
  (∀ i,i<n->(f i).cells.length=sz)/\(∀ i j,i<n->j<sz->M B (o+i * sz+j)=some (vals i j)) /\
  (∀ i j,i<n->j<sz->RelP M (vals i j) ((f i).cells.getD j .undef)))
theorem ROf.ofRol {M v l ex} (h:RelP M v (.rol l ex)):ROf M v l.length (fun i=>l.getD i .undef) ex:=by
 cases h with
 | rol B o cap sz l ex vals hc hcm hex hz hm hr =>
  rcases Nat.eq_zero_or_pos l.length with h0|h0
  ·exact .inl ⟨h0,some ⟨B,o,none⟩,cap,by rw [h0],hcm,fun he=>by rw [hex he,h0],by simp⟩
  ·exact .inr ⟨h0,B,o,cap,sz,vals,rfl,hc,hcm,hex,hz,hm,hr⟩
 | rol0 a cap ex h1 h2 h3=>exact .inl ⟨rfl,a,cap,rfl,h1,h2,h3⟩
theorem ROf.ofRof {M v n f ex} (h:RelP M v (.rof n f ex)):ROf M v n f ex:=by
 cases h with
 | rof B o cap sz n f ex vals hc hcm hex hz hm hr =>
  rcases Nat.eq_zero_or_pos n with h0|h0
  ·exact .inl ⟨h0,some ⟨B,o,none⟩,cap,by rw [h0],hcm,fun he=>by rw [hex he,h0],by simp⟩
  ·exact .inr ⟨h0,B,o,cap,sz,vals,rfl,hc,hcm,hex,hz,hm,hr⟩
 | rof0 a cap f ex h1 h2 h3=>exact .inl ⟨rfl,a,cap,rfl,h1,h2,h3⟩
theorem ROf.toRof {M v n f ex} (h:ROf M v n f ex):RelP M v (.rof n f ex):=by
 rcases h with ⟨rfl,a,cap,rfl,h1,h2,h3⟩|⟨h0,B,o,cap,sz,vals,rfl,hc,hcm,hex,hz,hm,hr⟩
 ·exact .rof0 a cap f ex h1 h2 h3
 ·exact .rof B o cap sz n f ex vals hc hcm hex hz hm hr
theorem ROf.toRol {M v l ex} {f:Nat->AV} (h:ROf M v l.length f ex) (hf:∀ i,i<l.length->f i=l.getD i .undef):RelP M v (.rol l ex):=by
 rcases h with ⟨h0,a,cap,rfl,h1,h2,h3⟩|⟨h0,B,o,cap,sz,vals,rfl,hc,hcm,hex,hz,hm,hr⟩
 ·have:l=[]:=List.eq_nil_of_length_eq_zero h0;subst this;exact .rol0 a cap ex h1 h2 h3
 ·refine .rol B o cap sz l ex vals hc hcm hex (fun i hi=>by rw [<- hf i hi]; exact hz i hi) hm (fun i j hi hj=>by rw [<- hf i hi]; exact hr i j hi hj)
theorem ROf.sub {M n f ex} {a:Option Addr} {len cap:Nat} (h:ROf M (.slice a len cap) n f ex) (l hh m s:Nat) (ex':Bool) (hl:l<=hh) (hn:hh<=n) (hm:hh<=m) (hmc:m<=cap)
  (hs:0<n->(f 0).cells.length=s) (hex:ex'=true->m=hh) :
  ROf M (.slice (if m=l then a else a.map (·.add (l * s))) (hh - l) (m - l)) (hh - l) (fun k=>f (l+k)) ex':=by
 rcases h with ⟨rfl,a',cap',h1,h2,h3,h4⟩|⟨h0,B,o,cap',sz,vals,h1,hc,hcm,hex0,hz,hmm,hr⟩
 ·cases h1;have e1:hh=0:=by omega
  have e2:l=0:=by omega
  subst e1; subst e2;refine .inl ⟨rfl,_,m,rfl,by omega,fun he=>by rw [hex he],fun ha=>?_⟩
  by_cases hm0:m=0
  ·exact hm0
  ·rw [if_neg hm0] at ha;simp at ha;have:=h4 ha;omega
 ·cases h1;have hsz:sz=s:=by rw [<- hs h0,<- hz 0 h0]
  subst hsz;rcases Nat.eq_zero_or_pos (hh - l) with h5|h5
  ·refine .inl ⟨h5,_,m - l,by rw [h5],by omega,fun he=>by rw [hex he]; exact h5,fun ha=>?_⟩
   split at ha <;> simp at ha
  ·refine .inr ⟨h5,B,o+l * sz,m - l,sz,fun i j=>vals (l+i) j,?_,by omega,by omega,fun he=>by rw [hex he],fun i hi=>hz _ (by omega),fun i j hi hj=>?_,fun i j hi hj=>hr _ _ (by omega) hj⟩
   ·rw [if_neg (by omega)]
    simp [add_eq]
   ·have:=hmm (l+i) j (by omega) hj
    rw [Nat.add_mul] at this;rw [<- this]; congr 1; omega
section
variable {P:Program} {o:Oper} {U:Base} {w0:World} {n:Nat} {ρ:Rho} {M:Mem} {tm:Nat->AV} {hp:Nat->Blk} {nx:Nat} {a:Act} {w:World}
theorem Rel.rolInv {ρ M} {v:Value} {l ex} (h:Rel ρ M v (.rol l ex)):ROf M v l.length (fun i=>l.getD i .undef) ex:=by
 cases h with|pure h=>exact .ofRol h
theorem Rel.rofInv {ρ M} {v:Value} {n f ex} (h:Rel ρ M v (.rof n f ex)):ROf M v n f ex:=by
 cases h with|pure h=>exact .ofRof h
theorem Rel.slInv {ρ M} {v:Value} {b g i len c} (h:Rel ρ M v (.sl b g i len c)):∃ L,ρ b g=some L /\
  ((L.virt=false/\∃ cap,v=.slice (some ⟨L.B,L.o+i * L.sz,none⟩) len cap/\len<=cap/\(∀ k,c=some k->cap=k)/\L.o+(i+cap) * L.sz<=L.csz/\cap<=maxLen/\i+len<=L.n) \/
   (len=0/\(∀ k,c=some k->k=0)/\∃ a,v=.slice a 0 0)):=by
 cases h with
 | pure h=>cases h
 | sl L b g i len cap c h hv hl hc hb hcm hn=>exact ⟨L,h,.inl ⟨hv,cap,rfl,hl,hc,hb,hcm,hn⟩⟩
 | slv L a b g i c h hc=>exact ⟨L,h,.inr ⟨rfl,hc,a,rfl⟩⟩
theorem out_indexRo (h:SRel U w0 n ρ M tm hp nx a w) (t e:TypeId) (x ix:Operand) (ho:o.op=.indexAddr t x ix) (hu:P.underlying t=some (.slice e)) (he:(P.underlying e).isSome=true)
  (nn:Nat) (f:Nat->AV) (ex:Bool) (hx:ROf M (a.eval x) nn f ex) (k:IntKind) (i:Int) (hi:a.eval ix=.int k i) (h0:0<=i) (h1:i<nn) (hs:(f 0).cells.length=P.cellsOf e) :
  OpOut P o U w0 n ρ M tm hp nx a w (.rptr (f i.toNat) 0) []:=by
 generalize hq:a.eval x=q at hx;rcases hx with ⟨rfl,_⟩|⟨h2,B,off,cap,sz,vals,rfl,hc,hcm,hex,hz,hm,hr⟩
 ·omega
 obtain ⟨d,hd⟩:=Option.isSome_iff_exists.1 he;obtain ⟨ii,hii⟩:=info_of_underlying hd;have hsz:sz=P.cellsOf e:=by rw [<- hs,<- hz 0 h2]
 subst hsz;have hlt:i.toNat<nn:=by omega
 refine OpOut.same h (u:=.pointer (some ⟨B,off+i.toNat * P.cellsOf e+0,none⟩)) ?_ (.pure (.rptr B (off+i.toNat * P.cellsOf e) 0 (f i.toNat) (vals i.toNat) (fun j hj=>hm _ _ hlt (by rw [hz _ hlt] at hj; exact hj)) (fun j hj=>hr _ _ hlt (by rw [hz _ hlt] at hj; exact hj))))
 simp [execOp,ho,hq,hi,Instr.indexAt,asIntOf,run_underlying hu,h0,h1,run_sizeOf' hii,add_eq]
theorem step_indexAddr (h:SRel U w0 n ρ M tm hp nx a w) (t:TypeId) (x ix:Operand) (ho:o.op=.indexAddr t x ix) (ev:Operand->AV) (hx:Rel ρ M (a.eval x) (ev x)) (hix:Rel ρ M (a.eval ix) (ev ix)) (need v eff ob)
  (hs:stepOp P (.indexAddr t x ix) ev hp nx=some ⟨need,v,eff,ob⟩) (hn:need=true):OpOut P o U w0 n ρ M tm hp nx a w v eff:=by
 have hx:=hx.deg;simp only [stepOp,indexAddrAV] at hs;split at hs
 ·rename_i e l ex k i hu he hei;split at hs
  case isFalse=>cases hs
  rename_i hc;simp only [Bool.and_eq_true] at hc;simp only [okN,Option.some.injEq,SR.mk.injEq] at hs;obtain ⟨h0,rfl,rfl,rfl⟩:=hs;rw [<- h0] at hn;have hn':0<=i/\i<l.length:=by simpa using hn
  rw [he] at hx; rw [hei] at hix;rw [Sq.getL_eq (s:=.lst l) (i:=i.toNat) (by simp only [Sq.len]; omega)]
  simp only [Sq.get];refine out_indexRo h t e x ix ho hu hc.1 _ _ ex hx.rolInv k i hix.intInv hn'.1 hn'.2 ?_;have h2:=hc.2;simp only [Sq.sized,List.all_eq_true,beq_iff_eq] at h2;have hl:0<l.length:=by omega
  have:l.getD 0 .undef=l[0]:=by simp [List.getD,hl]
  rw [this]; exact h2 _ (List.getElem_mem hl)
 ·rename_i e nn f ex k i hu he hei;split at hs
  case isFalse=>cases hs
  rename_i hc;simp only [Bool.and_eq_true] at hc;simp only [okN,Option.some.injEq,SR.mk.injEq] at hs;obtain ⟨h0,rfl,rfl,rfl⟩:=hs;rw [<- h0] at hn;have hn':0<=i/\i<nn:=by simpa using hn
  rw [he] at hx; rw [hei] at hix;refine out_indexRo h t e x ix ho hu hc.1 _ _ ex hx.rofInv k i hix.intInv hn'.1 hn'.2 ?_;have h2:=hc.2;simpa [Sq.sized] using h2
 ·rename_i e b g i0 len c k i hu he hei;split at hs
  case h_2=>cases hs
  rename_i g' sz pu s hb;split at hs
  case isFalse=>cases hs
  rename_i hsz;simp only [okN,Option.some.injEq,SR.mk.injEq] at hs;obtain ⟨h0,rfl,rfl,rfl⟩:=hs;rw [<- h0] at hn;simp only [Bool.and_eq_true,decide_eq_true_eq] at hn;obtain ⟨hg,hn'⟩:=hn;subst hg;rw [he] at hx; rw [hei] at hix
  have hi:=hix.intInv;obtain ⟨L,hL,hc⟩:=hx.slInv;rcases hc with ⟨hv,cap,hq,hlc,hck,hb2,hcm,hnn⟩|⟨h1,_⟩
  ·obtain ⟨L',e1,e2,e3,_⟩:=h.rowLoc hb;rw [hL] at e1; cases e1;obtain ⟨ii,hii,_⟩:=info_of_cells (P:=P) (t:=e) (by omega)
   refine OpOut.same h (u:=.pointer (some ⟨L.B,L.o+(i0+i.toNat) * L.sz+0,none⟩)) ?_ (.ptr L b g (i0+i.toNat) 0 hL (by omega))
   simp [execOp,ho,hq,hi,Instr.indexAt,asIntOf,run_underlying hu,hn'.1,hn'.2,run_sizeOf' hii,add_eq];rw [e2,hsz,Nat.add_mul,Nat.add_assoc]
  ·omega
 ·rename_i nn e b g i0 j k i hu he hei;split at hs
  case isFalse=>cases hs
  rename_i hc;simp only [okN,Option.some.injEq,SR.mk.injEq] at hs;obtain ⟨h0,rfl,rfl,rfl⟩:=hs;rw [<- h0] at hn;have hn':0<=i/\i<nn:=by simpa using hn
  rw [he] at hx; rw [hei] at hix;have hi:=hix.intInv;obtain ⟨L,hL,hq,hiL⟩:=hx.ptrInv;obtain ⟨ii,hii,_⟩:=info_of_cells (P:=P) (t:=e) hc
  refine OpOut.same h (u:=.pointer (some ⟨L.B,L.o+i0 * L.sz+(j+i.toNat * P.cellsOf e),none⟩)) ?_ (.ptr L b g i0 _ hL hiL);simp [execOp,ho,hq,hi,Instr.indexAt,asIntOf,run_underlying hu,hn'.1,hn'.2,run_sizeOf' hii,add_eq,Instr.sureAddr];omega
 ·rename_i nn e y j k i hu he hei;split at hs
  case isFalse=>cases hs
  rename_i hc;simp only [okN,Option.some.injEq,SR.mk.injEq] at hs;obtain ⟨h0,rfl,rfl,rfl⟩:=hs;rw [<- h0] at hn;have hn':0<=i/\i<nn:=by simpa using hn
  rw [he] at hx; rw [hei] at hix;have hi:=hix.intInv;obtain ⟨B,o',vals,hq,hm,hr⟩:=hx.rptrInv;obtain ⟨ii,hii,_⟩:=info_of_cells (P:=P) (t:=e) hc
  refine OpOut.same h (u:=.pointer (some ⟨B,o'+(j+i.toNat * P.cellsOf e),none⟩)) ?_ (.pure (.rptr B o' _ y vals hm hr));simp [execOp,ho,hq,hi,Instr.indexAt,asIntOf,run_underlying hu,hn'.1,hn'.2,run_sizeOf' hii,add_eq,Instr.sureAddr];omega
 ·cases hs
end
end Pw
