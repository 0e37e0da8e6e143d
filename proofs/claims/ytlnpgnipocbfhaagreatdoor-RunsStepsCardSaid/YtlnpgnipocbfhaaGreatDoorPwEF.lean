/- ENGINE, part EF: families of rows and of maps; maps that are known by what they say of keys of integers. -/
import Derived.Test.YtlnpgnipocbfhaaGreatDoorPwE7
namespace Pw
open Go
theorem sameK_cons {x y:AV} {l m:List AV} (h:sameK (x::l) (y::m)=true):∃ k a b,x=.int k a/\y=.int k b/\sameK l m=true:=by
 cases x <;> simp only [sameK,Bool.false_eq_true] at h
 cases y <;> simp only [Bool.false_eq_true] at h
 rename_i k a k' b;simp only [Bool.and_eq_true,decide_eq_true_eq] at h;obtain ⟨rfl,h⟩:=h;exact ⟨k,a,b,rfl,rfl,h⟩
theorem sameK_mk {k:IntKind} {a b:Int} {l m:List AV} (h:sameK l m=true):sameK (.int k a::l) (.int k b::m)=true:=by simp [sameK,h]
theorem sameK_symm:∀ {l m:List AV},sameK l m=true->sameK m l=true
 | [],[],_=>rfl
 | [],_::_,h=>by simp [sameK] at h
 | _::_,[],h=>by simp [sameK] at h
 | x::l,y::m,h=>by
  have h0:=sameK_cons h; clear h; obtain ⟨k,a,b,rfl,rfl,h⟩:=h0;exact sameK_mk (sameK_symm h)
theorem sameK_trans:∀ {l m p:List AV},sameK l m=true->sameK m p=true->sameK l p=true
 | [],[],_,_,h=>h
 | [],_::_,_,h,_=>by simp [sameK] at h
 | _::_,[],_,h,_=>by simp [sameK] at h
 | x::l,y::m,[],_,h=>by simp [sameK] at h
 | x::l,y::m,z::p,h,h'=>by
  have h0:=sameK_cons h; clear h; obtain ⟨k,a,b,rfl,rfl,h⟩:=h0;have h1:=sameK_cons h'; clear h'; obtain ⟨k',a',b',e,rfl,h'⟩:=h1;cases e;exact sameK_mk (sameK_trans h h')
theorem sameK_len:∀ {l m:List AV},sameK l m=true->l.length=m.length
 | [],[],_=>rfl
 | [],_::_,h=>by simp [sameK] at h
 | _::_,[],h=>by simp [sameK] at h
 | x::l,y::m,h=>by
  have h0:=sameK_cons h; clear h; obtain ⟨k,a,b,rfl,rfl,h⟩:=h0;simp [sameK_len h]
theorem sameK_drop:∀ (i:Nat) {l m:List AV},sameK l m=true->sameK (l.drop i) (m.drop i)=true
 | 0,_,_,h=>h
 | i+1,[],[],_=>rfl
 | i+1,[],_::_,h=>by simp [sameK] at h
 | i+1,_::_,[],h=>by simp [sameK] at h
 | i+1,x::l,y::m,h=>by
  have h0:=sameK_cons h; clear h; obtain ⟨k,a,b,rfl,rfl,h⟩:=h0;exact sameK_drop i h
theorem sameK_take:∀ (i:Nat) {l m:List AV},sameK l m=true->sameK (l.take i) (m.take i)=true
 | 0,l,m,_=>by simp [sameK]
 | i+1,[],[],_=>rfl
 | i+1,[],_::_,h=>by simp [sameK] at h
 | i+1,_::_,[],h=>by simp [sameK] at h
 | i+1,x::l,y::m,h=>by
  have h0:=sameK_cons h; clear h; obtain ⟨k,a,b,rfl,rfl,h⟩:=h0;simp only [List.take_succ_cons];exact sameK_mk (sameK_take i h)
theorem kindsOK_same {P:Program}:∀ (d:Nat) (t:TypeId) (l m:List AV),sameK l m=true->kindsOK P d t l=kindsOK P d t m
 | 0,_,_,_,_=>rfl
 | d+1,t,l,m,h=>by
  unfold kindsOK;split
  ·match l,m,h with
   | [],[],_=>rfl
   | [],_::_,h=>simp [sameK] at h
   | _::_,[],h=>simp [sameK] at h
   | x::l,y::m,h=>have h0:=sameK_cons h; clear h; obtain ⟨k,a,b,rfl,rfl,h⟩:=h0; rfl
  ·match l,m,h with
   | [],[],_=>rfl
   | [],_::_,h=>simp [sameK] at h
   | _::_,[],h=>simp [sameK] at h
   | x::l,y::m,h =>
    have h0:=sameK_cons h; clear h; obtain ⟨k,a,b,rfl,rfl,h⟩:=h0
    match l,m,h with
    | [],[],_=>rfl
    | [],_::_,h=>simp [sameK] at h
    | _::_,[],h=>simp [sameK] at h
    | _::_,_::_,_=>rfl
  ·match l,m,h with
   | [],[],_=>rfl
   | [],_::_,h=>simp [sameK] at h
   | _::_,[],h=>simp [sameK] at h
   | x::l,y::m,h=>have h0:=sameK_cons h; clear h; obtain ⟨k,a,b,rfl,rfl,h⟩:=h0; rfl
  ·congr 1;funext f;exact kindsOK_same d f.type _ _ (sameK_take _ (sameK_drop _ h))
  ·congr 1;funext i;exact kindsOK_same d _ _ _ (sameK_take _ (sameK_drop _ h))
  ·rfl
theorem eqCells_same:∀ {l m:List AV},sameK l m=true->eqCells l m=some (decide (intCells l=intCells m))/\(intCells l).isSome=true/\(intCells m).isSome=true
 | [],[],_=>by simp [eqCells,intCells]
 | [],_::_,h=>by simp [sameK] at h
 | _::_,[],h=>by simp [sameK] at h
 | x::l,y::m,h=>by
  have h0:=sameK_cons h; clear h; obtain ⟨k,a,b,rfl,rfl,h⟩:=h0;obtain ⟨h1,h2,h3⟩:=eqCells_same h;obtain ⟨p,hp⟩:=Option.isSome_iff_exists.1 h2;obtain ⟨q,hq⟩:=Option.isSome_iff_exists.1 h3
  refine ⟨?_,by simp [intCells,hp],by simp [intCells,hq]⟩
  rw [eqCells_cons,h1];simp only [eqCell,if_true,intCells,hp,hq,Option.some.injEq,List.cons.injEq];rw [Bool.decide_and];congr 1
theorem sameShape_cells {x y:AV} (h:sameShape x y=true):sameK x.cells y.cells=true:=by
 cases x <;> cases y <;> simp_all [sameShape,AV.cells,sameK]
theorem sameShape_symm {x y:AV} (h:sameShape x y=true):sameShape y x=true:=by
 cases x <;> cases y <;> simp only [sameShape,Bool.false_eq_true] at h ⊢ <;> first|exact sameK_symm h|(simp [sameK] at h)
theorem sameShape_inv {x y:AV} (h:sameShape x y=true):(∃ l m,x=.agg l/\y=.agg m/\sameK l m=true)\/∃ k a b,x=.int k a/\y=.int k b:=by
 unfold sameShape at h;split at h
 ·split at h
  ·exact .inl ⟨_,_,rfl,rfl,h⟩
  ·cases h
 ·split at h
  ·cases h
  ·obtain ⟨k,a,b,h1,h2,_⟩:=sameK_cons h;exact .inr ⟨k,a,b,h1,h2⟩
theorem sameShape_trans {x y z:AV} (h:sameShape x y=true) (h':sameShape y z=true):sameShape x z=true:=by
 rcases sameShape_inv h with ⟨l,m,rfl,rfl,h1⟩|⟨k,a,b,rfl,rfl⟩ <;> rcases sameShape_inv h' with ⟨l',m',e,rfl,h2⟩|⟨k',a',b',e,rfl⟩ <;> cases e
 ·exact sameK_trans h1 h2
 ·simp [sameShape,sameK]
theorem keyFit_shape {P:Program} {kt:TypeId} {x y:AV} (h:keyFit P kt x=true) (hs:sameShape y x=true):keyFit P kt y=true:=by
 have hc:=sameShape_cells hs;have h1:=kindsOK_same (P:=P) 20 kt _ _ hc;have h2:=sameK_len hc;have h3:=eqCells_same (sameK_trans hc (sameK_symm hc));unfold keyFit at h ⊢;simp only [Bool.and_eq_true,beq_iff_eq] at h ⊢
 refine ⟨⟨⟨?_,by rw [h2]; exact h.1.1.2⟩,by rw [h1]; exact h.1.2⟩,by rw [h3.1]⟩
 have h0:=h.1.1.1;cases x <;> cases y <;> simp only [sameShape,Bool.false_eq_true] at hs <;> first|exact h0|(simp [sameK] at hs; done)
theorem findK {z:AV} {ix sh:AV} {ks:List Int} (hk:intCells ix.cells=some ks) (hi:sameShape ix sh=true):∀ (es:List (AV×AV)) (k0:Nat),(∀ e∈es,sameShape e.1 sh=true) ->
  ∃ r,findAV ix.cells es k0=some r/\match r with
   | none=>lookK z es ks=(false,z)/\∀ e∈es,intCells e.1.cells≠some ks
   | some i=>k0<=i/\i - k0<es.length/\lookK z es ks=(true,(es.getD (i - k0) (.undef,.undef)).2)/\(intCells (es.getD (i - k0) (.undef,.undef)).1.cells=some ks)/\∀ j,j<i - k0->intCells (es.getD j (.undef,.undef)).1.cells≠some ks
 | [],k0,_=>⟨none,rfl,rfl,fun e he=>by cases he⟩
 | e::es,k0,h=>by
  have hs:=sameK_trans (sameShape_cells hi) (sameK_symm (sameShape_cells (h e (List.mem_cons_self ..))));obtain ⟨h1,h2,h3⟩:=eqCells_same hs;rw [hk] at h1;simp only [findAV,h1];by_cases hc:intCells e.1.cells=some ks
  ·rw [show decide (some ks=intCells e.1.cells)=true from by simp [hc]]
   exact ⟨some k0,rfl,Nat.le_refl _,by simp,by simp [lookK,hc],by simpa using hc,fun j hj=>by omega⟩
  ·rw [show decide (some ks=intCells e.1.cells)=false from by simp [Ne.symm hc]]
   obtain ⟨r,k1,k2⟩:=findK hk hi es (k0+1) (fun e' he'=>h e' (List.mem_cons_of_mem _ he'))
   refine ⟨r,k1,?_⟩;cases r with
   | none =>
    refine ⟨by simp only [lookK,if_neg hc]; exact k2.1,fun e' he'=>?_⟩
    rcases List.mem_cons.1 he' with rfl|he'
    ·exact hc
    ·exact k2.2 e' he'
   | some i =>
    obtain ⟨m1,m2,m3,m4,m5⟩:=k2;have e1:i - k0=(i - (k0+1))+1:=by omega
    refine ⟨by omega,by rw [e1]; simpa using m2,?_,?_,fun j hj=>?_⟩
    ·simp only [lookK,if_neg hc];rw [m3,e1];rfl
    ·rw [e1]; exact m4
    ·cases j with
     | zero=>exact hc
     | succ j=>exact m5 j (by omega)
theorem lookK_app {z v k:AV} {ks:List Int} (hk:intCells k.cells=some ks):∀ {es:List (AV×AV)},(∀ e∈es,intCells e.1.cells≠some ks)->∀ q,lookK z (es++[(k,v)]) q=if q=ks then (true,v) else lookK z es q
 | [],_,q=>by
  simp only [List.nil_append,lookK,hk,Option.some.injEq];by_cases h:q=ks
  ·rw [if_pos h,if_pos h.symm]
  ·rw [if_neg h,if_neg (Ne.symm h)]
 | e::es,h,q=>by
  have h0:=h e (List.mem_cons_self ..);simp only [List.cons_append,lookK];rw [lookK_app hk (fun e' he'=>h e' (List.mem_cons_of_mem _ he')) q]
  by_cases h1:intCells e.1.cells=some q
  ·rw [if_pos h1,if_pos h1,if_neg (fun h2:q=ks=>h0 (h2▸h1))]
  ·rw [if_neg h1,if_neg h1]
theorem lookK_set {z v k:AV} {ks:List Int} (hk:intCells k.cells=some ks):∀ {es:List (AV×AV)} {i:Nat},i<es.length->intCells (es.getD i (.undef,.undef)).1.cells=some ks ->
  (∀ j,j<i->intCells (es.getD j (.undef,.undef)).1.cells≠some ks)->∀ q,lookK z (es.set i (k,v)) q=if q=ks then (true,v) else lookK z es q
 | [],_,h,_,_,_=>by simp at h
 | e::es,0,_,h,_,q=>by
  have h0:intCells e.1.cells=some ks:=h;simp only [List.set_cons_zero,lookK,hk,h0,Option.some.injEq];by_cases h1:q=ks
  ·rw [if_pos h1,if_pos h1.symm]
  ·rw [if_neg h1,if_neg (Ne.symm h1),if_neg (Ne.symm h1)]
 | e::es,i+1,hi,h,hn,q=>by
  have h0:intCells e.1.cells≠some ks:=hn 0 (by omega)
  simp only [List.set_cons_succ,lookK];rw [lookK_set hk (i:=i) (by simpa using hi) h (fun j hj=>hn (j+1) (by omega)) q]
  by_cases h1:intCells e.1.cells=some q
  ·rw [if_pos h1,if_pos h1,if_neg (fun h2:q=ks=>h0 (h2▸h1))]
  ·rw [if_neg h1,if_neg h1]
def putEs (es:List (AV×AV)) (r:Option Nat) (k v:AV):List (AV×AV) :=
 match r with
 | none=>es++[(k,v)]
 | some i=>es.set i (k,v)
theorem KMok.put {es:List (AV×AV)} {m:KM} (h:KMok es m) {k v:AV} {ks:List Int} (hk:intCells k.cells=some ks) (hs:sameShape k m.sh=true) (hv:isLit v=true) {r:Option Nat} (hf:findAV k.cells es 0=some r):KMok (putEs es r k v) (m.put ks v):=by
 obtain ⟨h1,hz,h2⟩:=h;obtain ⟨r',k1,k2⟩:=findK (z:=m.z) hk hs es 0 (fun e he=>(h1 e he).1)
 rw [hf] at k1;cases k1;have fin:∀ q,(if q=ks then (true,v) else lookK m.z es q)=((m.put ks v).has q,(m.put ks v).val q):=by
  intro q;simp only [KM.put,mergeAV_eq];by_cases hq:q=ks
  ·simp [hq]
  ·simp only [if_neg hq]; exact h2 q
 cases r with
 | none =>
  refine ⟨fun e he=>?_,hz,fun q=>(lookK_app hk k2.2 q).trans (fin q)⟩
  simp only [putEs,List.mem_append,List.mem_singleton] at he;rcases he with he|rfl
  ·exact h1 e he
  ·exact ⟨hs,hv⟩
 | some i =>
  obtain ⟨_,m2,_,m4,m5⟩:=k2;simp only [Nat.sub_zero] at m2 m4 m5;refine ⟨fun e he=>?_,hz,fun q=>(lookK_set hk m2 m4 m5 q).trans (fin q)⟩
  simp only [putEs] at he;rcases List.mem_or_eq_of_mem_set he with he|rfl
  ·exact h1 e he
  ·exact ⟨hs,hv⟩
theorem isLit_rel {ρ ρ':Rho} {M:Mem} {v:Value} {x:AV} (hx:isLit x=true) (h:Rel ρ M v x):Rel ρ' M v x:=by
 cases x <;> simp only [isLit,Bool.false_eq_true] at hx
 ·rw [h.intInv]; exact .pure (.int _ _)
 ·rw [h.boolInv]; exact .pure (.bool _)
theorem EntOK.lits {ρ ρ':Rho} {M:Mem} {es':Array MapEntry} {es:List (AV×AV)} (h:EntOK ρ M es' es) (hl:∀ e∈es,isLit e.2=true):EntOK ρ' M es' es:=by
 refine ⟨h.1,fun i hi=>?_⟩
 obtain ⟨e,e1,e2,e3⟩:=h.2 i hi;have:es.getD i (.undef,.undef)∈es:=by
  have e0:es.getD i (.undef,.undef)=es[i]:=by simp [List.getD,hi]
  rw [e0]; exact List.getElem_mem hi
 exact ⟨e,e1,e2,isLit_rel (hl _ this) e3⟩
section
variable {P:Program} {o:Oper} {U:Base} {w0:World} {n:Nat} {ρ:Rho} {M:Mem} {tm:Nat->AV} {hp:Nat->Blk} {nx:Nat} {a:Act} {w:World}
def foundV (es:List (AV×AV)) (z:AV):Option Nat->AV
 | some i=>(es.getD i (.undef,.undef)).2
 | none=>z
theorem run_lookupL (t:TypeId) (x ix:Operand) (ok:Bool) (ho:o.op=.lookup t x ix ok) {kt et:TypeId} (hu:P.underlying t=some (.map kt et)) {ka:AV} (hp1:plainEq P 20 kt=true) (hk:keyFit P kt ka=true)
  (hix:Rel ρ M (a.eval ix) ka) {B:Nat} (hxv:a.eval x=.map (some B)) {es':Array MapEntry} {c:Nat} (hw:w.heap[B]?=some (.map es' c)) {ρ1:Rho} {es:List (AV×AV)} (hE:EntOK ρ1 M es' es) (hKs:∀ e∈es,KeyOK P kt e.1)
  {r:Option Nat} (hf:findAV ka.cells es 0=some r) {z:AV} (hz:zeroAV P et=some z) (hzl:isLit z=true) {v:AV} (hv:v=foundV es z r) :
  ∃ u,(execOp a.eval o).run P w=.ok (.value u) w/\Rel ρ1 M u (if ok then .tup [v,.bool r.isSome] else v):=by
 simp only [zeroAV,Option.map_eq_some_iff,Option.bind_eq_some_iff] at hz;obtain ⟨zv,⟨i,hi,hz⟩,rfl⟩:=hz;have hK:=keyFit_ok hk;have hzr:(zeroValue et).run P w=.ok zv w:=by simp [zeroValue,typeInfo,hi,hz]
 have hkv:=hK.rel hix;obtain ⟨f1,f2,f3⟩:=hE.facts;have h1:=run_findK hp1 hK w f1 f2 hKs hf;have h2:=run_checkK es'.isEmpty hp1 hK w;have h3:(getObj B).run P w=.ok (.map es' c) w:=by simp [getObj,Sem.run,hw]
 have two:∀ {u:Value} {y:AV} (b:Bool),Rel ρ1 M u y->Rel ρ1 M (.tuple #[u,.bool b]) (.tup [y,.bool b]):=by
  intro u y b hy;refine .tup _ _ rfl fun j hj=>?_
  simp only [List.length_cons,List.length_nil] at hj
  match j,hj with
  | 0,_=>exact hy
  | 1,_=>exact .pure (.bool b)
 cases r with
 | none =>
  simp only [Option.map_none] at h1;simp only [foundV] at hv;subst hv;refine ⟨if ok then .tuple #[zv,.bool false] else zv,by simp [execOp,ho,Instr.lookup,run_underlying hu,hxv,hkv,h2,h1,h3,hzr],?_⟩
  cases ok
  ·simpa using Rel.pure (avOf_rel M zv)
  ·simpa using two false (Rel.pure (avOf_rel M zv))
 | some i =>
  simp only [Option.map_some] at h1;simp only [foundV] at hv;subst hv;have hi2:=findAV_at _ _ _ _ hf;have f6:=f3 i (by omega)
  refine ⟨if ok then .tuple #[entAt es'.toList i,.bool true] else entAt es'.toList i,by simp [execOp,ho,Instr.lookup,run_underlying hu,hxv,hkv,h2,h1,h3],?_⟩
  cases ok
  ·simpa using f6
  ·simpa using two true f6
theorem run_updateL (t:TypeId) (x ix y:Operand) (ho:o.op=.mapUpdate t x ix y\/o.op=.insert t x ix y) {kt et:TypeId} (hu:P.underlying t=some (.map kt et)) {ka va:AV} (hp1:plainEq P 20 kt=true) (hk:keyFit P kt ka=true)
  (hix:Rel ρ M (a.eval ix) ka) (hy:Rel ρ M (a.eval y) va) {B:Nat} (hxv:a.eval x=.map (some B)) {es':Array MapEntry} {c:Nat} (hw:w.heap[B]?=some (.map es' c)) {es:List (AV×AV)} (hE:EntOK ρ M es' es) (hKs:∀ e∈es,KeyOK P kt e.1)
  {r:Option Nat} (hf:findAV ka.cells es 0=some r) :
  ∃ es2 c2,(execOp a.eval o).run P w=.ok .skip (w.putObj B (.map es2 c2))/\EntOK ρ M es2 (putEs es r ka va):=by
 have hK:=keyFit_ok hk;have hv:=hK.rel hix;obtain ⟨f1,f2,f3⟩:=hE.facts;have h1:=run_findK hp1 hK w f1 f2 hKs hf;have h2:=run_checkK false hp1 hK w;have h3:(getObj B).run P w=.ok (.map es' c) w:=by simp [getObj,Sem.run,hw]
 have hexec:(execOp a.eval o).run P w=((Instr.mapUpdate t (a.eval x) (a.eval ix) (a.eval y)).run P w).andThen fun _ w'=>.ok .skip w':=by
  rcases ho with ho|ho <;> simp [execOp,ho]
 have hset:∀ o',(setObj B o').run P w=.ok () (w.putObj B o'):=fun o'=>by
  simp [setObj,Sem.run,hw,World.putObj]
 have hsz:es'.size=es.length:=hE.1;cases r with
 | none =>
  simp only [Option.map_none] at h1;refine ⟨es'.push { key:=a.eval ix,val:=a.eval y,born:=c },c+1,?_,by simp [putEs,hsz],fun i hi=>?_⟩
  ·rw [hexec,hxv,hv];simp [Instr.mapUpdate,run_underlying hu,h3,h2,h1,hset]
  ·simp only [putEs,List.length_append,List.length_cons,List.length_nil] at hi ⊢;rcases Nat.lt_or_ge i es.length with hlt|hge
   ·obtain ⟨e,k1,k2,k3⟩:=hE.2 i hlt;refine ⟨e,?_,?_,?_⟩
    ·rw [Array.getElem?_push,if_neg (by omega)]; exact k1
    ·rw [getD_append_left _ _ _ _ hlt]; exact k2
    ·rw [getD_append_left _ _ _ _ hlt]; exact k3
   ·obtain rfl:i=es.length:=by omega
    refine ⟨_,by rw [Array.getElem?_push,if_pos hsz.symm],?_,?_⟩
    ·simpa [List.getD] using hv
    ·simpa [List.getD] using hy
 | some i =>
  simp only [Option.map_some] at h1;obtain ⟨_,hi2,hi3⟩:=findAV_at _ _ _ _ hf;simp only [Nat.sub_zero] at hi2 hi3;obtain ⟨e,k1,k2,k3⟩:=hE.2 i hi2;have hmem:es.getD i (.undef,.undef)∈es:=by
   have:es.getD i (.undef,.undef)=es[i]:=by simp [List.getD,hi2]
   rw [this]; exact List.getElem_mem hi2
  have hold:e.key=vAV ka:=by
   rw [k2,(hKs _ hmem).val,hK.val,eqCells_true _ _ hi3]
  have hstay:(Instr.keyThatStays ((es'[i]?.map (·.key)).getD (a.eval ix)) (a.eval ix)).run P w=.ok (a.eval ix) w:=by
   rw [k1,hv];simp only [Option.map_some,Option.getD_some,hold,Instr.keyThatStays,sameBits_key hK,if_true,Sem.run_pure]
  refine ⟨es'.modify i fun e=>{ e with key:=a.eval ix,val:=a.eval y },c,?_,by simp [putEs,hsz],fun j hj=>?_⟩
  ·rw [hexec,hxv];have h1':(Instr.findKey kt (a.eval ix) es'.toList).run P w=.ok (some (i,entAt es'.toList i)) w:=by rw [hv]; exact h1
   have h2':(Instr.checkKey false 10000 kt (a.eval ix)).run P w=.ok () w:=by rw [hv]; exact h2
   simp only [Instr.mapUpdate,Sem.run_bind,run_underlying hu,Result.andThen_ok,h3,h2',h1',hstay,hset]
  ·simp only [putEs,List.length_set] at hj ⊢;by_cases hij:i=j
   ·subst hij;refine ⟨{ e with key:=a.eval ix,val:=a.eval y },by simp [Array.getElem?_modify,k1],?_,?_⟩
    ·simpa [List.getD,hi2] using hv
    ·simpa [List.getD,hi2] using hy
   ·obtain ⟨e',m1,m2,m3⟩:=hE.2 j hj;refine ⟨e',by simp [Array.getElem?_modify,hij,m1],?_,?_⟩
    ·simpa [List.getD,List.getElem?_set,hij] using m2
    ·simpa [List.getD,List.getElem?_set,hij] using m3
theorem FamRow.keep {U:Base} {w0:World} {ρ ρ':Rho} {M M':Mem} {w w':World} {b sz i l B0:Nat} {L:Loc} (h:FamRow U w0 ρ M w b sz i l L) (hρ:ρ' b (code i l)=ρ b (code i l)) (hM:MExt M M')
  (hMB:∀ B i v,M' B i=some v->B≠B0->M B i=some v) (hw:∀ B,B<w.heap.size->B≠B0->w'.heap[B]?=w.heap[B]?) (hB:L.B≠B0):FamRow U w0 ρ' M' w' b sz i l L:=by
 obtain ⟨b1,b2,⟨c,ce,b3,b4⟩,b5,b6,b7⟩:=h;refine ⟨by rw [hρ]; exact b1,b2,⟨c,ce,by rw [hw L.B (heap_lt b3) hB]; exact b3,b4⟩,fun q hq=>?_,fun k hk=>?_,b7⟩
 ·obtain ⟨v,hv⟩:=b5 q hq;exact ⟨v,hM _ _ _ hv⟩
 ·cases hm:M' L.B k with
  | none=>rfl
  | some v=>have:=hMB L.B k v hm hB; rw [b6 k hk] at this; cases this
theorem FamMap.keep {U:Base} {w0:World} {ρ ρ':Rho} {M M':Mem} {hp hp':Nat->Blk} {mk:List Nat} {w w':World} {b i B0:Nat} {m:KM} {L:Loc} (h:FamMap U w0 ρ M hp mk w b i m L) (hρ:ρ' b i=ρ b i) (hM:MExt M M')
  (hw:∀ B,B<w.heap.size->B≠B0->w'.heap[B]?=w.heap[B]?) (hB:L.B≠B0)
  (hrow:∀ b' g sz pu s L',hp' b'=.row g sz pu s->ρ' b' g=some L'->hp b'=.row g sz pu s/\ρ b' g=some L') (hloop:∀ b' st r L',hp' b'=.loop st r->ρ' b' 0=some L'->hp b'=.loop st r/\ρ b' 0=some L'):FamMap U w0 ρ' M' hp' mk w' b i m L:=by
 obtain ⟨b1,⟨es,es',c,b2,b3,b4⟩,b5,b6,b7,b8⟩:=h;refine ⟨by rw [hρ]; exact b1,⟨es,es',c,by rw [hw L.B (heap_lt b2) hB]; exact b2,b3.mono (RExt.refl _) hM,b4⟩,b5,fun b' g sz pu s L' e1 e2 e3=>?_,fun b' st r L' e1 e2=>?_,b8⟩
 ·obtain ⟨k1,k2⟩:=hrow b' g sz pu s L' e1 e2;exact b6 b' g sz pu s L' k1 k2 e3
 ·obtain ⟨k1,k2⟩:=hloop b' st r L' e1 e2;exact b7 b' st r L' k1 k2
theorem SRel.famStep (h:SRel U w0 n ρ M tm hp nx a w) {ρ':Rho} {M':Mem} {w':World} {b nx':Nat} {d':Fam} (hna:∀ b' k on sp r,hp b'≠.loop (.abs k on sp) r)
  (hbd:hp b=.dead\/∃ d,hp b=.fam d) (hnx:nx<=nx') (hbn:b<nx') (hρ:RExt ρ ρ') (hρ':∀ b' g,b'≠b->ρ' b' g=ρ b' g) (hM:MExt M M')
  (hos:w'.os=w.os) (htape:w'.tape=w.tape) (hout:w'.output=w.output) (hsz:w.heap.size<=w'.heap.size) (B0:Nat)
  (hrowB:∀ b' g sz pu s L,hp b'=.row g sz pu s->ρ b' g=some L->L.virt=false->L.B≠B0) (hloopB:∀ b' st r L,hp b'=.loop st r->ρ b' 0=some L->L.B≠B0) (hmarkB:∀ r∈marksOf a.defers,r≠B0)
  (hw:∀ B,B<w.heap.size->B≠B0->w'.heap[B]?=w.heap[B]?) (hMB:∀ B i v,M' B i=some v->B≠B0->M B i=some v)
  (hmem:∀ i v,M' B0 i=some v->w'.cell? ⟨B0,i,none⟩=some v/\v.oneCell'=true) (hown:U.U B0->w0.heap.size<=B0)
  (hfam:FamAt U w0 ρ' M' (updH hp b (.fam d')) (marksOf a.defers) w' b d') (hoth:∀ b1 d1,b1≠b->hp b1=.fam d1->¬ FamB ρ b1 d1 B0)
  (hdis:∀ b1 d1 B,b1≠b->hp b1=.fam d1->FamB ρ' b d' B->¬ FamB ρ b1 d1 B) :
  SRel U w0 n ρ' M' tm (updH hp b (.fam d')) nx' a w':=by
 have hbr:∀ g sz pu s,hp b≠.row g sz pu s:=fun g sz pu s e=>by rcases hbd with e1|⟨d,e1⟩ <;> (rw [e1] at e; cases e)
 have hbl:∀ st r,hp b≠.loop st r:=fun st r e=>by rcases hbd with e1|⟨d,e1⟩ <;> (rw [e1] at e; cases e)
 have hrow:∀ b' g sz pu s,updH hp b (.fam d') b'=.row g sz pu s->hp b'=.row g sz pu s/\b'≠b:=by
  intro b' g sz pu s e;simp only [updH] at e;split at e
  ·cases e
  ·exact ⟨e,by assumption⟩
 have hloop:∀ b' st r,updH hp b (.fam d') b'=.loop st r->hp b'=.loop st r/\b'≠b:=by
  intro b' st r e;simp only [updH] at e;split at e
  ·cases e
  ·exact ⟨e,by assumption⟩
 have hrowρ:∀ b' g sz pu s L',updH hp b (.fam d') b'=.row g sz pu s->ρ' b' g=some L'->hp b'=.row g sz pu s/\ρ b' g=some L':=fun b' g sz pu s L' e1 e2=>by
  obtain ⟨k1,k2⟩:=hrow _ _ _ _ _ e1;exact ⟨k1,by rw [<- hρ' b' g k2]; exact e2⟩
 have hloopρ:∀ b' st r L',updH hp b (.fam d') b'=.loop st r->ρ' b' 0=some L'->hp b'=.loop st r/\ρ b' 0=some L':=fun b' st r L' e1 e2=>by
  obtain ⟨k1,k2⟩:=hloop _ _ _ e1;exact ⟨k1,by rw [<- hρ' b' 0 k2]; exact e2⟩
 refine ⟨h.size,fun t=>(h.tm t).mono hρ hM,⟨fun B i v hm=>?_,fun b' g sz pu s e=>?_,fun b1 b2 g1 g2 sz1 sz2 pu1 pu2 s1 s2 L1 L2 e1 e2 f1 f2=>?_,fun b' g sz pu s e g' hg=>?_,fun b' st r e=>?_,fun b1 b2 st1 st2 r1 r2 L1 L2 e1 e2 f1 f2=>?_⟩,
  fun b' hb'=>?_,fun b' g hb'=>?_,⟨hos.trans h.keep.os,htape.trans h.keep.tape,hout.trans h.keep.output,Nat.le_trans h.keep.size hsz,fun B hU hB=>?_⟩,fun B i v hm=>?_,h.memE.trans hM,fun b' g sz pu s L e1 e2 e3 hU=>?_,h.nle,fun b' st r L e1 e2 hU=>?_,
  h.defers.mono hρ hM,⟨h.marks.1,fun r hr=>?_⟩,h.mown,h.nod,fun b' k on sp r e=>?_,fun b1 d1 e=>?_⟩
 ·by_cases hB:B=B0
  ·subst hB; exact hmem i v hm
  ·have hm0:=hMB B i v hm hB;rw [cell_congr (hw B (h.hok.mem_lt hm0) hB)];exact h.hok.mem B i v hm0
 ·obtain ⟨e,hne⟩:=hrow _ _ _ _ _ e;obtain ⟨L,f1,f2,f3,f4⟩:=h.hok.row b' g sz pu s e;refine ⟨L,hρ _ _ _ f1,f2,f3,?_⟩;rcases f4 with f4|⟨hv,c,ee,f5,f6,f7,f8,f9⟩
  ·exact .inl f4
  ·have hLB:=hrowB b' g sz pu s L e f1 hv;refine .inr ⟨hv,c,ee,by rw [hw L.B (heap_lt f5) hLB]; exact f5,f6,f7,fun i=>?_,fun i hi=>⟨(f9 i hi).1,fun j hj=>?_⟩⟩
   ·cases hm:M' L.B i with
    | none=>rfl
    | some v=>have:=hMB L.B i v hm hLB; rw [f8 i] at this; cases this
   ·obtain ⟨v,m1,m2,m3,m4⟩:=(f9 i hi).2 j hj;exact ⟨v,m1,m2,m3.mono hρ hM,fun hp'=>(m4 hp').mono hM⟩
 ·obtain ⟨k1,k2⟩:=hrowρ _ _ _ _ _ _ e1 f1;obtain ⟨k3,k4⟩:=hrowρ _ _ _ _ _ _ e2 f2;exact h.hok.inj b1 b2 g1 g2 sz1 sz2 pu1 pu2 s1 s2 L1 L2 k1 k3 k2 k4
 ·obtain ⟨e,hne⟩:=hrow _ _ _ _ _ e;rw [hρ' b' g' hne];exact h.hok.gen b' g sz pu s e g' hg
 ·obtain ⟨e,hne⟩:=hloop _ _ _ e;refine (h.hok.loop b' st r e).mono hρ hM fun L hL lp e2=>?_
  rw [hw L.B (heap_lt e2) (hloopB b' st r L e hL)];exact e2
 ·obtain ⟨k1,k2⟩:=hloopρ _ _ _ _ e1 f1;obtain ⟨k3,k4⟩:=hloopρ _ _ _ _ e2 f2;exact h.hok.linj b1 b2 st1 st2 r1 r2 L1 L2 k1 k3 k2 k4
 ·simp only [updH,if_neg (show b'≠b by omega)]
  exact h.dead b' (by omega)
 ·rw [hρ' b' g (by omega)]
  exact h.free b' g (by omega)
 ·by_cases hB0:B=B0
  ·subst hB0; have:=hown hU; omega
  ·rw [hw B (Nat.lt_of_lt_of_le hB h.keep.size) hB0];exact h.keep.block B hU hB
 ·by_cases hB:B=B0
  ·subst hB;rcases Classical.em (U.U B) with hU|hU
   ·exact .inr (.inl (hown hU))
   ·exact .inr (.inr hU)
  ·exact h.memN B i v (hMB B i v hm hB)
 ·obtain ⟨k1,k2⟩:=hrowρ _ _ _ _ _ _ e1 e2;exact h.own b' g sz pu s L k1 k2 e3 hU
 ·obtain ⟨k1,k2⟩:=hloopρ _ _ _ _ e1 e2;exact h.ownL b' st r L k1 k2 hU
 ·have h1:=h.marks.2 r hr;rw [hw r (heap_lt h1) (hmarkB r hr)];exact h1
 ·exact absurd (hloop _ _ _ e).1 (hna b' k on sp r)
 ·refine ⟨fun b' k on sp r e'=>absurd (hloop _ _ _ e').1 (hna b' k on sp r),?_,fun b2 d2 B hne e2 k1 k2=>?_⟩
  ·by_cases hb1:b1=b
   ·subst hb1;simp only [updH,if_true] at e;cases e;exact hfam
   ·simp only [updH,if_neg hb1] at e;have hn:=hoth b1 d1 hb1 e;have hat:=(h.ext.2 b1 d1 e).2.1;cases d1 with
    | rows sz len =>
     obtain ⟨a1,a2,a3,a4⟩:=hat;refine ⟨a1,fun i hi=>?_,fun i l hl=>by rw [hρ' _ _ hb1]; exact a3 i l hl,fun i i' L L' h1 h2 h3 h4=>a4 i i' L L' h1 h2 (by rw [<- hρ' _ _ hb1]; exact h3) (by rw [<- hρ' _ _ hb1]; exact h4)⟩
     obtain ⟨L,hL⟩:=a2 i hi;exact ⟨L,hL.keep (hρ' _ _ hb1) hM hMB hw fun e=>hn ⟨i,L,hi,hL.1,e⟩⟩
    | maps sh z nn has val =>
     obtain ⟨a1,a2,a3⟩:=hat;refine ⟨fun i hi=>?_,fun i hi=>by rw [hρ' _ _ hb1]; exact a2 i hi,fun i i' L L' h1 h2 h3 h4=>a3 i i' L L' h1 h2 (by rw [<- hρ' _ _ hb1]; exact h3) (by rw [<- hρ' _ _ hb1]; exact h4)⟩
     obtain ⟨L,hL⟩:=a1 i hi;exact ⟨L,hL.keep (hρ' _ _ hb1) hM hw (fun e=>hn ⟨i,L,hi,hL.1,e⟩) hrowρ hloopρ⟩
  ·by_cases hb1:b1=b
   ·subst hb1;simp only [updH,if_true] at e;cases e;simp only [updH,if_neg hne] at e2;exact hdis b2 d2 B hne e2 k1 (k2.congr (fun g=>hρ' b2 g hne))
   ·simp only [updH,if_neg hb1] at e;have k1':=k1.congr (fun g=>hρ' b1 g hb1)
    by_cases hb2:b2=b
    ·subst hb2;simp only [updH,if_true] at e2;cases e2;exact hdis b1 d1 B hb1 e k2 k1'
    ·simp only [updH,if_neg hb2] at e2;exact (h.ext.2 b1 d1 e).2.2 b2 d2 B hne e2 k1' (k2.congr (fun g=>hρ' b2 g hb2))
end
section
variable {P:Program} {o:Oper} {U:Base} {w0:World} {n:Nat} {ρ:Rho} {M:Mem} {tm:Nat->AV} {hp:Nat->Blk} {nx:Nat} {a:Act} {w:World}
theorem SRel.famB_lt (h:SRel U w0 n ρ M tm hp nx a w) {b:Nat} {d:Fam} (hb:hp b=.fam d) {B:Nat} (hB:FamB ρ b d B):B<w.heap.size:=by
 have hat:=(h.ext.2 b d hb).2.1;cases d with
 | rows sz len =>
  obtain ⟨i,L,h1,h2,h3⟩:=hB;obtain ⟨L',k1,k2,⟨c,ce,k3,k4⟩,_⟩:=hat.2.1 i h1;rw [h2] at k1; cases k1;rw [<- h3]; exact heap_lt k3
 | maps sh z nn has val =>
  obtain ⟨i,L,h1,h2,h3⟩:=hB;obtain ⟨L',k1,⟨es,es',c,k3,_⟩,_⟩:=hat.1 i h1;rw [h2] at k1; cases k1;rw [<- h3]; exact heap_lt k3
theorem SRel.mem_none (h:SRel U w0 n ρ M tm hp nx a w) {B:Nat} {es:Array MapEntry} {c:Nat} (hB:w.heap[B]?=some (.map es c)) (i:Nat):M B i=none:=by
 cases hm:M B i with
 | none=>rfl
 | some v=>have:=(h.hok.mem B i v hm).1; simp [World.cell?,hB] at this
theorem SRel.fresh_rows (h:SRel U w0 n ρ M tm hp nx a w) {B0:Nat} (hB:w.heap.size<=B0) :
  (∀ b' g sz pu s L,hp b'=.row g sz pu s->ρ b' g=some L->L.virt=false->L.B≠B0)/\(∀ b' st r L,hp b'=.loop st r->ρ b' 0=some L->L.B≠B0)/\(∀ r∈marksOf a.defers,r≠B0):=by
 refine ⟨fun b' g sz pu s L e1 e2 e3=>?_,fun b' st r L e1 e2=>?_,fun r hr=>?_⟩
 ·obtain ⟨L',f1,_,_,f4⟩:=h.hok.row b' g sz pu s e1;rw [e2] at f1; cases f1;rcases f4 with f4|⟨_,c,ee,f5,_⟩
  ·rw [e3] at f4; cases f4.1
  ·have:=heap_lt f5; omega
 ·obtain ⟨L',lp,f1,f3⟩:=(h.hok.loop b' st r e1).at
  rw [e2] at f1; cases f1;have:=heap_lt f3; omega
 ·have:=heap_lt (h.marks.2 r hr); omega
theorem SRel.setFMap (h:SRel U w0 n ρ M tm hp nx a w) {b i nn:Nat} {sh z:AV} {has:Nat->List Int->Bool} {val:Nat->List Int->AV} (hb:hp b=.fam (.maps sh z nn has val)) (hi:i<nn) {L:Loc} (hL:ρ b i=some L)
  (es2:Array MapEntry) (c2:Nat) (es:List (AV×AV)) (hE:EntOK (fun _ _=>none) M es2 es) (m':KM) (hK:KMok es m') (hsh:m'.sh=sh) (hz:m'.z=z) :
  SRel U w0 n ρ M tm (updH hp b (.fam (.maps sh z nn (fun k q=>if k=i then m'.has q else has k q) (fun k q=>mergeAV (k=i) (m'.val q) (val k q))))) nx a (w.putObj L.B (.map es2 c2)):=by
 obtain ⟨hna,⟨a1,a2,a3⟩,hdis⟩:=h.ext.2 b _ hb;obtain ⟨L',c1,⟨es0,es0',c0,d2,d3,d4⟩,c5,c6,c7,c8⟩:=a1 i hi;rw [hL] at c1; cases c1
 have hnew:∀ B,B<w.heap.size->B≠L.B->(w.putObj L.B (.map es2 c2)).heap[B]?=w.heap[B]?:=fun B _ hB=>World.putObj_heap_other hB
 have hsame:(w.putObj L.B (.map es2 c2)).heap[L.B]?=some (.map es2 c2):=World.putObj_heap_same (heap_lt d2)
 have hrowρ:∀ {d'} b' g sz pu s (L':Loc),updH hp b (.fam d') b'=.row g sz pu s->ρ b' g=some L'->hp b'=.row g sz pu s/\ρ b' g=some L':=fun b' g sz pu s L' e1 e2=>by
  simp only [updH] at e1;split at e1
  ·cases e1
  ·exact ⟨e1,e2⟩
 have hloopρ:∀ {d'} b' st r (L':Loc),updH hp b (.fam d') b'=.loop st r->ρ b' 0=some L'->hp b'=.loop st r/\ρ b' 0=some L':=fun b' st r L' e1 e2=>by
  simp only [updH] at e1;split at e1
  ·cases e1
  ·exact ⟨e1,e2⟩
 have hBme:FamB ρ b (.maps sh z nn has val) L.B:=⟨i,L,hi,hL,rfl⟩
 refine h.famStep hna (.inr ⟨_,hb⟩) (Nat.le_refl _) (h.lt_nx (by rw [hb]; simp)) (RExt.refl ρ) (fun _ _ _=>rfl) (MExt.refl M) rfl rfl rfl (by rw [World.putObj_size]; exact Nat.le_refl _) L.B c6 c7 c8 hnew (fun _ _ _ hm _=>hm)
  (fun q v hm=>by rw [h.mem_none d2] at hm; cases hm) c5 ⟨fun k hk=>?_,a2,a3⟩ (fun b1 d1 hne e1 hB=>hdis b1 d1 L.B hne e1 hBme hB) (fun b1 d1 B hne e1 hB=>hdis b1 d1 B hne e1 hB)
 by_cases hki:k=i
 ·subst hki;refine ⟨L,hL,⟨es,es2,c2,hsame,hE,?_⟩,c5,fun b' g sz pu s L' e1 e2 e3=>?_,fun b' st r L' e1 e2=>?_,c8⟩
  ·obtain ⟨k1,k2,k3⟩:=hK;refine ⟨fun e he=>?_,?_,fun q=>?_⟩
   ·rw [<- hsh]; exact k1 e he
   ·rw [<- hz]; exact k2
   ·simp only [mergeAV_eq,if_true]; rw [<- hz]; exact k3 q
  ·obtain ⟨q1,q2⟩:=hrowρ b' g sz pu s L' e1 e2;exact c6 b' g sz pu s L' q1 q2 e3
  ·obtain ⟨q1,q2⟩:=hloopρ b' st r L' e1 e2;exact c7 b' st r L' q1 q2
 ·obtain ⟨Lk,hLk⟩:=a1 k hk;refine ⟨Lk,?_⟩;have e1:(⟨sh,z,fun q=>if k=i then m'.has q else has k q,fun q=>mergeAV (k=i) (m'.val q) (val k q)⟩:KM)=⟨sh,z,has k,val k⟩:=by
   simp only [mergeAV_eq,if_neg hki]
  show FamMap _ _ _ _ _ _ _ b k ⟨sh,z,fun q=>if k=i then m'.has q else has k q,fun q=>mergeAV (k=i) (m'.val q) (val k q)⟩ Lk
  rw [e1];exact hLk.keep rfl (MExt.refl M) hnew (fun e=>hki (a3 k i Lk L hk hi hLk.1 hL e)) hrowρ hloopρ
theorem mkAtMem (h:SRel U w0 n ρ M tm hp nx a w) {x:AV} {v:Value} (hx:Rel ρ M v x) {nd:Bool} {m:KM} (hm:mkOf hp x=some (nd,m)) (hnd:nd=true) :
  ∃ L es es' c,v=.map (some L.B)/\w.heap[L.B]?=some (.map es' c)/\EntOK ρ M es' es/\KMok es m/\((∃ b r,x=.map b/\hp b=.loop (.mk m) r/\ρ b 0=some L/\L.rc=none)\/∃ b i nn sh z has val,x=.fmap b i/\hp b=.fam (.maps sh z nn has val)/\i<nn/\ρ b i=some L/\m=⟨sh,z,has i,val i⟩):=by
 subst hnd;cases x <;> simp only [mkOf,reduceCtorEq] at hm
 ·rename_i b;split at hm
  ·rename_i m0 r hb;simp only [Option.some.injEq,Prod.mk.injEq,true_and] at hm;subst hm;obtain ⟨L,hL,rfl⟩:=hx.mapInv;obtain ⟨L1,es,es',c,e0,e1,e2,e3,e4⟩:=(h.hok.loop b _ r hb).mkOK;rw [hL] at e1; cases e1
   exact ⟨L,es,es',c,rfl,e3,e4,e0,.inl ⟨b,r,rfl,hb,hL,e2⟩⟩
  ·cases hm
 ·rename_i b i;split at hm
  ·rename_i sh z nn has val hb;simp only [Option.some.injEq,Prod.mk.injEq,decide_eq_true_eq] at hm;obtain ⟨hi,rfl⟩:=hm;obtain ⟨L,hL,rfl⟩:=hx.fmapInv;obtain ⟨L1,e1,⟨es,es',c,e3,e4,e5⟩,_⟩:=(h.ext.2 b _ hb).2.1.1 i hi;rw [hL] at e1; cases e1
   exact ⟨L,es,es',c,rfl,e3,e4.lits (fun e he=>(e5.1 e he).2),e5,.inr ⟨b,i,nn,sh,z,has,val,rfl,hb,hi,hL,rfl⟩⟩
  ·cases hm
theorem zIs_eq {et:TypeId} {z:AV} (h:zIs P et z=true):zeroAV P et=some z/\isLit z=true:=by
 unfold zIs at h;split at h
 ·rename_i k m hz;split at h
  ·simp only [Bool.and_eq_true,decide_eq_true_eq] at h;obtain ⟨rfl,rfl⟩:=h;exact ⟨hz,rfl⟩
  ·cases h
 ·rename_i b hz;split at h
  ·simp only [beq_iff_eq] at h;subst h;exact ⟨hz,rfl⟩
  ·cases h
 ·cases h
theorem step_lookupK (h:SRel U w0 n ρ M tm hp nx a w) (t:TypeId) (x ix:Operand) (ok:Bool) (ho:o.op=.lookup t x ix ok) (ev:Operand->AV) (hx:Rel ρ M (a.eval x) (ev x)) (hix:Rel ρ M (a.eval ix) (ev ix)) {nd:Bool} {m:KM} (hm:mkOf hp (ev x)=some (nd,m)) (hnd:nd=true) {need v eff ob}
  (hs:lookupK P t m (ev ix) ok=some ⟨need,v,eff,ob⟩):OpOut P o U w0 n ρ M tm hp nx a w v eff:=by
 obtain ⟨L,es,es',c,hxv,hw,hE,hK,_⟩:=mkAtMem h hx hm hnd;unfold lookupK at hs;split at hs
 case h_2=>cases hs
 rename_i kt et hu;split at hs
 case h_2=>cases hs
 rename_i ks hks;split at hs
 case isFalse=>cases hs
 rename_i hc;simp only [Bool.and_eq_true] at hc;obtain ⟨⟨⟨hp1,hk⟩,hz⟩,hsh⟩:=hc;obtain ⟨hz1,hz2⟩:=zIs_eq hz;obtain ⟨r,hf,hr⟩:=findK (z:=m.z) hks hsh es 0 (fun e he=>(hK.1 e he).1)
 have hq:=hK.2.2 ks;have hv:m.val ks=foundV es m.z r/\m.has ks=r.isSome:=by
  cases r with
  | none=>rw [hr.1] at hq; simp only [Prod.mk.injEq] at hq; exact ⟨hq.2.symm,hq.1.symm⟩
  | some i=>rw [hr.2.2.1] at hq; simp only [Prod.mk.injEq,Nat.sub_zero] at hq; exact ⟨hq.2.symm,hq.1.symm⟩
 obtain ⟨u,hu1,hu2⟩:=run_lookupL (P:=P) (o:=o) (a:=a) (w:=w) t x ix ok ho hu hp1 hk hix hxv hw hE (fun e he=>keyFit_ok (keyFit_shape hk (sameShape_trans (hK.1 e he).1 (sameShape_symm hsh)))) hf hz1 hz2 hv.1
 cases ok <;> simp only [ok1,Option.some.injEq,SR.mk.injEq] at hs <;> obtain ⟨_,rfl,rfl,rfl⟩:=hs
 ·exact OpOut.same h hu1 (by simpa using hu2)
 ·exact OpOut.same h hu1 (by rw [hv.2]; simpa using hu2)
theorem step_updateK (h:SRel U w0 n ρ M tm hp nx a w) (t:TypeId) (x ix y:Operand) (ho:o.op=.mapUpdate t x ix y\/o.op=.insert t x ix y) (ev:Operand->AV) (hx:Rel ρ M (a.eval x) (ev x)) (hix:Rel ρ M (a.eval ix) (ev ix)) (hy:Rel ρ M (a.eval y) (ev y)) {nd:Bool} {b:Nat} {m m':KM} {g:KM->Blk} (hm:mkAt hp (ev x)=some (nd,b,m,g)) (hnd:nd=true)
  (hs:updateK P t m (ev ix) (ev y)=some m'):OpOut P o U w0 n ρ M tm hp nx a w .undef [(b,g m')]:=by
 have hm1:mkOf hp (ev x)=some (nd,m):=by
  generalize ev x=X at hm;cases X <;> simp only [mkAt,reduceCtorEq] at hm <;> simp only [mkOf]
  ·split at hm
   ·simp only [Option.some.injEq,Prod.mk.injEq] at hm; simp [<- hm.1,<- hm.2.2.1]
   ·cases hm
  ·split at hm
   ·simp only [Option.some.injEq,Prod.mk.injEq] at hm; simp [<- hm.1,<- hm.2.2.1]
   ·cases hm
 obtain ⟨L,es,es',c,hxv,hw,hE,hK,hcase⟩:=mkAtMem h hx hm1 hnd;unfold updateK at hs;split at hs
 case h_2=>cases hs
 rename_i kt et hu;split at hs
 case h_2=>cases hs
 rename_i ks hks;split at hs
 case isFalse=>cases hs
 rename_i hc;simp only [Bool.and_eq_true] at hc;obtain ⟨⟨⟨hp1,hk⟩,hl⟩,hsh⟩:=hc;simp only [Option.some.injEq] at hs;subst hs;obtain ⟨r,hf,_⟩:=findK (z:=m.z) hks hsh es 0 (fun e he=>(hK.1 e he).1)
 obtain ⟨es2,c2,hrun,hE2⟩:=run_updateL (P:=P) (o:=o) (a:=a) (w:=w) t x ix y ho hu hp1 hk hix hy hxv hw hE (fun e he=>keyFit_ok (keyFit_shape hk (sameShape_trans (hK.1 e he).1 (sameShape_symm hsh)))) hf
 have hK2:=hK.put hks hsh hl hf;rcases hcase with ⟨b1,r1,hxe,hb,hL,hrc⟩|⟨b1,i,nn,sh,z,has,val,hxe,hb,hi,hL,rfl⟩
 ·rw [hxe] at hm;simp only [mkAt,hb,Option.some.injEq,Prod.mk.injEq] at hm;obtain ⟨_,rfl,_,rfl⟩:=hm;refine ⟨undef,_,ρ,M,.inr ⟨hrun,rfl⟩,RX.refl ρ hp nx,MExt.refl M,Rel.undef _,?_⟩
  have k1:=h.reMap hb (st2:=.mp es) (fun _ _ _ e=>by cases e) (.inr (.inl ⟨L,es,es',c,.inl rfl,hL,hrc,hw,hE⟩))
  have k2:=k1.setMap (b:=b1) (es:=es) (r:=r1) (by simp [updH]) hL _ es2 c2 hE2
  have k3:=k2.reMap (b:=b1) (st:=.mp (putEs es r (ev ix) (ev y))) (r:=r1) (by simp [updH]) (st2:=.mk (m.put ks (ev y))) (fun _ _ _ e=>by cases e)
   (.inr (.inl ⟨L,_,es2,c2,.inr (.inr ⟨_,rfl,hK2⟩),hL,hrc,World.putObj_heap_same (heap_lt hw),hE2⟩))
  rw [updH_twice,updH_twice] at k3;have hlt:=h.lt_nx (b:=b1) (by rw [hb]; simp)
  simpa [setEffF,newOf,Nat.not_le.2 hlt] using k3
 ·rw [hxe] at hm;simp only [mkAt,hb,Option.some.injEq,Prod.mk.injEq] at hm;obtain ⟨_,rfl,_,rfl⟩:=hm;refine ⟨undef,_,ρ,M,.inr ⟨hrun,rfl⟩,RX.refl ρ hp nx,MExt.refl M,Rel.undef _,?_⟩
  have k:=h.setFMap hb hi hL es2 c2 _ (hE2.lits (fun e he=>(hK2.1 e he).2)) _ hK2 rfl rfl
  have hlt:=h.lt_nx (b:=b1) (by rw [hb]; simp)
  simpa [setEffF,newOf,Nat.not_le.2 hlt] using k
theorem out_gro (h:SRel U w0 n ρ M tm hp nx a w) {b i sz:Nat} {len:Nat->Nat} (hb:hp b=.fam (.rows sz len)) (L':Loc) (hLsz:L'.sz=sz) {w':World} {c':Array Value} {e:TypeId} (hnew:w'.heap[L'.B]?=some (.cells c' e (0,0))) (hcs:c'.size=L'.csz)
  (lo:Nat) (hlo:L'.o<=lo) (hlo2:lo<=L'.o+(len i+1) * sz) (hMlo:∀ k,lo<=k->M L'.B k=none) (hMold:∀ k v,M L'.B k=some v->c'[k]?=some v) (hMhas:∀ k,L'.o<=k->k<lo->∃ v,M L'.B k=some v)
  (l:List Value) (f:Nat->AV) (hrows:RowsL ρ M l sz (.fn (len i+1) f) true) (hc':∀ k,k<l.length->c'[L'.o+k]?=l[k]?) (cap:Nat) (hle:len i+1<=cap) (hfit:L'.o+cap * sz<=L'.csz) (hcap:cap<=maxLen)
  (hcase:w.heap.size<=L'.B\/(0<len i/\∃ L,ρ b (code i (len i))=some L/\L.B=L'.B))
  (hos:w'.os=w.os) (htape:w'.tape=w.tape) (hout:w'.output=w.output) (hsz:w.heap.size<=w'.heap.size) (hw:∀ B,B<w.heap.size->B≠L'.B->w'.heap[B]?=w.heap[B]?)
  (hrun:(execOp a.eval o).run P w=.ok (.value (.slice (some ⟨L'.B,L'.o,none⟩) (len i+1) cap)) w') :
  OpOut P o U w0 n ρ M tm hp nx a w (.gro b i (len i+1) f) [(b,.fam (.rows sz fun k=>if k=i then len i+1 else len k))]:=by
 obtain ⟨hna,⟨a1,a2,a3,a4⟩,hdis⟩:=h.ext.2 b _ hb;have hfree:ρ b (code i (len i+1))=none:=a3 i _ (Nat.lt_succ_self _);have hext:=updR_ext L' hfree
 obtain ⟨M',hM'⟩:∃ M':Mem,∀ B k,M' B k=if B=L'.B/\lo<=k/\k<L'.o+(len i+1) * sz then c'[k]? else M B k:=⟨_,fun _ _=>rfl⟩
 have hME:MExt M M':=fun B k v hm=>by
  rw [hM'];split
  ·rename_i hc;rw [hc.1,hMlo k hc.2.1] at hm; cases hm
  ·exact hm
 have hMB:∀ B k v,M' B k=some v->B≠L'.B->M B k=some v:=fun B k v hm hne=>by
  rw [hM',if_neg (fun hc=>hne hc.1)] at hm
  exact hm
 have hll:l.length=(len i+1) * sz:=hrows.1;have hsub:(len i+1) * sz<=cap * sz:=Nat.mul_le_mul_right _ hle;have hone:∀ k,k<l.length->∃ v,l[k]?=some v/\v.oneCell'=true:=by
  intro k hk;have h1:k / sz<len i+1:=by
   rw [hll] at hk;exact Nat.div_lt_of_lt_mul (by rw [Nat.mul_comm]; exact hk)
  obtain ⟨u,m1,m2,_⟩:=(hrows.2 (k / sz) h1).2 (k % sz) (Nat.mod_lt _ a1);have:k / sz * sz+k % sz=k:=by rw [Nat.mul_comm]; exact Nat.div_add_mod k sz
  rw [this] at m1;exact ⟨u,m1,m2⟩
 have hin:∀ k,k<(len i+1) * sz->∃ v,M' L'.B (L'.o+k)=some v/\l[k]?=some v:=by
  intro k hk;obtain ⟨v,hv,_⟩:=hone k (by omega)
  have hcv:=hc' k (by omega)
  rw [hv] at hcv;refine ⟨v,?_,hv⟩;rw [hM'];by_cases hc:lo<=L'.o+k
  ·rw [if_pos ⟨rfl,hc,by omega⟩]; exact hcv
  ·rw [if_neg (fun hh=>hc hh.2.1)]
   obtain ⟨v',hv'⟩:=hMhas (L'.o+k) (by omega) (by omega)
   have:=hMold _ _ hv';rw [hcv] at this;cases this;exact hv'
 have hcell:∀ k v,c'[k]?=some v->w'.cell? ⟨L'.B,k,none⟩=some v:=fun k v hk=>by
  rw [cell_of_row w' L'.B k c' e (0,0) hnew]; exact hk
 have hmem:∀ k v,M' L'.B k=some v->w'.cell? ⟨L'.B,k,none⟩=some v/\v.oneCell'=true:=by
  intro k v hm;have hm0:=hm;rw [hM'] at hm;split at hm
  ·rename_i hc;refine ⟨hcell k v hm,?_⟩;obtain ⟨v',k1,k2⟩:=hone (k - L'.o) (by omega)
   have:=hc' (k - L'.o) (by omega)
   rw [show L'.o+(k - L'.o)=k from by omega,hm,k1] at this
   cases this;exact k2
  ·exact ⟨hcell k v (hMold k v hm),(h.hok.mem _ _ _ hm).2⟩
 have hdiff:(∀ b' g sz pu s L,hp b'=.row g sz pu s->ρ b' g=some L->L.virt=false->L.B≠L'.B)/\(∀ b' st r L,hp b'=.loop st r->ρ b' 0=some L->L.B≠L'.B)/\(∀ r∈marksOf a.defers,r≠L'.B)/\(U.U L'.B->w0.heap.size<=L'.B) /\
   (∀ b1 d1,b1≠b->hp b1=.fam d1->¬ FamB ρ b1 d1 L'.B)/\∀ k Lk,k≠i->0<len k->ρ b (code k (len k))=some Lk->Lk.B≠L'.B:=by
  rcases hcase with hB|⟨hpos,L,hL,hLB⟩
  ·obtain ⟨k1,k2,k3⟩:=h.fresh_rows hB;refine ⟨k1,k2,k3,fun _=>Nat.le_trans h.keep.size hB,fun b1 d1 _ e1 hF=>?_,fun k Lk _ hk hLk e1=>?_⟩
   ·have:=h.famB_lt e1 hF; omega
   ·have:=h.famB_lt hb (B:=Lk.B) ⟨k,Lk,hk,hLk,rfl⟩; omega
  ·obtain ⟨L0,b1,b2,⟨c0,ce0,b3,b4⟩,b5,b6,b7⟩:=a2 i hpos;rw [hL] at b1; cases b1;rw [<- hLB];obtain ⟨v0,hv0⟩:=b5 0 (Nat.mul_pos hpos a1)
   refine ⟨fun b' g sz' pu s L1 e1 e2 e3 e4=>?_,fun b' st r L1 e1 e2 e4=>?_,fun r hr e4=>?_,b7,fun b1 d1 hne e1 hF=>hdis b1 d1 L.B hne e1 ⟨i,L,hpos,hL,rfl⟩ hF,fun k Lk hne hk hLk e4=>hne (a4 k i Lk L hk hpos hLk hL e4)⟩
   ·obtain ⟨L2,f1,_,_,f4⟩:=h.hok.row b' g sz' pu s e1;rw [e2] at f1; cases f1;rcases f4 with f4|⟨_,c,ee,_,_,_,f5,_⟩
    ·rw [e3] at f4; cases f4.1
    ·rw [<- e4,f5] at hv0; cases hv0
   ·obtain ⟨L2,lp,f1,f3⟩:=(h.hok.loop b' st r e1).at
    rw [e2] at f1; cases f1;rw [e4,b3] at f3;cases lp <;> cases f3
   ·have:=h.marks.2 r hr;rw [e4,b3] at this;cases this
 obtain ⟨g1,g2,g3,g4,g5,g6⟩:=hdiff;refine ⟨_,w',updR ρ b (code i (len i+1)) L',M',.inl hrun,RX.upd hext (.inr (by rw [hb]; simp)),hME,?_,?_⟩
 ·refine .gro b i (len i+1) f ?_ (fun h0=>by omega) (fun _=>⟨L',cap,updR_same _ _ _ _,rfl,by rw [hLsz]; exact hfit,fun q hq=>by rw [hLsz]; exact (hrows.2 q hq).1⟩)
  have key:∀ q j,q<len i+1->j<sz->∃ v,M' L'.B (L'.o+q * sz+j)=some v/\RelP M v ((f q).cells.getD j .undef):=by
   intro q j hq hj;obtain ⟨u,m1,m2,m3,m4⟩:=(hrows.2 q hq).2 j hj;have hlt:=(List.getElem?_eq_some_iff.1 m1).1;obtain ⟨v,k1,k2⟩:=hin (q * sz+j) (by omega)
   rw [m1] at k2; cases k2;exact ⟨u,by rw [Nat.add_assoc]; exact k1,m4 rfl⟩
  refine .rof L'.B L'.o cap sz (len i+1) f false (fun q j=>(M' L'.B (L'.o+q * sz+j)).getD undef) hle hcap (fun h0=>by cases h0) (fun q hq=>(hrows.2 q hq).1) (fun q j hq hj=>?_) (fun q j hq hj=>?_)
  ·obtain ⟨v,k1,_⟩:=key q j hq hj;rw [k1]; rfl
  ·obtain ⟨v,k1,k2⟩:=key q j hq hj;rw [k1]; exact k2.mono hME
 ·have hlt:=h.lt_nx (b:=b) (by rw [hb]; simp)
  have hB':∀ B,FamB (updR ρ b (code i (len i+1)) L') b (.rows sz fun k=>if k=i then len i+1 else len k) B->B=L'.B\/FamB ρ b (.rows sz len) B:=by
   rintro B ⟨k,L,k1,k2,k3⟩;simp only at k1 k2;by_cases hk:k=i
   ·subst hk;simp only [if_true,updR_same] at k2;cases k2;exact .inl k3.symm
   ·rw [if_neg hk] at k1 k2;rw [updR_ne _ _ _ _ (fun x=>hk (code_inj x.2).1)] at k2
    exact .inr ⟨k,L,k1,k2,k3⟩
  have k:=h.famStep (ρ':=updR ρ b (code i (len i+1)) L') (M':=M') (w':=w') (b:=b) (nx':=nx) (d':=.rows sz fun k=>if k=i then len i+1 else len k) hna (.inr ⟨_,hb⟩) (Nat.le_refl _) hlt hext
   (fun b' g hne=>updR_ne _ _ _ _ (fun x=>hne x.1)) hME hos htape hout hsz L'.B g1 g2 g3 hw hMB hmem g4 ?_ g5 (fun b1 d1 B hne e1 hF hF1=>?_)
  ·simpa [setEffF,newOf,Nat.not_le.2 hlt] using k
  ·refine ⟨a1,fun k hk=>?_,fun k l' hl'=>?_,fun k k' L1 L2 hk hk' e1 e2 e3=>?_⟩
   ·simp only at hk ⊢;by_cases hki:k=i
    ·subst hki;refine ⟨L',?_,hLsz,⟨c',e,hnew,hcs⟩,fun q hq=>?_,fun q hq=>?_,g4⟩
     ·simp [updR_same]
     ·rw [if_pos rfl] at hq;obtain ⟨v,k1,_⟩:=hin q hq;exact ⟨v,k1⟩
     ·rw [if_pos rfl] at hq;rw [hM',if_neg (fun hh=>by omega)]
      exact hMlo q (by omega)
    ·rw [if_neg hki] at hk ⊢;obtain ⟨Lk,hLk⟩:=a2 k hk;exact ⟨Lk,hLk.keep (updR_ne _ _ _ _ (fun x=>hki (code_inj x.2).1)) hME hMB hw (g6 k Lk hki hk hLk.1)⟩
   ·simp only at hl';by_cases hki:k=i
    ·subst hki;rw [if_pos rfl] at hl';rw [updR_ne _ _ _ _ (fun x=>by have:=(code_inj x.2).2; omega)]
     exact a3 k l' (by omega)
    ·rw [if_neg hki] at hl';rw [updR_ne _ _ _ _ (fun x=>hki (code_inj x.2).1)]
     exact a3 k l' hl'
   ·simp only at hk hk' e1 e2;by_cases hki:k=i <;> by_cases hki':k'=i
    ·rw [hki,hki']
    ·subst hki;rw [if_pos rfl,updR_same] at e1; cases e1;rw [if_neg hki'] at hk' e2;rw [updR_ne _ _ _ _ (fun x=>hki' (code_inj x.2).1)] at e2
     exact absurd e3.symm (g6 k' L2 hki' hk' e2)
    ·subst hki';rw [if_pos rfl,updR_same] at e2; cases e2;rw [if_neg hki] at hk e1;rw [updR_ne _ _ _ _ (fun x=>hki (code_inj x.2).1)] at e1
     exact absurd e3 (g6 k L1 hki hk e1)
    ·rw [if_neg hki] at hk e1;rw [if_neg hki'] at hk' e2;rw [updR_ne _ _ _ _ (fun x=>hki (code_inj x.2).1)] at e1
     rw [updR_ne _ _ _ _ (fun x=>hki' (code_inj x.2).1)] at e2
     exact a4 k k' L1 L2 hk hk' e1 e2 e3
  ·rcases hB' B hF with rfl|hF
   ·exact g5 b1 d1 hne e1 hF1
   ·exact hdis b1 d1 B hne e1 hF hF1
theorem RowsL.congr {ρ M} {l:List Value} {sz:Nat} {s s':Sq} {pu:Bool} (h:RowsL ρ M l sz s pu) (hl:s'.len=s.len) (hg:∀ k,k<s.len->s'.get k=s.get k):RowsL ρ M l sz s' pu :=
 ⟨by rw [hl]; exact h.1,fun i hi=>by rw [hl] at hi; rw [hg i hi]; exact h.2 i hi⟩
theorem step_appendG (h:SRel U w0 n ρ M tm hp nx a w) (ts t2:TypeId) (s x:Operand) (ho:o.op=.call { callee:=.builtin .append,args:=#[s,x],argTypes:=#[ts,t2] }) (ev:Operand->AV)
  (hsr:Rel ρ M (a.eval s) (ev s)) (hxr:Rel ρ M (a.eval x) (ev x)) (ht2:∃ d,P.underlying t2=some d/\∀ k,d≠.int k) (need v eff ob)
  (hs:appendG P ts hp (ev s) (ev x)=some ⟨need,v,eff,ob⟩) (hn:need=true):OpOut P o U w0 n ρ M tm hp nx a w v eff:=by
 unfold appendG at hs;split at hs
 case h_2=>cases hs
 rename_i b i nn f hes;rw [hes] at hsr;split at hs
 case h_2=>cases hs
 rename_i e hu;split at hs
 case h_2=>cases hs
 rename_i sz len hb;split at hs
 case h_2=>cases hs
 rename_i y okx hxs;split at hs
 case isFalse=>cases hs
 rename_i hc;obtain ⟨hsz,h1,hz,hsized,hpu⟩:=hc;simp only [Option.some.injEq,SR.mk.injEq] at hs;obtain ⟨hnd,rfl,rfl,rfl⟩:=hs;rw [<- hnd] at hn;simp only [Bool.and_eq_true,decide_eq_true_eq] at hn;obtain ⟨⟨hokx,hroom⟩,hlen⟩:=hn;subst hlen
 simp only [room,decide_eq_true_eq] at hroom;obtain ⟨z,hz,hzok⟩:∃ z,zeroAV P e=some z/\z.okElem (P.cellsOf e)=true:=by
  unfold okZero at hz;cases hze:zeroAV P e with
  | none=>rw [hze] at hz; cases hz
  | some z=>rw [hze,hsz] at hz; exact ⟨z,rfl,hz⟩
 simp only [zeroAV,Option.map_eq_some_iff,Option.bind_eq_some_iff] at hz;obtain ⟨zv,⟨it,hi,hzv⟩,hze⟩:=hz;obtain ⟨i',hi',hisz⟩:=info_of_cells (P:=P) (t:=e) (by omega)
 rw [hi] at hi'; cases hi';have hby:P.bytesOf e=it.bytes:=by simp [Program.bytesOf,hi]
 have hzc:zv.cells.size=P.cellsOf e:=by
  have hr:Rel ρ M zv z:=by rw [<- hze]; exact .pure (avOf_rel M zv)
  exact (hr.elem hzok).1
 obtain ⟨hna,⟨a1,a2,a3,a4⟩,hdis⟩:=h.ext.2 b _ hb;obtain ⟨news,hnews⟩:=Src.ofElems (P:=P) (elemsAt h hxr hxs hokx) (sizedAt h hxr hxs hokx hsized) h1;obtain ⟨hrp,hv0,hvn⟩:=hsr.groInv;have hfsz:0<len i->(f 0).cells.length=sz:=fun hpos=>by
  obtain ⟨L,cap,k1,_,_,k4⟩:=hvn hpos;obtain ⟨L0,b1,b2,_⟩:=a2 i hpos;rw [k1] at b1; cases b1;rw [<- b2]; exact k4 0 hpos
 have hold:=elemsAt h (x:=.rof (len i) f false) (s:=.fn (len i) f) (ok:=true) (.pure hrp) rfl rfl;obtain ⟨olds,holds⟩:=Src.ofElems (P:=P) hold hfsz h1;obtain ⟨base,sCap,hsv,hcap,_⟩:=hold;have hpq:puOf hp (.rof (len i) f false)=true:=rfl
 rw [hpq] at holds;rw [hpu] at hnews;have hrows0:=holds.rows.app hnews.rows;have hrows:RowsL ρ M (olds++news) sz (.fn (len i+1) fun q=>mergeAV (q<len i) (f q) y) true:=by
  refine RowsL.congr hrows0 (by rw [Sq.app_len]; rfl) (fun k hk=>?_)
  rw [Sq.app_len] at hk;rw [Sq.app_get _ _ k hk];show mergeAV (k<len i) (f k) y=if k<len i then f k else [y].getD (k - len i) .undef
  rw [mergeAV_eq];by_cases hkl:k<len i
  ·rw [if_pos hkl,if_pos hkl]
  ·have hk':k<len i+1:=hk;have h0:k - len i=0:=by omega
   rw [if_neg hkl,if_neg hkl,h0]; rfl
 have hrun:∀ r w1,(Builtin.append_ #[ts,t2] o.type #[.slice base (len i) sCap,a.eval x]).run P w=.ok r w1->(execOp a.eval o).run P w=.ok (.value r) w1:=by
  intro r w1 hr;simp only [execOp,ho,resolve,invoke,builtin];have hsv':a.eval s=.slice base (len i) sCap:=hsv;simp [hsv',hr]
 have hol:olds.length=len i * sz:=holds.size;have hnl:news.length=sz:=by have:=hnews.size; simpa [Sq.len] using this
 rcases Nat.lt_or_ge sCap (len i+1) with hlt|hge
 ·-- a new row
  have hr:=run_append_new (P:=P) (w:=w) ts t2 o.type e it zv hu hi hzv ht2 base (len i) sCap 1 (a.eval x) olds news hnews.len (by rw [hisz,<- hsz]; exact hnews.cells) (by
   have:=holds.cells;rw [hisz,<- hsz];have hsv':a.eval s=.slice base (len i) sCap:=hsv;rw [<- hsv']; exact this) hlt hroom.2 (by rw [<- hby]; exact hroom.1)
  have hgc:=grownCap_ge w (len i+1) sCap e;have hcm2:=grownCap_le_maxLen w (len i+1) sCap e (by simp only [maxLen]; omega)
  have hcs:(olds.toArray++news.toArray++Builtin.zeroCells zv.cells (grownCap w (len i+1) sCap e - (len i+1))).size=grownCap w (len i+1) sCap e * sz:=by
   simp only [Array.size_append,List.size_toArray,hol,hnl,size_zeroCells,hzc,<- hsz];rw [<- Nat.succ_mul,<- Nat.add_mul];congr 1;omega
  have hM0:∀ k,M w.heap.size k=none:=fun k=>by
   cases hm:M w.heap.size k with
   | none=>rfl
   | some v=>have:=h.hok.mem_lt hm; omega
  exact out_gro (P:=P) (o:=o) h hb ⟨w.heap.size,0,(olds.toArray++news.toArray++Builtin.zeroCells zv.cells (grownCap w (len i+1) sCap e - (len i+1))).size,sz,len i+1,false,none⟩ rfl (heap_alloc_new w.drew _) rfl 0 (Nat.le_refl _) (Nat.zero_le _) (fun k _=>hM0 k) (fun k v hm=>by rw [hM0 k] at hm; cases hm) (fun k _ hk=>by omega)
   (olds++news) _ hrows (fun k hk=>by
    rw [Nat.zero_add,Array.getElem?_append_left (by simpa using hk)]
    simp) (grownCap w (len i+1) sCap e) hgc (by simp only [hcs,Nat.zero_add]; exact Nat.le_refl _) hcm2 (.inl (Nat.le_refl _)) rfl rfl rfl (by simp) (fun B hB _=>heap_alloc_old w.drew _ B hB) (hrun _ _ hr)
 ·-- the row as it was,with one more behind it
  have hpos:0<len i:=by
   rcases Nat.eq_zero_or_pos (len i) with h0|h0
   ·have:=hv0 h0;rw [hsv] at this;simp only [Value.slice.injEq] at this;omega
   ·exact h0
  obtain ⟨L,cap,hL,hqv,hfit,_⟩:=hvn hpos;obtain ⟨L0,b1,b2,⟨c,el,b3,b4⟩,b5,b6,b7⟩:=a2 i hpos;rw [hL] at b1; cases b1;have hsv':a.eval s=.slice base (len i) sCap:=hsv;rw [hqv] at hsv';simp only [Value.slice.injEq] at hsv'
  obtain ⟨hbase,_,hcap0⟩:=hsv';subst hcap0;subst hbase;rw [b2] at hfit;have hmul:(len i+1) * sz<=cap * sz:=Nat.mul_le_mul_right _ hge;rw [Nat.succ_mul] at hmul;have hfit2:L.o+len i * sz+0+news.length<=c.size:=by omega
  have hst:=run_storeCells_at P L.B (L.o+len i * sz) el news 0 c w b3 hfit2 hnews.one
  have hr:=run_append_fit (P:=P) (w:=w) ts t2 o.type e it hu hi ht2 (some ⟨L.B,L.o,none⟩) (len i) cap 1 (a.eval x) news hnews.len (by rw [hisz,<- hsz]; exact hnews.cells) hge _ (fun ad had=>by
   cases had;rw [add_eq,hisz,<- hsz];exact hst) (fun hnone=>by cases hnone)
  generalize hcc:(c.toList.take (L.o+len i * sz+0)++news++c.toList.drop (L.o+len i * sz+0+news.length)).toArray=c' at hr;have hcs:c'.size=c.size:=by
   rw [<- hcc];have:=spliced_len c.toList news (L.o+len i * sz+0) (by simpa using hfit2)
   simpa using this
  have hget:∀ k,c'[k]?=if k<L.o+len i * sz then c[k]? else if k<L.o+len i * sz+news.length then news[k - (L.o+len i * sz)]? else c[k]?:=by
   intro k;rw [<- hcc,List.getElem?_toArray];have:=spliced c.toList news (L.o+len i * sz+0) k (by simpa using hfit2)
   simpa using this
  have hcapm:cap<=maxLen:=by
   have key:∀ v n,RelP M v (.rof n f false)->∀ ad l c,v=.slice ad l c->c<=maxLen:=by
    intro v n hv ad l c e;cases hv <;> (cases e; assumption)
   exact key _ _ hrp _ _ _ hqv
  have hlo2:L.o+len i * sz<=L.o+(len i+1) * sz:=by rw [Nat.succ_mul]; omega
  have hnewc:=setRow_heap w L.B c c' el (0,0) b3;have hlo1:L.o<=L.o+len i * sz:=Nat.le_add_right _ _;obtain ⟨L2,hL2⟩:∃ L2:Loc,L2=⟨L.B,L.o,L.csz,sz,len i+1,false,none⟩:=⟨_,rfl⟩
  have q1:L2.B=L.B:=by rw [hL2]
  have q2:L2.o=L.o:=by rw [hL2]
  have q3:L2.csz=L.csz:=by rw [hL2]
  have q4:L2.sz=sz:=by rw [hL2]
  have hr':=hrun _ _ hr
  refine out_gro (P:=P) (o:=o) h hb L2 q4 (w':=w.setRow L.B c') (c':=c') (e:=el) (by rw [q1]; exact hnewc) (by rw [q3]; exact hcs.trans b4) (L.o+len i * sz) (by rw [q2]; exact hlo1) (by rw [q2]; exact hlo2) (fun k hk=>by rw [q1]; exact b6 k hk) (fun k v hm=>?_) (fun k k1 k2=>?_)
   (olds++news) _ hrows (fun k hk=>?_) cap hge (by rw [q2,q3]; exact hfit) hcapm (.inr ⟨hpos,L,hL,q1.symm⟩) rfl rfl rfl (by simp) (fun B hB hne=>setRow_other w L.B B _ (by rw [<- q1]; exact hne)) (by rw [q1,q2]; exact hr')
  all_goals simp only [q1,q2] at *
  ·have h2:k<L.o+len i * sz:=by
    rcases Nat.lt_or_ge k (L.o+len i * sz) with h3|h3
    ·exact h3
    ·rw [b6 k h3] at hm; cases hm
   rw [hget k,if_pos h2];have:=(h.hok.mem L.B k v hm).1;rw [cell_of_row w L.B k c el (0,0) b3] at this;exact this
  ·obtain ⟨v,hv⟩:=b5 (k - L.o) (by omega)
   exact ⟨v,by rw [show L.o+(k - L.o)=k from by omega] at hv; exact hv⟩
  ·rw [hget];rw [List.length_append] at hk;by_cases hko:k<olds.length
   ·rw [if_pos (by omega),List.getElem?_append_left hko]
    have hpl:=holds.place L.B L.o (len i) cap hqv k hko;rw [cell_of_row w L.B _ c el (0,0) b3] at hpl;exact hpl
   ·rw [if_neg (by omega),if_pos (by omega),List.getElem?_append_right (by omega)]
    congr 1;omega
theorem noAbs_get:∀ (t:T Blk) (b:Nat),noAbs t=true->notAbs (t.get .dead b)=true
 | .nil,b,_=>rfl
 | .node v l r,b,h=>by
  simp only [noAbs,Bool.and_eq_true] at h;simp only [T.get];split
  ·exact h.1
  ·split
   ·exact noAbs_get l _ h.2.1
   ·exact noAbs_get r _ h.2.2
theorem KMok_nil (sh z:AV) (hz:isLit z=true):KMok [] (zeroKM sh z):=⟨fun _ h=>(by cases h),hz,fun _=>rfl⟩
theorem SRel.addFMap (h:SRel U w0 n ρ M tm hp nx a w) {b nx' nn:Nat} {sh z:AV} {has:Nat->List Int->Bool} {val:Nat->List Int->AV} (hz:isLit z=true) (hna:∀ b' k on sp r,hp b'≠.loop (.abs k on sp) r)
  (hbd:(hp b=.dead/\b=nx/\nx'=nx+1/\nn=0)\/(hp b=.fam (.maps sh z nn has val)/\nx'=nx)) {has':Nat->List Int->Bool} {val':Nat->List Int->AV} (h1:∀ k q,k<nn->has' k q=has k q/\val' k q=val k q) (h2:∀ q,has' nn q=false/\val' nn q=z) :
  ∃ L:Loc,L.B=w.heap.size/\RExt ρ (updR ρ b nn L)/\SRel U w0 n (updR ρ b nn L) M tm (updH hp b (.fam (.maps sh z (nn+1) has' val'))) nx' a (w.alloc (.map #[] 0)):=by
 obtain ⟨L,hL⟩:∃ L:Loc,L=⟨w.heap.size,0,0,0,0,false,none⟩:=⟨_,rfl⟩
 have hLB:L.B=w.heap.size:=by rw [hL]
 have hfree:ρ b nn=none/\(∀ i,nn<=i->ρ b i=none)/\nx<=nx'/\b<nx'/\(hp b=.dead\/∃ d,hp b=.fam d) /\
   (∀ i,i<nn->∃ L,FamMap U w0 ρ M hp (marksOf a.defers) w b i ⟨sh,z,has i,val i⟩ L)/\(∀ i i' L L',i<nn->i'<nn->ρ b i=some L->ρ b i'=some L'->L.B=L'.B->i=i') /\
   (∀ b1 d1 B,b1≠b->hp b1=.fam d1->(∃ i L,i<nn/\ρ b i=some L/\L.B=B)->¬ FamB ρ b1 d1 B):=by
  rcases hbd with ⟨k1,rfl,rfl,rfl⟩|⟨k1,rfl⟩
  ·exact ⟨h.free _ _ (Nat.le_refl _),fun i _=>h.free _ _ (Nat.le_refl _),Nat.le_succ _,Nat.lt_succ_self _,.inl k1,fun i hi=>by omega,fun i i' _ _ hi=>by omega,fun b1 d1 B _ _ ⟨i,_,hi,_⟩=>by omega⟩
  ·obtain ⟨_,⟨a1,a2,a3⟩,hdis⟩:=h.ext.2 b _ k1;exact ⟨a2 nn (Nat.le_refl _),a2,Nat.le_refl _,h.lt_nx (by rw [k1]; simp),.inr ⟨_,k1⟩,a1,a3,fun b1 d1 B hne e1 hB=>hdis b1 d1 B hne e1 hB⟩
 obtain ⟨f1,f2,f3,f4,f5,f6,f7,f8⟩:=hfree;have hext:=updR_ext L f1;obtain ⟨g1,g2,g3⟩:=h.fresh_rows (B0:=w.heap.size) (Nat.le_refl _)
 have hnew:∀ B,B<w.heap.size->B≠w.heap.size->(w.alloc (.map #[] 0)).heap[B]?=w.heap[B]?:=fun B hB _=>heap_alloc_old w _ B hB
 have hat:(w.alloc (.map #[] 0)).heap[w.heap.size]?=some (.map #[] 0):=heap_alloc_new w _;have hold:∀ i Li,i<nn->ρ b i=some Li->Li.B<w.heap.size:=fun i Li hi e=>by
  obtain ⟨L1,k1,⟨es,es',c,k2,_⟩,_⟩:=f6 i hi;rw [e] at k1; cases k1;exact heap_lt k2
 have hrowρ:∀ {d'} b' g sz pu s (L':Loc),updH hp b (.fam d') b'=.row g sz pu s->updR ρ b nn L b' g=some L'->hp b'=.row g sz pu s/\ρ b' g=some L':=fun b' g sz pu s L' e1 e2=>by
  simp only [updH] at e1;split at e1
  ·cases e1
  ·rw [updR_ne _ _ _ _ (fun x=>by rename_i hne; exact hne x.1)] at e2
   exact ⟨e1,e2⟩
 have hloopρ:∀ {d'} b' st r (L':Loc),updH hp b (.fam d') b'=.loop st r->updR ρ b nn L b' 0=some L'->hp b'=.loop st r/\ρ b' 0=some L':=fun b' st r L' e1 e2=>by
  simp only [updH] at e1;split at e1
  ·cases e1
  ·rw [updR_ne _ _ _ _ (fun x=>by rename_i hne; exact hne x.1)] at e2
   exact ⟨e1,e2⟩
 refine ⟨L,hLB,hext,h.famStep hna f5 f3 f4 hext (fun b' g hne=>updR_ne _ _ _ _ (fun x=>hne x.1)) (MExt.refl M) rfl rfl rfl (by simp) w.heap.size g1 g2 g3 hnew (fun _ _ _ hm _=>hm)
  (fun q v hm=>by have:=h.hok.mem_lt hm; omega) (fun _=>h.keep.size) ⟨fun k hk=>?_,fun k hk=>?_,fun k k' L1 L2 hk hk' e1 e2 e3=>?_⟩ (fun b1 d1 hne e1 hB=>?_) (fun b1 d1 B hne e1 hB hB1=>?_)⟩
 ·by_cases hkn:k=nn
  ·subst hkn
   refine ⟨L,updR_same _ _ _ _,⟨[],#[],0,by rw [hLB]; exact hat,⟨rfl,fun i hi=>by simp at hi⟩,?_⟩,fun _=>by rw [hLB]; exact h.keep.size,fun b' g sz pu s L' e1 e2 e3=>?_,fun b' st r L' e1 e2=>?_,fun r hr=>by rw [hLB]; exact g3 r hr⟩
   ·refine ⟨fun _ h=>(by cases h),hz,fun q=>?_⟩
    simp only [lookK,(h2 q).1,(h2 q).2]
   ·obtain ⟨q1,q2⟩:=hrowρ b' g sz pu s L' e1 e2;rw [hLB]; exact g1 b' g sz pu s L' q1 q2 e3
   ·obtain ⟨q1,q2⟩:=hloopρ b' st r L' e1 e2;rw [hLB]; exact g2 b' st r L' q1 q2
  ·have hk':k<nn:=by omega
   obtain ⟨Lk,hLk⟩:=f6 k hk';refine ⟨Lk,?_⟩;have e1:(⟨sh,z,has' k,val' k⟩:KM)=⟨sh,z,has k,val k⟩:=by
    have e2:has' k=has k:=funext fun q=>(h1 k q hk').1
    have e3:val' k=val k:=funext fun q=>(h1 k q hk').2
    rw [e2,e3]
   rw [e1];exact hLk.keep (updR_ne _ _ _ _ (fun x=>hkn x.2)) (MExt.refl M) hnew (fun e=>by have:=hold k Lk hk' hLk.1; omega) hrowρ hloopρ
 ·rw [updR_ne _ _ _ _ (fun x=>by omega)]
  exact f2 k (by omega)
 ·by_cases hkn:k=nn <;> by_cases hkn':k'=nn
  ·rw [hkn,hkn']
  ·subst hkn;rw [updR_same] at e1; cases e1;rw [updR_ne _ _ _ _ (fun x=>hkn' x.2)] at e2
   have:=hold k' L2 (by omega) e2
   omega
  ·subst hkn';rw [updR_same] at e2; cases e2;rw [updR_ne _ _ _ _ (fun x=>hkn x.2)] at e1
   have:=hold k L1 (by omega) e1
   omega
  ·rw [updR_ne _ _ _ _ (fun x=>hkn x.2)] at e1
   rw [updR_ne _ _ _ _ (fun x=>hkn' x.2)] at e2
   exact f7 k k' L1 L2 (by omega) (by omega) e1 e2 e3
 ·have:=h.famB_lt e1 hB; omega
 ·obtain ⟨k,Lk,hk,hLk,hLkB⟩:=hB;by_cases hkn:k=nn
  ·subst hkn;rw [updR_same] at hLk; cases hLk;have:=h.famB_lt e1 hB1;omega
  ·rw [updR_ne _ _ _ _ (fun x=>hkn x.2)] at hLk
   exact f8 b1 d1 B hne e1 ⟨k,Lk,by omega,hLk,hLkB⟩ hB1
theorem mkEff_op {hpt:T Blk} {op:Op} {fz:List Tmp} {dst:Option Tmp} {r} (h:mkEff P hpt nx op fz dst=some r):∃ t,op=.makeMap t none:=by
 unfold mkEff at h;split at h
 ·cases h
 ·split at h
  ·exact ⟨_,rfl⟩
  ·cases h
theorem step_mkEff {hpt:T Blk} (h:SRel U w0 n ρ M tm (fun b=>hpt.get .dead b) nx a w) {fz:List Tmp} {dst:Option Tmp} {v:AV} {eff:List (Nat×Blk)} (hs:mkEff P hpt nx o.op fz dst=some (some (v,eff))) :
  OpOut P o U w0 n ρ M tm (fun b=>hpt.get .dead b) nx a w v eff:=by
 obtain ⟨t,ho⟩:=mkEff_op hs;have hmk:(Instr.makeMap t none).run P w=.ok (.map (some w.heap.size)) (w.alloc (.map #[] 0)):=rfl
 have hrun:(execOp a.eval o).run P w=.ok (.value (.map (some w.heap.size))) (w.alloc (.map #[] 0)):=by simp [execOp,ho,hmk]
 rw [ho] at hs;unfold mkEff at hs;split at hs
 ·cases hs
 simp only at hs;split at hs
 case h_2=>cases hs
 split at hs
 case h_2=>cases hs
 rename_i q hq;split at hs
 case h_2=>cases hs
 rename_i kt et hu;split at hs
 case h_2=>cases hs
 rename_i z sh hz hsh;split at hs
 case h_2=>cases hs
 rename_i hl;simp only [Bool.and_eq_true] at hl;split at hs
 ·-- a family begins
  split at hs
  case h_2=>cases hs
  rename_i hna;simp only [Option.some.injEq,Prod.mk.injEq] at hs;obtain ⟨rfl,rfl⟩:=hs;obtain ⟨L,k1,k2,k3⟩:=h.addFMap (b:=nx) (nx':=nx+1) (nn:=0) (sh:=sh) (z:=z) (has:=fun _ _=>false) (val:=fun _ _=>z) hl.1 (fun b' k on sp r e=>by
   have:=noAbs_get hpt b' hna;rw [e] at this;cases this) (.inl ⟨h.dead nx (Nat.le_refl _),rfl,rfl,rfl⟩) (has':=fun _ _=>false) (val':=fun _ _=>z) (fun k q hk=>by omega) (fun q=>⟨rfl,rfl⟩)
  refine ⟨_,_,_,M,.inl hrun,RX.upd k2 (.inl (Nat.le_refl _)),MExt.refl M,?_,?_⟩
  ·rw [<- k1]; exact .fmap L nx 0 (updR_same _ _ _ _)
  ·simpa [setEffF,newOf] using k3
 ·-- a family's next
  rename_i b;split at hs
  case h_2=>cases hs
  rename_i sh' z' nn has val hb;split at hs
  case h_2=>cases hs
  rename_i hc;simp only [Bool.and_eq_true] at hc;simp only [Option.some.injEq,Prod.mk.injEq] at hs;obtain ⟨rfl,rfl⟩:=hs;have hz':=zIs_eq hc.2
  obtain ⟨L,k1,k2,k3⟩:=h.addFMap (b:=b) (nx':=nx) (nn:=nn) (sh:=sh') (z:=z') (has:=has) (val:=val) hz'.2 (h.ext.2 b _ hb).1 (.inr ⟨hb,rfl⟩)
   (has':=fun k q=>if k=nn then false else has k q) (val':=fun k q=>mergeAV (k=nn) z' (val k q)) (fun k q hk=>by
    have hne:k≠nn:=by omega
    simp [mergeAV_eq,hne]) (fun q=>by simp [mergeAV_eq])
  have hlt:=h.lt_nx (b:=b) (by rw [hb]; simp)
  refine ⟨_,_,_,M,.inl hrun,RX.upd k2 (.inr (by rw [hb]; simp)),MExt.refl M,?_,?_⟩
  ·rw [<- k1]; exact .fmap L b nn (updR_same _ _ _ _)
  ·simpa [setEffF,newOf,Nat.not_le.2 hlt] using k3
 ·-- a map of its own
  simp only [Option.some.injEq,Prod.mk.injEq] at hs;obtain ⟨rfl,rfl⟩:=hs;obtain ⟨L,hL,hext,k⟩:=h.addMap;refine ⟨_,_,_,M,.inl hrun,RX.upd hext (.inl (Nat.le_refl _)),MExt.refl M,?_,?_⟩
  ·rw [<- hL]; exact .map L nx (updR_same _ _ _ _)
  ·obtain ⟨L1,es1,es',c,e0,e1,e2,e3,e4⟩:=(k.hok.loop nx (.mp []) noRec (by simp [updH])).mapOK
   cases e0;have k2:=k.reMap (b:=nx) (st:=.mp []) (r:=noRec) (by simp [updH]) (st2:=.mk (zeroKM sh z)) (fun _ _ _ e=>by cases e) (.inr (.inl ⟨L1,[],es',c,.inr (.inr ⟨_,rfl,KMok_nil sh z hl.1⟩),e1,e2,e3,e4⟩))
   rw [updH_twice] at k2;simpa [setEffF,newOf] using k2
theorem SRel.famB_own (h:SRel U w0 n ρ M tm hp nx a w) {b:Nat} {d:Fam} (hb:hp b=.fam d) {B:Nat} (hB:FamB ρ b d B) :
  (U.U B->w0.heap.size<=B)/\(∀ b' g sz pu s L',hp b'=.row g sz pu s->ρ b' g=some L'->L'.virt=false->L'.B≠B)/\(∀ b' st r L',hp b'=.loop st r->ρ b' 0=some L'->L'.B≠B)/\(∀ r∈marksOf a.defers,r≠B):=by
 have hat:=(h.ext.2 b d hb).2.1;cases d with
 | rows sz len =>
  obtain ⟨i,L,hpos,hL,rfl⟩:=hB;obtain ⟨a1,a2,_⟩:=hat;obtain ⟨L0,b1,b2,⟨c0,ce0,b3,b4⟩,b5,b6,b7⟩:=a2 i hpos;rw [hL] at b1; cases b1;obtain ⟨v0,hv0⟩:=b5 0 (Nat.mul_pos hpos a1)
  refine ⟨b7,fun b' g sz' pu s L1 e1 e2 e3 e4=>?_,fun b' st r L1 e1 e2 e4=>?_,fun r hr e4=>?_⟩
  ·obtain ⟨L2,f1,_,_,f4⟩:=h.hok.row b' g sz' pu s e1;rw [e2] at f1; cases f1;rcases f4 with f4|⟨_,c,ee,_,_,_,f5,_⟩
   ·rw [e3] at f4; cases f4.1
   ·rw [<- e4,f5] at hv0; cases hv0
  ·obtain ⟨L2,lp,f1,f3⟩:=(h.hok.loop b' st r e1).at
   rw [e2] at f1; cases f1;rw [e4,b3] at f3;cases lp <;> cases f3
  ·have:=h.marks.2 r hr;rw [e4,b3] at this;cases this
 | maps sh z nn has val =>
  obtain ⟨i,L,hi,hL,rfl⟩:=hB;obtain ⟨L0,b1,_,b5,b6,b7,b8⟩:=hat.1 i hi;rw [hL] at b1; cases b1;exact ⟨b5,b6,b7,b8⟩
theorem FamAt.chg {U U':Base} {w0 w0':World} {ρ ρ':Rho} {M:Mem} {hp hp':Nat->Blk} {mk mk':List Nat} {w:World} {b:Nat} {d:Fam} (h:FamAt U w0 ρ M hp mk w b d) (hρ:∀ g,ρ' b g=ρ b g)
  (hblk:∀ B,FamB ρ b d B->(U'.U B->w0'.heap.size<=B)/\(∀ b' g sz pu s L',hp' b'=.row g sz pu s->ρ' b' g=some L'->L'.virt=false->L'.B≠B)/\(∀ b' st r L',hp' b'=.loop st r->ρ' b' 0=some L'->L'.B≠B)/\(∀ r∈mk',r≠B)) :
  FamAt U' w0' ρ' M hp' mk' w b d:=by
 cases d with
 | rows sz len =>
  obtain ⟨a1,a2,a3,a4⟩:=h;refine ⟨a1,fun i hi=>?_,fun i l hl=>by rw [hρ]; exact a3 i l hl,fun i i' L L' h1 h2 h3 h4=>a4 i i' L L' h1 h2 (by rw [<- hρ]; exact h3) (by rw [<- hρ]; exact h4)⟩
  obtain ⟨L,b1,b2,b3,b4,b5,b6⟩:=a2 i hi;exact ⟨L,by rw [hρ]; exact b1,b2,b3,b4,b5,(hblk L.B ⟨i,L,hi,b1,rfl⟩).1⟩
 | maps sh z nn has val =>
  obtain ⟨a1,a2,a3⟩:=h;refine ⟨fun i hi=>?_,fun i hi=>by rw [hρ]; exact a2 i hi,fun i i' L L' h1 h2 h3 h4=>a3 i i' L L' h1 h2 (by rw [<- hρ]; exact h3) (by rw [<- hρ]; exact h4)⟩
  obtain ⟨L,b1,b2,_⟩:=a1 i hi;obtain ⟨k1,k2,k3,k4⟩:=hblk L.B ⟨i,L,hi,b1,rfl⟩;exact ⟨L,by rw [hρ]; exact b1,b2,k1,k2,k3,k4⟩
end
section
variable {P:Program} {o:Oper} {U:Base} {w0:World} {n:Nat} {ρ:Rho} {M:Mem} {tm:Nat->AV} {hp:Nat->Blk} {nx:Nat} {a:Act} {w:World}
theorem run_builtin (b:Builtin) (args:Array Operand) (ts:Array TypeId) (ho:o.op=.call { callee:=.builtin b,args:=args,argTypes:=ts }) (f:Array Value->Sem Value)
  (hf:∀ cs,builtin b ts o.type cs (args.map a.eval)=(do pure (Next.value (<- f (args.map a.eval))):Sem Next)) {r:Value} (hr:(f (args.map a.eval)).run P w=.ok r w) :
  (execOp a.eval o).run P w=.ok (.value r) w:=by
 simp only [execOp,ho,resolve,Sem.run_bind,Sem.run_pure,Result.andThen_ok,invoke];rw [hf,run_v,hr];rfl
theorem lenAV_rel {ρ M} {v:Value} {x:AV} {m:Nat} (h:Rel ρ M v x) (hl:lenAV x=some m):∃ ad cap,v=.slice ad m cap:=by
 by_cases hg:∃ b i n f,x=.gro b i n f
 ·obtain ⟨b,i,n,f,rfl⟩:=hg;simp only [lenAV,Option.some.injEq] at hl;subst hl;rcases Nat.eq_zero_or_pos n with h0|h0
  ·exact ⟨none,0,by rw [h.groInv.2.1 h0,h0]⟩
  ·obtain ⟨L,cap,_,k2,_⟩:=h.groInv.2.2 h0;exact ⟨_,cap,k2⟩
 cases x <;> simp only [lenAV,Option.some.injEq,reduceCtorEq] at hl
 ·subst hl;cases h with|pure h=>cases h; exact ⟨none,0,rfl⟩
 ·subst hl;obtain ⟨L,_,hc⟩:=h.slInv;rcases hc with ⟨_,cap,hq,_⟩|⟨h1,_,ad,hq⟩
  ·exact ⟨_,cap,hq⟩
  ·exact ⟨ad,0,by rw [hq,h1]⟩
 ·subst hl;rcases h.rolInv with ⟨h1,ad,cap,hq,_⟩|⟨_,B,off,cap,sz,vals,hq,_⟩
  ·exact ⟨ad,cap,by rw [hq,h1]⟩
  ·exact ⟨_,cap,hq⟩
 ·subst hl;rcases h.rofInv with ⟨h1,ad,cap,hq,_⟩|⟨_,B,off,cap,sz,vals,hq,_⟩
  ·exact ⟨ad,cap,by rw [hq,h1]⟩
  ·exact ⟨_,cap,hq⟩
 ·subst hl;obtain ⟨L,_,hq,_⟩:=h.slaInv;exact ⟨_,_,hq⟩
 ·exact absurd ⟨_,_,_,_,rfl⟩ hg
theorem Sq.put_len (s xs:Sq) (i n:Nat) (h1:i+n<=s.len) (h2:n<=xs.len):(s.put i n xs).len=s.len:=by
 cases s with
 | lst l =>
  cases xs with
  | lst m=>simp only [Sq.len] at h1 h2; simp [Sq.put,Sq.len]; omega
  | fn _ _=>rfl
 | fn _ _=>rfl
theorem Sq.put_get (s xs:Sq) (i n k:Nat) (h1:i+n<=s.len) (h2:n<=xs.len):(s.put i n xs).get k=if i<=k/\k<i+n then xs.get (k - i) else s.get k:=by
 have gen:(s.put i n xs).get k=(match s,xs with|.lst l,.lst m=>(l.take i++m.take n++l.drop (i+n)).getD k .undef|s,xs=>if i<=k/\k<i+n then xs.get (k - i) else s.get k):=by cases s <;> cases xs <;> rfl
 rw [gen];cases s with
 | lst l =>
  cases xs with
  | lst m =>
   simp only [Sq.len] at h1 h2;have hl:(m.take n).length=n:=by simp; omega
   have:=spliced l (m.take n) i k (by rw [hl]; exact h1)
   rw [hl] at this;simp only [List.getD,this,Sq.get];by_cases hk:k<i
   ·rw [if_pos hk,if_neg (by omega)]
   ·rw [if_neg hk];by_cases hk2:k<i+n
    ·rw [if_pos hk2,if_pos ⟨by omega,hk2⟩,List.getElem?_take,if_pos (by omega)]
    ·rw [if_neg hk2,if_neg (by omega)]
  | fn _ _=>rfl
 | fn _ _=>rfl
theorem Sq.put0 (s xs:Sq) (i:Nat):(s.put i 0 xs).len=s.len/\∀ k,(s.put i 0 xs).get k=s.get k:=by
 cases s with
 | lst l =>
  cases xs with
  | lst m=>simp [Sq.put,Sq.len,Sq.get]
  | fn _ _=>exact ⟨rfl,fun k=>by show (if i<=k/\k<i+0 then _ else _)=_; rw [if_neg (by omega)]⟩
 | fn _ _=>exact ⟨rfl,fun k=>by cases xs <;> (show (if i<=k/\k<i+0 then _ else _)=_; rw [if_neg (by omega)])⟩
theorem ElemsAt.first {v:Value} {s:Sq} {pu:Bool} (h:ElemsAt ρ M w v s pu) (k:Nat) (hk:k<=s.len):∃ ad cap,v=.slice ad s.len cap/\ElemsAt ρ M w (.slice ad k cap) (s.sub 0 k) pu:=by
 obtain ⟨ad,cap,rfl,hc,hel⟩:=h;have hl:=Sq.sub_len s 0 k (by omega)
 refine ⟨ad,cap,rfl,ad,cap,by rw [hl],by omega,?_⟩
 rw [hl];rcases hel with h0|⟨B,off,sz,vals,h1,h2⟩
 ·exact .inl (by omega)
 ·refine .inr ⟨B,off,sz,vals,h1,fun i hi=>?_⟩
  rw [Sq.sub_get s 0 k i hi,Nat.zero_add];exact h2 i (by omega)
theorem run_copy {t ty e:TypeId} {ts:List TypeId} {i:TypeInfo} (ht:P.underlying t=some (.slice e)) (hi:P.info? e=some i) (base:Option Addr) (dLen dCap m k:Nat) (x:Value) (news:List Value)
  (hl:(Builtin.lenOf x).run P w=.ok m w) (hk:min m dLen=k) (hc:(Builtin.firstCells i.size k x).run P w=.ok news.toArray w) (w1:World) (hst:∀ ad,base=some ad->(storeCells ad news).run P w=.ok () w1) (hnone:base=none->w1=w) :
  (Builtin.copy_ ⟨t::ts⟩ ty #[.slice base dLen dCap,x]).run P w=.ok (.int .i64 (k:Nat)) w1:=by
 subst hk;have hc':(Builtin.firstCells i.size (Nat.min m dLen) x).run P w=.ok news.toArray w:=hc;unfold Builtin.copy_;cases base with
 | none=>simp [run_underlying ht,Go.sizeOf,typeInfo,hi,hl,hc',hnone rfl,goInt]
 | some ad =>
  have:=hst ad rfl;simp [run_underlying ht,Go.sizeOf,typeInfo,hi,hl,hc',this,goInt]
theorem step_copyA (h:SRel U w0 n ρ M tm hp nx a w) (t:TypeId) (ts:List TypeId) (q q':Operand) (ho:o.op=.call { callee:=.builtin .copy,args:=⟨[q,q']⟩,argTypes:=⟨t::ts⟩ }) (ev:Operand->AV) (e:TypeId) (hu:P.underlying t=some (.slice e)) {xs:Sq} {okx:Bool} (hxs:elemsOf hp (ev q')=some (xs,okx))
  {b g i j len:Nat} (h1:Rel ρ M (a.eval q) (.sla b g i j len)) (h2:Rel ρ M (a.eval q') (ev q')) (need v eff ob)
  (hs:(match hp b with
    | .row g' sz pu s =>
     if P.cellsOf e=1/\sizedAV hp (ev q') xs 1=true/\((List.range (min xs.len len)).map xs.get).all AV.isCell=true/\i<s.len then
      match s.get i with
      | .agg l=>if j+min xs.len len<=l.length then some (SR.mk (okx&&decide (g=g')) (.int .i64 (min xs.len len:Nat)) [(b,.row g' sz (pu&&puOf hp (ev q')) (s.set i (.agg (splice l j ((List.range (min xs.len len)).map xs.get)))))] none) else none
      | _=>none
     else none
    | _=>none)=some ⟨need,v,eff,ob⟩) (hn:need=true):OpOut P o U w0 n ρ M tm hp nx a w v eff:=by
 split at hs
 case h_2=>cases hs
 rename_i g' sz pu s hb;split at hs
 case isFalse=>cases hs
 rename_i hc;obtain ⟨hce,hsized,hcell,his⟩:=hc;split at hs
 case h_2=>cases hs
 rename_i l hl;split at hs
 case isFalse=>cases hs
 rename_i hjl;simp only [Option.some.injEq,SR.mk.injEq] at hs;obtain ⟨hneed,rfl,rfl,rfl⟩:=hs;rw [<- hneed] at hn;simp only [Bool.and_eq_true,decide_eq_true_eq] at hn;obtain ⟨hokx,rfl⟩:=hn
 obtain ⟨inf,hinf,hsz⟩:=info_of_cells (P:=P) (t:=e) (by omega)
 have hE:=elemsAt h h2 hxs hokx;have hle:min xs.len len<=xs.len:=Nat.min_le_left _ _;obtain ⟨ad,cap,hq',hE'⟩:=hE.first (min xs.len len) hle;have hsub:=Sq.sub_len xs 0 (min xs.len len) (by omega)
 obtain ⟨news,hS⟩:=Src.ofElems (P:=P) (sz:=1) hE' (fun h0=>by
  rw [hsub] at h0;rw [Sq.sub_get xs 0 _ 0 h0];exact sizedAt h h2 hxs hokx hsized (by omega)) (Nat.le_refl _)
 have hrows:=hS.rows;generalize hnm:min xs.len len=nm at *;have hnl:news.length=nm:=by rw [hrows.1,hsub,Nat.mul_one]
 obtain ⟨L,hL,hq,hiL,hjL⟩:=h1.slaInv;obtain ⟨L',e1,e2,e3,h6⟩:=h.rowLoc hb;rw [hL] at e1; cases e1;rcases h6 with ⟨_,h6⟩|⟨hv,cc,ee,h7,h8,h9,h10,h11⟩
 ·omega
 have hxl:l.length=sz:=by have:=(h11 i his).1; rw [hl] at this; exact this
 subst e2;have hfit:L.o+i * L.sz+j+news.length<=cc.size:=by
  have:i * L.sz+L.sz<=s.len * L.sz:=by rw [<- Nat.succ_mul]; exact Nat.mul_le_mul_right _ his
  omega
 have hst:=run_storeCells_at P L.B (L.o+i * L.sz+j) ee news 0 cc w h7 (by simpa using hfit) hS.one
 simp only [Nat.add_zero] at hst;generalize hc':(cc.toList.take (L.o+i * L.sz+j)++news++cc.toList.drop (L.o+i * L.sz+j+news.length)).toArray=c' at hst
 have hex:(execOp a.eval o).run P w=.ok (.value (.int .i64 (nm:Nat))) (w.setRow L.B c'):=by
  have hl':(Builtin.lenOf (a.eval q')).run P w=.ok xs.len w:=by rw [hq']; simp [Builtin.lenOf]
  have hcs:(Builtin.firstCells inf.size nm (a.eval q')).run P w=.ok news.toArray w:=by
   rw [hq',hsz,hce];have:=hS.cells w (fun _=>rfl)
   rw [hsub] at this;cases ad <;> exact this
  have:=run_copy (ts:=ts) (ty:=o.type) hu hinf (some ⟨L.B,L.o+i * L.sz+j,none⟩) len len xs.len nm (a.eval q') news hl' hnm hcs (w.setRow L.B c') (fun ad had=>by cases had; exact hst) (fun hh=>by cases hh)
  simp only [execOp,ho,resolve,Sem.run_bind,Sem.run_pure,Result.andThen_ok,invoke];have e2:builtin .copy ⟨t::ts⟩ o.type=fun cs as=>(do pure (Next.value (<- Builtin.copy_ ⟨t::ts⟩ o.type as)):Sem Next):=by funext cs as; rfl
  rw [e2];simp only [Sem.run_bind];have e3:(Array.map a.eval #[q,q'])=#[.slice (some ⟨L.B,L.o+i * L.sz+j,none⟩) len len,a.eval q']:=by simp [hq]
  rw [e3,this];rfl
 have hcsz:c'.size=cc.size:=by
  rw [<- hc'];have:=spliced_len cc.toList news (L.o+i * L.sz+j) (by simpa using hfit)
  simpa using this
 have hnew:(w.setRow L.B c').heap[L.B]?=some (.cells c' ee (0,0)):=setRow_heap w L.B cc _ ee (0,0) h7;have hys:((List.range nm).map xs.get).length=nm:=by simp
 have hysn:∀ k,k<nm->((List.range nm).map xs.get).getD k .undef=xs.get k/\(xs.get k).cells=[xs.get k]:=by
  intro k hk;refine ⟨by simp [List.getD,hk],cells_isCell ?_⟩
  exact List.all_eq_true.1 hcell _ (List.mem_map.2 ⟨k,List.mem_range.2 hk,rfl⟩)
 refine ⟨_,w.setRow L.B c',ρ,M,.inl hex,RX.refl ρ hp nx,MExt.refl M,.pure (.int _ _),?_⟩;refine h.upd b g L.sz (pu&&puOf hp (ev q')) (s.set i (.agg (splice l j ((List.range nm).map xs.get)))) L (RExt.refl ρ) (fun _ _ _=>rfl) hL
  ⟨L,hL,rfl,⟨e3.1,by rw [Sq.len_set]; exact e3.2⟩,.inr ⟨hv,_,ee,hnew,by rw [hcsz,h8],by rw [Sq.len_set]; exact h9,h10,fun i' hi'=>?_⟩⟩
  (.inr (.inr ⟨g,L.sz,pu,s,L,hb,hL,hv,rfl⟩)) (fun g'' hg''=>h.hok.gen b g _ pu s hb g'' hg'') rfl rfl rfl (by simp) (fun B hB hne=>setRow_other w L.B B _ (by
   rcases hne with h0|h0
   ·rw [hv] at h0; cases h0
   ·exact h0))
 rw [Sq.len_set] at hi';rw [Sq.get_set s i i' _ his];have hspl:(splice l j ((List.range nm).map xs.get)).length=L.sz:=by
  have:=spliced_len l ((List.range nm).map xs.get) j (by rw [hys]; exact hjl)
  rw [splice,this,hxl]
 refine ⟨?_,fun k hk=>?_⟩
 ·split
  ·exact hspl
  ·exact (h11 i' hi').1
 rw [<- hc'];simp only [List.getElem?_toArray];have hsp:=spliced cc.toList news (L.o+i * L.sz+j) (L.o+i' * L.sz+k) (by simpa using hfit)
 rw [hsp,hnl];by_cases hii:i'=i
 ·subst hii;simp only [if_true];have hsp2:=spliced l ((List.range nm).map xs.get) j k (by rw [hys]; exact hjl)
  have hgd:(AV.agg (splice l j ((List.range nm).map xs.get))).cells.getD k .undef=(if k<j then l[k]? else if k<j+nm then ((List.range nm).map xs.get)[k - j]? else l[k]?).getD .undef:=by
   show (splice l j _).getD k .undef=_;rw [splice,List.getD,hsp2,hys]
  rw [hgd];by_cases hkj:k<j
  ·rw [if_pos (by omega),if_pos hkj]
   obtain ⟨v,k1,k2,k3,k4⟩:=(h11 i' hi').2 k hk;rw [hl] at k3 k4;exact ⟨v,by simpa using k1,k2,k3,fun hp=>k4 (by simp only [Bool.and_eq_true] at hp; exact hp.1)⟩
  ·rw [if_neg (by omega),if_neg hkj]
   by_cases hkx:k<j+nm
   ·rw [if_pos (by omega),if_pos hkx]
    have hkk:k - j<(xs.sub 0 nm).len:=by rw [hsub]; omega
    obtain ⟨m1,m2⟩:=hrows.2 (k - j) hkk;obtain ⟨u,n1,n2,n3,n4⟩:=m2 0 (by omega)
    rw [Sq.sub_get xs 0 _ (k - j) (by omega),Nat.zero_add] at n3 n4
    obtain ⟨y1,y2⟩:=hysn (k - j) (by omega)
    rw [y2] at n3 n4;have y3:(((List.range nm).map xs.get)[k - j]?).getD .undef=xs.get (k - j):=y1;refine ⟨u,?_,n2,by rw [y3]; exact n3,fun hp=>by rw [y3]; exact n4 (by simp only [Bool.and_eq_true] at hp; exact hp.2)⟩
    rw [<- n1];congr 1;omega
   ·rw [if_neg (by omega),if_neg hkx]
    obtain ⟨v,k1,k2,k3,k4⟩:=(h11 i' hi').2 k hk;rw [hl] at k3 k4;exact ⟨v,by simpa using k1,k2,k3,fun hp=>k4 (by simp only [Bool.and_eq_true] at hp; exact hp.1)⟩
 ·simp only [if_neg hii];obtain ⟨v,k1,k2,k3,k4⟩:=(h11 i' hi').2 k hk;refine ⟨v,?_,k2,k3,fun hp=>k4 (by simp only [Bool.and_eq_true] at hp; exact hp.1)⟩
  by_cases hlt:L.o+i' * L.sz+k<L.o+i * L.sz+j
  ·rw [if_pos hlt]; simpa using k1
  ·rw [if_neg hlt,if_neg ?_]
   ·simpa using k1
   ·intro hlt2;have hne:=@idx_ne i' i k (i' * L.sz+k - i * L.sz) L.sz hk (by omega) hii
    omega
theorem step_copy (h:SRel U w0 n ρ M tm hp nx a w) (t:TypeId) (ts:List TypeId) (q q':Operand) (ho:o.op=.call { callee:=.builtin .copy,args:=⟨[q,q']⟩,argTypes:=⟨t::ts⟩ }) (ev:Operand->AV)
  (h1:Rel ρ M (a.eval q) (ev q)) (h2:Rel ρ M (a.eval q') (ev q')) (need v eff ob) (hs:copyAV P hp t (ev q) (ev q')=some ⟨need,v,eff,ob⟩) (hn:need=true):OpOut P o U w0 n ρ M tm hp nx a w v eff:=by
 unfold copyAV at hs;split at hs
 case h_2=>cases hs
 rename_i e hu;simp only [Option.bind_eq_some_iff] at hs;obtain ⟨⟨xs,okx⟩,hxs,hs⟩:=hs;generalize hdd:ev q=d at hs h1;split at hs
 case h_3=>cases hs
 case h_2 =>
  rename_i b g i j len;exact step_copyA h t ts q q' ho ev e hu hxs h1 h2 need v eff ob hs hn
 rename_i b g i len c;split at hs
 case h_2=>cases hs
 rename_i g' sz pu s hb;split at hs
 case isFalse=>cases hs
 rename_i hc;obtain ⟨rfl,hsized,hpos⟩:=hc;simp only [Option.some.injEq,SR.mk.injEq] at hs;obtain ⟨hneed,rfl,rfl,rfl⟩:=hs;rw [<- hneed] at hn;simp only [Bool.and_eq_true,decide_eq_true_eq] at hn;obtain ⟨hokx,rfl⟩:=hn
 obtain ⟨inf,hinf,hsz⟩:=info_of_cells (P:=P) hpos;have hE:=elemsAt h h2 hxs hokx;have hle:min xs.len len<=xs.len:=Nat.min_le_left _ _;obtain ⟨ad,cap,hq',hE'⟩:=hE.first (min xs.len len) hle
 have hsub:=Sq.sub_len xs 0 (min xs.len len) (by omega)
 obtain ⟨news,hS⟩:=Src.ofElems (sz:=P.cellsOf e) hE' (fun h0=>by
  rw [hsub] at h0;rw [Sq.sub_get xs 0 _ 0 h0];exact sizedAt h h2 hxs hokx hsized (by omega)) hpos
 have hrun:∀ (base:Option Addr) (dLen dCap:Nat),a.eval q=.slice base dLen dCap->dLen=len->∀ w1,(∀ ad,base=some ad->(storeCells ad news).run P w=.ok () w1)->(base=none->w1=w) ->
   (execOp a.eval o).run P w=.ok (.value (.int .i64 (min xs.len len:Nat))) w1:=by
  intro base dLen dCap hq hd w1 k1 k2;subst hd;have hl:(Builtin.lenOf (a.eval q')).run P w=.ok xs.len w:=by rw [hq']; simp [Builtin.lenOf]
  have hcs:(Builtin.firstCells inf.size (min xs.len dLen) (a.eval q')).run P w=.ok news.toArray w:=by
   rw [hq',hsz];have:=hS.cells w (fun _=>rfl)
   rw [hsub] at this;cases ad <;> exact this
  have:=run_copy (ts:=ts) (ty:=o.type) hu hinf base dLen dCap xs.len (min xs.len dLen) (a.eval q') news hl rfl hcs w1 k1 k2;simp only [execOp,ho,resolve,Sem.run_bind,Sem.run_pure,Result.andThen_ok,invoke]
  have e2:builtin .copy ⟨t::ts⟩ o.type=fun cs as=>(do pure (Next.value (<- Builtin.copy_ ⟨t::ts⟩ o.type as)):Sem Next):=by funext cs as; rfl
  rw [e2];simp only [Sem.run_bind];have e3:(Array.map a.eval #[q,q'])=#[.slice base dLen dCap,a.eval q']:=by simp [hq]
  rw [e3,this];rfl
 have hrows:=hS.rows;have hnl:news.length=(min xs.len len) * P.cellsOf e:=by rw [hrows.1,hsub]
 obtain ⟨L,hL,hcs⟩:=h1.slInv;obtain ⟨L',e1,e2,e3,h6⟩:=h.rowLoc hb;rw [hL] at e1; cases e1;rcases hcs with ⟨hv,dcap,hq,k1,k2,k3,k4,k5⟩|⟨h0,k2,ad',hq⟩
 ·rcases h6 with ⟨h6,_⟩|⟨_,cc,ee,h7,h8,h9,h10,h11⟩
  ·rw [hv] at h6; cases h6
  have hil:i+min xs.len len<=s.len:=by have:min xs.len len<=len:=Nat.min_le_right _ _; omega
  have hfit:L.o+i * L.sz+news.length<=cc.size:=by
   rw [hnl,<- e2,Nat.add_assoc,<- Nat.add_mul,h8];have:=Nat.mul_le_mul_right L.sz hil;rw [e2] at this ⊢;omega
  have hst:=run_storeCells_at P L.B (L.o+i * L.sz) ee news 0 cc w h7 (by simpa using hfit) hS.one
  simp only [Nat.add_zero] at hst;have hex:=hrun _ len dcap hq rfl _ (fun ad hadd=>by cases hadd; exact hst) (fun hh=>by cases hh)
  generalize hc':(cc.toList.take (L.o+i * L.sz)++news++cc.toList.drop (L.o+i * L.sz+news.length)).toArray=c' at hex;have hcsz:c'.size=cc.size:=by
   rw [<- hc'];have:=spliced_len cc.toList news (L.o+i * L.sz) (by simpa using hfit)
   simpa using this
  have hnew:(w.setRow L.B c').heap[L.B]?=some (.cells c' ee (0,0)):=setRow_heap w L.B cc _ ee (0,0) h7;have hlen:=Sq.put_len s xs i (min xs.len len) hil hle
  refine ⟨_,w.setRow L.B c',ρ,M,.inl hex,RX.refl ρ hp nx,MExt.refl M,.pure (.int _ _),?_⟩;refine h.upd b g (P.cellsOf e) (pu&&puOf hp (ev q')) (s.put i (min xs.len len) xs) L (RExt.refl ρ) (fun _ _ _=>rfl) hL
   ⟨L,hL,e2,⟨e3.1,by rw [hlen]; exact e3.2⟩,.inr ⟨hv,_,ee,hnew,by rw [hcsz,h8],by rw [hlen]; exact h9,h10,fun k hk=>?_⟩⟩
   (.inr (.inr ⟨g,P.cellsOf e,pu,s,L,hb,hL,hv,rfl⟩)) (fun g'' hg''=>h.hok.gen b g _ pu s hb g'' hg'') rfl rfl rfl (by simp) (fun B hB hne=>setRow_other w L.B B _ (by
    rcases hne with h0|h0
    ·rw [hv] at h0; cases h0
    ·exact h0))
  rw [hlen] at hk;rw [Sq.put_get s xs i _ k hil hle];have hcell:∀ j,j<P.cellsOf e->c'[L.o+k * P.cellsOf e+j]?=if i<=k/\k<i+min xs.len len then news[(k - i) * P.cellsOf e+j]? else cc[L.o+k * P.cellsOf e+j]?:=by
   intro j hj;rw [<- hc'];simp only [List.getElem?_toArray];rw [spliced cc.toList news (L.o+i * L.sz) (L.o+k * P.cellsOf e+j) (by simpa using hfit),hnl,e2]
   by_cases hki:i<=k
   ·have hm:=Nat.mul_le_mul_right (P.cellsOf e) hki;rw [if_neg (by omega)]
    by_cases hk2:k<i+min xs.len len
    ·have hm2:(k+1) * P.cellsOf e<=(i+min xs.len len) * P.cellsOf e:=Nat.mul_le_mul_right _ hk2;rw [Nat.add_mul,Nat.add_mul] at hm2;rw [if_pos (by omega),if_pos ⟨hki,hk2⟩]
     congr 1;rw [Nat.sub_mul];omega
    ·have hm2:(i+min xs.len len) * P.cellsOf e<=k * P.cellsOf e:=Nat.mul_le_mul_right _ (by omega)
     rw [Nat.add_mul] at hm2;rw [if_neg (by omega),if_neg (by omega)]
     simp
   ·have hm2:(k+1) * P.cellsOf e<=i * P.cellsOf e:=Nat.mul_le_mul_right _ (by omega)
    rw [Nat.add_mul] at hm2;rw [if_pos (by omega),if_neg (by omega)]
    simp
  by_cases hin:i<=k/\k<i+min xs.len len
  ·rw [if_pos hin];have hkk:k - i<(xs.sub 0 (min xs.len len)).len:=by rw [hsub]; omega
   obtain ⟨m1,m2⟩:=hrows.2 (k - i) hkk;rw [Sq.sub_get xs 0 _ (k - i) (by omega),Nat.zero_add] at m1 m2
   refine ⟨m1,fun j hj=>?_⟩
   obtain ⟨u,n1,n2,n3,n4⟩:=m2 j hj;refine ⟨u,?_,n2,n3,fun hp'=>n4 (by simp only [Bool.and_eq_true] at hp'; exact hp'.2)⟩
   rw [hcell j hj,if_pos hin];exact n1
  ·rw [if_neg hin];obtain ⟨m1,m2⟩:=h11 k hk;refine ⟨m1,fun j hj=>?_⟩
   obtain ⟨u,n1,n2,n3,n4⟩:=m2 j hj;refine ⟨u,?_,n2,n3,fun hp'=>n4 (by simp only [Bool.and_eq_true] at hp'; exact hp'.1)⟩
   rw [hcell j hj,if_neg hin];exact n1
 ·subst h0;have hm0:min xs.len 0=0:=Nat.min_zero _;have hnil:news=[]:=List.eq_nil_of_length_eq_zero (by rw [hnl,hm0,Nat.zero_mul])
  have hex:=hrun _ 0 0 hq rfl w (fun ad _=>by rw [hnil]; rfl) (fun _=>rfl)
  refine ⟨_,w,ρ,M,.inl hex,RX.refl ρ hp nx,MExt.refl M,.pure (.int _ _),?_⟩;rw [hm0];obtain ⟨p1,p2⟩:=Sq.put0 s xs i;have hrow:RowOK ρ M w b g (P.cellsOf e) (pu&&puOf hp (ev q')) (s.put i 0 xs):=by
   refine ⟨L,hL,e2,⟨e3.1,by rw [p1]; exact e3.2⟩,?_⟩
   rcases h6 with ⟨h6,h7⟩|⟨hv,cc,ee,h7,h8,h9,h10,h11⟩
   ·exact .inl ⟨h6,by rw [p1]; exact h7⟩
   ·refine .inr ⟨hv,cc,ee,h7,h8,by rw [p1]; exact h9,h10,fun k hk=>?_⟩
    rw [p1] at hk;rw [p2 k];obtain ⟨m1,m2⟩:=h11 k hk;refine ⟨m1,fun j hj=>?_⟩
    obtain ⟨u,n1,n2,n3,n4⟩:=m2 j hj;exact ⟨u,n1,n2,n3,fun hp'=>n4 (by simp only [Bool.and_eq_true] at hp'; exact hp'.1)⟩
  refine h.upd b g (P.cellsOf e) (pu&&puOf hp (ev q')) (s.put i 0 xs) L (RExt.refl ρ) (fun _ _ _=>rfl) hL hrow ?_ (fun g'' hg''=>h.hok.gen b g _ pu s hb g'' hg'') rfl rfl rfl (Nat.le_refl _) (fun _ _ _=>rfl)
  rcases h6 with ⟨h6,_⟩|⟨hv,_⟩
  ·exact .inl h6
  ·exact .inr (.inr ⟨g,P.cellsOf e,pu,s,L,hb,hL,hv,rfl⟩)
theorem step_builtin (h:SRel U w0 n ρ M tm hp nx a w) (b:Builtin) (args:Array Operand) (ts:Array TypeId) (ho:o.op=.call { callee:=.builtin b,args:=args,argTypes:=ts }) (ev:Operand->AV)
  (hx:∀ x∈args,Rel ρ M (a.eval x) (ev x)) (need v eff ob)
  (hs:builtinAV P b ts.toList hp nx (args.toList.map ev)=some ⟨need,v,eff,ob⟩) (hn:need=true):OpOut P o U w0 n ρ M tm hp nx a w v eff:=by
 obtain ⟨args⟩:=args;obtain ⟨ts⟩:=ts;simp only at hs;cases b
 case len =>
  match ts,args,hs with
  | [],_,hs=>simp [builtinAV] at hs
  | _::_,[],hs=>simp [builtinAV] at hs
  | _::_,_::_::_,hs=>simp [builtinAV] at hs
  | t::tl,[q],hs =>
  simp only [builtinAV,List.map_cons,List.map_nil] at hs;have hq:=hx q (by simp)
  have hrun:∀ r,(Builtin.len_ ⟨t::tl⟩ o.type #[a.eval q]).run P w=.ok r w->(execOp a.eval o).run P w=.ok (.value r) w:=fun r hr =>
   run_builtin .len _ _ ho (fun as=>Builtin.len_ ⟨t::tl⟩ o.type as) (fun cs=>rfl) (by simpa using hr)
  generalize ev q=x at hs hq;split at hs
  ·rename_i s hu;simp only [ok1,Option.some.injEq,SR.mk.injEq] at hs;obtain ⟨_,rfl,rfl,rfl⟩:=hs;refine OpOut.same h (u:=.int .i64 s.length) (hrun _ ?_) (.pure (.int _ _));have e1:(ByteArray.mk ⟨s⟩).size=s.length:=rfl
   simp [Builtin.len_,run_underlying hu,hq.strInv,goInt,e1]
  ·rename_i m e hu;simp only [ok1,Option.some.injEq,SR.mk.injEq] at hs;obtain ⟨_,rfl,rfl,rfl⟩:=hs;refine OpOut.same h (u:=.int .i64 m) (hrun _ ?_) (.pure (.int _ _));simp [Builtin.len_,run_underlying hu,goInt]
  ·rename_i e hu;split at hs
   ·rename_i m e' hu2;simp only [ok1,Option.some.injEq,SR.mk.injEq] at hs;obtain ⟨_,rfl,rfl,rfl⟩:=hs;refine OpOut.same h (u:=.int .i64 m) (hrun _ ?_) (.pure (.int _ _));simp [Builtin.len_,run_underlying hu,run_underlying hu2,goInt]
   ·cases hs
  ·rename_i e hu;simp only [Option.bind_eq_some_iff,ok1,Option.some.injEq,SR.mk.injEq] at hs;obtain ⟨m,hm,_,rfl,rfl,rfl⟩:=hs;obtain ⟨ad,cap,hv⟩:=lenAV_rel hq hm;refine OpOut.same h (u:=.int .i64 m) (hrun _ ?_) (.pure (.int _ _))
   simp [Builtin.len_,run_underlying hu,hv,goInt]
  ·cases hs
 case append =>
  match ts,args,hs with
  | [],_,hs=>simp [builtinAV] at hs
  | [_],_,hs=>simp [builtinAV] at hs
  | _::_::_::_,_,hs=>simp [builtinAV] at hs
  | [_,_],[],hs=>simp [builtinAV] at hs
  | [_,_],[_],hs=>simp [builtinAV] at hs
  | [_,_],_::_::_::_,hs=>simp [builtinAV] at hs
  | [t,t2],[q,q'],hs =>
  simp only [builtinAV,List.map_cons,List.map_nil] at hs;split at hs
  ·rename_i ht2;split at hs
   ·exact step_appendG h t t2 q q' ho ev (hx q (by simp)) (hx q' (by simp)) (srcOK_spec ht2) need v eff ob hs hn
   exact step_append h t t2 q q' ho ev (hx q (by simp)) (hx q' (by simp)) (srcOK_spec ht2) need v eff ob hs hn
  ·cases hs
 case min =>
  match args,hs with
  | [],hs=>simp [builtinAV] at hs
  | [_],hs=>simp [builtinAV] at hs
  | _::_::_::_,hs=>simp [builtinAV] at hs
  | [q,q'],hs =>
  simp only [List.map_cons,List.map_nil] at hs;have h1:=hx q (by simp)
  have h2:=hx q' (by simp)
  generalize ev q=x at hs h1;generalize ev q'=y at hs h2;cases x <;> cases y <;> simp only [builtinAV,reduceCtorEq] at hs
  split at hs
  ·simp only [ok1,Option.some.injEq,SR.mk.injEq] at hs;obtain ⟨_,rfl,rfl,rfl⟩:=hs;refine OpOut.same h (u:=.int _ (minI _ _)) (run_builtin .min _ _ ho (fun as=>Builtin.min_ ⟨ts⟩ o.type as) (fun cs=>rfl) ?_) (.pure (.int _ _))
   simp [Builtin.min_,Builtin.min2,h1.intInv,h2.intInv,minI]
  ·cases hs
 case max =>
  match args,hs with
  | [],hs=>simp [builtinAV] at hs
  | [_],hs=>simp [builtinAV] at hs
  | _::_::_::_,hs=>simp [builtinAV] at hs
  | [q,q'],hs =>
  simp only [List.map_cons,List.map_nil] at hs;have h1:=hx q (by simp)
  have h2:=hx q' (by simp)
  generalize ev q=x at hs h1;generalize ev q'=y at hs h2;cases x <;> cases y <;> simp only [builtinAV,reduceCtorEq] at hs
  split at hs
  ·simp only [ok1,Option.some.injEq,SR.mk.injEq] at hs;obtain ⟨_,rfl,rfl,rfl⟩:=hs;refine OpOut.same h (u:=.int _ (maxI _ _)) (run_builtin .max _ _ ho (fun as=>Builtin.max_ ⟨ts⟩ o.type as) (fun cs=>rfl) ?_) (.pure (.int _ _))
   simp [Builtin.max_,Builtin.max2,h1.intInv,h2.intInv,maxI]
  ·cases hs
 case copy =>
  match ts,args,hs with
  | [],_,hs=>simp [builtinAV] at hs
  | _::_,[],hs=>simp [builtinAV] at hs
  | _::_,[_],hs=>simp [builtinAV] at hs
  | _::_,_::_::_::_,hs=>simp [builtinAV] at hs
  | t::ts,[q,q'],hs =>
  simp only [builtinAV,List.map_cons,List.map_nil] at hs;exact step_copy h t ts q q' ho ev (hx q (by simp)) (hx q' (by simp)) need v eff ob hs hn
 all_goals simp [builtinAV] at hs
theorem step_lookupA (h:SRel U w0 n ρ M tm hp nx a w) (t:TypeId) (x ix:Operand) (ok:Bool) (ho:o.op=.lookup t x ix ok) (ev:Operand->AV) (hx:Rel ρ M (a.eval x) (ev x)) (hix:Rel ρ M (a.eval ix) (ev ix)) (need v eff ob)
  (hs:lookupAV P hp t (ev x) (ev ix) ok=some ⟨need,v,eff,ob⟩) (hn:need=true):OpOut P o U w0 n ρ M tm hp nx a w v eff:=by
 cases hk:mkOf hp (ev x) with
 | none=>exact step_lookup h t x ix ok ho ev hx hix need v eff ob hs hk
 | some q =>
  obtain ⟨nd,m⟩:=q;have hmf:mfOf hp (ev x)=none:=by
   generalize ev x=X at hk;cases X <;> simp only [mkOf,reduceCtorEq] at hk <;> simp only [mfOf]
   split at hk
   ·rename_i hb; rw [hb]
   ·cases hk
  unfold lookupAV at hs;rw [hmf,hk] at hs;simp only [Option.map_eq_some_iff,SR.mk.injEq] at hs;obtain ⟨⟨nd',v',eff',ob'⟩,h1,h2,rfl,rfl,rfl⟩:=hs;exact step_lookupK h t x ix ok ho ev hx hix hk (h2.trans hn) h1
theorem step_mapUpdateA (h:SRel U w0 n ρ M tm hp nx a w) (t:TypeId) (x ix y:Operand) (ho:o.op=.mapUpdate t x ix y\/o.op=.insert t x ix y) (ev:Operand->AV) (hx:Rel ρ M (a.eval x) (ev x)) (hix:Rel ρ M (a.eval ix) (ev ix)) (hy:Rel ρ M (a.eval y) (ev y)) (need v eff ob)
  (hs:mapUpdateAV P hp t (ev x) (ev ix) (ev y)=some ⟨need,v,eff,ob⟩) (hn:need=true):OpOut P o U w0 n ρ M tm hp nx a w v eff:=by
 cases hk:mkAt hp (ev x) with
 | none=>exact step_mapUpdate h t x ix y ho ev hx hix hy need v eff ob hs hk
 | some q =>
  obtain ⟨nd,b,m,g⟩:=q;have hmf:mfAt hp (ev x)=none:=by
   generalize ev x=X at hk;cases X <;> simp only [mkAt,reduceCtorEq] at hk <;> simp only [mfAt]
   split at hk
   ·rename_i hb; rw [hb]
   ·cases hk
  unfold mapUpdateAV at hs;rw [hmf,hk] at hs;simp only [Option.map_eq_some_iff,SR.mk.injEq] at hs;obtain ⟨m',h1,h2,rfl,rfl,rfl⟩:=hs;exact step_updateK h t x ix y ho ev hx hix hy hk (h2.trans hn) h1
theorem stepOp_sound (h:SRel U w0 n ρ M tm hp nx a w) (ev:Operand->AV) (hx:∀ x∈o.op.operands,Rel ρ M (a.eval x) (ev x)) (need v eff ob)
  (hs:stepOp P o.op ev hp nx=some ⟨need,v,eff,ob⟩) (hn:need=true) (hob:∀ p,ob=some p->p):OpOut P o U w0 n ρ M tm hp nx a w v eff:=by
 cases ho:o.op
 case move x =>
  rw [ho] at hs hx;simp only [stepOp,ok1,Option.some.injEq,SR.mk.injEq] at hs;obtain ⟨_,rfl,rfl,rfl⟩:=hs;exact OpOut.same h (by simp [execOp,ho]) (hx x (by simp [Op.operands]))
 case assign x =>
  rw [ho] at hs hx;simp only [stepOp,ok1,Option.some.injEq,SR.mk.injEq] at hs;obtain ⟨_,rfl,rfl,rfl⟩:=hs;exact OpOut.same h (by simp [execOp,ho]) (hx x (by simp [Op.operands]))
 case makeMap t r =>
  cases r with
  | some r=>rw [ho] at hs; simp [stepOp] at hs
  | none =>
   rw [ho] at hs;simp only [stepOp,Option.some.injEq,SR.mk.injEq] at hs;obtain ⟨_,rfl,rfl,rfl⟩:=hs;exact step_makeMap h t ho
 case lookup t x ix ok=>rw [ho] at hs hx; exact step_lookupA h t x ix ok ho ev (hx x (by simp [Op.operands])) (hx ix (by simp [Op.operands])) need v eff ob hs hn
 case mapUpdate t m k x=>rw [ho] at hs hx; exact step_mapUpdateA h t m k x (.inl ho) ev (hx m (by simp [Op.operands])) (hx k (by simp [Op.operands])) (hx x (by simp [Op.operands])) need v eff ob hs hn
 case insert t m k x=>rw [ho] at hs hx; exact step_mapUpdateA h t m k x (.inr ho) ev (hx m (by simp [Op.operands])) (hx k (by simp [Op.operands])) (hx x (by simp [Op.operands])) need v eff ob hs hn
 case alloc t=>rw [ho] at hs; exact step_alloc h t ho ev need v eff ob hs
 case box t x=>rw [ho] at hs hx; exact step_box h t x ho ev (hx x (by simp [Op.operands])) need v eff ob hs
 case build t parts =>
  rw [ho] at hs hx;refine step_build h t parts ho ev (fun q hq=>hx q.2 ?_) need v eff ob hs
  simp only [Op.operands,List.mem_toArray,List.mem_map];exact ⟨q,hq,rfl⟩
 case buildSlice t len parts =>
  rw [ho] at hs hx;refine step_buildSlice h t len parts ho ev (fun q hq=>hx q.2 ?_) need v eff ob hs
  simp only [Op.operands,List.mem_toArray,List.mem_map];exact ⟨q,hq,rfl⟩
 case load t x=>rw [ho] at hs hx; exact step_load h t x ho ev (hx x (by simp [Op.operands])) need v eff ob hs hn
 case store t x y=>rw [ho] at hs hx; exact step_store h t x y ho ev (hx x (by simp [Op.operands])) (hx y (by simp [Op.operands])) need v eff ob hs hn
 case nilCheck x=>rw [ho] at hs hx; exact step_nilCheck h x ho ev (hx x (by simp [Op.operands])) need v eff ob hs
 case binOp op t x y t2=>rw [ho] at hs hx; exact step_bin h op t t2 x y ho ev (hx x (by simp [Op.operands])) (hx y (by simp [Op.operands])) need v eff ob hs hn
 case unOp op t x=>rw [ho] at hs hx; exact step_un h op t x ho ev (hx x (by simp [Op.operands])) need v eff ob hs
 case convert s d x=>rw [ho] at hs hx; exact step_convert h s d x ho ev (hx x (by simp [Op.operands])) need v eff ob hs hn hob
 case makeFunc f fs cs=>rw [ho] at hs hx; exact step_makeFunc h f fs cs ho ev (fun x hxx=>hx x (by simpa [Op.operands] using hxx)) need v eff ob hs
 case makeSlice t x y=>rw [ho] at hs hx; exact step_makeSlice h t x y ho ev (hx x (by simp [Op.operands])) (hx y (by simp [Op.operands])) need v eff ob hs hn
 case slice t x lo hi mx =>
  rw [ho] at hs hx;refine step_slice h t x lo hi mx ho ev (hx x (by simp [Op.operands])) (fun y hy=>hx y ?_) (fun y hy=>hx y ?_) (fun y hy=>hx y ?_) need v eff ob hs hn
  all_goals (simp only [Op.operands,Array.mem_append]; simp at hy; simp [hy])
 case fieldAddr t x f=>rw [ho] at hs hx; exact step_fieldAddr h t x f ho ev (hx x (by simp [Op.operands])) need v eff ob hs
 case field t x f=>rw [ho] at hs hx; exact step_field h t x f ho ev (hx x (by simp [Op.operands])) need v eff ob hs
 case indexAddr t x y=>rw [ho] at hs hx; exact step_indexAddr h t x y ho ev (hx x (by simp [Op.operands])) (hx y (by simp [Op.operands])) need v eff ob hs hn
 case index t x y=>rw [ho] at hs hx; exact step_index h t x y ho ev (hx x (by simp [Op.operands])) (hx y (by simp [Op.operands])) need v eff ob hs hn
 case extract x i=>rw [ho] at hs hx; exact step_extract h x i ho ev (hx x (by simp [Op.operands])) need v eff ob hs
 case call c =>
  rw [ho] at hs hx;obtain ⟨callee,args,ts⟩:=c;cases callee with
  | builtin b =>
   refine step_builtin h b args ts ho ev (fun x hxx=>hx x ?_) need v eff ob hs hn
   simp [Op.operands,Call.operands,hxx]
  | _=>simp [stepOp] at hs
 all_goals (rw [ho] at hs; simp [stepOp] at hs)
end
end Pw
