/- TREES, facts 1: trees that are made of lines. -/
import Derived.Test.YtlnpgnipocbfhaaGreatDoorNLL
import Derived.Test.YtlnpgnipocbfhaaGreatDoorNMA
namespace Go.Proofs.YtlnpgnipocbfhaaGreatDoor
open Pw Go
set_option maxRecDepth 100000
theorem wrap8_small {g:Int} (h0:0<=g) (h1:g<12):IntKind.i8.wrap (IntKind.i64.wrap (g+1))=g+1:=by
 have:g=0\/g=1\/g=2\/g=3\/g=4\/g=5\/g=6\/g=7\/g=8\/g=9\/g=10\/g=11:=by omega
 rcases this with rfl|rfl|rfl|rfl|rfl|rfl|rfl|rfl|rfl|rfl|rfl|rfl <;> rfl
theorem kg_right {s:SlotG} (h:rightS s) (j:Nat):kg s j=if j<s.gds.length then s.gds.getD j 0+1 else 0:=by
 unfold kg;split
 ·rename_i hj;have:=h.2.2.1 _ (getD_mem (d:=0) hj);exact wrap8_small this.1 this.2
 ·rfl
theorem keyL_kg {s s':SlotG} (h:keyL s=keyL s'):s.1=s'.1/\∀ j,j<=12->kg s j=kg s' j:=by
 simp only [keyL,List.cons.injEq] at h;obtain ⟨h,e0,e1,e2,e3,e4,e5,e6,e7,e8,e9,e10,e11,e12,_⟩:=h;refine ⟨h,fun j hj=>?_⟩
 have:j=0\/j=1\/j=2\/j=3\/j=4\/j=5\/j=6\/j=7\/j=8\/j=9\/j=10\/j=11\/j=12:=by omega
 rcases this with rfl|rfl|rfl|rfl|rfl|rfl|rfl|rfl|rfl|rfl|rfl|rfl|rfl <;> assumption
theorem keyL_inj {s s':SlotG} (h:rightS s) (h':rightS s') (e:keyL s=keyL s'):s=s':=by
 obtain ⟨e0,e1⟩:=keyL_kg e;have k1:=rightS_few h;have k2:=rightS_few h';have hl:s.gds.length=s'.gds.length:=by
  rcases Nat.lt_trichotomy s.gds.length s'.gds.length with h1|h1|h1
  ·have h2:=e1 s.gds.length (by omega)
   rw [kg_right h,kg_right h',if_neg (Nat.lt_irrefl _),if_pos h1] at h2;have:=h'.2.2.1 _ (getD_mem (d:=0) h1);omega
  ·exact h1
  ·have h2:=e1 s'.gds.length (by omega)
   rw [kg_right h,kg_right h',if_neg (Nat.lt_irrefl _),if_pos h1] at h2;have:=h.2.2.1 _ (getD_mem (d:=0) h1);omega
 obtain ⟨a,l,u⟩:=s;obtain ⟨a',l',u'⟩:=s';have hll:l=l':=by
  refine List.ext_getElem hl fun i h1 h2=>?_
  have h3:=e1 i (by simp only [SlotG.gds] at k1; omega)
  rw [kg_right h,kg_right h',if_pos h1,if_pos h2] at h3;have h4:l.getD i 0=l[i]:=by simp [List.getD,h1]
  have h5:l'.getD i 0=l'[i]:=by simp [List.getD,h2]
  simp only [SlotG.gds] at h3;omega
 subst hll;cases e0;rfl
structure Trie (t:List TwigG):Prop where
 pos:1<=t.length
 par:∀ i,0<i->i<t.length->0<=(t.getD i twigD).par/\(t.getD i twigD).par<i/\(i:Int)∈(t.getD (t.getD i twigD).par.toNat twigD).kids
 kid:∀ i,i<t.length->∀ k∈(t.getD i twigD).kids,0<k/\k<t.length/\(t.getD k.toNat twigD).par=i
 right:slotsP rightS t
 one:∀ i,i<t.length->∀ k∈(t.getD i twigD).kids,∀ k'∈(t.getD i twigD).kids,(t.getD k.toNat twigD).slot=(t.getD k'.toNat twigD).slot->k=k'
structure Grows (t t':List TwigG):Prop where
 len:t.length<=t'.length
 slot:∀ i,i<t.length->(t'.getD i twigD).slot=(t.getD i twigD).slot
 par:∀ i,i<t.length->(t'.getD i twigD).par=(t.getD i twigD).par
 ends:∀ i,i<t.length->(t'.getD i twigD).ends=(t.getD i twigD).ends
 line:∀ i,i<t.length->(t'.getD i twigD).line=(t.getD i twigD).line
 kids:∀ i,i<t.length->(t'.getD i twigD).kids=[]->(t.getD i twigD).kids=[]
 new:∀ i,t.length<=i->i<t'.length->(t'.getD i twigD).ends=false/\(t'.getD i twigD).line=-1
theorem Grows.refl (t:List TwigG):Grows t t:=⟨Nat.le_refl _,fun _ _=>rfl,fun _ _=>rfl,fun _ _=>rfl,fun _ _=>rfl,fun _ _ h=>h,fun i h1 h2=>by omega⟩
theorem Grows.trans {t u v:List TwigG} (h:Grows t u) (k:Grows u v):Grows t v:=by
 have hl:=h.len;refine ⟨by have:=k.len; omega,fun i hi=>?_,fun i hi=>?_,fun i hi=>?_,fun i hi=>?_,fun i hi e=>h.kids i hi (k.kids i (by omega) e),fun i h1 h2=>?_⟩
 ·rw [k.slot i (by omega),h.slot i hi]
 ·rw [k.par i (by omega),h.par i hi]
 ·rw [k.ends i (by omega),h.ends i hi]
 ·rw [k.line i (by omega),h.line i hi]
 ·rcases Nat.lt_or_ge i u.length with h3|h3
  ·rw [k.ends i h3,k.line i h3];exact h.new i h1 h3
  ·exact k.new i h3 h2
theorem right_dead:rightS slotD':=⟨by decide,by decide,fun _ h=>(by cases h),rfl⟩
theorem trie_root:Trie rootT:=by
 refine ⟨Nat.le_refl _,fun i h0 hi=>?_,fun i hi k hk=>?_,fun i=>?_,fun i hi k hk=>?_⟩
 ·have:i<1:=hi;omega
 ·have:i<1:=hi;obtain rfl:i=0:=by omega
  cases hk
 ·match i with
  | 0=>exact right_dead
  | _+1=>exact right_dead
 ·have:i<1:=hi;obtain rfl:i=0:=by omega
  cases hk
theorem grows_add (t:List TwigG) (a:Nat) (s:SlotG):Grows t (addTwig t a s):=by
 refine ⟨by rw [addTwig_len]; omega,fun i hi=>addTwig_slot hi,fun i hi=>?_,fun i hi=>?_,fun i hi=>?_,fun i hi e=>?_,fun i h1 h2=>?_⟩
 ·rw [addTwig_get hi];split <;> rfl
 ·rw [addTwig_get hi];split <;> rfl
 ·rw [addTwig_get hi];split <;> rfl
 ·rw [addTwig_kids hi] at e;split at e
  ·simp at e
  ·exact e
 ·rw [addTwig_len] at h2;obtain rfl:i=t.length:=by omega
  rw [addTwig_last];exact ⟨rfl,rfl⟩
theorem addTwig_mem {t:List TwigG} {a:Nat} {s:SlotG} {i:Nat} (hi:i<t.length) {k:Int} (hk:k∈((addTwig t a s).getD i twigD).kids):k∈(t.getD i twigD).kids\/(i=a/\k=t.length):=by
 rw [addTwig_kids hi] at hk;split at hk
 ·rename_i h;rcases List.mem_append.1 hk with h1|h1
  ·exact .inl h1
  ·exact .inr ⟨h,by simpa using h1⟩
 ·exact .inl hk
theorem trie_add {t:List TwigG} {a:Nat} {s:SlotG} (h:Trie t) (ha:a<t.length) (hs:rightS s) (hn:findKid t (t.getD a twigD).kids (keyL s)=none):Trie (addTwig t a s):=by
 have g:=grows_add t a s;refine ⟨by rw [addTwig_len]; omega,fun i h0 hi=>?_,fun i hi k hk=>?_,fun i=>?_,fun i hi k hk k' hk' e=>?_⟩
 ·rw [addTwig_len] at hi;rcases Nat.lt_or_ge i t.length with h1|h1
  ·obtain ⟨h2,h3,h4⟩:=h.par i h0 h1;rw [g.par i h1];refine ⟨h2,h3,?_⟩;rw [addTwig_kids (by omega)]
   split
   ·exact List.mem_append_left _ h4
   ·exact h4
  ·obtain rfl:i=t.length:=by omega
   rw [addTwig_last];refine ⟨by show (0:Int)<=(a:Int); omega,by show (a:Int)<_; omega,?_⟩
   show (t.length:Int)∈((addTwig t a s).getD (Int.toNat (a:Int)) twigD).kids;rw [Int.toNat_natCast,addTwig_kids ha,if_pos rfl];exact List.mem_append_right _ (List.mem_singleton.2 rfl)
 ·rw [addTwig_len] at hi ⊢;rcases Nat.lt_or_ge i t.length with h1|h1
  ·rcases addTwig_mem h1 hk with h2|⟨rfl,rfl⟩
   ·obtain ⟨h3,h4,h5⟩:=h.kid i h1 k h2;refine ⟨h3,by omega,?_⟩
    rw [g.par _ (by omega)]
    exact h5
   ·refine ⟨by have:=h.pos; omega,by omega,?_⟩
    rw [Int.toNat_natCast,addTwig_last]
  ·obtain rfl:i=t.length:=by omega
   rw [addTwig_last] at hk;cases hk
 ·rcases Nat.lt_trichotomy i t.length with h1|h1|h1
  ·rw [addTwig_slot h1];exact h.right i
  ·subst h1;rw [addTwig_last];exact hs
  ·rw [getD_out (by rw [addTwig_len]; omega)]
   exact right_dead
 ·rw [addTwig_len] at hi;rcases Nat.lt_or_ge i t.length with h1|h1
  ·have hno:∀ k∈(t.getD a twigD).kids,(t.getD k.toNat twigD).slot≠s:=fun k hk e=>by
    have:=List.find?_eq_none.1 hn k hk;rw [e] at this;simp at this
   rcases addTwig_mem h1 hk with h2|⟨rfl,rfl⟩
   ·have h3:=h.kid i h1 k h2;rw [g.slot k.toNat (by omega)] at e
    rcases addTwig_mem h1 hk' with h4|⟨rfl,rfl⟩
    ·have h5:=h.kid i h1 k' h4;rw [g.slot k'.toNat (by omega)] at e
     exact h.one i h1 k h2 k' h4 e
    ·rw [Int.toNat_natCast,addTwig_last] at e;exact (hno k h2 e).elim
   ·rw [Int.toNat_natCast,addTwig_last] at e;rcases addTwig_mem h1 hk' with h4|⟨_,rfl⟩
    ·have h5:=h.kid i h1 k' h4;rw [g.slot k'.toNat (by omega)] at e
     exact (hno k' h4 e.symm).elim
    ·rfl
  ·obtain rfl:i=t.length:=by omega
   rw [addTwig_last] at hk;cases hk
theorem step_trie {t:List TwigG} {a:Nat} {s:SlotG} (h:Trie t) (ha:a<t.length) (hs:rightS s) :
  Trie (stepSlot (t,a) s).1/\(stepSlot (t,a) s).2<(stepSlot (t,a) s).1.length/\0<(stepSlot (t,a) s).2/\Grows t (stepSlot (t,a) s).1 /\
   ((stepSlot (t,a) s).1.getD (stepSlot (t,a) s).2 twigD).slot=s/\((stepSlot (t,a) s).1.getD (stepSlot (t,a) s).2 twigD).par=a /\
   (stepSlot (t,a) s).1.length<=t.length+1/\(∀ i,t.length<=i->i<(stepSlot (t,a) s).1.length->i=(stepSlot (t,a) s).2) /\
   ((stepSlot (t,a) s).1.getD a twigD).kids≠[]:=by
 unfold stepSlot;dsimp only;split
 ·rename_i k hk;have h1:=findKid_mem hk;obtain ⟨h2,h3,h4⟩:=h.kid a ha k h1;have h5:keyL (t.getD k.toNat twigD).slot=keyL s:=by simpa using List.find?_some hk
  refine ⟨h,by dsimp only; omega,by dsimp only; omega,Grows.refl t,keyL_inj (h.right _) hs h5,h4,by dsimp only; omega,fun i h6 h7=>by dsimp only at h7; omega,fun e=>?_⟩
  dsimp only at e;rw [e] at h1;cases h1
 ·rename_i hn;refine ⟨trie_add h ha hs hn,by dsimp only; rw [addTwig_len]; omega,h.pos,grows_add t a s,by dsimp only; rw [addTwig_last],by dsimp only; rw [addTwig_last],by dsimp only; rw [addTwig_len]; omega,fun i h6 h7=>?_,fun e=>?_⟩
  ·dsimp only at h7 ⊢;rw [addTwig_len] at h7;omega
  ·dsimp only at e;rw [addTwig_kids ha,if_pos rfl] at e;simp at e
theorem upR_fuel {t:List TwigG} (hp:∀ i,0<i->i<t.length->0<=(t.getD i twigD).par/\(t.getD i twigD).par<i):∀ n m i,i<t.length->i<=n->i<=m->upR t n i=upR t m i
 | 0,m,i,_,h1,_=>by
  obtain rfl:i=0:=by omega
  rw [upR_zero,upR_zero]
 | n+1,0,i,_,_,h2=>by
  obtain rfl:i=0:=by omega
  rw [upR_zero,upR_zero]
 | n+1,m+1,i,hi,h1,h2=>by
  unfold upR;split
  ·rfl
  ·have:=hp i (by omega) hi
   rw [upR_fuel hp n m _ (by omega) (by omega) (by omega)]
theorem upL_succ' {t:List TwigG} (hp:∀ i,0<i->i<t.length->0<=(t.getD i twigD).par/\(t.getD i twigD).par<i) {i:Nat} (h0:0<i) (hi:i<t.length):upL t i=upL t (t.getD i twigD).par++[(t.getD i twigD).slot]:=by
 have h1:=hp i h0 hi;unfold upL;rw [Int.toNat_natCast];obtain ⟨j,rfl⟩:∃ j,i=j+1:=⟨i - 1,by omega⟩
 conv=>lhs; unfold upR
 rw [if_neg (by omega),List.reverse_cons,upR_fuel hp j _ _ (by omega) (by omega) (Nat.le_refl _)]
theorem Trie.low {t:List TwigG} (h:Trie t):∀ i,0<i->i<t.length->0<=(t.getD i twigD).par/\(t.getD i twigD).par<i:=fun i h0 hi=>⟨(h.par i h0 hi).1,(h.par i h0 hi).2.1⟩
theorem upL_succ {t:List TwigG} (h:Trie t) {i:Nat} (h0:0<i) (hi:i<t.length):upL t i=upL t (t.getD i twigD).par++[(t.getD i twigD).slot]:=upL_succ' h.low h0 hi
theorem upL_par {t:List TwigG} (h:Trie t) {i:Nat} (h0:0<i) (hi:i<t.length):upL t i=upL t ((t.getD i twigD).par.toNat:Nat)++[(t.getD i twigD).slot]:=by
 rw [upL_succ h h0 hi,show (((t.getD i twigD).par.toNat:Nat):Int)=(t.getD i twigD).par from Int.toNat_of_nonneg (h.low i h0 hi).1]
theorem upL_grows {t t':List TwigG} (h:Trie t) (h':Trie t') (g:Grows t t'):∀ n i,i<n->i<t.length->upL t' i=upL t i
 | 0,_,h1,_=>by omega
 | n+1,i,h1,hi=>by
  rcases Nat.eq_zero_or_pos i with rfl|h0
  ·rfl
  ·have h2:=h.low i h0 hi;rw [upL_par h h0 hi,upL_par h' h0 (by have:=g.len; omega),g.slot i hi,g.par i hi,upL_grows h h' g n _ (by omega) (by omega)]
theorem upL_inj {t:List TwigG} (h:Trie t):∀ n i j,i<n->i<t.length->j<t.length->upL t i=upL t j->i=j
 | 0,_,_,h1,_,_,_=>by omega
 | n+1,i,j,h1,hi,hj,e=>by
  rcases Nat.eq_zero_or_pos i with rfl|h0
  ·rcases Nat.eq_zero_or_pos j with rfl|h0'
   ·rfl
   ·rw [upL_par h h0' hj] at e;have h3:upL t ((0:Nat):Int)=[]:=rfl;rw [h3] at e;simp at e
  ·rcases Nat.eq_zero_or_pos j with rfl|h0'
   ·rw [upL_par h h0 hi] at e;have h3:upL t ((0:Nat):Int)=[]:=rfl;rw [h3] at e;simp at e
   ·rw [upL_par h h0 hi,upL_par h h0' hj] at e;obtain ⟨e1,e2⟩:=List.append_inj' e rfl;have k1:=h.par i h0 hi;have k2:=h.par j h0' hj;have e3:=upL_inj h n _ _ (by omega) (by omega) (by omega) e1
    rw [<- e3] at k2;have e4:=h.one _ (by omega) _ k1.2.2 _ k2.2.2 (by simpa using e2)
    omega
def leafs (t:List TwigG) (a:Nat):Prop:=∀ i,0<i->i<t.length->(t.getD i twigD).kids=[]->(t.getD i twigD).ends=true\/i=a
structure Walked (t:List TwigG) (a:Nat) (l:List SlotG) (p:List TwigG×Nat):Prop where
 trie:Trie p.1
 at_:p.2<p.1.length
 pos:l≠[]->0<p.2
 grows:Grows t p.1
 way:upL p.1 p.2=upL t a++l
 few:p.1.length<=t.length+l.length
 leaf:leafs t a->leafs p.1 p.2
 pre:∀ i,t.length<=i->i<p.1.length->∃ r,upL p.1 i++r=upL t a++l
theorem fold_walked:∀ (l:List SlotG) {t:List TwigG} {a:Nat},Trie t->a<t.length->(∀ s∈l,rightS s)->Walked t a l (l.foldl stepSlot (t,a))
 | [],t,a,h,ha,_=>⟨h,ha,fun e=>(e rfl).elim,Grows.refl t,by simp,by simp,fun e=>e,fun i h1 h2=>by
   have:i<t.length:=h2;omega⟩
 | s::l,t,a,h,ha,hs=>by
  obtain ⟨h1,h2,h3,h4,h5,h6,h7,h8,h9⟩:=step_trie h ha (hs s List.mem_cons_self);have w:=fold_walked l (t:=(stepSlot (t,a) s).1) (a:=(stepSlot (t,a) s).2) h1 h2 fun x hx=>hs x (List.mem_cons_of_mem _ hx)
  have hway:upL (stepSlot (t,a) s).1 (stepSlot (t,a) s).2=upL t a++[s]:=by
   rw [upL_succ h1 h3 h2,h5,h6,upL_grows h h1 h4 (a+1) a (by omega) ha]
  have e:(s::l).foldl stepSlot (t,a)=l.foldl stepSlot ((stepSlot (t,a) s).1,(stepSlot (t,a) s).2):=rfl;rw [e];have hw:upL (stepSlot (t,a) s).1 (stepSlot (t,a) s).2++l=upL t a++(s::l):=by rw [hway,List.append_assoc]; rfl
  refine ⟨w.trie,w.at_,fun _=>?_,h4.trans w.grows,by rw [w.way,hw],?_,fun hl=>w.leaf fun i h0 hi hk=>?_,fun i k1 k2=>?_⟩
  ·rcases l with _|⟨s',l'⟩
   ·exact h3
   ·exact w.pos (by simp)
  ·have:=w.few;rw [List.length_cons];omega
  ·rcases Nat.lt_or_ge i t.length with k1|k1
   ·rcases hl i h0 k1 (h4.kids i k1 hk) with k2|rfl
    ·exact .inl (by rw [h4.ends i k1]; exact k2)
    ·exact (h9 hk).elim
   ·exact .inr (h8 i k1 hi)
  ·rcases Nat.lt_or_ge i (stepSlot (t,a) s).1.length with k3|k3
   ·have k4:=h8 i k1 k3;refine ⟨l,?_⟩;rw [upL_grows h1 w.trie w.grows (i+1) i (by omega) k3,k4,hw]
   ·obtain ⟨r,hr⟩:=w.pre i k3 k2;exact ⟨r,by rw [hr,hw]⟩
theorem endTwig_par (t:List TwigG) (a i:Nat) (z:Int):((endTwig t a z).getD i twigD).par=(t.getD i twigD).par:=by
 simp only [endTwig,List.getD_eq_getElem?_getD];rw [List.getElem?_set];by_cases h3:a=i
 ·subst h3;rw [if_pos rfl];split
  ·rename_i h1;rw [List.getElem?_eq_getElem h1];rfl
  ·rename_i h1;rw [List.getElem?_eq_none (by omega)]
 ·rw [if_neg h3]
theorem upR_end (t:List TwigG) (a:Nat) (z:Int):∀ n i,upR (endTwig t a z) n i=upR t n i
 | 0,_=>rfl
 | n+1,i=>by
  unfold upR;rw [endTwig_slot,endTwig_par,upR_end t a z n]
theorem upL_end (t:List TwigG) (a:Nat) (z k:Int):upL (endTwig t a z) k=upL t k:=by
 unfold upL;rw [upR_end]
theorem trie_end {t:List TwigG} (a:Nat) (z:Int) (h:Trie t):Trie (endTwig t a z):=by
 refine ⟨by rw [endTwig_len]; exact h.pos,fun i h0 hi=>?_,fun i hi k hk=>?_,fun i=>?_,fun i hi k hk k' hk' e=>?_⟩
 ·rw [endTwig_len] at hi;rw [endTwig_par,endTwig_kids];exact h.par i h0 hi
 ·rw [endTwig_len] at hi ⊢;rw [endTwig_kids] at hk;rw [endTwig_par];exact h.kid i hi k hk
 ·rw [endTwig_slot];exact h.right i
 ·rw [endTwig_len] at hi;rw [endTwig_kids] at hk hk';rw [endTwig_slot,endTwig_slot] at e;exact h.one i hi k hk k' hk' e
theorem endTwig_at {t:List TwigG} {a:Nat} (z:Int) (ha:a<t.length):((endTwig t a z).getD a twigD).ends=true/\((endTwig t a z).getD a twigD).line=z:=by
 rw [endTwig_get z ha,if_pos rfl];exact ⟨rfl,rfl⟩
theorem endTwig_off {t:List TwigG} {a i:Nat} (z:Int) (hi:i<t.length) (h:i≠a):(endTwig t a z).getD i twigD=t.getD i twigD:=by rw [endTwig_get z hi,if_neg h]
def slN (ls:List (List SlotG)):Nat->Nat
 | 0=>0
 | n+1=>slN ls n+(ls.getD n []).length
structure Made (ls:List (List SlotG)) (n:Nat) (t:List TwigG):Prop where
 trie:Trie t
 at_:∀ j,j<n->∃ e,e<t.length/\(t.getD e twigD).ends=true/\(t.getD e twigD).line=j/\upL t e=ls.getD j []
 on:∀ i,i<t.length->(t.getD i twigD).ends=true->∃ j,j<n/\(t.getD i twigD).line=j/\upL t i=ls.getD j []
 off:∀ i,i<t.length->(t.getD i twigD).ends=false->(t.getD i twigD).line=-1
 leaf:∀ i,0<i->i<t.length->(t.getD i twigD).kids=[]->(t.getD i twigD).ends=true
 few:t.length<=1+slN ls n
 pre:∀ i,0<i->i<t.length->∃ j,j<n/\∃ r,upL t i++r=ls.getD j []
theorem made_root (ls:List (List SlotG)):Made ls 0 rootT:=by
 have one:∀ i,i<rootT.length->i=0:=fun i hi=>by
  have:i<1:=hi;omega
 refine ⟨trie_root,fun j hj=>by omega,fun i hi e=>?_,fun i hi _=>?_,fun i h0 hi _=>?_,by simp [rootT],fun i h0 hi=>?_⟩
 ·rw [one i hi] at e;cases e
 ·rw [one i hi];rfl
 ·have:=one i hi;omega
 ·have:=one i hi;omega
theorem made_step {ls:List (List SlotG)} {n:Nat} {t0 t:List TwigG} (h:Made ls n t0) (hr:∀ s∈ls.getD n [],rightS s) (ha:addLine t0 (ls.getD n []) n=some t):Made ls (n+1) t:=by
 have w:=fold_walked (ls.getD n []) h.trie (a:=0) (by have:=h.trie.pos; omega) hr
 unfold addLine at ha;generalize hp:(ls.getD n []).foldl stepSlot (t0,0)=p at w ha;split at ha
 ·cases ha
 rename_i hnot;cases ha;have hway:upL p.1 p.2=ls.getD n []:=w.way;have hlen:=w.grows.len;refine ⟨trie_end _ _ w.trie,fun j hj=>?_,fun i hi e=>?_,fun i hi e=>?_,fun i h0 hi hk=>?_,?_,fun i h0 hi=>?_⟩
 ·rcases Nat.lt_or_ge j n with h1|h1
  ·obtain ⟨e,k1,k2,k3,k4⟩:=h.at_ j h1;have hne:e≠p.2:=fun k=>by
    subst k;rw [w.grows.ends _ k1] at hnot;exact hnot k2
   refine ⟨e,by rw [endTwig_len]; omega,?_⟩
   rw [endTwig_off _ (by omega) hne,upL_end,w.grows.ends e k1,w.grows.line e k1,upL_grows h.trie w.trie w.grows (e+1) e (by omega) k1]
   exact ⟨k2,k3,k4⟩
  ·obtain rfl:j=n:=by omega
   obtain ⟨k1,k2⟩:=endTwig_at (t:=p.1) (a:=p.2) (j:Int) w.at_;exact ⟨p.2,by rw [endTwig_len]; exact w.at_,k1,k2,by rw [upL_end,hway]⟩
 ·rw [endTwig_len] at hi;rw [upL_end];by_cases h1:i=p.2
  ·subst h1;exact ⟨n,by omega,(endTwig_at _ w.at_).2,hway⟩
  ·rw [endTwig_off _ hi h1] at e ⊢;rcases Nat.lt_or_ge i t0.length with h2|h2
   ·rw [w.grows.ends i h2] at e;obtain ⟨j,k1,k2,k3⟩:=h.on i h2 e;refine ⟨j,by omega,?_⟩
    rw [w.grows.line i h2,upL_grows h.trie w.trie w.grows (i+1) i (by omega) h2]
    exact ⟨k2,k3⟩
   ·rw [(w.grows.new i h2 hi).1] at e;cases e
 ·rw [endTwig_len] at hi;by_cases h1:i=p.2
  ·subst h1;rw [(endTwig_at _ w.at_).1] at e;cases e
  ·rw [endTwig_off _ hi h1] at e ⊢;rcases Nat.lt_or_ge i t0.length with h2|h2
   ·rw [w.grows.ends i h2] at e;rw [w.grows.line i h2];exact h.off i h2 e
   ·exact (w.grows.new i h2 hi).2
 ·rw [endTwig_len] at hi;rw [endTwig_kids] at hk;by_cases h1:i=p.2
  ·subst h1;exact (endTwig_at _ w.at_).1
  ·rw [endTwig_off _ hi h1];rcases w.leaf (fun i k1 k2 k3=>.inl (h.leaf i k1 k2 k3)) i h0 hi hk with h2|h2
   ·exact h2
   ·exact (h1 h2).elim
 ·rw [endTwig_len];have h1:=w.few;have h2:=h.few;show _<=1+(slN ls n+(ls.getD n []).length);omega
 ·rw [endTwig_len] at hi;rw [upL_end];rcases Nat.lt_or_ge i t0.length with h2|h2
  ·obtain ⟨j,k1,r,k2⟩:=h.pre i h0 h2;refine ⟨j,by omega,r,?_⟩
   rw [upL_grows h.trie w.trie w.grows (i+1) i (by omega) h2]
   exact k2
  ·obtain ⟨r,k2⟩:=w.pre i h2 hi;exact ⟨n,by omega,r,k2⟩
theorem trN_made {ls:List (List SlotG)}:∀ {n:Nat} {t:List TwigG},(∀ j,j<n->∀ s∈ls.getD j [],rightS s)->trN ls n=some t->Made ls n t
 | 0,t,_,h=>by
  cases h;exact made_root ls
 | n+1,t,hr,h=>by
  change (match trN ls n with|none=>none|some t=>addLine t (ls.getD n []) n)=some t at h
  cases h1:trN ls n with
  | none=>rw [h1] at h; cases h
  | some t0 =>
   rw [h1] at h;exact made_step (trN_made (fun j hj=>hr j (by omega)) h1) (hr n (by omega)) h
theorem trN_some {ls:List (List SlotG)}:∀ {n:Nat},(∀ j,j<n->∀ s∈ls.getD j [],rightS s)->(∀ i j,i<j->j<n->ls.getD i []≠ls.getD j [])->∃ t,trN ls n=some t
 | 0,_,_=>⟨rootT,rfl⟩
 | n+1,hr,hd=>by
  obtain ⟨t0,h0⟩:=trN_some (n:=n) (fun j hj=>hr j (by omega)) (fun i j h1 h2=>hd i j h1 (by omega))
  have m:=trN_made (fun j hj=>hr j (by omega)) h0
  have w:=fold_walked (ls.getD n []) m.trie (a:=0) (by have:=m.trie.pos; omega) (hr n (by omega))
  refine ⟨endTwig ((ls.getD n []).foldl stepSlot (t0,0)).1 ((ls.getD n []).foldl stepSlot (t0,0)).2 n,?_⟩;show (match trN ls n with|none=>none|some t=>addLine t (ls.getD n []) n)=_
  rw [h0];show addLine t0 (ls.getD n []) n=_;unfold addLine;rw [if_neg];intro e;generalize (ls.getD n []).foldl stepSlot (t0,0)=p at w e;have hway:upL p.1 p.2=ls.getD n []:=w.way;rcases Nat.lt_or_ge p.2 t0.length with h2|h2
  ·rw [w.grows.ends _ h2] at e;obtain ⟨j,k1,_,k2⟩:=m.on _ h2 e;rw [<- upL_grows m.trie w.trie w.grows (p.2+1) p.2 (by omega) h2,hway] at k2
   exact hd j n k1 (by omega) k2.symm
  ·rw [(w.grows.new _ h2 w.at_).1] at e;cases e
theorem trN_one {ls:List (List SlotG)} {n:Nat} {t:List TwigG} (hr:∀ j,j<n->∀ s∈ls.getD j [],rightS s) (h:trN ls n=some t):∀ i j,i<j->j<n->ls.getD i []≠ls.getD j []:=by
 intro i j h1 h2 e;have m:=trN_made hr h;obtain ⟨a,a1,_,a3,a4⟩:=m.at_ i (by omega)
 obtain ⟨b,b1,_,b3,b4⟩:=m.at_ j h2;have:=upL_inj m.trie (a+1) a b (by omega) a1 b1 (by rw [a4,b4,e])
 subst this;omega
theorem run_id {n len:Nat} {v:Nat->Int} (hs:∀ i j,i<j->j<len->v i<v j) (h0:∀ i,i<len->0<=v i/\v i<n) (hx:∀ j:Nat,j<n->∃ i,i<len/\v i=j):len=n/\∀ i,i<len->v i=i:=by
 have ge:∀ i,i<len->(i:Int)<=v i:=by
  intro i;induction i with
  | zero=>exact fun hi=>(h0 0 hi).1
  | succ i ih =>
   intro hi;have h1:=ih (by omega)
   have h2:=hs i (i+1) (by omega) hi
   omega
 have eq:∀ m i,i<m->i<len->v i=i:=by
  intro m;induction m with
  | zero=>exact fun i h=>by omega
  | succ m ih =>
   intro i hm hi;have h1:=ge i hi;have h2:=h0 i hi;obtain ⟨j,hj,e⟩:=hx i (by omega)
   rcases Nat.lt_trichotomy j i with h3|h3|h3
   ·have:=ih j (by omega) hj
    omega
   ·subst h3;exact e
   ·have:=hs i j h3 hj;omega
 have eq':∀ i,i<len->v i=i:=fun i hi=>eq (i+1) i (by omega) hi
 refine ⟨?_,eq'⟩;rcases Nat.lt_trichotomy len n with h|h|h
 ·obtain ⟨i,hi,e⟩:=hx len h;have:=eq' i hi;omega
 ·exact h
 ·have h1:=eq' n h;have h2:=h0 n h;omega
theorem endsN_has {t:List TwigG}:∀ {n k:Nat},k<n->(t.getD k twigD).ends=true->(k:Int)∈endsN t n
 | 0,k,h,_=>by omega
 | n+1,k,h,e=>by
  unfold endsN;rcases Nat.lt_or_ge k n with h1|h1
  ·have:=endsN_has h1 e;split
   ·exact List.mem_append_left _ this
   ·exact this
  ·obtain rfl:k=n:=by omega
   rw [if_pos e];exact List.mem_append_right _ (List.mem_singleton.2 rfl)
theorem endsN_nodup (t:List TwigG):∀ n,(endsN t n).Nodup
 | 0=>List.nodup_nil
 | n+1=>by
  unfold endsN;split
  ·refine List.nodup_append.2 ⟨endsN_nodup t n,List.nodup_cons.2 ⟨by simp,List.nodup_nil⟩,fun a ha b hb=>?_⟩
   have:=endsN_mem ha;have h2:b=n:=by simpa using hb
   omega
  ·exact endsN_nodup t n
theorem Made.okN {ls:List (List SlotG)} {n:Nat} {t:List TwigG} (h:Made ls n t):∀ j,j<t.length->okN t j=true:=by
 intro j hj;have h1:(decide (j=0)||(decide (0<=(t.getD j twigD).par)&&decide ((t.getD j twigD).par<j)))=true:=by
  rcases Nat.eq_zero_or_pos j with rfl|h0
  ·rfl
  ·have:=h.trie.low j h0 hj;rw [decide_eq_true this.1,decide_eq_true this.2,Bool.or_eq_true];exact .inr rfl
 have h2:((t.getD j twigD).ends==decide (0<=(t.getD j twigD).line))=true:=by
  cases he:(t.getD j twigD).ends with
  | true =>
   obtain ⟨i,_,k,_⟩:=h.on j hj he;rw [k];simp
  | false =>
   rw [h.off j hj he];rfl
 exact Bool.and_eq_true_iff.2 ⟨h1,h2⟩
theorem Made.lineIn {ls:List (List SlotG)} {n:Nat} {t:List TwigG} (h:Made ls n t) (hn:n<=1000):linesIn t=true:=by
 unfold linesIn;rw [List.all_eq_true];intro j hj;have hj':j<t.length:=by simpa using hj
 refine decide_eq_true ?_;cases he:(t.getD j twigD).ends with
 | true =>
  obtain ⟨i,h1,k,_⟩:=h.on j hj' he;omega
 | false =>
  rw [h.off j hj' he];omega
theorem nodup_at {l:List Int} (h:l.Nodup) {i j:Nat} (hij:i<j) (hj:j<l.length):l.getD i 0≠l.getD j 0:=by
 have h1:=List.pairwise_iff_getElem.1 h i j (by omega) hj hij
 have e1:l.getD i 0=l[i]'(by omega):=by simp [List.getD,show i<l.length by omega]
 have e2:l.getD j 0=l[j]:=by simp [List.getD,hj]
 rw [e1,e2];exact h1
theorem made_sorted {ls:List (List SlotG)} {n:Nat} {t:List TwigG} (h:Made ls n t) (hn:n<=1000) :
  (endS t).length=n/\(∀ i,i<(endS t).length->lnG t ((endS t).getD i 0)=i)/\∀ k∈endS t,0<=k/\k<t.length/\(t.getD k.toNat twigD).ends=true:=by
 have hok:=okL_ends (h.lineIn hn) h.okN;have hp:(endS t).Perm (endsN t t.length):=sort_perm hok;have hmem:∀ k∈endS t,0<=k/\k<t.length/\(t.getD k.toNat twigD).ends=true:=fun k hk=>endsN_mem (hp.mem_iff.1 hk)
 have hnd:(endS t).Nodup:=hp.nodup_iff.2 (endsN_nodup t t.length);have hlen:(endS t).length=(endsN t t.length).length:=sort_len hok
 have hat:∀ i,i<(endS t).length->∃ j,j<n/\lnG t ((endS t).getD i 0)=j/\upL t ((endS t).getD i 0)=ls.getD j []:=fun i hi=>by
  obtain ⟨h1,h2,h3⟩:=hmem _ (getD_mem (d:=0) hi);obtain ⟨j,k1,k2,k3⟩:=h.on _ (by omega) h3
  refine ⟨j,k1,k2,?_⟩;rw [<- k3,show (((endS t).getD i 0).toNat:Int)=(endS t).getD i 0 from Int.toNat_of_nonneg h1]
 have hr:=run_id (n:=n) (len:=(endS t).length) (v:=fun i=>lnG t ((endS t).getD i 0)) (fun i j hij hj=>?_) (fun i hi=>?_) (fun j hj=>?_)
 ·exact ⟨hr.1,hr.2,hmem⟩
 ·have h1:=sort_asc hok i j hij (by omega)
  change lnG t ((endS t).getD i 0)<=lnG t ((endS t).getD j 0) at h1
  obtain ⟨a,_,a2,a3⟩:=hat i (by omega)
  obtain ⟨b,_,b2,b3⟩:=hat j hj;have hne:=nodup_at hnd hij hj;obtain ⟨p1,p2,_⟩:=hmem _ (getD_mem (d:=0) (show i<(endS t).length by omega))
  obtain ⟨q1,q2,_⟩:=hmem _ (getD_mem (d:=0) hj);rcases Int.lt_or_le (lnG t ((endS t).getD i 0)) (lnG t ((endS t).getD j 0)) with k|k
  ·exact k
  ·have hab:a=b:=by omega
   subst hab;have e:upL t (((endS t).getD i 0).toNat:Nat)=upL t (((endS t).getD j 0).toNat:Nat):=by
    rw [Int.toNat_of_nonneg p1,Int.toNat_of_nonneg q1,a3,b3]
   have:=upL_inj h.trie (((endS t).getD i 0).toNat+1) _ _ (by omega) (by omega) (by omega) e
   omega
 ·obtain ⟨a,a1,a2,_⟩:=hat i hi;omega
 ·obtain ⟨e,e1,e2,e3,_⟩:=h.at_ j hj;have h1:=hp.mem_iff.2 (endsN_has e1 e2);obtain ⟨i,hi,k⟩:=List.getElem_of_mem h1;refine ⟨i,hi,?_⟩;have k2:(endS t).getD i 0=e:=by rw [<- k]; simp [List.getD,hi]
  rw [k2];exact e3
theorem made_ends {ls:List (List SlotG)} {n:Nat} {t:List TwigG} (h:Made ls n t) (hn:n<=1000) (ht:t.length<=769):endsE t=(endS t,true):=by
 unfold endsE;rw [if_neg (by omega),if_pos (List.all_eq_true.2 fun j hj=>h.okN j (by simpa using hj)),if_pos (List.all_eq_true.2 fun j hj=>decide_eq_true ((made_sorted h hn).2.1 j (by simpa using hj)))]
theorem made_up {ls:List (List SlotG)} {n:Nat} {t:List TwigG} (h:Made ls n t) (hn:n<=1000) {i:Nat} (hi:i<n):upL t ((endS t).getD i 0)=ls.getD i []:=by
 obtain ⟨h1,h2,h3⟩:=made_sorted h hn;obtain ⟨k1,k2,k3⟩:=h3 _ (getD_mem (d:=0) (show i<(endS t).length by omega))
 obtain ⟨j,j1,j2,j3⟩:=h.on _ (by omega) k3
 have h4:=h2 i (by omega)
 change (t.getD ((endS t).getD i 0).toNat twigD).line=i at h4
 have:j=i:=by omega
 subst this;rw [<- j3,show (((endS t).getD j 0).toNat:Int)=(endS t).getD j 0 from Int.toNat_of_nonneg k1]
theorem ofT_made {ls:List (List SlotG)} {t:List TwigG} (h:ofT ls=(t,0)):Made ls ls.length t/\t.length<=769/\shortT t=true/\ls.length<=64/\1<=ls.length:=by
 have h0:(ofT ls).2=0:=by rw [h]
 obtain ⟨h1,h2,h3,h4,h5⟩:=ofT_ok h0;rw [h] at h5;have hr:∀ j,j<ls.length->∀ s∈ls.getD j [],rightS s:=fun j hj s hs=>(chk_right (h4 j hj)).2.2 s hs
 have hm:=trN_made hr h5;have hg:=trN_good h3 h5;have hlen:t.length<=1+12 * ls.length:=hg.2.1;refine ⟨hm,by omega,?_,h2,h1⟩
 unfold shortT;rw [hm.lineIn (by omega),Bool.true_and,List.all_eq_true]
 intro x hx;obtain ⟨i,hi,rfl⟩:=List.getElem_of_mem hx;have e:t.getD i twigD=t[i]:=by simp [List.getD,hi]
 have k1:=rightS_few (hm.trie.right i);have k2:(t.getD i twigD).kids.length<=t.length:=hg.2.2.2 i hi;rw [e] at k1 k2;exact Bool.and_eq_true_iff.2 ⟨decide_eq_true (by omega),decide_eq_true (by omega)⟩
theorem made_lns {ls:List (List SlotG)} {t:List TwigG} (h:ofT ls=(t,0)):lnsE t=ls:=by
 obtain ⟨hm,ht,_,hl,_⟩:=ofT_made h;unfold lnsE;rw [made_ends hm (by omega) ht]
 obtain ⟨h1,_,_⟩:=made_sorted hm (by omega)
 refine List.ext_getElem (by simp [h1]) fun i k1 k2=>?_
 have h3:i<(endS t).length:=by simpa using k1
 have e1:(endS t).getD i 0=(endS t)[i]:=by simp [List.getD,h3]
 have e2:ls.getD i []=ls[i]:=by simp [List.getD,k2]
 have:=made_up hm (by omega) k2
 rw [List.getElem_map,<- e1,this,e2]
theorem made_lines {ls:List (List SlotG)} {t:List TwigG} (h:ofT ls=(t,0)):linesE t=(ls,endS t,true):=by
 obtain ⟨hm,ht,_,hl,_⟩:=ofT_made h;have hE:=made_ends hm (by omega) ht
 unfold linesE;rw [made_lns h,hE,if_pos rfl,h];simp
theorem made_check {ls:List (List SlotG)} {t:List TwigG} (h:ofT ls=(t,0)):checkE t=0:=by
 unfold checkE;rw [made_lines h,if_pos rfl]
theorem ofT_some {ls:List (List SlotG)} (h1:1<=ls.length) (h2:ls.length<=64) (h3:∀ l∈ls,l.length<=12) (h4:∀ l∈ls,chkL 12 l=0) (h5:∀ i j,i<j->j<ls.length->ls.getD i []≠ls.getD j []):∃ t,ofT ls=(t,0):=by
 obtain ⟨t,ht⟩:=trN_some (ls:=ls) (n:=ls.length) (fun j hj s hs=>(chk_right (h4 _ (getD_mem hj))).2.2 s hs) h5
 refine ⟨t,?_⟩;unfold ofT;have hlong:longB ls=false:=by
  unfold longB;rw [List.any_eq_false];intro l hl;have:=h3 l hl;simp;omega
 have hf:(ls.find? fun l=>decide (chkL 12 l≠0))=none:=by
  rw [List.find?_eq_none];intro l hl;simp [h4 l hl]
 rw [if_neg (fun h=>by
  rcases h with h|h|h
  ·omega
  ·omega
  ·rw [hlong] at h;cases h),hf]
 dsimp only;rw [ht]
theorem lastFold (t:List TwigG) (s:SlotG):∀ (ks:List Int) (z:Int),
  (ks.foldl (fun z k=>if (t.getD k.toNat twigD).slot=s then k else z) z=z/\∀ k∈ks,(t.getD k.toNat twigD).slot≠s) \/
  (ks.foldl (fun z k=>if (t.getD k.toNat twigD).slot=s then k else z) z∈ks/\(t.getD (ks.foldl (fun z k=>if (t.getD k.toNat twigD).slot=s then k else z) z).toNat twigD).slot=s)
 | [],z=>.inl ⟨rfl,fun _ h=>by cases h⟩
 | k::ks,z=>by
  rw [List.foldl_cons];by_cases h:(t.getD k.toNat twigD).slot=s
  ·rw [if_pos h];rcases lastFold t s ks k with ⟨h1,h2⟩|⟨h1,h2⟩
   ·refine .inr ⟨?_,?_⟩
    ·rw [h1];exact List.mem_cons_self
    ·rw [h1];exact h
   ·exact .inr ⟨List.mem_cons_of_mem _ h1,h2⟩
  ·rw [if_neg h];rcases lastFold t s ks z with ⟨h1,h2⟩|⟨h1,h2⟩
   ·refine .inl ⟨h1,fun q hq=>?_⟩
    rcases List.mem_cons.1 hq with rfl|hq
    ·exact h
    ·exact h2 q hq
   ·exact .inr ⟨List.mem_cons_of_mem _ h1,h2⟩
theorem stepR_eq {t:List TwigG} {a:Nat} {s:SlotG} (h:Trie t) (ha:a<t.length) (hs:rightS s):stepR (t,a) s=stepSlot (t,a) s:=by
 unfold stepR stepSlot;dsimp only;rcases lastFold t s (t.getD a twigD).kids (-1) with ⟨h1,h2⟩|⟨h1,h2⟩
 ·change lastKid t (t.getD a twigD).kids s=-1 at h1
  rw [h1,if_pos (by omega)]
  split
  ·rename_i k hk;have h3:keyL (t.getD k.toNat twigD).slot=keyL s:=by simpa using List.find?_some hk
   exact (h2 k (findKid_mem hk) (keyL_inj (h.right _) hs h3)).elim
  ·rfl
 ·change lastKid t (t.getD a twigD).kids s∈_ at h1
  change (t.getD (lastKid t (t.getD a twigD).kids s).toNat twigD).slot=s at h2
  generalize lastKid t (t.getD a twigD).kids s=z at *;have h3:=h.kid a ha z h1;rw [if_neg (by omega)]
  split
  ·rename_i k hk;have h4:keyL (t.getD k.toNat twigD).slot=keyL s:=by simpa using List.find?_some hk
   have h5:=keyL_inj (h.right _) hs h4;have h6:=h.one a ha k (findKid_mem hk) z h1 (by rw [h5,h2])
   rw [h6]
  ·rename_i hn;have:=List.find?_eq_none.1 hn z h1;rw [h2] at this;simp at this
theorem foldR_eq:∀ (l:List SlotG) {t:List TwigG} {a:Nat},Trie t->a<t.length->(∀ s∈l,rightS s)->l.foldl stepR (t,a)=l.foldl stepSlot (t,a)
 | [],_,_,_,_,_=>rfl
 | s::l,t,a,h,ha,hs=>by
  rw [List.foldl_cons,List.foldl_cons,stepR_eq h ha (hs s List.mem_cons_self)];obtain ⟨h1,h2,_⟩:=step_trie h ha (hs s List.mem_cons_self)
  exact foldR_eq l (t:=(stepSlot (t,a) s).1) (a:=(stepSlot (t,a) s).2) h1 h2 fun x hx=>hs x (List.mem_cons_of_mem _ hx)
theorem rT_eq {ls:List (List SlotG)}:∀ {n:Nat} {t:List TwigG},(∀ j,j<n->∀ s∈ls.getD j [],rightS s)->trN ls n=some t->rT ls n=t
 | 0,t,_,h=>by
  cases h;rfl
 | n+1,t,hr,h=>by
  change (match trN ls n with|none=>none|some t=>addLine t (ls.getD n []) n)=some t at h
  cases h1:trN ls n with
  | none=>rw [h1] at h; cases h
  | some t0 =>
   rw [h1] at h;have h2:=rT_eq (fun j hj=>hr j (by omega)) h1
   have m:=trN_made (fun j hj=>hr j (by omega)) h1
   have h3:=foldR_eq (ls.getD n []) m.trie (a:=0) (by have:=m.trie.pos; omega) (hr n (by omega))
   change addLine t0 (ls.getD n []) n=some t at h
   unfold addLine at h;split at h
   ·cases h
   ·cases h;show endTwig ((ls.getD n []).foldl stepR (rT ls n,0)).1 ((ls.getD n []).foldl stepR (rT ls n,0)).2 n=_;rw [h2,h3]
theorem rof_of {ls:List (List SlotG)} {t:List TwigG} (h:ofT ls=(t,0)):rofT ls=(t,0):=by
 obtain ⟨h1,h2,h3,h4,h5⟩:=ofT_ok (ls:=ls) (by rw [h])
 rw [h] at h5;have hr:∀ j,j<ls.length->∀ s∈ls.getD j [],rightS s:=fun j hj s hs=>(chk_right (h4 j hj)).2.2 s hs
 have hd:=trN_one hr h5;have hc:rcheckE ls=0:=by
  unfold rcheckE;have hlong:longB ls=false:=by
   unfold longB;rw [List.any_eq_false];intro l hl;obtain ⟨i,hi,e⟩:=List.getElem_of_mem hl;have:=h3 i hi;have e2:ls.getD i []=l:=by simp [List.getD,hi,e]
   rw [e2] at this;simp;omega
  rw [if_neg (fun h=>by
   rcases h with h|h|h
   ·omega
   ·omega
   ·rw [hlong] at h;cases h),find_none' (d:=[]) fun j hj=>decide_eq_false fun e=>e (h4 j hj)]
  dsimp only;rw [if_pos];refine List.all_eq_true.2 fun i hi=>List.all_eq_true.2 fun k hk=>decide_eq_true fun e=>?_
  exact hd k i (by simpa using hk) (by simpa using hi) e.symm
 unfold rofT;rw [if_pos hc,rT_eq hr h5]
theorem of_rof {ls:List (List SlotG)} {t:List TwigG} (h:rofT ls=(t,0)):ofT ls=(t,0):=by
 have hc:rcheckE ls=0:=by
  unfold rofT at h;split at h
  ·assumption
  ·simp only [Prod.mk.injEq] at h;exact h.2
 have hc':=hc;unfold rcheckE at hc;split at hc
 ·cases hc
 rename_i h1;split at hc
 ·rename_i l hl;have:=List.find?_some hl;simp only [decide_eq_true_eq] at this;exact absurd hc this
 rename_i hl;split at hc
 case isFalse=>cases hc
 rename_i h2;obtain ⟨t',ht'⟩:=ofT_some (ls:=ls) (by omega) (by omega) (fun l hl2=>by
  rcases Nat.lt_or_ge 12 l.length with h3|h3
  ·exact (h1 (.inr (.inr (List.any_eq_true.2 ⟨l,hl2,decide_eq_true h3⟩)))).elim
  ·exact h3) (fun l hl2=>by
  have:=List.find?_eq_none.1 hl l hl2;simpa using this) (fun i j hij hj e=>by
  have h3:=List.all_eq_true.1 (List.all_eq_true.1 h2 j (by simpa using hj)) i (by simpa using hij)
  exact of_decide_eq_true h3 e.symm)
 have h3:=rof_of ht';rw [h] at h3;rw [ht',h3]
theorem nE_ends (t:List TwigG):∀ n,nE t n=(endsN t n).length
 | 0=>rfl
 | n+1=>by
  unfold nE endsN;rw [nE_ends t n];split <;> simp
theorem atK_mem {t:List TwigG} {k:Int}:∀ {j i:Nat},atK t j k=some i->i<j/\(t.getD i twigD).line=k
 | 0,_,h=>by cases h
 | j+1,i,h=>by
  change (if _ then _ else _)=_ at h
  split at h
  ·rename_i h1;cases h;exact ⟨by omega,h1⟩
  ·have:=atK_mem h;exact ⟨by omega,this.2⟩
theorem atK_has {t:List TwigG} {k:Int}:∀ {j i:Nat},i<j->(t.getD i twigD).line=k->∃ q,atK t j k=some q
 | 0,_,h,_=>by omega
 | j+1,i,h,e=>by
  by_cases h1:(t.getD j twigD).line=k
  ·exact ⟨j,atK_hit h1⟩
  ·rw [atK_skip h1];have:i≠j:=fun h2=>by
    subst h2;exact h1 e
   exact atK_has (by omega) e
theorem Made.of_line {ls:List (List SlotG)} {n:Nat} {t:List TwigG} (h:Made ls n t) {i:Nat} (hi:i<t.length) (h0:0<=(t.getD i twigD).line):(t.getD i twigD).ends=true/\∃ j,j<n/\(t.getD i twigD).line=j/\upL t i=ls.getD j []:=by
 have he:(t.getD i twigD).ends=true:=by
  cases he:(t.getD i twigD).ends with
  | true=>rfl
  | false =>
   have:=h.off i hi he;omega
 exact ⟨he,h.on i hi he⟩
theorem Made.line_one {ls:List (List SlotG)} {n:Nat} {t:List TwigG} (h:Made ls n t) {i j:Nat} (hi:i<t.length) (hj:j<t.length) (h0:0<=(t.getD i twigD).line) (e:(t.getD i twigD).line=(t.getD j twigD).line):i=j:=by
 obtain ⟨_,a,_,a2,a3⟩:=h.of_line hi h0;obtain ⟨_,b,_,b2,b3⟩:=h.of_line hj (by omega)
 have:a=b:=by omega
 subst this;exact upL_inj h.trie (i+1) i j (by omega) hi hj (by rw [a3,b3])
theorem made_two {ls:List (List SlotG)} {t:List TwigG} (h:ofT ls=(t,0)):2<=t.length:=by
 obtain ⟨hm,_,_,_,hl1⟩:=ofT_made h;obtain ⟨_,_,_,h4,_⟩:=ofT_ok (ls:=ls) (by rw [h])
 obtain ⟨e,e1,_,_,e4⟩:=hm.at_ 0 (by omega)
 rcases Nat.eq_zero_or_pos e with rfl|h0
 ·have h5:upL t ((0:Nat):Int)=[]:=rfl;rw [h5] at e4;exact ((chk_right (h4 0 (by omega))).1 e4.symm).elim
 ·omega
theorem made_n {ls:List (List SlotG)} {t:List TwigG} (h:ofT ls=(t,0)):nE t t.length=ls.length:=by
 obtain ⟨hm,_,_,hl,_⟩:=ofT_made h;obtain ⟨h1,_,_⟩:=made_sorted hm (by omega)
 rw [nE_ends,<- h1];exact (sort_len (okL_ends (hm.lineIn (by omega)) hm.okN)).symm
theorem made_linesD {ls:List (List SlotG)} {t:List TwigG} (h:ofT ls=(t,0)):linesD t=(ls,true):=by
 obtain ⟨hm,htl,_,hl,_⟩:=ofT_made h;have h2:=made_two h;unfold linesD;rw [if_neg (by omega),made_n h,if_pos,if_pos]
 ·refine Prod.ext ?_ rfl;refine List.ext_getElem (by simp) fun k k1 k2=>?_
  have e2:ls.getD k []=ls[k]:=by simp [List.getD,k2]
  rw [List.getElem_map,List.getElem_range,<- e2];obtain ⟨e,e1,_,e3,_⟩:=hm.at_ k k2;obtain ⟨q,hq⟩:=atK_has (j:=t.length) e1 e3;obtain ⟨q1,q2⟩:=atK_mem hq;obtain ⟨_,j,_,j2,j3⟩:=hm.of_line q1 (by omega)
  unfold outK;rw [hq];dsimp only;rw [j3];congr 1;omega
 ·refine List.all_eq_true.2 fun j hj=>?_
  have hj:j<t.length:=by simpa using hj
  unfold fitK;by_cases h0:(t.getD j twigD).line<0
  ·rw [decide_eq_true h0];rfl
  ·obtain ⟨_,a,a1,a2,_⟩:=hm.of_line hj (by omega)
   rw [decide_eq_true (show (t.getD j twigD).line<ls.length by omega)]
   have:seenK t j (t.getD j twigD).line=false:=by
    unfold seenK;cases hq:atK t j (t.getD j twigD).line with
    | none=>rfl
    | some q =>
     obtain ⟨q1,q2⟩:=atK_mem hq;have:=hm.line_one (i:=q) (j:=j) (by omega) hj (by omega) q2
     omega
   rw [this];simp
 ·refine List.all_eq_true.2 fun j hj=>?_
  have hj:j<t.length:=by simpa using hj
  unfold okR;rw [hm.okN j hj,Bool.true_and];cases he:(t.getD j twigD).ends with
  | true =>
   obtain ⟨i,_,k,_⟩:=hm.on j hj he;exact decide_eq_true (by omega)
  | false=>exact decide_eq_true (by have:=hm.off j hj he; omega)
theorem check_made {t:List TwigG} (h:checkE t=0):ofT (lnsE t)=(t,0):=by
 have h1:(linesE t).2.2=true:=by
  unfold checkE at h;split at h
  ·assumption
  ·cases h
 unfold linesE at h1;split at h1
 ·simp only [Bool.and_eq_true,beq_iff_eq,decide_eq_true_eq] at h1;exact Prod.ext h1.2 h1.1
 ·cases h1
def checkD (t:List TwigG):Int:=if (linesD t).2=true then (if (rofT (linesD t).1).2≠0\/(rofT (linesD t).1).1≠t then 3 else 0) else 3
theorem checkD_eq (t:List TwigG):checkD t=checkE t:=by
 by_cases h:checkE t=0
 ·have h1:=check_made h;rw [h];unfold checkD;rw [made_linesD h1,if_pos rfl,rof_of h1,if_neg (by simp)]
 ·have h3:checkE t=3:=by
   unfold checkE at h ⊢;split at h
   ·exact (h rfl).elim
   ·rename_i h1;rw [if_neg h1]
  rw [h3];unfold checkD;split
  ·rename_i h1;split
   ·rfl
   ·rename_i h2;exfalso;have e:rofT (linesD t).1=(t,0):=Prod.ext (by
     rcases Decidable.em ((rofT (linesD t).1).1=t) with k|k
     ·exact k
     ·exact (h2 (.inr k)).elim) (by
     rcases Decidable.em ((rofT (linesD t).1).2=0) with k|k
     ·exact k
     ·exact (h2 (.inl k)).elim)
    exact h (made_check (of_rof e))
  ·rfl
theorem linesD_few {t:List TwigG} (hs:slotsP (fun s=>s.gds.length<=1000) t):∀ l∈(linesD t).1,fewS l=true:=by
 intro l hl;unfold linesD at hl;split at hl
 ·cases hl
 rename_i h1;split at hl
 ·split at hl
  ·obtain ⟨k,_,rfl⟩:=List.mem_map.1 hl;unfold outK;cases hq:atK t t.length (k:Int) with
   | none=>rfl
   | some q=>exact upL_few hs (by have:=(atK_mem hq).1; omega)
  ·cases hl
 ·cases hl
end Go.Proofs.YtlnpgnipocbfhaaGreatDoor
