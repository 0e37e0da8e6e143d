/- ENGINE, part E7: slice expressions, conversions, make. -/
import Derived.Test.YtlnpgnipocbfhaaGreatDoorPwE
import Derived.Laws.MakeOwn
import Derived.Carry
import Derived.MapKept
import Derived.RangeFuncRecord
namespace Pw
open Go
section
variable {P:Program} {o:Oper} {U:Base} {w0:World} {n:Nat} {ρ:Rho} {M:Mem} {tm:Nat->AV} {hp:Nat->Blk} {nx:Nat} {a:Act} {w:World}
theorem bound_inv {d:Nat} {q:Option Operand} {ev:Operand->AV} {r:Int×Bool} (hq:∀ x∈q.toList,Rel ρ M (a.eval x) (ev x)) (h:bound d (q.map ev)=some r) :
  (q=none/\r=((d:Int),true))\/(∃ x k i,q=some x/\a.eval x=.int k i/\r=(i,false)):=by
 cases q with
 | none=>simp only [Option.map_none,bound,Option.some.injEq] at h; exact .inl ⟨rfl,h.symm⟩
 | some x =>
  simp only [Option.map_some] at h;have hx:=hq x (by simp)
  generalize ev x=y at h hx;cases y <;> simp only [bound,reduceCtorEq,Option.some.injEq] at h
  exact .inr ⟨x,_,_,rfl,hx.intInv,h.symm⟩
theorem run_bounds (isS : Bool) (len cap : Nat) (lo hi mx : Option Operand) (l h m : Int) (hn : Bool)
    (hlo : (lo = none /\ l = 0) \/ ∃ x k, lo = some x /\ a.eval x = .int k l)
    (hhi : (hi = none /\ h = len /\ hn = true) \/ ∃ x k, hi = some x /\ a.eval x = .int k h /\ hn = false)
    (hmx : (mx = none /\ m = cap) \/ ∃ x k, mx = some x /\ a.eval x = .int k m) (hmh : mx ≠ none -> hi ≠ none)
    (h0 : 0 <= l) (h1 : l <= h) (h2 : h <= m) (h3 : m <= cap) :
    (Instr.sliceBounds isS len cap (lo.map a.eval) (hi.map a.eval) (mx.map a.eval)).run P w = .ok (l.toNat, h.toNat, m.toNat) w := by
  have em : (m.toNat : Int) = m := Int.toNat_of_nonneg (by omega)
  have eh : (h.toNat : Int) = h := Int.toNat_of_nonneg (by omega)
  have hh0 : 0 <= h := by omega
  have hm0 : 0 <= m := by omega
  have hhc : h <= cap := by omega
  rcases hlo with ⟨rfl, rfl⟩ | ⟨x, k, rfl, hx⟩ <;> rcases hhi with ⟨rfl, rfl, rfl⟩ | ⟨y, k', rfl, hy, rfl⟩ <;> rcases hmx with ⟨rfl, rfl⟩ | ⟨z, k'', rfl, hz⟩
  all_goals first
    | (refine absurd rfl (hmh ?_); simp; done)
    | (simp only [Instr.sliceBounds, Option.map_none, Option.map_some, *]
       simp [run_sliceBound, h0, h1, h2, h3, em, eh, hh0, hm0, hhc, -Int.ofNat_toNat]; done)
    | (simp only [Instr.sliceBounds, Option.map_none, Option.map_some, *]
       simp [run_sliceBound, h0, h1, h2, h3, em, eh, hh0, hm0, hhc, -Int.ofNat_toNat]; omega)
theorem run_sliceS (t e:TypeId) (x:Operand) (lo hi mx:Option Operand) (hu:P.underlying t=some (.slice e)) {i:TypeInfo} (he:P.info? e=some i)
  (ho:o.op=.slice t x lo hi mx) (ad:Option Addr) (len cap:Nat) (hx:a.eval x=.slice ad len cap) (l h m:Nat)
  (hb:(Instr.sliceBounds true len cap (lo.map a.eval) (hi.map a.eval) (mx.map a.eval)).run P w=.ok (l,h,m) w) :
  (execOp a.eval o).run P w=.ok (.value (.slice (if m=l then ad else ad.map (·.add (l * P.cellsOf e))) (h - l) (m - l))) w:=by
 simp only [execOp,ho];rw [run_v];simp [Instr.sliceAt,run_underlying hu,Instr.slice,hx,hb,run_sizeOf' he]
theorem run_slice0 (t:TypeId) (x:Operand) (lo hi:Option Operand) (hu:P.underlying t=some .string)
  (ho:o.op=.slice t x lo hi none) (s:List UInt8) (hx:a.eval x=.string ⟨⟨s⟩⟩) (l h m:Nat)
  (hb:(Instr.sliceBounds false s.length s.length (lo.map a.eval) (hi.map a.eval) none).run P w=.ok (l,h,m) w) :
  (execOp a.eval o).run P w=.ok (.value (.string ⟨⟨(s.drop l).take (h - l)⟩⟩)) w:=by
 have e1:(ByteArray.mk ⟨s⟩).size=s.length:=rfl;have e2:(ByteArray.mk ⟨s⟩).extract l h=⟨⟨(s.drop l).take (h - l)⟩⟩:=by
  apply ByteArray.ext;apply Array.ext';simp [ByteArray.data_extract,Array.toList_extract,List.extract]
 simp only [execOp,ho];rw [run_v];simp [Instr.sliceAt,run_underlying hu,Instr.slice,hx,e1,hb,e2]
theorem step_slice (h:SRel U w0 n ρ M tm hp nx a w) (t:TypeId) (x:Operand) (lo hi mx:Option Operand) (ho:o.op=.slice t x lo hi mx) (ev:Operand->AV) (hx:Rel ρ M (a.eval x) (ev x))
  (hlo:∀ y∈lo.toList,Rel ρ M (a.eval y) (ev y)) (hhi:∀ y∈hi.toList,Rel ρ M (a.eval y) (ev y)) (hmx:∀ y∈mx.toList,Rel ρ M (a.eval y) (ev y)) (need v eff ob)
  (hs:stepOp P (.slice t x lo hi mx) ev hp nx=some ⟨need,v,eff,ob⟩) (hn:need=true):OpOut P o U w0 n ρ M tm hp nx a w v eff:=by
 have hx:=hx.deg;simp only [stepOp,sliceAV] at hs;have L0:∀ {l:Int} {b:Bool},bound 0 (lo.map ev)=some (l,b)->(lo=none/\l=0)\/∃ x k,lo=some x/\a.eval x=.int k l:=by
  intro l b hb;rcases bound_inv hlo hb with ⟨h1,h2⟩|⟨y,k,i,h1,h2,h3⟩
  ·cases h2; exact .inl ⟨h1,rfl⟩
  ·cases h3; exact .inr ⟨y,k,h1,h2⟩
 have H0:∀ {d:Nat} {l:Int} {b:Bool},bound d (hi.map ev)=some (l,b)->(hi=none/\l=d/\b=true)\/∃ x k,hi=some x/\a.eval x=.int k l/\b=false:=by
  intro d l b hb;rcases bound_inv hhi hb with ⟨h1,h2⟩|⟨y,k,i,h1,h2,h3⟩
  ·cases h2; exact .inl ⟨h1,rfl,rfl⟩
  ·cases h3; exact .inr ⟨y,k,h1,h2,rfl⟩
 have M0:∀ {q:Operand} {l:Int} {b:Bool},mx=some q->bound 0 (some (ev q))=some (l,b)->∃ x k,mx=some x/\a.eval x=.int k l:=by
  intro q l b hq hb;subst hq;rcases bound_inv (q:=some q) hmx (by simpa using hb) with ⟨h1,h2⟩|⟨y,k,i,h1,h2,h3⟩
  ·cases h1
  ·cases h3; exact ⟨y,k,h1,h2⟩
 split at hs
 ·rename_i s hu he;cases mx with
  | some q=>simp at hs
  | none =>
   simp only [Option.map_none,Option.bind_eq_some_iff,okN,Option.some.injEq,SR.mk.injEq] at hs;obtain ⟨⟨l,b1⟩,e1,⟨hh,b2⟩,e2,h0,rfl,rfl,rfl⟩:=hs;rw [<- h0] at hn;have hn':0<=l/\l<=hh/\hh<=s.length:=by simpa using hn
   rw [he] at hx;have hq:=hx.strInv;have hb:=run_bounds (P:=P) (w:=w) (a:=a) false s.length s.length lo hi none l hh s.length b2 (L0 e1) (H0 e2) (.inl ⟨rfl,rfl⟩) (by simp) hn'.1 hn'.2.1 hn'.2.2 (by omega)
   exact OpOut.same h (run_slice0 t x lo hi hu ho s hq _ _ _ hb) (.pure (.str _))
 ·rename_i e s ex hu he;split at hs
  case isFalse=>cases hs
  rename_i hc;simp only [Bool.and_eq_true] at hc;obtain ⟨d,hd⟩:=Option.isSome_iff_exists.1 hc.1;obtain ⟨ii,hii⟩:=info_of_underlying hd;rw [he] at hx;have hro:=hx.rolInv;have hs0:0<s.length->(s.getD 0 .undef).cells.length=P.cellsOf e:=by
   intro hl;have h2:=hc.2;simp only [Sq.sized,List.all_eq_true,beq_iff_eq] at h2;have:s.getD 0 .undef=s[0]:=by simp [List.getD,hl]
   rw [this]; exact h2 _ (List.getElem_mem hl)
  generalize hq:a.eval x=q at hro;have hshape:∃ ad cap,q=.slice ad s.length cap/\s.length<=cap/\(ex=true->cap=s.length):=by
   rcases hro with ⟨h1,ad,cap,h2,h3,h4,h5⟩|⟨h1,B,off,cap,sz,vals,h2,h3,h4,h5,_⟩
   ·exact ⟨ad,cap,by rw [h2,h1],by omega,fun he=>by rw [h4 he,h1]⟩
   ·exact ⟨_,cap,h2,h3,h5⟩
  obtain ⟨ad,cap,rfl,hcap,hcex⟩:=hshape;simp only [Option.bind_eq_some_iff] at hs;obtain ⟨⟨l,b1⟩,e1,⟨hh,b2⟩,e2,hs⟩:=hs
  have fin:∀ (l hh m:Int) (ex':Bool),(Instr.sliceBounds true s.length cap (lo.map a.eval) (hi.map a.eval) (mx.map a.eval)).run P w=.ok (l.toNat,hh.toNat,m.toNat) w ->
    0<=l->l<=hh->hh<=s.length->hh<=m->m<=cap->(ex'=true->m=hh)->OpOut P o U w0 n ρ M tm hp nx a w (.rol ((s.drop l.toNat).take (hh.toNat - l.toNat)) ex') []:=by
   intro l hh m ex' hb k0 k1 k2 k3 k4 k5;refine OpOut.same h (run_sliceS t e x lo hi mx hu hii ho ad s.length cap hq _ _ _ hb) (.pure ?_)
   have hsub:=hro.sub l.toNat hh.toNat m.toNat (P.cellsOf e) ex' (by omega) (by omega) (by omega) (by omega) hs0 (fun he=>by have:=k5 he; omega)
   have hlen:((s.drop l.toNat).take (hh.toNat - l.toNat)).length=hh.toNat - l.toNat:=by simp; omega
   refine ROf.toRol (f:=fun k=>s.getD (l.toNat+k) .undef) (by rw [hlen]; exact hsub) (fun i hi=>?_)
   rw [hlen] at hi;simp [List.getD,List.getElem?_take,hi,List.getElem?_drop]
  cases mx with
  | none =>
   simp only [Option.map_none,okN,Option.some.injEq,SR.mk.injEq] at hs;obtain ⟨h0,rfl,rfl,rfl⟩:=hs;rw [<- h0] at hn;have hn':0<=l/\l<=hh/\hh<=s.length:=by simpa using hn
   have hb:=run_bounds (P:=P) (w:=w) (a:=a) true s.length cap lo hi none l hh cap b2 (L0 e1) (H0 e2) (.inl ⟨rfl,rfl⟩) (by simp) hn'.1 hn'.2.1 (by omega) (by omega)
   refine fin l hh cap (ex&&b2) hb hn'.1 hn'.2.1 hn'.2.2 (by omega) (by omega) (fun he=>?_)
   simp only [Bool.and_eq_true] at he;rcases H0 e2 with ⟨_,k1,_⟩|⟨_,_,_,_,k2⟩
   ·have:=hcex he.1; omega
   ·rw [he.2] at k2; cases k2
  | some q =>
   simp only [Option.map_some,Option.bind_eq_some_iff] at hs;obtain ⟨⟨mm,b3⟩,e3,hs⟩:=hs;split at hs
   ·cases hs
   rename_i hb2;simp only [okN,Option.some.injEq,SR.mk.injEq] at hs;obtain ⟨h0,rfl,rfl,rfl⟩:=hs;rw [<- h0] at hn;have hn':0<=l/\l<=hh/\hh=mm/\hh<=s.length:=by simpa using hn
   have hb:=run_bounds (P:=P) (w:=w) (a:=a) true s.length cap lo hi (some q) l hh mm b2 (L0 e1) (H0 e2) (.inr (M0 rfl e3)) (by
    intro _ hnone;rcases H0 e2 with ⟨_,_,k⟩|⟨_,_,k,_⟩
    ·rw [k] at hb2; simp at hb2
    ·rw [hnone] at k; cases k) hn'.1 hn'.2.1 (by omega) (by omega)
   exact fin l hh mm true hb hn'.1 hn'.2.1 hn'.2.2.2 (by omega) (by omega) (fun _=>by omega)
 ·rename_i e nn f ex hu he;split at hs
  case isFalse=>cases hs
  rename_i hc;simp only [Bool.and_eq_true] at hc;obtain ⟨d,hd⟩:=Option.isSome_iff_exists.1 hc.1;obtain ⟨ii,hii⟩:=info_of_underlying hd;rw [he] at hx;have hro:=hx.rofInv;have hs0:0<nn->(f 0).cells.length=P.cellsOf e:=by
   intro _;simpa [Sq.sized] using hc.2
  generalize hq:a.eval x=q at hro;have hshape:∃ ad cap,q=.slice ad nn cap/\nn<=cap/\(ex=true->cap=nn):=by
   rcases hro with ⟨h1,ad,cap,h2,h3,h4,h5⟩|⟨h1,B,off,cap,sz,vals,h2,h3,h4,h5,_⟩
   ·exact ⟨ad,cap,by rw [h2,h1],by omega,fun he=>by rw [h4 he,h1]⟩
   ·exact ⟨_,cap,h2,h3,h5⟩
  obtain ⟨ad,cap,rfl,hcap,hcex⟩:=hshape;simp only [Option.bind_eq_some_iff] at hs;obtain ⟨⟨l,b1⟩,e1,⟨hh,b2⟩,e2,hs⟩:=hs
  have fin:∀ (l hh m:Int) (ex':Bool),(Instr.sliceBounds true nn cap (lo.map a.eval) (hi.map a.eval) (mx.map a.eval)).run P w=.ok (l.toNat,hh.toNat,m.toNat) w ->
    0<=l->l<=hh->hh<=nn->hh<=m->m<=cap->(ex'=true->m=hh)->OpOut P o U w0 n ρ M tm hp nx a w (.rof (hh.toNat - l.toNat) (fun k=>f (l.toNat+k)) ex') []:=by
   intro l hh m ex' hb k0 k1 k2 k3 k4 k5;refine OpOut.same h (run_sliceS t e x lo hi mx hu hii ho ad nn cap hq _ _ _ hb) (.pure ?_)
   have hsub:=hro.sub l.toNat hh.toNat m.toNat (P.cellsOf e) ex' (by omega) (by omega) (by omega) (by omega) hs0 (fun he=>by have:=k5 he; omega)
   exact hsub.toRof
  cases mx with
  | none =>
   simp only [Option.map_none,okN,Option.some.injEq,SR.mk.injEq] at hs;obtain ⟨h0,rfl,rfl,rfl⟩:=hs;rw [<- h0] at hn;have hn':0<=l/\l<=hh/\hh<=nn:=by simpa using hn
   have hb:=run_bounds (P:=P) (w:=w) (a:=a) true nn cap lo hi none l hh cap b2 (L0 e1) (H0 e2) (.inl ⟨rfl,rfl⟩) (by simp) hn'.1 hn'.2.1 (by omega) (by omega)
   refine fin l hh cap (ex&&b2) hb hn'.1 hn'.2.1 hn'.2.2 (by omega) (by omega) (fun he=>?_)
   simp only [Bool.and_eq_true] at he;rcases H0 e2 with ⟨_,k1,_⟩|⟨_,_,_,_,k2⟩
   ·have:=hcex he.1; omega
   ·rw [he.2] at k2; cases k2
  | some q =>
   simp only [Option.map_some,Option.bind_eq_some_iff] at hs;obtain ⟨⟨mm,b3⟩,e3,hs⟩:=hs;split at hs
   ·cases hs
   rename_i hb2;simp only [okN,Option.some.injEq,SR.mk.injEq] at hs;obtain ⟨h0,rfl,rfl,rfl⟩:=hs;rw [<- h0] at hn;have hn':0<=l/\l<=hh/\hh=mm/\hh<=nn:=by simpa using hn
   have hb:=run_bounds (P:=P) (w:=w) (a:=a) true nn cap lo hi (some q) l hh mm b2 (L0 e1) (H0 e2) (.inr (M0 rfl e3)) (by
    intro _ hnone;rcases H0 e2 with ⟨_,_,k⟩|⟨_,_,k,_⟩
    ·rw [k] at hb2; simp at hb2
    ·rw [hnone] at k; cases k) hn'.1 hn'.2.1 (by omega) (by omega)
   exact fin l hh mm true hb hn'.1 hn'.2.1 hn'.2.2.2 (by omega) (by omega) (fun _=>by omega)
 ·rename_i e hu he;split at hs
  case isFalse=>cases hs
  rename_i hc;obtain ⟨d,hd⟩:=Option.isSome_iff_exists.1 hc;obtain ⟨ii,hii⟩:=info_of_underlying hd;rw [he] at hx;have hq:a.eval x=.slice none 0 0:=by
   generalize a.eval x=q at hx;cases hx with|pure h=>cases h; rfl
  simp only [Option.bind_eq_some_iff] at hs;obtain ⟨⟨l,b1⟩,e1,⟨hh,b2⟩,e2,hs⟩:=hs;have fin:(Instr.sliceBounds true 0 0 (lo.map a.eval) (hi.map a.eval) (mx.map a.eval)).run P w=.ok (0,0,0) w->OpOut P o U w0 n ρ M tm hp nx a w .nils []:=by
   intro hb;exact OpOut.same h (run_sliceS t e x lo hi mx hu hii ho none 0 0 hq _ _ _ hb) (.pure .nils)
  cases mx with
  | none =>
   simp only [Option.map_none,okN,Option.some.injEq,SR.mk.injEq] at hs;obtain ⟨h0,rfl,rfl,rfl⟩:=hs;rw [<- h0] at hn;have hn':l=0/\hh=0:=by simpa using hn
   obtain ⟨rfl,rfl⟩:=hn';exact fin (run_bounds (P:=P) (w:=w) (a:=a) true 0 0 lo hi none 0 0 0 b2 (L0 e1) (H0 e2) (.inl ⟨rfl,rfl⟩) (by simp) (by omega) (by omega) (by omega) (by simp))
  | some q =>
   simp only [Option.map_some,Option.bind_eq_some_iff] at hs;obtain ⟨⟨mm,b3⟩,e3,hs⟩:=hs;split at hs
   ·cases hs
   rename_i hb2;simp only [okN,Option.some.injEq,SR.mk.injEq] at hs;obtain ⟨h0,rfl,rfl,rfl⟩:=hs;rw [<- h0] at hn;have hn':l=0/\hh=0/\mm=0:=by simpa using hn
   obtain ⟨rfl,rfl,rfl⟩:=hn';exact fin (run_bounds (P:=P) (w:=w) (a:=a) true 0 0 lo hi (some q) 0 0 0 b2 (L0 e1) (H0 e2) (.inr (M0 rfl e3)) (by
    intro _ hnone;rcases H0 e2 with ⟨_,_,k⟩|⟨_,_,k,_⟩
    ·rw [k] at hb2; simp at hb2
    ·rw [hnone] at k; cases k) (by omega) (by omega) (by omega) (by simp))
 ·rename_i e b g i len c hu he;split at hs
  case h_2=>cases hs
  rename_i g' sz pu s hb;split at hs
  case isFalse=>cases hs
  rename_i hsz;have hg:g=g':=by
   simp only [Option.bind_eq_some_iff] at hs;obtain ⟨⟨l,b1⟩,e1,⟨hh,b2⟩,e2,hs⟩:=hs;cases mx with
   | none =>
    simp only [Option.map_none,okN,Option.some.injEq,SR.mk.injEq] at hs;rw [<- hs.1] at hn;simp only [Bool.and_eq_true,decide_eq_true_eq] at hn;exact hn.1
   | some q =>
    simp only [Option.map_some,Option.bind_eq_some_iff] at hs;obtain ⟨⟨mm,b3⟩,e3,hs⟩:=hs;split at hs
    ·cases hs
    simp only [okN,Option.some.injEq,SR.mk.injEq] at hs;rw [<- hs.1] at hn;simp only [Bool.and_eq_true,decide_eq_true_eq] at hn;exact hn.1
  subst hg;rw [he] at hx;obtain ⟨L,hL,hcase⟩:=hx.slInv;obtain ⟨L',el1,el2,el3,_⟩:=h.rowLoc hb;rw [hL] at el1; cases el1;obtain ⟨ii,hii,_⟩:=info_of_cells (P:=P) (t:=e) (by omega)
  simp only [Option.bind_eq_some_iff] at hs;obtain ⟨⟨l,b1⟩,e1,⟨hh,b2⟩,e2,hs⟩:=hs;have shape:∃ ad cap,a.eval x=.slice ad len cap/\len<=cap/\(∀ k,c=some k->cap=k) /\
    (∀ (l h m:Nat) (c':Option Nat),l<=h->h<=len->h<=m->m<=cap->(∀ k,c'=some k->m - l=k) ->
     Rel ρ M (.slice (if m=l then ad else ad.map (·.add (l * P.cellsOf e))) (h - l) (m - l)) (.sl b g (i+l) (h - l) c')):=by
   rcases hcase with ⟨hv,cap,hq,k1,k2,k3,k4,k5⟩|⟨h1,k2,ad,hq⟩
   ·refine ⟨_,cap,hq,k1,k2,fun l h m c' q1 q2 q3 q4 q5=>?_⟩
    by_cases hml:m=l
    ·rw [if_pos hml];have e0:h - l=0:=by omega
     have e00:m - l=0:=by omega
     rw [e0,e00];exact .slv L _ b g (i+l) c' hL (fun k hk=>by have:=q5 k hk; omega)
    ·rw [if_neg hml];simp only [Option.map_some,add_eq];have:L.o+i * L.sz+l * P.cellsOf e=L.o+(i+l) * L.sz:=by rw [<- hsz,<- el2,Nat.add_mul]; omega
     rw [this];refine .sl L b g (i+l) (h - l) (m - l) c' hL hv (by omega) q5 ?_ (by omega) (by omega)
     have hle:(i+l+(m - l)) * L.sz<=(i+cap) * L.sz:=Nat.mul_le_mul_right _ (by omega)
     omega
   ·subst h1;refine ⟨ad,0,hq,by omega,fun k hk=>(k2 k hk).symm,fun l h m c' q1 q2 q3 q4 q5=>?_⟩
    have e0:l=0:=by omega
    have e1:h=0:=by omega
    have e2:m=0:=by omega
    subst e0; subst e1; subst e2;exact .slv L _ b g (i+0) c' hL (fun k hk=>by have:=q5 k hk; omega)
  obtain ⟨ad,cap,hq,hcap,hck,hrel⟩:=shape;cases mx with
  | none =>
   simp only [Option.map_none,okN,Option.some.injEq,SR.mk.injEq] at hs;obtain ⟨h0,rfl,rfl,rfl⟩:=hs;rw [<- h0] at hn;have hn':0<=l/\l<=hh/\hh<=len:=by simpa using hn
   have hb:=run_bounds (P:=P) (w:=w) (a:=a) true len cap lo hi none l hh cap b2 (L0 e1) (H0 e2) (.inl ⟨rfl,rfl⟩) (by simp) hn'.1 hn'.2.1 (by omega) (by omega)
   refine OpOut.same h (run_sliceS t e x lo hi none hu hii ho ad len cap hq _ _ _ hb) (hrel _ _ _ _ (by omega) (by omega) (by omega) (by omega) (fun k hk=>?_))
   cases hcc:c with
   | none=>rw [hcc] at hk; cases hk
   | some q=>rw [hcc] at hk; cases hk; have:=hck q hcc; subst this; simp only; omega
  | some q =>
   simp only [Option.map_some,Option.bind_eq_some_iff] at hs;obtain ⟨⟨mm,b3⟩,e3,hs⟩:=hs;split at hs
   ·cases hs
   rename_i hb2;simp only [okN,Option.some.injEq,SR.mk.injEq] at hs;obtain ⟨h0,rfl,rfl,rfl⟩:=hs;rw [<- h0] at hn;have hn':0<=l/\l<=hh/\hh=mm/\hh<=len:=by simpa using hn
   have hb:=run_bounds (P:=P) (w:=w) (a:=a) true len cap lo hi (some q) l hh mm b2 (L0 e1) (H0 e2) (.inr (M0 rfl e3)) (by
    intro _ hnone;rcases H0 e2 with ⟨_,_,k⟩|⟨_,_,k,_⟩
    ·rw [k] at hb2; simp at hb2
    ·rw [hnone] at k; cases k) hn'.1 hn'.2.1 (by omega) (by omega)
   exact OpOut.same h (run_sliceS t e x lo hi (some q) hu hii ho ad len cap hq _ _ _ hb) (hrel _ _ _ _ (by omega) (by omega) (by omega) (by omega) (fun k hk=>by cases hk; rfl))
 ·rename_i n e y j hu he;split at hs
  case h_2=>cases hs
  rename_i hlo' hhi' hmx';have e1:lo=none:=by cases lo <;> simp_all
  have e2:hi=none:=by cases hi <;> simp_all
  have e3:mx=none:=by cases mx <;> simp_all
  subst e1; subst e2; subst e3;split at hs
  case isFalse=>cases hs
  rename_i hc;simp only [Bool.and_eq_true,beq_iff_eq,decide_eq_true_eq,List.all_eq_true] at hc;obtain ⟨⟨⟨⟨⟨c1,c2⟩,c3⟩,c4⟩,c5⟩,c6⟩:=hc;simp only [ok1,Option.some.injEq,SR.mk.injEq] at hs;obtain ⟨-,rfl,rfl,-⟩:=hs
  obtain ⟨d,hd⟩:=Option.isSome_iff_exists.1 c2;obtain ⟨ii,hii⟩:=info_of_underlying hd;rw [he] at hx;obtain ⟨B,o',vals,hq,hm,hr⟩:=hx.rptrInv;have hl:((y.cells.drop j).take n).length=n:=by simp; omega
  have hcells:∀ i,i<n->(((y.cells.drop j).take n).getD i .undef)=y.cells.getD (j+i) .undef:=fun i hi=>by
   simp [List.getD,List.getElem?_take,hi,List.getElem?_drop]
  refine OpOut.same (u:=.slice (some ⟨B,o'+j,none⟩) n n) h ?_ (.pure ?_)
  ·simp only [execOp,ho];rw [run_v];simp [Instr.sliceAt,run_underlying hu,hq,Instr.sureAddr,asAddr,Instr.sliceBounds,run_sizeOf' hii,Addr.add]
  ·have:=RelP.rol (M:=M) B (o'+j) n 1 ((y.cells.drop j).take n) true (fun i _=>vals (j+i)) (by omega) (by simp only [maxLen]; omega) (fun _=>hl.symm)
    (fun i hi=>by
     have hcell:(((y.cells.drop j).take n).getD i .undef).isCell=true:=by
      rw [List.getD_eq_getElem?_getD,List.getElem?_eq_getElem hi,Option.getD_some];exact c6 _ (List.getElem_mem hi)
     rw [cells_isCell hcell]; rfl)
    (fun i k hi hk=>by
     obtain rfl:k=0:=by omega
     have:=hm (j+i) (by omega)
     rw [<- this]; congr 1; omega)
    (fun i k hi hk=>by
     obtain rfl:k=0:=by omega
     have hcell:(((y.cells.drop j).take n).getD i .undef).isCell=true:=by
      rw [List.getD_eq_getElem?_getD,List.getElem?_eq_getElem hi,Option.getD_some];exact c6 _ (List.getElem_mem hi)
     rw [cells_isCell hcell];have h2:=hr (j+i) (by omega)
     rw [<- hcells i (by omega)] at h2
     exact h2)
   rw [hl] at this;exact this
 ·rename_i n e b g i j hu he;split at hs
  case h_2=>cases hs
  rename_i hlo' hhi' hmx';have e1:lo=none:=by cases lo <;> simp_all
  have e2:hi=none:=by cases hi <;> simp_all
  have e3:mx=none:=by cases mx <;> simp_all
  subst e1; subst e2; subst e3;split at hs
  case h_2=>cases hs
  rename_i g' sz pu s hb;split at hs
  case isFalse=>cases hs
  rename_i hc;simp only [Bool.and_eq_true,beq_iff_eq,decide_eq_true_eq] at hc;obtain ⟨⟨⟨⟨c1,c2⟩,c3⟩,c4⟩,c5⟩:=hc;simp only [okN,Option.some.injEq,SR.mk.injEq] at hs;obtain ⟨h0,rfl,rfl,-⟩:=hs;rw [<- h0] at hn;have hg:g=g':=by simpa using hn
  subst hg;obtain ⟨d,hd⟩:=Option.isSome_iff_exists.1 c2;obtain ⟨ii,hii⟩:=info_of_underlying hd;rw [he] at hx;obtain ⟨L,hL,hq,hi⟩:=hx.ptrInv;obtain ⟨L',f1,f2,_⟩:=h.rowLoc hb;rw [hL] at f1; cases f1
  refine OpOut.same (u:=.slice (some ⟨L.B,L.o+i * L.sz+j,none⟩) n n) h ?_ (.sla L b g i j n hL hi (by omega))
  simp only [execOp,ho];rw [run_v];simp [Instr.sliceAt,run_underlying hu,hq,Instr.sureAddr,asAddr,Instr.sliceBounds,run_sizeOf' hii,Addr.add]
 ·cases hs
end
section
variable {P:Program} {o:Oper} {U:Base} {w0:World} {n:Nat} {ρ:Rho} {M:Mem} {tm:Nat->AV} {hp:Nat->Blk} {nx:Nat} {a:Act} {w:World}
def memAdd (M:Mem) (w:World) (B:Nat) (k:Nat):Mem:=fun B' i=>if B'=B then (if i<k then w.cell? ⟨B,i,none⟩ else none) else M B' i
theorem SRel.frozen (h:SRel U w0 n ρ M tm hp nx a w) {w':World} (k:Nat) (hos:w'.os=w.os) (htape:w'.tape=w.tape) (hout:w'.output=w.output) (hsz:w.heap.size<w'.heap.size)
  (hw:∀ B,B<w.heap.size->w'.heap[B]?=w.heap[B]?) (hc:∀ i,i<k->∃ v,w'.cell? ⟨w.heap.size,i,none⟩=some v/\v.oneCell'=true) :
  MExt M (memAdd M w' w.heap.size k)/\SRel U w0 n ρ (memAdd M w' w.heap.size k) tm hp nx a w':=by
 have hext:MExt M (memAdd M w' w.heap.size k):=by
  intro B i v hm;have:B≠w.heap.size:=by have:=h.hok.mem_lt hm; omega
  simp [memAdd,this,hm]
 refine ⟨hext,⟨h.size,fun t=>(h.tm t).mono (RExt.refl ρ) hext,⟨fun B i v hm=>?_,fun b g sz pu s hb=>?_,h.hok.inj,h.hok.gen,fun b st r hb=>(h.hok.loop b st r hb).mono (RExt.refl ρ) hext fun L hL lp e=>(hw L.B (heap_lt e)).trans e,h.hok.linj⟩,h.dead,h.free,?_,?_,h.memE.trans hext,h.own,h.nle,h.ownL,h.defers.mono (RExt.refl ρ) hext,⟨h.marks.1,fun r hr=>(hw r (heap_lt (h.marks.2 r hr))).trans (h.marks.2 r hr)⟩,h.mown,h.nod,
  h.extGrow hos htape hout (Nat.le_of_lt hsz) hext (fun B i v hm=>?_) hw⟩⟩
 case refine_5 =>
  unfold memAdd at hm;split at hm
  ·rename_i hB;exact .inr (by omega)
  ·exact .inl hm
 ·unfold memAdd at hm;split at hm
  ·rename_i hB;subst hB;split at hm
   ·rename_i hi;obtain ⟨u,hu,hu1⟩:=hc i hi;rw [hu] at hm; cases hm;exact ⟨hu,hu1⟩
   ·cases hm
  ·have:=h.hok.mem B i v hm;rw [cell_congr (hw B (h.hok.mem_lt hm))];exact this
 ·obtain ⟨L,h1,h2,h3,h4⟩:=h.hok.row b g sz pu s hb;refine ⟨L,h1,h2,h3,?_⟩;rcases h4 with h4|⟨hv,c,e,h5,h6,h7,h8,h9⟩
  ·exact .inl h4
  ·have hlt:=heap_lt h5;refine .inr ⟨hv,c,e,by rw [hw _ hlt]; exact h5,h6,h7,fun i=>?_,fun i hi=>⟨(h9 i hi).1,fun j hj=>?_⟩⟩
   ·have:L.B≠w.heap.size:=by omega
    simp [memAdd,this,h8]
   ·obtain ⟨v,k1,k2,k3,k4⟩:=(h9 i hi).2 j hj;exact ⟨v,k1,k2,k3.mono (RExt.refl ρ) hext,fun hp=>(k4 hp).mono hext⟩
 ·refine ⟨hos.trans h.keep.os,htape.trans h.keep.tape,hout.trans h.keep.output,by have:=h.keep.size; omega,fun B hU hB=>?_⟩
  rw [hw B (Nat.lt_of_lt_of_le hB h.keep.size)];exact h.keep.block B hU hB
 ·intro B i v hm;unfold memAdd at hm;split at hm
  ·rename_i hB; right; left; rw [hB]; exact h.keep.size
  ·exact h.memN B i v hm
theorem out_bytes (h:SRel U w0 n ρ M tm hp nx a w) (s d e:TypeId) (x:Operand) (ho:o.op=.convert s d x) (l:List UInt8) (hx:a.eval x=.string ⟨⟨l⟩⟩)
  (us:TypeDesc) (hs:P.underlying s=some us) (hd:P.underlying d=some (.slice e)) (he:P.underlying e=some (.int .u8)) (hl:l.length<=maxLen) :
  OpOut P o U w0 n ρ M tm hp nx a w (.rof l.length (fun i=>.int .u8 ((l.getD i 0).toNat)) false) []:=by
 have hrun:=Lib.run_convert_string_bytes (P:=P) w s d e (ByteArray.mk ⟨l⟩) hs hd he;have hsize:(ByteArray.mk ⟨l⟩).size=l.length:=rfl
 have hcell:∀ i,i<l.length->(Lib.bytesWorld w e (ByteArray.mk ⟨l⟩)).cell? ⟨w.heap.size,i,none⟩=some (.int .u8 ((l.getD i 0).toNat)):=fun i hi=>Lib.bytesWorld_cell w e _ i (by rw [hsize]; exact hi)
 obtain ⟨hext,hrel⟩:=h.frozen (w':=Lib.bytesWorld w e (ByteArray.mk ⟨l⟩)) l.length rfl rfl rfl (by rw [Lib.bytesWorld_size]; omega) (fun B hB=>Lib.bytesWorld_at_old w e _ B hB)
  (fun i hi=>⟨_,hcell i hi,rfl⟩)
 refine ⟨.slice (some ⟨w.heap.size,0,none⟩) l.length (grownCap w l.length 0 e),_,ρ,_,.inl ?_,RX.refl ρ hp nx,hext,?_,hrel⟩
 ·simp only [execOp,ho,hx];rw [run_v,hrun];rfl
 ·have hcap:=grownCap_ge w l.length 0 e;have hcap2:=grownCap_le_maxLen w l.length 0 e hl
  refine .pure (.rof w.heap.size 0 (grownCap w l.length 0 e) 1 l.length _ false (fun i _=>.int .u8 ((l.getD i 0).toNat)) hcap hcap2 (by simp) (fun i hi=>rfl) (fun i j hi hj=>?_) (fun i j hi hj=>?_))
  ·have:j=0:=by omega
   subst this;simp only [memAdd,if_true,Nat.zero_add,Nat.mul_one,Nat.add_zero,hi];exact hcell i hi
  ·have:j=0:=by omega
   subst this;exact .int _ _
theorem ofNat_fold (f:Nat->Int):∀ (n:Nat),((List.range n).map f).foldl (fun (r:ByteArray) m=>r.push (UInt8.ofNat m.toNat)) ByteArray.empty=⟨⟨(List.range n).map fun i=>UInt8.ofNat (f i).toNat⟩⟩:=by
 intro n;induction n with
 | zero=>rfl
 | succ n ih =>
  rw [List.range_succ,List.map_append,List.foldl_append,ih];simp only [List.map_cons,List.map_nil,List.foldl_cons,List.foldl_nil,List.map_append];apply ByteArray.ext;apply Array.ext';simp [ByteArray.push]
theorem run_strOf (s d e:TypeId) (hs:P.underlying s=some (.slice e)) (hd:P.underlying d=some .string) (he:P.underlying e=some (.int .u8))
  (B off len cap:Nat) (f:Nat->Int) (hc:∀ i,i<len->w.cell? ⟨B,off+i,none⟩=some (.int .u8 (f i))) :
  (convert s d (.slice (some ⟨B,off,none⟩) len cap)).run P w=.ok (.string ⟨⟨(List.range len).map fun i=>UInt8.ofNat (f i).toNat⟩⟩) w:=by
 rw [run_convert_bytes_string w s d e _ len cap hs he hd];have hl:=run_loadCells (P:=P) w ⟨B,off,none⟩ len (fun i=>.int .u8 (f i)) (fun j hj=>by rw [add_eq]; exact hc j hj)
 have:=run_bytesToString (P:=P) w ⟨B,off,none⟩ len cap ((List.range len).map f) (by rw [hl,List.map_map]; rfl)
 rw [this,ofNat_fold]
def intAV:AV->Int
 | .int _ m=>m
 | _=>0
def ElemsAt (ρ:Rho) (M:Mem) (w:World) (v:Value) (s:Sq) (pu:Bool):Prop :=
 ∃ ad cap,v=.slice ad s.len cap/\s.len<=cap/\(s.len=0\/∃ B off sz,∃ vals:Nat->Nat->Value,ad=some ⟨B,off,none⟩ /\
  ∀ i,i<s.len->(s.get i).cells.length=sz/\∀ j,j<sz->w.cell? ⟨B,off+i * sz+j,none⟩=some (vals i j)/\(vals i j).oneCell'=true /\
   Rel ρ M (vals i j) ((s.get i).cells.getD j .undef)/\(pu=true->RelP M (vals i j) ((s.get i).cells.getD j .undef)))
theorem ElemsAt.ofRO (h:SRel U w0 n ρ M tm hp nx a w) {v:Value} {nn f ex} (hr:ROf M v nn f ex) (s:Sq) (hs:s.len=nn) (hg:∀ i,i<nn->s.get i=f i):ElemsAt ρ M w v s true:=by
 rcases hr with ⟨h0,ad,cap,rfl,h1,h2,h3⟩|⟨h0,B,off,cap,sz,vals,rfl,hc,hcm,hex,hz,hm,hr⟩
 ·exact ⟨ad,cap,by rw [hs,h0],by omega,.inl (by omega)⟩
 ·refine ⟨_,cap,by rw [hs],by omega,.inr ⟨B,off,sz,vals,rfl,fun i hi=>?_⟩⟩
  have hi':i<nn:=by omega
  rw [hg i hi'];refine ⟨hz i hi',fun j hj=>?_⟩
  have hmem:=h.hok.mem _ _ _ (hm i j hi' hj);exact ⟨hmem.1,hmem.2,.pure (hr i j hi' hj),fun _=>hr i j hi' hj⟩
theorem Sq.sub_get (s:Sq) (i len k:Nat) (hk:k<len):(s.sub i len).get k=s.get (i+k):=by
 cases s with
 | lst l=>simp [Sq.sub,Sq.get,List.getD,List.getElem?_take,hk,List.getElem?_drop]
 | fn n f=>rfl
theorem Sq.sub_len (q:Sq) (i len:Nat) (h:i+len<=q.len):(q.sub i len).len=len:=by
 cases q with
 | lst l=>simp only [Sq.len] at h; simp [Sq.sub,Sq.len]; omega
 | fn m f=>rfl
theorem elemsAt (h:SRel U w0 n ρ M tm hp nx a w) {v:Value} {x:AV} (hx:Rel ρ M v x) {s:Sq} {ok:Bool} (hs:elemsOf hp x=some (s,ok)) (hok:ok=true):ElemsAt ρ M w v s (puOf hp x):=by
 subst hok;cases x <;> simp only [elemsOf,Option.some.injEq,reduceCtorEq,Prod.mk.injEq,and_true] at hs
 case rol l ex=>subst hs; exact .ofRO h hx.rolInv _ rfl (fun i hi=>rfl)
 case rof nn f ex=>subst hs; exact .ofRO h hx.rofInv _ rfl (fun i hi=>rfl)
 case gro b i nn f=>subst hs; exact .ofRO h (Rel.rofInv (ρ:=ρ) (.pure hx.groInv.1)) _ rfl (fun i hi=>rfl)
 case nils =>
  subst hs;have hq:v=.slice none 0 0:=by cases hx with|pure h=>cases h; rfl
  exact ⟨none,0,hq,Nat.le_refl _,.inl rfl⟩
 case sl b g i len c =>
  split at hs
  case h_2=>cases hs
  rename_i g' sz pu q hb;simp only [Option.some.injEq,Prod.mk.injEq,decide_eq_true_eq] at hs;obtain ⟨hs,hg⟩:=hs;subst hs; subst hg;obtain ⟨L,hL,hc⟩:=hx.slInv;rcases hc with ⟨hv,cap,rfl,k1,k2,k3,k4,k5⟩|⟨h1,k2,ad,rfl⟩
  ·obtain ⟨L',e1,e2,e3,h6⟩:=h.rowLoc hb;rw [hL] at e1; cases e1;have hlen:(q.sub i len).len=len:=Sq.sub_len q i len (by omega)
   rcases h6 with ⟨h6,_⟩|⟨_,cc,e,h7,h8,h9,h10,h11⟩
   ·rw [hv] at h6; cases h6
   subst e2;refine ⟨_,cap,by rw [hlen],by omega,.inr ⟨L.B,L.o+i * L.sz,L.sz,fun k j=>cc.getD (L.o+(i+k) * L.sz+j) undef,rfl,fun k hk=>?_⟩⟩
   rw [hlen] at hk;rw [Sq.sub_get q i len k hk];obtain ⟨m1,m2⟩:=h11 (i+k) (by omega)
   refine ⟨m1,fun j hj=>?_⟩
   obtain ⟨u,n1,n2,n3,n4⟩:=m2 j hj;have hget:cc.getD (L.o+(i+k) * L.sz+j) undef=u:=by
    obtain ⟨hlt,he⟩:=Array.getElem?_eq_some_iff.1 n1;simp [Array.getD,hlt,he]
   simp only [hget];refine ⟨?_,n2,n3,fun hp'=>n4 (by simpa [puOf,hb] using hp')⟩
   rw [cell_of_row w L.B _ cc e (0,0) h7,<- n1];congr 1;rw [Nat.add_mul]; omega
  ·subst h1;have hlen:(q.sub i 0).len=0:=by cases q <;> simp [Sq.sub,Sq.len]
   exact ⟨ad,0,by rw [hlen],by omega,.inl hlen⟩
theorem step_convert (h:SRel U w0 n ρ M tm hp nx a w) (s d:TypeId) (x:Operand) (ho:o.op=.convert s d x) (ev:Operand->AV) (hx:Rel ρ M (a.eval x) (ev x)) (need v eff ob)
  (hs:stepOp P (.convert s d x) ev hp nx=some ⟨need,v,eff,ob⟩) (hn:need=true) (hob:∀ p,ob=some p->p):OpOut P o U w0 n ρ M tm hp nx a w v eff:=by
 simp only [stepOp,convertAV] at hs;split at hs
 ·rename_i d' k k' m hs' hd he;simp only [ok1,Option.some.injEq,SR.mk.injEq] at hs;obtain ⟨_,rfl,rfl,rfl⟩:=hs;rw [he] at hx;have hq:=hx.intInv;refine OpOut.same h (u:=.int k (k.wrap m)) ?_ (.pure (.int _ _))
  simp [execOp,ho,hq,convert,run_underlying hs',run_underlying hd,Conv.intToInt]
 ·rename_i d' l hs' hd he;simp only [ok1,Option.some.injEq,SR.mk.injEq] at hs;obtain ⟨_,rfl,rfl,rfl⟩:=hs;rw [he] at hx;have hq:=hx.strInv;refine OpOut.same h (u:=.string ⟨⟨l⟩⟩) ?_ (.pure (.str _))
  simp [execOp,ho,hq,convert,run_underlying hs',run_underlying hd]
 ·rename_i d' e l hs' hd he;split at hs
  ·rename_i hu8;simp only [okN,Option.some.injEq,SR.mk.injEq] at hs;obtain ⟨h0,rfl,rfl,rfl⟩:=hs;rw [he] at hx;have hq:=hx.strInv;rw [<- h0] at hn;exact out_bytes h s d e x ho l hq d' hs' hd hu8 (by simpa [maxLen] using hn)
  ·cases hs
 ·rename_i e hs' hd hne;split at hs
  case h_2=>cases hs
  rename_i hu8;simp only [Option.bind_eq_some_iff,Option.map_eq_some_iff] at hs;obtain ⟨⟨q,ok⟩,hq,r',hstr,hr'⟩:=hs;simp only [SR.mk.injEq] at hr';obtain ⟨hok,rfl,rfl,rfl⟩:=hr';obtain ⟨ad,cap,hv,hcap,hel⟩:=elemsAt h hx hq (hok.trans hn)
  have all:(∀ i,i<q.len->isU8 (q.get i)=true)/\r'.v=.str ((List.range q.len).map fun i=>byteAV (q.get i))/\r'.eff=[]:=by
   cases q with
   | lst l =>
    simp only [strOf] at hstr;split at hstr
    ·rename_i hall;simp only [ok1,Option.some.injEq] at hstr;rw [List.all_eq_true] at hall;refine ⟨fun i hi=>?_,?_,by rw [<- hstr]⟩
     ·have hi':i<l.length:=hi;have:l.getD i .undef=l[i]:=by simp [List.getD,hi']
      simp only [Sq.get,this];exact hall _ (List.getElem_mem _)
     ·rw [<- hstr];simp only;congr 1;apply List.ext_getElem
      ·simp [Sq.len]
      ·intro i h1 h2;have:i<l.length:=by simpa using h1
       simp [Sq.get,List.getD,this]
    ·cases hstr
   | fn m f =>
    simp only [strOf,Option.some.injEq] at hstr;rw [<- hstr] at hob ⊢;exact ⟨hob _ rfl,rfl,rfl⟩
  obtain ⟨hall,hv1,hv2⟩:=all;rw [hv1,hv2];have hrun:∀ r,(convert s d (a.eval x)).run P w=.ok r w->(execOp a.eval o).run P w=.ok (.value r) w:=by
   intro r hr;simp only [execOp,ho];rw [run_v,hr]; rfl
  rcases hel with h0|⟨B,off,sz,vals,rfl,hel⟩
  ·rw [h0] at hv ⊢;refine OpOut.same h (u:=.string ⟨⟨[]⟩⟩) (hrun _ ?_) (.pure (.str _));rw [hv];cases ad with
   | none=>simp [convert,run_underlying hs',run_underlying hd,run_underlying hu8,Conv.bytesToString]; rfl
   | some ad =>
    rw [run_convert_bytes_string w s d e _ 0 cap hs' hu8 hd];have:=run_bytesToString (P:=P) w ad 0 cap [] (by simp [loadCells,loadCellsFrom])
    rw [this]; rfl
  ·let f:Nat->Int:=fun i=>intAV (q.get i)
   have hf:∀ i,i<q.len->q.get i=.int .u8 (f i)/\w.cell? ⟨B,off+i,none⟩=some (.int .u8 (f i)):=by
    intro i hi;obtain ⟨h1,h2⟩:=hel i hi;have hb:=hall i hi;generalize hgi:q.get i=y at hb h1 h2;have hfi:f i=intAV y:=by simp only [f,hgi]
    cases y <;> simp only [isU8,Bool.false_eq_true] at hb
    rename_i k m;cases k <;> simp only [Bool.false_eq_true] at hb
    simp only [AV.cells,List.length_cons,List.length_nil] at h1;subst h1;obtain ⟨h3,h4,h5,_⟩:=h2 0 (by omega)
    have h6:=Rel.intInv h5;simp only [Nat.zero_add,Nat.mul_one,Nat.add_zero] at h3;simp only [intAV] at hfi;rw [hfi];exact ⟨rfl,by rw [h3,h6]⟩
   have hrs:=run_strOf (P:=P) (w:=w) s d e hs' hd hu8 B off q.len cap f (fun i hi=>(hf i hi).2)
   refine OpOut.same h (u:=.string ⟨⟨(List.range q.len).map fun i=>UInt8.ofNat (f i).toNat⟩⟩) (hrun _ (by rw [hv]; exact hrs)) ?_
   have e1:((List.range q.len).map fun i=>byteAV (q.get i))=((List.range q.len).map fun i=>UInt8.ofNat (f i).toNat):=by
    apply List.map_congr_left;intro i hi;rw [(hf i (by simpa using hi)).1]; rfl
   rw [e1];exact .pure (.str _)
 ·cases hs
end
theorem foldl_put:∀ (vs:List Value) (off k:Nat) (cells:Array Value),off+k+vs.length<=cells.size ->
  (vs.zipIdx k).foldl (fun cs x=>cs.setIfInBounds (off+x.2) x.1) cells=(cells.toList.take (off+k)++vs++cells.toList.drop (off+k+vs.length)).toArray
 | [],off,k,cells,_=>by simp
 | v::vs,off,k,cells,h=>by
  simp only [List.zipIdx_cons,List.foldl_cons];rw [foldl_put vs off (k+1) (cells.setIfInBounds (off+k) v) (by simp at h ⊢; omega)]
  congr 1;have e:=list_seg_step cells.toList (off+k) v vs (by simp at h ⊢; omega)
  simpa [Array.toList_setIfInBounds,Nat.add_assoc] using e
def CellsR (ρ:Rho) (M:Mem) (cs:Array Value) (l:List AV):Prop:=cs.size=l.length/\∀ i,i<l.length->Rel ρ M (cs.getD i undef) (l.getD i .undef)
theorem splice_getD (l xs:List AV) (j i:Nat) (h:j+xs.length<=l.length):(splice l j xs).getD i .undef=if i<j then l.getD i .undef else if i<j+xs.length then xs.getD (i - j) .undef else l.getD i .undef:=by
 unfold splice;rw [List.getD,spliced l xs j i h];simp only [List.getD];split
 ·rfl
 ·split <;> rfl
theorem arr_getD (l:List Value) (i:Nat):l.toArray.getD i undef=l.getD i undef:=by
 simp [Array.getD,List.getD];split
 ·rename_i h; simp [h]
 ·rename_i h; rw [List.getElem?_eq_none (by omega)]; rfl
theorem cells_rel {ρ M} {v:Value} {x:AV} (h:Rel ρ M v x) (hx:x.isCell=true\/∃ l,x=.agg l):CellsR ρ M v.cells x.cells:=by
 rcases hx with hx|⟨l,rfl⟩
 ·rw [oneCell_cells (h.oneCell hx),cells_isCell hx];refine ⟨rfl,fun i hi=>?_⟩
  have:i=0:=by simpa using hi
  subst this;exact h
 ·obtain ⟨cs,rfl,hs,hr⟩:=h.aggInv;exact ⟨hs,hr⟩
theorem CellsR.splice {ρ M} {cs vs:Array Value} {l xs:List AV} {j:Nat} (h:CellsR ρ M cs l) (hv:CellsR ρ M vs xs) (hj:j+xs.length<=l.length) :
  CellsR ρ M (cs.toList.take j++vs.toList++cs.toList.drop (j+vs.size)).toArray (splice l j xs):=by
 have h1:j+vs.toList.length<=cs.toList.length:=by have:=h.1; have:=hv.1; simp; omega
 refine ⟨?_,fun i hi=>?_⟩
 ·have:=spliced_len cs.toList vs.toList j h1;have h2:=spliced_len l xs j hj;simp only [Array.length_toList] at this;simp only [List.size_toArray,this,Pw.splice,h2,h.1]
 ·rw [splice_getD l xs j i hj,arr_getD,List.getD];have h2:=spliced cs.toList vs.toList j i h1;simp only [Array.length_toList] at h2;rw [h2];have hl:(Pw.splice l j xs).length=l.length:=spliced_len l xs j hj;rw [hl] at hi;by_cases hij:i<j
  ·rw [if_pos hij,if_pos hij];have:=h.2 i (by omega)
   have hi':i<cs.size:=by have:=h.1; omega
   simpa [Array.getD,hi'] using this
  ·rw [if_neg hij,if_neg hij];have hvs:=hv.1;by_cases hij2:i<j+xs.length
   ·rw [if_pos hij2,if_pos (by omega)]
    have:=hv.2 (i - j) (by omega)
    have hi':i - j<vs.size:=by omega
    simpa [Array.getD,hi'] using this
   ·rw [if_neg hij2,if_neg (by omega)]
    have:=h.2 i hi;have hi':i<cs.size:=by have:=h.1; omega
    simpa [Array.getD,hi'] using this
theorem partOK_inv {x:AV} (h:partOK x=true):x.isCell=true\/∃ l,x=.agg l:=by
 cases x <;> first|exact .inl h|exact .inr ⟨_,rfl⟩
theorem fill_rel {ρ M} (place:Nat->Option (Nat×Nat)) (e:Operand->Value) (ev:Operand->AV):∀ (parts:List (Nat×Operand)) (cells:Array Value) (l l':List AV),
  (∀ q∈parts,Rel ρ M (e q.2) (ev q.2))->CellsR ρ M cells l ->
  fillAV place l (parts.map fun q=>(q.1,ev q.2))=some l'->∃ cells',Instr.fill place cells (parts.map fun q=>(q.1,e q.2))=some cells'/\CellsR ρ M cells' l'
 | [],cells,l,l',_,hc,h=>by
  simp only [List.map_nil,fillAV,Option.some.injEq] at h;subst h;exact ⟨cells,rfl,hc⟩
 | (i,x)::parts,cells,l,l',hr,hc,h=>by
  simp only [List.map_cons,fillAV] at h;split at h
  ·cases h
  rename_i off size hp;split at h
  case isFalse=>cases h
  rename_i hcnd;obtain ⟨hok,h1,h2⟩:=hcnd;have h0:=cells_rel (hr (i,x) (by simp)) (partOK_inv hok)
  have hsz:(e x).cells.size=(ev x).cells.length:=h0.1;have h1':(ev x).cells.length=size:=h1;have h2':off+(ev x).cells.length<=l.length:=h2;have hcs:=hc.1;have hput:=foldl_put (e x).cells.toList off 0 cells (by simp; omega)
  obtain ⟨cells',e1,e2⟩:=fill_rel place e ev parts _ _ l' (fun q hq=>hr q (by simp [hq])) (hc.splice h0 h2) h
  refine ⟨cells',?_,e2⟩;simp only [List.map_cons,Instr.fill,hp];rw [if_neg (by simp; omega)]
  rw [<- e1];congr 1;rw [<- Array.foldl_toList,Array.toList_zipIdx];simpa using hput
section
variable {P:Program} {o:Oper} {U:Base} {w0:World} {n:Nat} {ρ:Rho} {M:Mem} {tm:Nat->AV} {hp:Nat->Blk} {nx:Nat} {a:Act} {w:World}
theorem step_makeSlice (h : SRel U w0 n ρ M tm hp nx a w) (t : TypeId) (x y : Operand) (ho : o.op = .makeSlice t x y) (ev : Operand -> AV) (hx : Rel ρ M (a.eval x) (ev x)) (hy : Rel ρ M (a.eval y) (ev y)) (need v eff ob)
    (hs : stepOp P (.makeSlice t x y) ev hp nx = some ⟨need, v, eff, ob⟩) (hn : need = true) : OpOut P o U w0 n ρ M tm hp nx a w v eff := by
  simp only [stepOp] at hs
  split at hs
  case h_2 => cases hs
  rename_i e l c hu hex hey
  simp only [Option.bind_eq_some_iff] at hs
  obtain ⟨z, hz, hs⟩ := hs
  split at hs
  case isFalse => cases hs
  rename_i hok
  simp only [Bool.and_eq_true, decide_eq_true_eq] at hok
  simp only [Option.some.injEq, SR.mk.injEq] at hs
  obtain ⟨h0, rfl, rfl, rfl⟩ := hs
  rw [<- h0] at hn
  simp only [decide_eq_true_eq] at hn
  obtain ⟨n0, rfl, n1, n2⟩ := hn
  simp only [zeroAV, Option.map_eq_some_iff, Option.bind_eq_some_iff] at hz
  obtain ⟨zv, ⟨i, hi, hzv⟩, rfl⟩ := hz
  rw [hex] at hx; rw [hey] at hy
  have hqx := hx.intInv
  have hqy := hy.intInv
  obtain ⟨i', hi', hsz⟩ := info_of_cells (P := P) hok.2
  rw [hi] at hi'; cases hi'
  have hby : P.bytesOf e = i.bytes := by simp [Program.bytesOf, hi]
  have hrun := run_make (P := P) w t e i zv hu hi hzv .i64 .i64 l l n0 (Int.le_refl _) (by rw [hby] at n1; rw [Int.mul_comm]; omega) n2
  have hrel : Rel ρ M zv (avOf zv) := .pure (avOf_rel M zv)
  obtain ⟨q1, q2, q3⟩ := hrel.elem hok.1
  have hzs : zv.cells.size = i.size := by rw [q1, hsz]
  have hmade : ∀ k, k < l.toNat * i.size -> (madeCells zv.cells (l.toNat * i.size))[k]? = some (zv.cells.getD (k % i.size) undef) := by
    intro k hk
    have hlt : k % i.size < zv.cells.size := by rw [hzs]; exact Nat.mod_lt _ (by omega)
    have e1 : zv.cells[k % i.size]! = zv.cells[k % i.size] := getElem!_pos zv.cells _ hlt
    have e2 : zv.cells.getD (k % i.size) undef = zv.cells[k % i.size] := by simp [Array.getD, hlt]
    rw [e2, <- e1]
    simp [madeCells, hk, hzs]
  have hms : (madeCells zv.cells (l.toNat * i.size)).size = l.toNat * i.size := by simp [madeCells]
  have hfree := h.free nx 0 (Nat.le_refl _)
  rw [<- hsz]
  refine ⟨.slice (some ⟨w.heap.size, 0, none⟩) l.toNat l.toNat, _, updR ρ nx 0 ⟨w.heap.size, 0, (madeCells zv.cells (l.toNat * i.size)).size, i.size, l.toNat, false, none⟩, M, .inl ?_, RX.upd (updR_ext _ hfree) (.inl (Nat.le_refl _)), MExt.refl M, ?_,
    h.alloc i.size (avOf zv).isPure (.fn l.toNat fun _ => avOf zv) (madeCells zv.cells (l.toNat * i.size)) e w rfl rfl rfl rfl (by omega) (by rw [hms]; exact Nat.le_refl _) ?_⟩
  · simp only [execOp, ho, hqx, hqy]
    rw [run_v, hrun]; rfl
  · have := Rel.sl (ρ := updR ρ nx 0 ⟨w.heap.size, 0, (madeCells zv.cells (l.toNat * i.size)).size, i.size, l.toNat, false, none⟩) (M := M) _ nx 0 0 l.toNat l.toNat (some l.toNat) (updR_same _ _ _ _) rfl (Nat.le_refl _) (fun k hk => by cases hk; rfl) (by simp [hms]) (by simp only [maxLen]; omega) (by simp)
    simpa using this
  · intro k hk
    refine ⟨by simpa [Sq.get, hsz] using q2, fun j hj => ?_⟩
    have hlt : k * i.size + j < l.toNat * i.size := by
      have : k * i.size + i.size <= l.toNat * i.size := by rw [<- Nat.succ_mul]; exact Nat.mul_le_mul_right _ hk
      omega
    have hmod : (k * i.size + j) % i.size = j := by rw [Nat.mul_comm, Nat.mul_add_mod]; exact Nat.mod_eq_of_lt hj
    have := hmade _ hlt
    rw [hmod] at this
    obtain ⟨u, k1, k2, k3, k4⟩ := hrel.elemAt hok.1 j (by rw [<- hsz]; exact hj)
    have hj' : j < zv.cells.size := by omega
    have e2 : zv.cells.getD j undef = u := by
      obtain ⟨hlt, he⟩ := Array.getElem?_eq_some_iff.1 k1
      simp [Array.getD, hlt, he]
    rw [e2] at this
    exact ⟨u, this, k2, by simpa [Sq.get] using k3, by simpa [Sq.get] using k4⟩
theorem places_mapM:∀ (fs:List Field),(fs.all fun f=>(P.info? f.type).isSome)=true->fs.mapM (fun f=>(P.info? f.type).map fun i=>(f.offset,i.size))=some (fs.map fun f=>(f.offset,P.cellsOf f.type))
 | [],_=>by simp
 | f::fs,h=>by
  simp only [List.all_cons,Bool.and_eq_true] at h;obtain ⟨i,hi⟩:=Option.isSome_iff_exists.1 h.1;have ih:=places_mapM fs h.2;simp [List.mapM_cons,hi,ih,Program.cellsOf]
theorem step_build (h:SRel U w0 n ρ M tm hp nx a w) (t:TypeId) (parts:Array (Nat×Operand)) (ho:o.op=.build t parts) (ev:Operand->AV) (hx:∀ q∈parts.toList,Rel ρ M (a.eval q.2) (ev q.2)) (need v eff ob)
  (hs:stepOp P (.build t parts) ev hp nx=some ⟨need,v,eff,ob⟩):OpOut P o U w0 n ρ M tm hp nx a w v eff:=by
 simp only [stepOp,Option.bind_eq_some_iff] at hs;obtain ⟨z,hz,hs⟩:=hs;simp only [zeroAV,Option.map_eq_some_iff,Option.bind_eq_some_iff] at hz;obtain ⟨zv,⟨i,hi,hzv⟩,hze⟩:=hz;have hr:Rel ρ M zv z:=by rw [<- hze]; exact .pure (avOf_rel M zv)
 have hparts:(parts.map fun q=>(q.1,a.eval q.2)).toList=parts.toList.map fun q=>(q.1,a.eval q.2):=by simp
 have fin:∀ cells' cs,P.built t (parts.toList.map fun q=>(q.1,a.eval q.2))=some cells'->CellsR ρ M cells' cs->OpOut P o U w0 n ρ M tm hp nx a w (.agg cs) []:=by
  intro cells' cs hb hc;have:=run_build (P:=P) w t (parts.map fun q=>(q.1,a.eval q.2)) cells' (by rw [hparts]; exact hb)
  refine OpOut.same h (u:=.agg cells') ?_ (.agg _ _ hc.1 hc.2);simp only [execOp,ho];rw [run_v,this]; rfl
 split at hs
 ·rename_i fs zc hu;split at hs
  case isFalse=>cases hs
  rename_i hall;simp only [Option.bind_eq_some_iff,ok1,Option.some.injEq,SR.mk.injEq] at hs;obtain ⟨cs,hf,_,rfl,rfl,rfl⟩:=hs;obtain ⟨cells',e1,e2⟩:=fill_rel _ a.eval ev parts.toList zv.cells _ cs hx (cells_rel hr (.inr ⟨_,rfl⟩)) hf
  refine fin cells' cs ?_ e2;simp only [Program.built,hi,hu,hzv,places_mapM fs.toList hall];rw [<- e1];congr 1;funext i;simp
 ·rename_i m e zc hu;split at hs
  case isFalse=>cases hs
  rename_i hall;simp only [Option.bind_eq_some_iff,ok1,Option.some.injEq,SR.mk.injEq] at hs;obtain ⟨cs,hf,_,rfl,rfl,rfl⟩:=hs;obtain ⟨cells',e1,e2⟩:=fill_rel _ a.eval ev parts.toList zv.cells _ cs hx (cells_rel hr (.inr ⟨_,rfl⟩)) hf
  refine fin cells' cs ?_ e2;obtain ⟨ie,hie⟩:=Option.isSome_iff_exists.1 hall;simp only [Program.built,hi,hu,hzv,hie];rw [<- e1];simp [Program.cellsOf,hie]
 ·cases hs
def RowC (ρ:Rho) (M:Mem) (c:Array Value) (sz:Nat) (l:List AV):Prop :=
 c.size=l.length * sz/\∀ i,i<l.length->(l.getD i .undef).cells.length=sz/\∀ j,j<sz->∃ v,c[i * sz+j]?=some v/\v.oneCell'=true /\
  Rel ρ M v ((l.getD i .undef).cells.getD j .undef)/\((l.getD i .undef).isPure=true->RelP M v ((l.getD i .undef).cells.getD j .undef))
theorem RowC.put {ρ M} {c:Array Value} {sz:Nat} {l:List AV} (h:RowC ρ M c sz l) {v:Value} {x:AV} (hr:Rel ρ M v x) (hx:x.okElem sz=true) (i:Nat) (hi:i<l.length) :
  RowC ρ M (c.toList.take (i * sz)++v.cells.toList++c.toList.drop (i * sz+v.cells.size)).toArray sz (l.set i x):=by
 have hsz:v.cells.size=sz:=(hr.elem hx).1;have hle:i * sz+sz<=c.size:=by rw [h.1,<- Nat.succ_mul]; exact Nat.mul_le_mul_right _ hi
 have hfit:i * sz+v.cells.toList.length<=c.toList.length:=by simp; omega
 refine ⟨?_,fun k hk=>?_⟩
 ·have:=spliced_len c.toList v.cells.toList (i * sz) hfit;simp only [Array.length_toList] at this;simp only [List.size_toArray,this,List.length_set,h.1]
 ·rw [List.length_set] at hk;have hget:(l.set i x).getD k .undef=if k=i then x else l.getD k .undef:=by
   simp only [List.getD,List.getElem?_set];by_cases hik:i=k
   ·subst hik; simp [hi]
   ·rw [if_neg hik,if_neg (Ne.symm hik)]
  rw [hget];by_cases hki:k=i
  ·subst hki;simp only [if_true];refine ⟨okElem_one hx,fun j hj=>?_⟩
   obtain ⟨u,k1,k2,k3,k4⟩:=hr.elemAt hx j hj;refine ⟨u,?_,k2,k3,k4⟩;have hsp:=spliced c.toList v.cells.toList (k * sz) (k * sz+j) hfit;simp only [Array.length_toList] at hsp
   rw [List.getElem?_toArray,hsp,if_neg (by omega),if_pos (by omega),Nat.add_sub_cancel_left]
   simpa using k1
  ·simp only [if_neg hki];obtain ⟨m1,m2⟩:=h.2 k hk;refine ⟨m1,fun j hj=>?_⟩
   obtain ⟨u,k1,k2,k3,k4⟩:=m2 j hj;refine ⟨u,?_,k2,k3,k4⟩;have hsp:=spliced c.toList v.cells.toList (i * sz) (k * sz+j) hfit;simp only [Array.length_toList] at hsp;rw [List.getElem?_toArray,hsp];by_cases hlt:k * sz+j<i * sz
   ·rw [if_pos hlt]; simpa using k1
   ·rw [if_neg hlt,if_neg ?_]
    ·simpa using k1
    ·intro hlt2;have:=@idx_ne k i j (k * sz+j - i * sz) sz hj (by omega) hki
     omega
theorem fill_rows {ρ M} (e:Operand->Value) (ev:Operand->AV) (sz:Nat):∀ (parts:List (Nat×Operand)) (c:Array Value) (l:List AV),
  (∀ q∈parts,Rel ρ M (e q.2) (ev q.2)/\q.1<l.length/\(ev q.2).okElem sz=true)->RowC ρ M c sz l ->
  ∃ c',Instr.fill (fun i=>some (i * sz,sz)) c (parts.map fun q=>(q.1,e q.2))=some c'/\RowC ρ M c' sz (setAll l (parts.map fun q=>(q.1,ev q.2)))
 | [],c,l,_,hc=>⟨c,rfl,hc⟩
 | (i,x)::parts,c,l,hr,hc=>by
  obtain ⟨h1,h2,h3⟩:=hr (i,x) (by simp)
  have hsz:(e x).cells.size=sz:=(Rel.elem h1 h3).1;have hi:i<l.length:=h2;have hle:i * sz+sz<=c.size:=by rw [hc.1,<- Nat.succ_mul]; exact Nat.mul_le_mul_right _ hi
  have hput:=foldl_put (e x).cells.toList (i * sz) 0 c (by simp; omega)
  obtain ⟨c',e1,e2⟩:=fill_rows e ev sz parts _ (l.set i (ev x)) (fun q hq=>by
   have:=hr q (by simp [hq])
   rw [List.length_set]; exact this) (hc.put h1 h3 i hi)
  refine ⟨c',?_,e2⟩;simp only [List.map_cons,Instr.fill];rw [if_neg (by simp; omega)]
  rw [<- e1];congr 1;rw [<- Array.foldl_toList,Array.toList_zipIdx];simpa using hput
theorem step_buildSlice (h : SRel U w0 n ρ M tm hp nx a w) (t : TypeId) (len : Nat) (parts : Array (Nat × Operand)) (ho : o.op = .buildSlice t len parts) (ev : Operand -> AV) (hx : ∀ q ∈ parts.toList, Rel ρ M (a.eval q.2) (ev q.2)) (need v eff ob)
    (hs : stepOp P (.buildSlice t len parts) ev hp nx = some ⟨need, v, eff, ob⟩) : OpOut P o U w0 n ρ M tm hp nx a w v eff := by
  simp only [stepOp] at hs
  split at hs
  case h_2 => cases hs
  rename_i e hu
  simp only [Option.bind_eq_some_iff] at hs
  obtain ⟨z, hz, hs⟩ := hs
  split at hs
  case isFalse => cases hs
  rename_i hc
  simp only [Bool.and_eq_true, decide_eq_true_eq, List.all_eq_true] at hc
  obtain ⟨⟨⟨h1, h2⟩, h3⟩, h4⟩ := hc
  simp only [Option.some.injEq, SR.mk.injEq] at hs
  obtain ⟨_, rfl, rfl, rfl⟩ := hs
  simp only [zeroAV, Option.map_eq_some_iff, Option.bind_eq_some_iff] at hz
  obtain ⟨zv, ⟨i, hi, hzv⟩, hze⟩ := hz
  have hr : Rel ρ M zv z := by rw [<- hze]; exact .pure (avOf_rel M zv)
  obtain ⟨i', hi', hsz⟩ := info_of_cells (P := P) h3
  rw [hi] at hi'; cases hi'
  have hzs : zv.cells.size = P.cellsOf e := (hr.elem h1).1
  have hrow0 : RowC ρ M ((Array.range (len * P.cellsOf e)).map (zv.cells[· % zv.cells.size]!)) (P.cellsOf e) (List.replicate len z) := by
    refine ⟨by simp, fun k hk => ?_⟩
    rw [List.length_replicate] at hk
    have hg : (List.replicate len z).getD k .undef = z := by simp [List.getD, hk]
    rw [hg]
    refine ⟨okElem_one h1, fun j hj => ?_⟩
    obtain ⟨u, k1, k2, k3, k4⟩ := hr.elemAt h1 j hj
    refine ⟨u, ?_, k2, k3, k4⟩
    have hlt : k * P.cellsOf e + j < len * P.cellsOf e := by
      have : k * P.cellsOf e + P.cellsOf e <= len * P.cellsOf e := by rw [<- Nat.succ_mul]; exact Nat.mul_le_mul_right _ hk
      omega
    have hmod : (k * P.cellsOf e + j) % zv.cells.size = j := by rw [hzs, Nat.mul_comm, Nat.mul_add_mod]; exact Nat.mod_eq_of_lt hj
    have hj' : j < zv.cells.size := by omega
    have e1 : zv.cells[j]! = zv.cells[j] := getElem!_pos zv.cells _ hj'
    have e2 : zv.cells[j] = u := by
      obtain ⟨hlt, he⟩ := Array.getElem?_eq_some_iff.1 k1
      exact he
    simp [hlt, hmod, e1, e2]
  obtain ⟨c', e1, e2⟩ := fill_rows a.eval ev (P.cellsOf e) parts.toList _ _ (fun q hq => ⟨hx q hq, by have := (h4 q hq).1; simpa using this, (h4 q hq).2⟩) hrow0
  have hparts : (parts.map fun q => (q.1, a.eval q.2)).toList = parts.toList.map fun q => (q.1, a.eval q.2) := by simp
  have hlen : ∀ (l : List AV) (ps : List (Nat × AV)), (setAll l ps).length = l.length := by
    intro l ps
    induction ps generalizing l with
    | nil => rfl
    | cons p ps ih => simp [setAll, ih]
  have hl : (setAll (List.replicate len z) (parts.toList.map fun q => (q.1, ev q.2))).length = len := by rw [hlen]; simp
  generalize setAll (List.replicate len z) (parts.toList.map fun q => (q.1, ev q.2)) = l at e2 hl ⊢
  have hcs : c'.size = len * P.cellsOf e := by rw [e2.1, hl]
  have hfree := h.free nx 0 (Nat.le_refl _)
  refine ⟨.slice (some ⟨w.heap.size, 0, none⟩) len len, _, updR ρ nx 0 ⟨w.heap.size, 0, c'.size, P.cellsOf e, l.length, false, none⟩, M, .inl ?_, RX.upd (updR_ext _ hfree) (.inl (Nat.le_refl _)), MExt.refl M, ?_,
    h.alloc (P.cellsOf e) (l.all AV.isPure) (.lst l) c' e w rfl rfl rfl rfl h3 (by simp only [Sq.len]; rw [hl, hcs]; exact Nat.le_refl _) ?_⟩
  · simp only [execOp, ho]
    rw [run_v]
    have hnot : ¬ (len * P.cellsOf e > 2 ^ 24) := by omega
    unfold Instr.buildSlice
    simp only [Sem.run_bind, run_underlying hu, Result.andThen_ok, run_sizeOf' hi]
    rw [if_neg hnot]
    by_cases h0 : len * P.cellsOf e = 0
    · rw [if_pos h0]
      have hr0 : Array.range 0 = #[] := rfl
      rw [h0, hr0] at e1 ⊢
      simp only [List.map_toArray, List.map_nil] at e1
      simp only [Sem.run_bind, Sem.run_pure, Result.andThen_ok, List.map_toArray, List.map_nil, hparts, e1]
      simp [newRow]
    · rw [if_neg h0]
      simp only [Sem.run_bind, Sem.run_pure, Result.andThen_ok, zeroValue, typeInfo, run_program, hi, hzv, hparts, e1]
      simp [newRow]
  · have := Rel.sl (ρ := updR ρ nx 0 ⟨w.heap.size, 0, c'.size, P.cellsOf e, l.length, false, none⟩) (M := M) _ nx 0 0 len len (some len) (updR_same _ _ _ _) rfl (Nat.le_refl _) (fun k hk => by cases hk; rfl) (by simp [hcs]) (by have : len <= len * P.cellsOf e := Nat.le_mul_of_pos_right _ (by omega); simp only [maxLen]; omega) (by simp [hl])
    simpa using this
  · intro k hk
    simp only [Sq.len] at hk
    obtain ⟨m1, m2⟩ := e2.2 k hk
    refine ⟨m1, fun j hj => ?_⟩
    obtain ⟨u, k1, k2, k3, k4⟩ := m2 j hj
    refine ⟨u, k1, k2, k3, fun hp => k4 ?_⟩
    rw [List.all_eq_true] at hp
    have : l.getD k .undef = l[k] := by simp [List.getD, hk]
    rw [this]; exact hp _ (List.getElem_mem hk)
end
theorem Sq.app_len (q xs:Sq):(q.app xs).len=q.len+xs.len:=by
 cases q with
 | lst l =>
  cases l with
  | nil=>simp [Sq.app,Sq.len]
  | cons x l=>cases xs <;> simp [Sq.app,Sq.len] <;> omega
 | fn n f=>cases xs <;> simp [Sq.app,Sq.len]
theorem Sq.app_get (q xs:Sq) (k:Nat) (hk:k<q.len+xs.len):(q.app xs).get k=if k<q.len then q.get k else xs.get (k - q.len):=by
 cases q with
 | lst l =>
  cases l with
  | nil=>simp [Sq.app,Sq.len]
  | cons x l =>
   cases xs with
   | lst m =>
    show ((x::l)++m).getD k .undef=if k<(x::l).length then (x::l).getD k .undef else m.getD (k - (x::l).length) .undef
    simp only [List.getD];by_cases h:k<(x::l).length
    ·rw [if_pos h,List.getElem?_append_left h]
    ·rw [if_neg h,List.getElem?_append_right (by omega)]
   | fn n f=>rfl
 | fn n f =>
  cases xs with
  | lst m=>rfl
  | fn n' f'=>rfl
structure Src (P:Program) (ρ:Rho) (M:Mem) (w:World) (sz:Nat) (v:Value) (s:Sq) (pu:Bool) (news:List Value):Prop where
 len:∀ w',(Builtin.lenOf v).run P w'=.ok s.len w'
 cells:∀ w',(∀ ad,w'.cell? ad=w.cell? ad)->(Builtin.firstCells sz s.len v).run P w'=.ok news.toArray w'
 size:news.length=s.len * sz
 one:∀ u∈news,u.oneCell'=true
 place:∀ B off len cap,v=.slice (some ⟨B,off,none⟩) len cap->∀ k,k<news.length->w.cell? ⟨B,off+k,none⟩=news[k]?
 rel:∀ i,i<s.len->(s.get i).cells.length=sz/\∀ j,j<sz->∃ u,news[i * sz+j]?=some u/\u.oneCell'=true/\Rel ρ M u ((s.get i).cells.getD j .undef)/\(pu=true->RelP M u ((s.get i).cells.getD j .undef))
section
variable {P:Program} {o:Oper} {U:Base} {w0:World} {n:Nat} {ρ:Rho} {M:Mem} {tm:Nat->AV} {hp:Nat->Blk} {nx:Nat} {a:Act} {w:World}
theorem sized_inv {s:Sq} {sz:Nat} (h:s.sized sz=true) (h0:0<s.len):(s.get 0).cells.length=sz:=by
 cases s with
 | lst l =>
  simp only [Sq.sized,List.all_eq_true,beq_iff_eq] at h;have hl:0<l.length:=h0;have:l.getD 0 .undef=l[0]:=by simp [List.getD,hl]
  simp only [Sq.get,this];exact h _ (List.getElem_mem hl)
 | fn n f=>simp only [Sq.sized,beq_iff_eq] at h; exact h
theorem sizedAt (h:SRel U w0 n ρ M tm hp nx a w) {v:Value} {x:AV} (hx:Rel ρ M v x) {s:Sq} {ok:Bool} (hs:elemsOf hp x=some (s,ok)) (hok:ok=true) {sz:Nat} (hsz:sizedAV hp x s sz=true) (h0:0<s.len):(s.get 0).cells.length=sz:=by
 subst hok;unfold sizedAV at hsz;split at hsz
 case h_2=>exact sized_inv hsz h0
 rename_i b g i len c;simp only [elemsOf] at hs;split at hs
 case h_2=>cases hs
 rename_i g' sz' pu q hb;simp only [Option.some.injEq,Prod.mk.injEq,decide_eq_true_eq] at hs;obtain ⟨hs,hg⟩:=hs;subst hs; subst hg;obtain ⟨L,hL,hc⟩:=hx.slInv;rcases hc with ⟨hv,cap,rfl,k1,k2,k3,k4,k5⟩|⟨h1,k2,ad,rfl⟩
 ·obtain ⟨L',e1,e2,e3,h6⟩:=h.rowLoc hb;rw [hL] at e1; cases e1;have hlen:(q.sub i len).len=len:=Sq.sub_len q i len (by omega)
  rcases h6 with ⟨h6,_⟩|⟨_,cc,e,h7,h8,h9,h10,h11⟩
  ·rw [hv] at h6; cases h6
  rw [Sq.sub_get q i len 0 (by omega)]
  rw [(h11 (i+0) (by omega)).1]
  simpa [rowSz,hb] using hsz
 ·subst h1;have hlen:(q.sub i 0).len=0:=by cases q <;> simp [Sq.sub,Sq.len]
  omega
theorem Src.ofElems {v:Value} {s:Sq} {pu:Bool} {sz:Nat} (h:ElemsAt ρ M w v s pu) (hs:0<s.len->(s.get 0).cells.length=sz) (h1:1<=sz):∃ news,Src P ρ M w sz v s pu news:=by
 obtain ⟨ad,cap,rfl,hcap,hel⟩:=h;rcases hel with h0|⟨B,off,sz',vals,rfl,hel⟩
 ·refine ⟨[],fun w'=>by simp [Builtin.lenOf],fun w' _=>?_,by simp [h0],by simp,fun _ _ _ _ _ k hk=>by simp at hk,fun i hi=>by omega⟩
  rw [h0];cases ad <;> simp [Builtin.firstCells,loadCells,loadCellsFrom]
 ·rcases Nat.eq_zero_or_pos s.len with h0|h0
  ·refine ⟨[],fun w'=>by simp [Builtin.lenOf],fun w' _=>?_,by simp [h0],by simp,fun _ _ _ _ _ k hk=>by simp at hk,fun i hi=>by omega⟩
   rw [h0];simp [Builtin.firstCells,loadCells,loadCellsFrom]
  ·have hsz:sz'=sz:=by rw [<- hs h0,(hel 0 h0).1]
   subst hsz;have hdiv:∀ k,k<s.len * sz'->k / sz'<s.len/\k % sz'<sz'/\k / sz' * sz'+k % sz'=k:=by
    intro k hk;refine ⟨Nat.div_lt_of_lt_mul (by rw [Nat.mul_comm]; exact hk),Nat.mod_lt _ (by omega),?_⟩
    rw [Nat.mul_comm]; exact Nat.div_add_mod k sz'
   refine ⟨(List.range (s.len * sz')).map fun k=>vals (k / sz') (k % sz'),fun w'=>by simp [Builtin.lenOf],fun w' hw'=>?_,by simp,?_,?_,?_⟩
   ·simp only [Builtin.firstCells];refine run_loadCells (P:=P) w' ⟨B,off,none⟩ (s.len * sz') _ (fun k hk=>?_)
    obtain ⟨k1,k2,k3⟩:=hdiv k hk;have:=((hel _ k1).2 _ k2).1;rw [add_eq,hw',<- this];congr 2; omega
   ·intro u hu;simp only [List.mem_map,List.mem_range] at hu;obtain ⟨k,hk,rfl⟩:=hu;obtain ⟨k1,k2,k3⟩:=hdiv k hk;exact ((hel _ k1).2 _ k2).2.1
   ·intro B' off' len' cap' hv k hk;cases hv;have hk':k<s.len * sz':=by simpa using hk
    obtain ⟨k1,k2,k3⟩:=hdiv k hk';have:=((hel _ k1).2 _ k2).1;rw [Nat.add_assoc,k3] at this;rw [this];simp [hk']
   ·intro i hi;refine ⟨(hel i hi).1,fun j hj=>?_⟩
    have hlt:i * sz'+j<s.len * sz':=by
     have:i * sz'+sz'<=s.len * sz':=by rw [<- Nat.succ_mul]; exact Nat.mul_le_mul_right _ hi
     omega
    have e1:(i * sz'+j) / sz'=i:=by
     rw [Nat.mul_comm,Nat.mul_add_div (by omega),Nat.div_eq_of_lt hj]; rfl
    have e2:(i * sz'+j) % sz'=j:=by rw [Nat.mul_comm,Nat.mul_add_mod]; exact Nat.mod_eq_of_lt hj
    have:=(hel i hi).2 j hj;exact ⟨vals i j,by simp [hlt,e1,e2],this.2.1,this.2.2.1,this.2.2.2⟩
theorem Src.ofStr (l:List UInt8):∃ news,Src P ρ M w 1 (.string ⟨⟨l⟩⟩) (Sq.fn l.length fun i=>.int .u8 ((l.getD i 0).toNat)) true news:=by
 refine ⟨l.map fun b=>.int .u8 b.toNat,fun w'=>by simp [Builtin.lenOf,Sq.len,ByteArray.size],fun w' _=>?_,by simp [Sq.len],?_,(fun _ _ _ _ hv=>by cases hv),?_⟩
 ·have e:(ByteArray.mk ⟨l⟩).extract 0 l.length=⟨⟨l⟩⟩:=by
   apply ByteArray.ext;apply Array.ext';simp [ByteArray.data_extract,Array.toList_extract,List.extract]
  simp [Builtin.firstCells,Sq.len,e]
 ·intro u hu;simp only [List.mem_map] at hu;obtain ⟨b,_,rfl⟩:=hu;rfl
 ·intro i hi;refine ⟨rfl,fun j hj=>?_⟩
  have:j=0:=by omega
  subst this;have hi':i<l.length:=hi;refine ⟨.int .u8 ((l.getD i 0).toNat),?_,rfl,.pure (.int _ _),fun _=>.int _ _⟩
  simp [List.getD,hi']
theorem run_append_fit (ts t2 ty e:TypeId) (i:TypeInfo) (ht:P.underlying ts=some (.slice e)) (hi:P.info? e=some i) (ht2:∃ d,P.underlying t2=some d/\∀ k,d≠.int k)
  (base:Option Addr) (sLen sCap m:Nat) (x:Value) (news:List Value) (hl:∀ w',(Builtin.lenOf x).run P w'=.ok m w') (hc:∀ w',(∀ ad,w'.cell? ad=w.cell? ad)->(Builtin.firstCells i.size m x).run P w'=.ok news.toArray w')
  (hfit:sLen+m<=sCap) (w1:World) (hst:∀ ad,base=some ad->(storeCells (ad.add (sLen * i.size)) news).run P w=.ok () w1) (hnone:base=none->w1=w) :
  (Builtin.append_ #[ts,t2] ty #[.slice base sLen sCap,x]).run P w=.ok (.slice base (sLen+m) sCap) w1:=by
 obtain ⟨d2,hd2,hni⟩:=ht2;have hm:(match d2 with|.int _=>true|_=>false)=false:=by cases d2 <;> first|rfl|exact absurd rfl (hni _)
 have hcw:=hc w (fun _=>rfl)
 unfold Builtin.append_;simp [run_underlying ht,run_underlying hd2,Go.sizeOf,typeInfo,hi,hl,hfit,hcw];cases base with
 | none=>simp [hnone rfl]
 | some ad=>simp [hst ad rfl]
theorem run_append_new (ts t2 ty e:TypeId) (i:TypeInfo) (z:Value) (ht:P.underlying ts=some (.slice e)) (hi:P.info? e=some i) (hz:i.zero=some z) (ht2:∃ d,P.underlying t2=some d/\∀ k,d≠.int k)
  (base:Option Addr) (sLen sCap m:Nat) (x:Value) (olds news:List Value) (hl:∀ w',(Builtin.lenOf x).run P w'=.ok m w') (hc:∀ w',(∀ ad,w'.cell? ad=w.cell? ad)->(Builtin.firstCells i.size m x).run P w'=.ok news.toArray w')
  (hcs:∀ w',(∀ ad,w'.cell? ad=w.cell? ad)->(Builtin.firstCells i.size sLen (.slice base sLen sCap)).run P w'=.ok olds.toArray w')
  (hfit:sCap<sLen+m) (h63:sLen+m<=9223372036854775807) (hby:(sLen+m) * i.bytes<=140737488355328) :
  (Builtin.append_ #[ts,t2] ty #[.slice base sLen sCap,x]).run P w =
   .ok (.slice (some ⟨w.heap.size,0,none⟩) (sLen+m) (grownCap w (sLen+m) sCap e))
    (w.drew.alloc (.cells (olds.toArray++news.toArray++Builtin.zeroCells z.cells (grownCap w (sLen+m) sCap e - (sLen+m))) e)):=by
 obtain ⟨d2,hd2,hni⟩:=ht2;have hn:¬ (sLen+m<=sCap):=by omega
 have h63':¬ (9223372036854775807<((sLen:Int)+(m:Int))):=by omega
 have hf:=growslice_fits (by omega:sCap<sLen+m) hby
 have hf':¬ (281474976710656<Builtin.nextslicecap (sLen+m) sCap * i.bytes):=by omega
 have hcw:=hc w.drew (fun _=>rfl)
 have hcsw:=hcs w.drew (fun _=>rfl)
 unfold Builtin.append_;simp [run_underlying ht,run_underlying hd2,Go.sizeOf,typeInfo,hi,hl,hn,hf',Question.forced,grownCap,hcw,hcsw,zeroValue,hz,newRow];rw [if_neg (fun hh=>h63' hh.1)]
 simp [<- Array.append_assoc]
def RowsL (ρ:Rho) (M:Mem) (l:List Value) (sz:Nat) (s:Sq) (pu:Bool):Prop :=
 l.length=s.len * sz/\∀ i,i<s.len->(s.get i).cells.length=sz/\∀ j,j<sz->∃ u,l[i * sz+j]?=some u/\u.oneCell'=true/\Rel ρ M u ((s.get i).cells.getD j .undef)/\(pu=true->RelP M u ((s.get i).cells.getD j .undef))
theorem RowsL.app {ρ M} {l m:List Value} {sz:Nat} {q xs:Sq} {p1 p2:Bool} (h1:RowsL ρ M l sz q p1) (h2:RowsL ρ M m sz xs p2):RowsL ρ M (l++m) sz (q.app xs) (p2&&p1):=by
 refine ⟨by rw [List.length_append,h1.1,h2.1,Sq.app_len,Nat.add_mul],fun i hi=>?_⟩
 rw [Sq.app_len] at hi;rw [Sq.app_get q xs i hi];by_cases hq:i<q.len
 ·rw [if_pos hq];obtain ⟨k1,k2⟩:=h1.2 i hq;refine ⟨k1,fun j hj=>?_⟩
  obtain ⟨u,m1,m2,m3,m4⟩:=k2 j hj;have hlt:i * sz+j<l.length:=(List.getElem?_eq_some_iff.1 m1).1;exact ⟨u,by rw [List.getElem?_append_left hlt]; exact m1,m2,m3,fun hp=>m4 (by simp at hp; exact hp.2)⟩
 ·rw [if_neg hq];obtain ⟨k1,k2⟩:=h2.2 (i - q.len) (by omega)
  refine ⟨k1,fun j hj=>?_⟩
  obtain ⟨u,m1,m2,m3,m4⟩:=k2 j hj;have hge:l.length<=i * sz+j:=by rw [h1.1]; have:=Nat.mul_le_mul_right sz (Nat.le_of_not_lt hq); omega
  refine ⟨u,?_,m2,m3,fun hp=>m4 (by simp at hp; exact hp.1)⟩
  rw [List.getElem?_append_right hge,h1.1,<- m1];congr 1;rw [Nat.sub_mul];have:=Nat.mul_le_mul_right sz (Nat.le_of_not_lt hq);omega
theorem RowsL.mono {ρ ρ' M} {l:List Value} {sz:Nat} {s:Sq} {pu:Bool} (h:RowsL ρ M l sz s pu) (hρ:RExt ρ ρ'):RowsL ρ' M l sz s pu :=
 ⟨h.1,fun i hi=>⟨(h.2 i hi).1,fun j hj=>let ⟨u,m1,m2,m3,m4⟩:=(h.2 i hi).2 j hj; ⟨u,m1,m2,m3.mono hρ (MExt.refl M),m4⟩⟩⟩
theorem Src.rows {sz:Nat} {v:Value} {s:Sq} {pu:Bool} {news:List Value} (h:Src P ρ M w sz v s pu news):RowsL ρ M news sz s pu:=⟨h.size,h.rel⟩
structure Free (ρ:Rho) (hp:Nat->Blk) (nx b g:Nat):Prop where
 none:∀ g',g<=g'->ρ b g'=Option.none
 live:nx<=b\/hp b≠.dead
theorem out_app0 (h:SRel U w0 n ρ M tm hp nx a w) (b g sz:Nat) (pu:Bool) (s:Sq) (hs:s.len=0) (h1:1<=sz) (hfree:Free ρ hp nx b g)
  (ad:Option Addr) (hrun:(execOp a.eval o).run P w=.ok (.value (.slice ad 0 0)) w) :
  OpOut P o U w0 n ρ M tm hp nx a w (.sl b g 0 0 none) [(b,.row g sz pu s)]:=by
 refine ⟨_,w,updR ρ b g ⟨0,0,0,sz,0,true,none⟩,M,.inl hrun,RX.upd (updR_ext _ (hfree.none g (Nat.le_refl _))) hfree.live,MExt.refl M,.slv _ ad b g 0 none (updR_same _ _ _ _) (by simp),?_⟩
 exact h.upd b g sz pu s ⟨0,0,0,sz,0,true,none⟩ (updR_ext _ (hfree.none g (Nat.le_refl _))) (fun b' g' hne=>updR_ne _ _ _ _ hne) (updR_same _ _ _ _)
  ⟨_,updR_same _ _ _ _,rfl,⟨h1,hs⟩,.inl ⟨rfl,hs⟩⟩ (.inl rfl) (fun g' hg=>hfree.none g' (by omega)) rfl rfl rfl (Nat.le_refl _) (fun _ _ _=>rfl)
theorem out_app1 (h:SRel U w0 n ρ M tm hp nx a w) (b g sz:Nat) (pu:Bool) (s:Sq) (h1:1<=sz) (hfree:Free ρ hp nx b g)
  (l:List Value) (hrows:RowsL ρ M l sz s pu) (rest:Array Value) (e:TypeId) (cap:Nat) (hcap:cap<=maxLen) (hrest:rest.size=(cap - s.len) * sz) (hle:s.len<=cap)
  (hrun:(execOp a.eval o).run P w=.ok (.value (.slice (some ⟨w.heap.size,0,none⟩) s.len cap)) (w.drew.alloc (.cells (l.toArray++rest) e))) :
  OpOut P o U w0 n ρ M tm hp nx a w (.sl b g 0 s.len none) [(b,.row g sz pu s)]:=by
 have hcs:(l.toArray++rest).size=cap * sz:=by
  simp only [Array.size_append,List.size_toArray,hrows.1,hrest,<- Nat.add_mul];congr 1; omega
 have hext:=updR_ext ⟨w.heap.size,0,(l.toArray++rest).size,sz,s.len,false,none⟩ (hfree.none g (Nat.le_refl _))
 refine ⟨_,_,updR ρ b g ⟨w.heap.size,0,(l.toArray++rest).size,sz,s.len,false,none⟩,M,.inl hrun,RX.upd hext hfree.live,MExt.refl M,?_,?_⟩
 ·have:=Rel.sl (ρ:=updR ρ b g ⟨w.heap.size,0,(l.toArray++rest).size,sz,s.len,false,none⟩) (M:=M) _ b g 0 s.len cap none (updR_same _ _ _ _) rfl hle (by simp) (by simp [hcs]) hcap (by simp)
  simpa using this
 ·refine h.upd b g sz pu s ⟨w.heap.size,0,(l.toArray++rest).size,sz,s.len,false,none⟩ hext (fun b' g' hne=>updR_ne _ _ _ _ hne) (updR_same _ _ _ _)
   ⟨_,updR_same _ _ _ _,rfl,⟨h1,rfl⟩,.inr ⟨rfl,l.toArray++rest,e,heap_alloc_new w.drew _,rfl,by simp only [hcs,Nat.zero_add]; exact Nat.mul_le_mul_right _ hle,?_,?_⟩⟩
   (.inr (.inl (Nat.le_refl _))) (fun g' hg=>hfree.none g' (by omega)) rfl rfl rfl (by simp) (fun B hB _=>heap_alloc_old w.drew _ B hB)
  ·intro i;cases hm:M w.heap.size i with
   | none=>rfl
   | some v=>have:=h.hok.mem_lt hm; omega
  ·intro i hi;refine ⟨(hrows.2 i hi).1,fun j hj=>?_⟩
   obtain ⟨u,m1,m2,m3,m4⟩:=(hrows.mono hext).2 i hi |>.2 j hj;have hlt:i * sz+j<l.length:=(List.getElem?_eq_some_iff.1 m1).1;refine ⟨u,?_,m2,m3,m4⟩;simp only [Nat.zero_add];rw [Array.getElem?_append_left (by simpa using hlt)]
   simpa using m1
theorem out_app2 (h:SRel U w0 n ρ M tm hp nx a w) (b g0 g sz:Nat) (pu0 pu:Bool) (s0 s:Sq) (L0:Loc) (hb:hp b=.row g0 sz pu0 s0) (hL0:ρ b g0=some L0) (hv:L0.virt=false) (h1:1<=sz) (hfree:Free ρ hp nx b g)
  (l:List Value) (hrows:RowsL ρ M l sz s pu) (o' cap:Nat) (hcap:cap<=maxLen) (hle:s.len<=cap) (hfit:o'+cap * sz<=L0.csz) (w':World) (c':Array Value) (e:TypeId)
  (hnew:w'.heap[L0.B]?=some (.cells c' e (0,0))) (hcs:c'.size=L0.csz) (hc':∀ k,k<l.length->c'[o'+k]?=l[k]?) (hM:∀ i,M L0.B i=none)
  (hos:w'.os=w.os) (htape:w'.tape=w.tape) (hout:w'.output=w.output) (hsz:w.heap.size<=w'.heap.size) (hw:∀ B,B<w.heap.size->B≠L0.B->w'.heap[B]?=w.heap[B]?)
  (hrun:(execOp a.eval o).run P w=.ok (.value (.slice (some ⟨L0.B,o',none⟩) s.len cap)) w') :
  OpOut P o U w0 n ρ M tm hp nx a w (.sl b g 0 s.len none) [(b,.row g sz pu s)]:=by
 have hext:=updR_ext ⟨L0.B,o',L0.csz,sz,s.len,false,none⟩ (hfree.none g (Nat.le_refl _));refine ⟨_,_,updR ρ b g ⟨L0.B,o',L0.csz,sz,s.len,false,none⟩,M,.inl hrun,RX.upd hext hfree.live,MExt.refl M,?_,?_⟩
 ·have:=Rel.sl (ρ:=updR ρ b g ⟨L0.B,o',L0.csz,sz,s.len,false,none⟩) (M:=M) _ b g 0 s.len cap none (updR_same _ _ _ _) rfl hle (by simp) (by simpa using hfit) hcap (by simp)
  simpa using this
 ·refine h.upd b g sz pu s ⟨L0.B,o',L0.csz,sz,s.len,false,none⟩ hext (fun b' g' hne=>updR_ne _ _ _ _ hne) (updR_same _ _ _ _)
   ⟨_,updR_same _ _ _ _,rfl,⟨h1,rfl⟩,.inr ⟨rfl,c',e,hnew,hcs,?_,hM,?_⟩⟩
   (.inr (.inr ⟨g0,sz,pu0,s0,L0,hb,hL0,hv,rfl⟩)) (fun g' hg=>hfree.none g' (by omega)) hos htape hout hsz (fun B hB hne=>hw B hB (by
    rcases hne with h0|h0
    ·cases h0
    ·exact h0))
  ·have:=Nat.mul_le_mul_right sz hle;show o'+s.len * sz<=L0.csz;omega
  ·intro i hi;refine ⟨(hrows.2 i hi).1,fun j hj=>?_⟩
   obtain ⟨u,m1,m2,m3,m4⟩:=(hrows.mono hext).2 i hi |>.2 j hj;have hlt:i * sz+j<l.length:=(List.getElem?_eq_some_iff.1 m1).1;refine ⟨u,?_,m2,m3,m4⟩;show c'[o'+i * sz+j]?=some u;rw [Nat.add_assoc,hc' _ hlt];exact m1
theorem step_append (h : SRel U w0 n ρ M tm hp nx a w) (ts t2 : TypeId) (s x : Operand) (ho : o.op = .call { callee := .builtin .append, args := #[s, x], argTypes := #[ts, t2] }) (ev : Operand -> AV)
    (hsr : Rel ρ M (a.eval s) (ev s)) (hxr : Rel ρ M (a.eval x) (ev x)) (ht2 : ∃ d, P.underlying t2 = some d /\ ∀ k, d ≠ .int k) (need v eff ob)
    (hs : appendAV P ts hp nx (ev s) (ev x) = some ⟨need, v, eff, ob⟩) (hn : need = true) : OpOut P o U w0 n ρ M tm hp nx a w v eff := by
  unfold appendAV at hs
  split at hs
  case h_2 => cases hs
  rename_i e hu
  simp only [Option.bind_eq_some_iff] at hs
  obtain ⟨⟨xs, okx⟩, hxs, hs⟩ := hs
  split at hs
  case isFalse => cases hs
  rename_i hc
  simp only [Bool.and_eq_true, decide_eq_true_eq] at hc
  obtain ⟨⟨hsized, h1⟩, hz⟩ := hc
  simp only [Option.bind_eq_some_iff] at hs
  obtain ⟨⟨q, oks⟩, hq, hs⟩ := hs
  split at hs
  case isFalse => cases hs
  rename_i hqs
  have hz' : ∃ z, zeroAV P e = some z /\ z.okElem (P.cellsOf e) = true := by
    unfold okZero at hz
    cases hze : zeroAV P e with
    | none => rw [hze] at hz; cases hz
    | some z => rw [hze] at hz; exact ⟨z, rfl, hz⟩
  obtain ⟨z, hz, hzok⟩ := hz'
  simp only [zeroAV, Option.map_eq_some_iff, Option.bind_eq_some_iff] at hz
  obtain ⟨zv, ⟨i, hi, hzv⟩, hze⟩ := hz
  obtain ⟨i', hi', hsz⟩ := info_of_cells (P := P) h1
  rw [hi] at hi'; cases hi'
  have hby : P.bytesOf e = i.bytes := by simp [Program.bytesOf, hi]
  have hzc : zv.cells.size = P.cellsOf e := by
    have hr : Rel ρ M zv z := by rw [<- hze]; exact .pure (avOf_rel M zv)
    exact (hr.elem hzok).1
  have hneed : okx = true /\ oks = true /\ room (q.len + xs.len) (P.bytesOf e) = true := by
    revert hs
    generalize ev s = es at hq
    intro hs
    split at hs
    · simp only [elemsOf, Option.some.injEq, Prod.mk.injEq] at hq
      split at hs
      all_goals
        simp only [Option.some.injEq, SR.mk.injEq] at hs
        have := hs.1.trans hn
        simp only [Bool.and_eq_true] at this
        exact ⟨this.1, hq.2.symm, this.2⟩
    · simp only [elemsOf, Option.some.injEq, Prod.mk.injEq] at hq
      simp only [Option.some.injEq, SR.mk.injEq] at hs
      have := hs.1.trans hn
      simp only [Bool.and_eq_true] at this
      exact ⟨this.1.1, hq.2.symm, this.1.2⟩
    · simp only [elemsOf, Option.some.injEq, Prod.mk.injEq] at hq
      simp only [Option.some.injEq, SR.mk.injEq] at hs
      have := hs.1.trans hn
      simp only [Bool.and_eq_true] at this
      exact ⟨this.1.1, hq.2.symm, this.1.2⟩
    · split at hs
      case isFalse => cases hs
      simp only [Option.some.injEq, SR.mk.injEq] at hs
      have := hs.1.trans hn
      simp only [Bool.and_eq_true] at this
      exact ⟨this.1.1, this.1.2, this.2⟩
    · simp only [Option.some.injEq, SR.mk.injEq] at hs
      have := hs.1.trans hn
      simp only [Bool.and_eq_true] at this
      exact ⟨this.1.1.1.1, this.1.1.1.2, this.1.1.2⟩
    · cases hs
  obtain ⟨hokx, hoks, hroom⟩ := hneed
  simp only [room, decide_eq_true_eq] at hroom
  have hsrc : ∃ news, Src P ρ M w (P.cellsOf e) (a.eval x) xs (puOf hp (ev x)) news := by
    split at hxs
    · rename_i l hl
      split at hxs
      · simp only [Option.some.injEq, Prod.mk.injEq] at hxs
        obtain ⟨rfl, _⟩ := hxs
        have hs1 : P.cellsOf e = 1 := by
          have hsized' : (Sq.fn l.length fun i => .int .u8 ((l.getD i 0).toNat)).sized (P.cellsOf e) = true := by simpa [sizedAV, hl] using hsized
          have := sized_inv (s := Sq.fn (l.length + 1) fun i => .int .u8 ((l.getD i 0).toNat)) (sz := P.cellsOf e) hsized' (by simp [Sq.len])
          simpa [Sq.get, AV.cells] using this.symm
        rw [hl] at hxr ⊢
        rw [hxr.strInv, hs1]
        exact Src.ofStr l
      · cases hxs
    · exact Src.ofElems (P := P) (elemsAt h hxr hxs hokx) (sizedAt h hxr hxs hokx hsized) h1
  obtain ⟨news, hnews⟩ := hsrc
  have hold := elemsAt h hsr hq hoks
  obtain ⟨olds, holds⟩ := Src.ofElems (P := P) hold (sizedAt h hsr hq hoks hqs) h1
  obtain ⟨base, sCap, hsv, hcap, _⟩ := hold
  have hrows := holds.rows.app hnews.rows
  have hrun : ∀ r w1, (Builtin.append_ #[ts, t2] o.type #[.slice base q.len sCap, a.eval x]).run P w = .ok r w1 -> (execOp a.eval o).run P w = .ok (.value r) w1 := by
    intro r w1 hr
    simp only [execOp, ho, resolve, invoke, builtin]
    simp [hsv, hr]
  have new : ∀ b g S pu, Free ρ hp nx b g -> sCap < q.len + xs.len -> S.len = q.len + xs.len -> RowsL ρ M (olds ++ news) (P.cellsOf e) S pu ->
      OpOut P o U w0 n ρ M tm hp nx a w (.sl b g 0 (q.len + xs.len) none) [(b, .row g (P.cellsOf e) pu S)] := by
    intro b g S pu hfree hgt hS hrowsS
    have hr := run_append_new (P := P) (w := w) ts t2 o.type e i zv hu hi hzv ht2 base q.len sCap xs.len (a.eval x) olds news hnews.len (by rw [hsz]; exact hnews.cells) (by rw [hsz, <- hsv]; exact holds.cells) hgt hroom.2 (by rw [<- hby]; exact hroom.1)
    have hge := grownCap_ge w (q.len + xs.len) sCap e
    have hcm2 := grownCap_le_maxLen w (q.len + xs.len) sCap e (by simp only [maxLen]; omega)
    have := out_app1 (P := P) (o := o) h b g (P.cellsOf e) pu S h1 hfree (olds ++ news) hrowsS (Builtin.zeroCells zv.cells (grownCap w (q.len + xs.len) sCap e - (q.len + xs.len))) e (grownCap w (q.len + xs.len) sCap e) hcm2
      (by rw [size_zeroCells, hzc, hS]) (by rw [hS]; exact hge) (by
        rw [hS]
        refine hrun _ _ ?_
        rw [hr]
        simp)
    rw [hS] at this
    exact this
  have zero : ∀ b g S pu, Free ρ hp nx b g -> q.len + xs.len = 0 -> sCap = 0 -> S.len = q.len + xs.len -> OpOut P o U w0 n ρ M tm hp nx a w (.sl b g 0 (q.len + xs.len) none) [(b, .row g (P.cellsOf e) pu S)] := by
    intro b g S pu hfree h0 hc0 hS
    have hn0 : news = [] := List.eq_nil_of_length_eq_zero (by rw [hnews.size]; have : xs.len = 0 := by omega
                                                              rw [this]; simp)
    have hr := run_append_fit (P := P) (w := w) ts t2 o.type e i hu hi ht2 base q.len sCap xs.len (a.eval x) news hnews.len (by rw [hsz]; exact hnews.cells) (by omega) w (fun ad _ => by rw [hn0]; rfl) (fun _ => rfl)
    rw [h0]
    refine out_app0 h b g (P.cellsOf e) pu S (by rw [hS]; exact h0) h1 hfree base (hrun _ _ ?_)
    rw [hr, h0, hc0]
  have hfresh : Free ρ hp nx nx 0 := ⟨fun g' _ => h.free nx g' (Nat.le_refl _), .inl (Nat.le_refl _)⟩
  have fresh : ∀ S pu, S.len = q.len + xs.len -> RowsL ρ M (olds ++ news) (P.cellsOf e) S pu -> (q.len + xs.len <= sCap -> q.len + xs.len = 0 /\ sCap = 0) ->
      OpOut P o U w0 n ρ M tm hp nx a w (.sl nx 0 0 (q.len + xs.len) none) [(nx, .row 0 (P.cellsOf e) pu S)] := by
    intro S pu hS hrS hz
    rcases Nat.lt_or_ge sCap (q.len + xs.len) with hlt | hge
    · exact new nx 0 S pu hfresh hlt hS hrS
    · exact zero nx 0 S pu hfresh (hz hge).1 (hz hge).2 hS
  have hlen : (q.app xs).len = q.len + xs.len := Sq.app_len q xs
  generalize ev s = es at hs hq hsr hrows
  split at hs
  · -- nil
    simp only [elemsOf, Option.some.injEq, Prod.mk.injEq] at hq
    obtain ⟨rfl, _⟩ := hq
    have hq0 : (Sq.lst []).len = 0 := rfl
    have hv0 : a.eval s = .slice none 0 0 := by
      generalize a.eval s = q at hsr
      cases hsr with | pure h => cases h; rfl
    rw [hv0] at hsv
    cases hsv
    split at hs
    · simp only [Option.some.injEq, SR.mk.injEq] at hs
      obtain ⟨_, rfl, rfl, rfl⟩ := hs
      have hn0 : news = [] := List.eq_nil_of_length_eq_zero (by rw [hnews.size]; simp [Sq.len])
      have hr := run_append_fit (P := P) (w := w) ts t2 o.type e i hu hi ht2 none 0 0 0 (a.eval x) news hnews.len (by rw [hsz]; exact hnews.cells) (by omega) w (fun ad h => by cases h) (fun _ => rfl)
      exact OpOut.same h (hrun _ _ hr) (.pure .nils)
    simp only [Option.some.injEq, SR.mk.injEq] at hs
    obtain ⟨_, rfl, rfl, rfl⟩ := hs
    have ho0 : olds = [] := List.eq_nil_of_length_eq_zero (by rw [holds.size, hq0]; simp)
    have := fresh xs (puOf hp (ev x) && puOf hp .nils) (by rw [hq0]; omega) (by
      rw [ho0]
      exact ⟨hnews.size, fun i hi => ⟨(hnews.rel i hi).1, fun j hj => let ⟨u, k1, k2, k3, k4⟩ := (hnews.rel i hi).2 j hj; ⟨u, k1, k2, k3, fun hp => k4 (by simp at hp; exact hp.1)⟩⟩⟩) (fun hle => by omega)
    rw [hq0, Nat.zero_add] at this
    exact this
  · -- a list that fills its room
    rename_i l
    simp only [elemsOf, Option.some.injEq, Prod.mk.injEq] at hq
    simp only [Option.some.injEq, SR.mk.injEq] at hs
    obtain ⟨hnd, rfl, rfl, rfl⟩ := hs
    obtain ⟨rfl, _⟩ := hq
    have hnd' := hnd.trans hn
    simp only [Bool.and_eq_true, Bool.or_eq_true, bne_iff_ne, beq_iff_eq, ne_eq] at hnd'
    have hcapq : sCap = l.length := by
      have hro := hsr.rolInv
      rw [hsv] at hro
      rcases hro with ⟨k1, ad, cap, k2, k3, k4, k5⟩ | ⟨k1, B, off, cap, sz, vals, k2, k3, k4, k5, _⟩
      · simp only [Value.slice.injEq] at k2
        rw [k2.2.2, k4 rfl]; exact k1.symm
      · simp only [Value.slice.injEq] at k2
        rw [k2.2.2]; exact k5 rfl
    refine fresh _ _ hlen hrows (fun hle => ?_)
    have e1 : (Sq.lst l).len = l.length := rfl
    rw [e1] at hle hnd' ⊢
    omega
  · -- the same, by a function
    rename_i nn f
    simp only [elemsOf, Option.some.injEq, Prod.mk.injEq] at hq
    simp only [Option.some.injEq, SR.mk.injEq] at hs
    obtain ⟨hnd, rfl, rfl, rfl⟩ := hs
    obtain ⟨rfl, _⟩ := hq
    have hnd' := hnd.trans hn
    simp only [Bool.and_eq_true, Bool.or_eq_true, bne_iff_ne, beq_iff_eq, ne_eq] at hnd'
    have hcapq : sCap = nn := by
      have hro := hsr.rofInv
      rw [hsv] at hro
      rcases hro with ⟨k1, ad, cap, k2, k3, k4, k5⟩ | ⟨k1, B, off, cap, sz, vals, k2, k3, k4, k5, _⟩
      · simp only [Value.slice.injEq] at k2
        rw [k2.2.2, k4 rfl]; exact k1.symm
      · simp only [Value.slice.injEq] at k2
        rw [k2.2.2]; exact k5 rfl
    refine fresh _ _ hlen hrows (fun hle => ?_)
    have e1 : (Sq.fn nn f).len = nn := rfl
    rw [e1] at hle hnd' ⊢
    omega
  · -- a row that grows
    rename_i b g i0 len
    simp only [elemsOf] at hq
    split at hq
    case h_2 => cases hq
    rename_i g' sz0 pu0 s0 hb
    simp only [Option.some.injEq, Prod.mk.injEq] at hq
    obtain ⟨rfl, hg⟩ := hq
    rw [hoks] at hg
    have hg' : g = g' := by simpa using hg
    subst hg'
    split at hs
    case isFalse => cases hs
    rename_i hrz
    have hsz0 : sz0 = P.cellsOf e := by rw [<- hrz]; simp [rowSz, hb]
    subst hsz0
    simp only [Option.some.injEq, SR.mk.injEq] at hs
    obtain ⟨_, rfl, rfl, rfl⟩ := hs
    obtain ⟨L, hL, hcase⟩ := hsr.slInv
    have hgen : Free ρ hp nx b (g + 1) := ⟨fun g' hgg => h.hok.gen b g _ pu0 s0 hb g' (by omega), .inr (by rw [hb]; simp)⟩
    rcases Nat.lt_or_ge sCap ((s0.sub i0 len).len + xs.len) with hlt | hge
    · exact new b (g + 1) _ _ hgen hlt hlen hrows
    rcases hcase with ⟨hv, cap, hqv, k1, k2, k3, k4, k5⟩ | ⟨k1, k2, ad, hqv⟩
    · rw [hqv] at hsv
      simp only [Value.slice.injEq] at hsv
      obtain ⟨hbase, hlen0, hcap0⟩ := hsv
      obtain ⟨L', e1, e2, e3, hrow⟩ := h.rowLoc hb
      rw [hL] at e1; cases e1
      rcases hrow with ⟨hrow, _⟩ | ⟨_, c, el, h5, h6, h7, h8, h9⟩
      · rw [hv] at hrow; cases hrow
      have hql : (s0.sub i0 len).len = len := hlen0.symm
      have hos := holds.size
      have hns := hnews.size
      have hfit0 : L.o + i0 * L.sz + cap * P.cellsOf e <= L.csz := by rw [<- e2]; rw [Nat.add_mul] at k3; omega
      have hmul : ((s0.sub i0 len).len + xs.len) * P.cellsOf e <= cap * P.cellsOf e := Nat.mul_le_mul_right _ (by omega)
      rw [Nat.add_mul] at hmul
      have hfit : L.o + i0 * L.sz + (s0.sub i0 len).len * P.cellsOf e + 0 + news.length <= c.size := by omega
      have hst := run_storeCells_at P L.B (L.o + i0 * L.sz + (s0.sub i0 len).len * P.cellsOf e) el news 0 c w h5 hfit hnews.one
      have hbase' : base = some ⟨L.B, L.o + i0 * L.sz, none⟩ := hbase.symm
      have hr := run_append_fit (P := P) (w := w) ts t2 o.type e i hu hi ht2 base (s0.sub i0 len).len sCap xs.len (a.eval x) news hnews.len (by rw [hsz]; exact hnews.cells) hge _ (fun ad had => by
        rw [hbase'] at had
        cases had
        rw [add_eq, hsz]
        exact hst) (fun hnone => by rw [hbase'] at hnone; cases hnone)
      generalize hcc : (c.toList.take (L.o + i0 * L.sz + (s0.sub i0 len).len * P.cellsOf e + 0) ++ news ++ c.toList.drop (L.o + i0 * L.sz + (s0.sub i0 len).len * P.cellsOf e + 0 + news.length)).toArray = c' at hr
      have hcs : c'.size = c.size := by
        rw [<- hcc]
        have := spliced_len c.toList news (L.o + i0 * L.sz + (s0.sub i0 len).len * P.cellsOf e + 0) (by simpa using hfit)
        simpa using this
      have hout := out_app2 (P := P) (o := o) h b g (g + 1) (P.cellsOf e) pu0 _ s0 _ L hb hL hv h1 hgen (olds ++ news) hrows (L.o + i0 * L.sz) cap k4 (by rw [hlen]; omega) hfit0 (w.setRow L.B c') c' el (setRow_heap w L.B c c' el (0, 0) h5) (by rw [hcs, h6])
        (fun k hk => by
          rw [<- hcc, List.getElem?_toArray]
          have hsp := spliced c.toList news (L.o + i0 * L.sz + (s0.sub i0 len).len * P.cellsOf e + 0) (L.o + i0 * L.sz + k) (by simpa using hfit)
          rw [hsp]
          rw [List.length_append] at hk
          by_cases hko : k < olds.length
          · rw [if_pos (by omega), List.getElem?_append_left hko]
            have := holds.place L.B (L.o + i0 * L.sz) len cap hqv k hko
            rw [cell_of_row w L.B _ c el (0, 0) h5] at this
            simpa using this
          · rw [if_neg (by omega), if_pos (by omega), List.getElem?_append_right (by omega)]
            congr 1
            omega)
        h8 rfl rfl rfl (by simp) (fun B hB hne => setRow_other w L.B B _ hne) (by
          rw [hlen]
          refine hrun _ _ ?_
          rw [hr, hbase', hcap0])
      rw [hlen] at hout
      exact hout
    · rw [hqv] at hsv
      simp only [Value.slice.injEq] at hsv
      obtain ⟨hbase, hlen0, hcap0⟩ := hsv
      have : (s0.sub i0 len).len + xs.len = 0 := by omega
      exact zero b (g + 1) _ _ hgen this hcap0.symm hlen
  · -- a row that fills its room
    rename_i b g i0 len c
    simp only [elemsOf] at hq
    split at hq
    case h_2 => cases hq
    rename_i g' sz0 pu0 s0 hb
    simp only [Option.some.injEq, Prod.mk.injEq] at hq
    obtain ⟨rfl, hg⟩ := hq
    simp only [Option.some.injEq, SR.mk.injEq] at hs
    obtain ⟨hnd, rfl, rfl, rfl⟩ := hs
    have hnd' := hnd.trans hn
    simp only [Bool.and_eq_true, Bool.or_eq_true, bne_iff_ne, beq_iff_eq, ne_eq] at hnd'
    obtain ⟨L, hL, hcase⟩ := hsr.slInv
    refine fresh _ _ hlen hrows (fun hle => ?_)
    rcases hcase with ⟨hv, cap, hqv, k1, k2, k3, k4, k5⟩ | ⟨k1, k2, ad, hqv⟩
    · rw [hqv] at hsv
      simp only [Value.slice.injEq] at hsv
      have := k2 c rfl
      omega
    · rw [hqv] at hsv
      simp only [Value.slice.injEq] at hsv
      omega
  · cases hs
theorem SRel.more (h:SRel U w0 n ρ M tm hp nx a w) {nx':Nat} (hn:nx<=nx'):SRel U w0 n ρ M tm hp nx' a w :=
 { h with dead:=fun b hb=>h.dead b (by omega),free:=fun b g hb=>h.free b g (by omega) }
theorem step_appendZ (h:SRel U w0 n ρ M tm hp nx a w) (ts t2:TypeId) (s x:Operand) (ho:o.op=.call { callee:=.builtin .append,args:=#[s,x],argTypes:=#[ts,t2] }) (ev:Operand->AV)
  (hsr:Rel ρ M (a.eval s) (ev s)) (hxr:Rel ρ M (a.eval x) (ev x)) (ht2:∃ d,P.underlying t2=some d/\∀ k,d≠.int k) (nd v)
  (hs:appendZ P ts hp nx (ev s) (ev x)=some (nd,v)) (hn:nd=true) :
  (∃ g sz m m' F,OpOut P o U w0 n ρ M tm hp nx a w (.sl nx g 0 m none) [(nx,.row g sz true (.fn m' F))]/\v=.rof m F false) \/
   ((execOp a.eval o).run P w=.ok (.value (a.eval s)) w/\RelP M (a.eval s) v):=by
 unfold appendZ at hs;split at hs
 case h_2=>cases hs
 rename_i l k f ex hes hex;split at hs
 case h_2=>cases hs
 rename_i nd0 b' g' m b g sz m' F hap;split at hs
 case isFalse=>cases hs
 rename_i hc;obtain ⟨rfl,rfl,rfl⟩:=hc;simp only [Option.some.injEq,Prod.mk.injEq] at hs;obtain ⟨hnd,rfl⟩:=hs;subst hn;simp only [Bool.or_eq_true,beq_iff_eq] at hnd;rcases Nat.eq_zero_or_pos k with h0|h0
 case inr =>
  have hnd0:nd0=true:=by
   rcases hnd with h1|h1
   ·omega
   ·exact h1
  exact .inl ⟨g',sz,m,m',F,step_append h ts t2 s x ho ev hsr hxr ht2 nd0 _ _ _ (by rw [hes,hex]; exact hap) hnd0,rfl⟩
 subst h0;refine .inr ?_;rw [hes] at hsr;rw [hex] at hxr;unfold appendAV at hap;split at hap
 case h_2=>cases hap
 rename_i e hu;simp only [elemsOf,Option.bind_some] at hap;split at hap
 case isFalse=>cases hap
 rename_i hc;simp only [Bool.and_eq_true,decide_eq_true_eq] at hc;obtain ⟨⟨hsized,h1⟩,hz⟩:=hc;split at hap
 case isFalse=>cases hap
 simp only [Option.some.injEq,SR.mk.injEq,AV.sl.injEq,List.cons.injEq,Prod.mk.injEq,Blk.row.injEq] at hap;obtain ⟨i,hi,hsz⟩:=info_of_cells (P:=P) h1;have hxe:ElemsAt ρ M w (a.eval x) (.fn 0 f) (puOf hp (.rof 0 f ex)):=elemsAt h hxr rfl rfl
 obtain ⟨news,hnews⟩:=Src.ofElems (P:=P) hxe (fun h=>absurd h (Nat.lt_irrefl 0)) h1
 have hn0:news=[]:=List.eq_nil_of_length_eq_zero (by rw [hnews.size]; simp [Sq.len])
 have hro:=hsr.rolInv;have hlen:m=l.length:=by
  have:=hap.2.1.2.2.2.1;simpa [Sq.len] using this.symm
 have hF:∀ i,i<l.length->F i=l.getD i .undef:=by
  intro i hi;have:=hap.2.2.1.1.2.2.2.2;cases l with
  | nil=>exact absurd hi (Nat.not_lt_zero _)
  | cons y l =>
   simp only [Sq.app,Sq.fn.injEq] at this;rw [<- this.2];have h3:i<(Sq.lst (y::l)).len:=hi;simp only [h3,if_true];rfl
 have run:∀ base sCap,a.eval s=.slice base l.length sCap->l.length<=sCap->(execOp a.eval o).run P w=.ok (.value (a.eval s)) w:=by
  intro base sCap hsv hle;have hr:=run_append_fit (P:=P) (w:=w) ts t2 o.type e i hu hi ht2 base l.length sCap 0 (a.eval x) news hnews.len (by rw [hsz]; exact hnews.cells) (by omega) w (fun ad _=>by rw [hn0]; rfl) (fun _=>rfl)
  simp only [execOp,ho,resolve,invoke,builtin];simp [hsv,hr]
 rcases hro with ⟨k1,ad,cap,k2,k3,k4,k5⟩|⟨k1,B,off,cap,sz,vals,k2,k3,k4,k5,k6,k7,k8⟩
 ·refine ⟨run ad cap (by rw [k2,k1]) (by omega),?_⟩
  rw [k2,hlen,k1];exact .rof0 ad cap F false k3 (fun h=>by cases h) k5
 ·refine ⟨run _ cap k2 k3,?_⟩;rw [k2,hlen];refine .rof B off cap sz l.length F false vals k3 k4 (fun h=>by cases h) (fun i hi=>?_) k7 (fun i j hi hj=>?_)
  ·rw [hF i hi];exact k6 i hi
  ·rw [hF i hi];exact k8 i j hi hj
end
section
variable {P:Program} {o:Oper} {U:Base} {w0:World} {n:Nat} {ρ:Rho} {M:Mem} {tm:Nat->AV} {hp:Nat->Blk} {nx:Nat} {a:Act} {w:World}
theorem SRel.lt_nx (h:SRel U w0 n ρ M tm hp nx a w) {b:Nat} (hd:hp b≠.dead):b<nx:=by
 rcases Nat.lt_or_ge b nx with h1|h1
 ·exact h1
 ·exact absurd (h.dead b h1) hd
theorem SRel.grow (h:SRel U w0 n ρ M tm hp nx a w) {w':World} (hos:w'.os=w.os) (htape:w'.tape=w.tape) (hout:w'.output=w.output) (hsz:w.heap.size<=w'.heap.size) (hw:∀ B,B<w.heap.size->w'.heap[B]?=w.heap[B]?) :
  SRel U w0 n ρ M tm hp nx a w':=by
 refine ⟨h.size,h.tm,⟨fun B i v hm=>?_,fun b g sz pu s e=>?_,h.hok.inj,h.hok.gen,fun b st r e=>(h.hok.loop b st r e).mono (RExt.refl ρ) (MExt.refl M) fun L _ lp e2=>(hw L.B (heap_lt e2)).trans e2,h.hok.linj⟩,h.dead,h.free,
  ⟨hos.trans h.keep.os,htape.trans h.keep.tape,hout.trans h.keep.output,Nat.le_trans h.keep.size hsz,fun B hU hB=>(hw B (Nat.lt_of_lt_of_le hB h.keep.size)).trans (h.keep.block B hU hB)⟩,h.memN,h.memE,h.own,h.nle,h.ownL,h.defers,
  ⟨h.marks.1,fun r hr=>(hw r (heap_lt (h.marks.2 r hr))).trans (h.marks.2 r hr)⟩,h.mown,h.nod,h.extGrow hos htape hout hsz (MExt.refl M) (fun _ _ _ hm=>.inl hm) hw⟩
 ·rw [cell_congr (hw B (h.hok.mem_lt hm))];exact h.hok.mem B i v hm
 ·obtain ⟨L,h1,h2,h3,h4⟩:=h.hok.row b g sz pu s e;refine ⟨L,h1,h2,h3,?_⟩;rcases h4 with h4|⟨hv,c,ee,h5,h6⟩
  ·exact .inl h4
  ·exact .inr ⟨hv,c,ee,(hw L.B (heap_lt h5)).trans h5,h6⟩
theorem SRel.addMap (h:SRel U w0 n ρ M tm hp nx a w) :
  ∃ L:Loc,L.B=w.heap.size/\RExt ρ (updR ρ nx 0 L)/\SRel U w0 n (updR ρ nx 0 L) M tm (updH hp nx (.loop (.mp []) noRec)) (nx+1) a (w.alloc (.map #[] 0)):=by
 have k:=h.grow (w':=w.alloc (.map #[] 0)) rfl rfl rfl (by simp) (fun B hB=>heap_alloc_old w _ B hB)
 obtain ⟨L,hL⟩:∃ L:Loc,L=⟨w.heap.size,0,0,0,0,false,none⟩:=⟨_,rfl⟩
 have hfree:∀ g,ρ nx g=none:=fun g=>h.free nx g (Nat.le_refl _)
 have hext:=updR_ext L (hfree 0);have hlt:∀ b,hp b≠.dead->b<nx:=fun b hb=>h.lt_nx hb
 have hρ:∀ b g,b<nx->updR ρ nx 0 L b g=ρ b g:=fun b g hb=>updR_ne _ _ _ _ (fun e=>by omega)
 have hrow:∀ b g sz pu sq,updH hp nx (.loop (.mp []) noRec) b=.row g sz pu sq->hp b=.row g sz pu sq/\b<nx:=by
  intro b g sz pu sq e;simp only [updH] at e;split at e
  ·cases e
  ·exact ⟨e,hlt b (by rw [e]; simp)⟩
 have hloop:∀ b st r',updH hp nx (.loop (.mp []) noRec) b=.loop st r'->(b=nx/\st=.mp []/\r'=noRec)\/(hp b=.loop st r'/\b<nx):=by
  intro b st r' e;simp only [updH] at e;split at e
  ·cases e; exact .inl ⟨‹_›,rfl,rfl⟩
  ·exact .inr ⟨e,hlt b (by rw [e]; simp)⟩
 have hB:∀ b st r' L',hp b=.loop st r'->ρ b 0=some L'->L'.B<w.heap.size:=by
  intro b st r' L' e e';obtain ⟨L1,lp1,f1,f3⟩:=(h.hok.loop b st r' e).at
  rw [e'] at f1; cases f1;exact heap_lt f3
 refine ⟨L,by rw [hL],hext,⟨k.size,fun t=>(k.tm t).mono hext (MExt.refl M),⟨k.hok.mem,fun b g sz pu sq e=>?_,fun b b' g g' sz sz' pu pu' s s' L1 L2 e1 e2 f1 f2=>?_,fun b g sz pu sq e g' hg=>?_,fun b st r' e=>?_,fun b b' st st' r1 r2 L1 L2 e1 e2 f1 f2 hBB=>?_⟩,
  fun b hb=>?_,fun b g hb=>?_,k.keep,k.memN,k.memE,fun b g sz pu sq L' e f=>?_,k.nle,fun b st r' L' e f hU=>?_,k.defers.mono hext (MExt.refl M),k.marks,k.mown,k.nod,
  h.extStep (w':=w.alloc (.map #[] 0)) rfl rfl rfl (by simp) (fun b k on sp r e=>?_) (fun b g sz pu s L' h1 h2 h3=>?_) (fun b st r' L' h1 h2=>?_) (MExt.refl M) (fun _ _ _ hm=>.inl hm) (fun _ hr=>.inl hr) (fun _ h1 h2=>⟨h1,h2⟩) (fun b d e=>?_) (fun B hB=>.inl (heap_alloc_old w _ B hB))⟩⟩
 case refine_13 =>
  have hne:b≠nx:=fun e1=>by rw [e1] at e; simp [updH] at e
  simp only [updH,if_neg hne] at e;exact ⟨e,fun g=>updR_ne _ _ _ _ (fun e1=>hne e1.1)⟩
 case refine_10 =>
  rcases hloop b _ _ e with ⟨_,e2,_⟩|⟨e2,_⟩
  ·cases e2
  ·exact ⟨_,e2⟩
 case refine_11 =>
  obtain ⟨e,hb⟩:=hrow _ _ _ _ _ h1;rw [hρ b g hb] at h2;exact .inr ⟨b,g,sz,pu,s,L',e,h2,h3,rfl⟩
 case refine_12 =>
  rcases hloop b st r' h1 with ⟨rfl,_,_⟩|⟨e,hb⟩
  ·rw [updR_same] at h2; cases h2;exact .inl (by rw [hL]; exact Nat.le_refl _)
  ·rw [hρ b 0 hb] at h2;exact .inr ⟨st,r',L',e,h2,rfl⟩
 ·obtain ⟨e,hb⟩:=hrow _ _ _ _ _ e;obtain ⟨L',f1,f2,f3,f4⟩:=k.hok.row b g sz pu sq e;refine ⟨L',hext _ _ _ f1,f2,f3,?_⟩;rcases f4 with f4|⟨hv,c,ee,f5,f6,f7,f8,f9⟩
  ·exact .inl f4
  ·refine .inr ⟨hv,c,ee,f5,f6,f7,f8,fun i hi=>⟨(f9 i hi).1,fun j hj=>?_⟩⟩
   obtain ⟨v,m1,m2,m3,m4⟩:=(f9 i hi).2 j hj;exact ⟨v,m1,m2,m3.mono hext (MExt.refl M),m4⟩
 ·obtain ⟨e1,hb1⟩:=hrow _ _ _ _ _ e1;obtain ⟨e2,hb2⟩:=hrow _ _ _ _ _ e2;rw [hρ b g hb1] at f1;rw [hρ b' g' hb2] at f2;exact k.hok.inj b b' g g' sz sz' pu pu' s s' L1 L2 e1 e2 f1 f2
 ·obtain ⟨e,hb⟩:=hrow _ _ _ _ _ e;rw [hρ b g' hb];exact k.hok.gen b g sz pu sq e g' hg
 ·rcases hloop b st r' e with ⟨rfl,rfl,rfl⟩|⟨e,hb⟩
  ·refine .inr (.inl ⟨L,[],#[],0,.inl rfl,updR_same _ _ _ _,by rw [hL],?_,rfl,fun i hi=>by simp at hi⟩)
   rw [hL];exact heap_alloc_new w (.map #[] 0)
  ·exact (k.hok.loop b st r' e).mono hext (MExt.refl M) (fun _ _ _ e=>e)
 ·rcases hloop b st r1 e1 with ⟨q1,_,_⟩|⟨q1,hb1⟩ <;> rcases hloop b' st' r2 e2 with ⟨q2,_,_⟩|⟨q2,hb2⟩
  ·rw [q1,q2]
  ·subst q1;rw [updR_same] at f1; cases f1;rw [hρ b' 0 hb2] at f2;have:=hB b' st' r2 L2 q2 f2;rw [<- hBB,hL] at this;simp at this
  ·subst q2;rw [updR_same] at f2; cases f2;rw [hρ b 0 hb1] at f1;have:=hB b st r1 L1 q1 f1;rw [hBB,hL] at this;simp at this
  ·rw [hρ b 0 hb1] at f1;rw [hρ b' 0 hb2] at f2;exact k.hok.linj b b' st st' r1 r2 L1 L2 q1 q2 f1 f2 hBB
 ·simp only [updH];split
  ·omega
  ·exact h.dead b (by omega)
 ·rw [updR_ne _ _ _ _ (fun e=>by omega)]
  exact h.free b g (by omega)
 ·obtain ⟨e,hb⟩:=hrow _ _ _ _ _ e;rw [hρ b g hb] at f;exact k.own b g sz pu sq L' e f
 ·rcases hloop b st r' e with ⟨rfl,_,_⟩|⟨e,hb⟩
  ·rw [updR_same] at f; cases f;rw [hL];exact h.keep.size
  ·rw [hρ b 0 hb] at f;exact k.ownL b st r' L' e f hU
theorem SRel.setMap (h:SRel U w0 n ρ M tm hp nx a w) {b:Nat} {es:List (AV×AV)} {r:LoopB} (hb:hp b=.loop (.mp es) r) {L:Loc} (hL:ρ b 0=some L) (es2:List (AV×AV)) (es':Array MapEntry) (c:Nat) (hE:EntOK ρ M es' es2) :
  SRel U w0 n ρ M tm (updH hp b (.loop (.mp es2) r)) nx a (w.putObj L.B (.map es' c)):=by
 obtain ⟨L1,es1,es1',c1,e0,e1,e2,e3,e4⟩:=(h.hok.loop b (.mp es) r hb).mapOK;rw [hL] at e1; cases e1;have hlt:=heap_lt e3;have hnew:∀ B,B≠L.B->(w.putObj L.B (.map es' c)).heap[B]?=w.heap[B]?:=fun B hB=>World.putObj_heap_other hB
 have hsame:(w.putObj L.B (.map es' c)).heap[L.B]?=some (.map es' c):=World.putObj_heap_same hlt;have hrow:∀ b' g sz pu sq,updH hp b (.loop (.mp es2) r) b'=.row g sz pu sq->hp b'=.row g sz pu sq:=by
  intro b' g sz pu sq e;simp only [updH] at e;split at e
  ·cases e
  ·exact e
 have hloop:∀ b' st' r',updH hp b (.loop (.mp es2) r) b'=.loop st' r'->(b'=b/\r'=r/\st'=.mp es2)\/(b'≠b/\hp b'=.loop st' r'):=by
  intro b' st' r' e;simp only [updH] at e;split at e
  ·cases e; exact .inl ⟨‹_›,rfl,rfl⟩
  ·exact .inr ⟨‹_›,e⟩
 have hany:∀ b' st' r',updH hp b (.loop (.mp es2) r) b'=.loop st' r'->∃ st2,hp b'=.loop st2 r':=by
  intro b' st' r' e;rcases hloop b' st' r' e with ⟨rfl,rfl,_⟩|⟨_,e⟩
  ·exact ⟨_,hb⟩
  ·exact ⟨_,e⟩
 refine ⟨h.size,h.tm,⟨fun B i v hm=>?_,fun b' g sz pu sq e=>?_,fun b1 b2 g1 g2 sz1 sz2 pu1 pu2 s1 s2 L1 L2 f1 f2=>h.hok.inj b1 b2 g1 g2 sz1 sz2 pu1 pu2 s1 s2 L1 L2 (hrow _ _ _ _ _ f1) (hrow _ _ _ _ _ f2),fun b' g sz pu sq e=>h.hok.gen b' g sz pu sq (hrow _ _ _ _ _ e),
  fun b' st' r' e=>?_,fun b1 b2 st1 st2 r1 r2 L1 L2 f1 f2=>?_⟩,fun b' hb'=>?_,h.free,?_,h.memN,h.memE,fun b' g sz pu sq L' e=>h.own b' g sz pu sq L' (hrow _ _ _ _ _ e),h.nle,fun b' st' r' L' e=>?_,h.defers,⟨h.marks.1,fun q hq=>?_⟩,h.mown,h.nod,
  h.extStep (w':=w.putObj L.B (.map es' c)) rfl rfl rfl (by rw [World.putObj_size]; exact Nat.le_refl _) (fun b' k on sp r' e=>?_) (fun b' g sz pu s L' h1 h2 h3=>.inr ⟨b',g,sz,pu,s,L',hrow _ _ _ _ _ h1,h2,h3,rfl⟩)
   (fun b' st' r' L' h1 h2=>(by obtain ⟨st2,e⟩:=hany _ _ _ h1; exact .inr ⟨st2,r',L',e,h2,rfl⟩)) (MExt.refl M) (fun _ _ _ hm=>.inl hm) (fun _ hr=>.inl hr) (fun _ h1 h2=>⟨h1,h2⟩) (fun b' d e=>?_) (fun B _=>?_)⟩
 case refine_10 =>
  simp only [updH] at e;split at e
  ·cases e
  ·exact ⟨e,fun _=>rfl⟩
 case refine_9 =>
  rcases hloop b' _ _ e with ⟨_,_,e2⟩|⟨_,e2⟩
  ·cases e2
  ·exact ⟨_,e2⟩
 case refine_11 =>
  by_cases hB:B=L.B
  ·exact .inr (.inr (.inl ⟨b,_,r,L,hb,fun _ _ _ e=>(by cases e),hL,hB.symm⟩))
  ·exact .inl (hnew B hB)
 ·have hc:=h.hok.mem B i v hm;have hne:B≠L.B:=fun e=>by
   rw [e] at hc;have:=hc.1;simp [World.cell?,e3] at this
  rw [cell_congr (hnew B hne)];exact hc
 ·obtain ⟨L',k1,k2,k3,k4⟩:=h.hok.row b' g sz pu sq (hrow _ _ _ _ _ e);refine ⟨L',k1,k2,k3,?_⟩;rcases k4 with k4|⟨hv,c,ee,k5,k6⟩
  ·exact .inl k4
  ·refine .inr ⟨hv,c,ee,?_,k6⟩;rw [hnew L'.B (fun e'=>by rw [e',e3] at k5; cases k5)]
   exact k5
 ·rcases hloop b' st' r' e with ⟨rfl,rfl,rfl⟩|⟨hne,e'⟩
  ·exact .inr (.inl ⟨L,es2,es',c,.inl rfl,hL,e2,hsame,hE⟩)
  ·refine (h.hok.loop b' st' r' e').mono (RExt.refl ρ) (MExt.refl M) fun L' hL' lp' e2=>?_
   rw [hnew L'.B (fun eB=>hne (h.hok.linj b' b _ _ _ _ L' L e' hb hL' hL eB))]
   exact e2
 ·obtain ⟨_,f1'⟩:=hany _ _ _ f1;obtain ⟨_,f2'⟩:=hany _ _ _ f2;exact h.hok.linj b1 b2 _ _ _ _ L1 L2 f1' f2'
 ·simp only [updH];split
  ·subst b';have:=h.lt_nx (b:=b) (by rw [hb]; simp)
   omega
  ·exact h.dead b' hb'
 ·refine ⟨h.keep.os,h.keep.tape,h.keep.output,by rw [World.putObj_size]; exact h.keep.size,fun B hU hB=>?_⟩
  have hne:B≠L.B:=fun e=>by
   have:=h.ownL b _ r L hb hL (e▸hU);omega
  rw [hnew B hne];exact h.keep.block B hU hB
 ·obtain ⟨_,e'⟩:=hany _ _ _ e;exact h.ownL b' _ _ L' e'
 ·have hq':=h.marks.2 q hq;rw [hnew q (fun e=>by rw [e,e3] at hq'; cases hq')]
  exact hq'
theorem run_checkP (em:Bool) (d:Nat):∀ (m:Nat) (t:TypeId),plainEq P m t=true->∀ (w:World) (l:List AV),l.length=P.cellsOf t->kindsOK P m t l=true ->
  (Instr.checkKey em (d+m) t (vOf (isAggT P t) l)).run P w=.ok () w
 | 0,_,h=>by simp [plainEq] at h
 | m+1,t,h=>by
  intro w l hl hK;unfold plainEq at h;have one:isAggT P t=false->P.cellsOf t=1->(∃ k,P.underlying t=some k/\(k=.bool\/(∃ q,k=.int q)\/k=.string)) ->
    (Instr.checkKey em (d+(m+1)) t (vOf (isAggT P t) l)).run P w=.ok () w:=by
   intro ha hs ⟨k,hu,hkind⟩;rw [ha];rw [hs] at hl;obtain ⟨x,rfl⟩:∃ x,l=[x]:=by match l,hl with|[x],_=>exact ⟨x,rfl⟩
   rw [show d+(m+1)=(d+m)+1 from rfl,Instr.checkKey];simp only [Sem.run_bind,run_underlying hu,Result.andThen_ok];unfold kindsOK at hK;rw [hu] at hK
   rcases hkind with rfl|⟨q,rfl⟩|rfl <;> cases x <;> simp only [reduceCtorEq,Bool.false_eq_true] at hK <;> simp [vOf,cvA]
  split at h
  ·rename_i hu; exact one (by simp [isAggT,hu]) (by simpa using h) ⟨_,hu,.inl rfl⟩
  ·rename_i hu; exact one (by simp [isAggT,hu]) (by simpa using h) ⟨_,hu,.inr (.inl ⟨_,rfl⟩)⟩
  ·rename_i hu; exact one (by simp [isAggT,hu]) (by simpa using h) ⟨_,hu,.inr (.inr rfl)⟩
  ·rename_i fs hu;simp only [Bool.and_eq_true,Bool.not_eq_true',List.all_eq_true,bne_iff_ne,ne_eq] at h;obtain ⟨⟨h1,h2⟩,h3⟩:=h;have ha:isAggT P t=true:=by simp [isAggT,hu]
   rw [ha];simp only [vOf];rw [show d+(m+1)=(d+m)+1 from rfl,Instr.checkKey];simp only [Sem.run_bind,run_underlying hu,Result.andThen_ok];rw [<- Array.forIn_toList];unfold kindsOK at hK;rw [hu] at hK;simp only [List.all_eq_true] at hK
   have hend:∀ (gs:List Field) (j:Nat),tiles P (P.cellsOf t) gs j=true->∀ f∈gs,f.offset+P.cellsOf f.type<=P.cellsOf t:=by
    have hle:∀ (gs:List Field) (j:Nat),tiles P (P.cellsOf t) gs j=true->j<=P.cellsOf t:=by
     intro gs;induction gs with
     | nil=>intro j h; simp only [tiles,beq_iff_eq] at h; omega
     | cons g gs ih=>intro j h; simp only [tiles,Bool.and_eq_true,beq_iff_eq] at h; have:=ih _ h.2; omega
    intro gs;induction gs with
    | nil=>intro j _ f hf; cases hf
    | cons g gs ih =>
     intro j h f hf;simp only [tiles,Bool.and_eq_true,beq_iff_eq] at h;rcases List.mem_cons.1 hf with rfl|hf
     ·have:=hle _ _ h.2; omega
     ·exact ih _ h.2 f hf
   have each : ∀ f ∈ fs.toList, f.name ≠ "_" /\ (part f.type (l.map cvA).toArray f.offset).run P w = .ok (vOf (isAggT P f.type) ((l.drop f.offset).take (P.cellsOf f.type))) w /\
     (Instr.checkKey em (d+m) f.type (vOf (isAggT P f.type) ((l.drop f.offset).take (P.cellsOf f.type)))).run P w=.ok () w:=by
    intro f hf;have hp:=h1 f hf;have hsh:=plainEq_shape m f.type hp.2;obtain ⟨k,hk⟩:=hsh.1;have ho:=hend fs.toList 0 h3 f hf;exact ⟨hp.1,part_vOf w hk hsh.2 l f.offset (by omega),run_checkP em d m f.type hp.2 w _ (by simp; omega) (hK f hf)⟩
   clear h1 h3 hK hend;generalize fs.toList=L at each;induction L with
   | nil=>simp
   | cons f L ih =>
    obtain ⟨hn,p1,p2⟩:=each f (by simp)
    simp only [List.forIn_cons,Sem.run_bind,hn,ne_eq,not_false_eq_true,if_true,Result.andThen_ok,p1,p2,Sem.run_pure];exact ih (fun y hy=>each y (by simp [hy]))
  ·rename_i n e hu;simp only [Bool.and_eq_true,beq_iff_eq] at h;have ha:isAggT P t=true:=by simp [isAggT,hu]
   have hsh:=plainEq_shape m e h.1;obtain ⟨k,hk⟩:=hsh.1;obtain ⟨i,hi⟩:=info_of_underlying hk;rw [ha];simp only [vOf];rw [show d+(m+1)=(d+m)+1 from rfl,Instr.checkKey];simp only [Sem.run_bind,run_underlying hu,Result.andThen_ok]
   simp only [Std.Legacy.Range.forIn_eq_forIn_range',Std.Legacy.Range.size,Nat.sub_zero,Nat.add_one_sub_one,Nat.div_one];unfold kindsOK at hK;rw [hu] at hK;simp only [List.all_eq_true] at hK
   have each:∀ j∈List.range' 0 n,(part e (l.map cvA).toArray (j * P.cellsOf e)).run P w=.ok (vOf (isAggT P e) ((l.drop (j * P.cellsOf e)).take (P.cellsOf e))) w /\
     (Instr.checkKey em (d+m) e (vOf (isAggT P e) ((l.drop (j * P.cellsOf e)).take (P.cellsOf e)))).run P w=.ok () w:=by
    intro j hj;have hj':j<n:=by simpa using hj
    have hle:j * P.cellsOf e+P.cellsOf e<=l.length:=by
     rw [hl,h.2,<- Nat.succ_mul];exact Nat.mul_le_mul_right _ hj'
    exact ⟨part_vOf w hk hsh.2 l _ hle,run_checkP em d m e h.1 w _ (by simp; omega) (hK j hj)⟩
   clear hK;generalize List.range' 0 n=is at each;induction is with
   | nil=>simp
   | cons j is ih =>
    obtain ⟨p1,p2⟩:=each j (by simp)
    have hsz:=run_sizeOf' (P:=P) hi w;simp only [List.forIn_cons,Sem.run_bind,hsz,Result.andThen_ok,p1,p2,Sem.run_pure];exact ih (fun y hy=>each y (by simp [hy]))
  ·cases h
theorem eqCells_lits:∀ (l m:List AV) (r:Bool),eqCells l m=some r->∀ x∈l,(∃ k n,x=.int k n)\/(∃ b,x=.bool b)\/∃ s,x=.str s
 | [],_,_,_,x,hx=>by cases hx
 | _::_,[],_,h,_,_=>by simp [eqCells] at h
 | y::l,z::m,r,h,x,hx=>by
  rw [eqCells_cons] at h;split at h
  ·rename_i a b h1 h2;rcases List.mem_cons.1 hx with rfl|hx
   ·cases x <;> cases z <;> first|(simp [eqCell] at h1; done)|(exact .inl ⟨_,_,rfl⟩)|(exact .inr (.inl ⟨_,rfl⟩))|(exact .inr (.inr ⟨_,rfl⟩))
   ·exact eqCells_lits l m b h2 x hx
  ·cases h
theorem eqCells_true:∀ (l m:List AV),eqCells l m=some true->l=m
 | [],[],_=>rfl
 | [],_::_,h=>by simp [eqCells] at h
 | _::_,[],h=>by simp [eqCells] at h
 | y::l,z::m,h=>by
  rw [eqCells_cons] at h;split at h
  ·rename_i a b h1 h2;simp only [Option.some.injEq,Bool.and_eq_true] at h;obtain ⟨rfl,rfl⟩:=h;rw [eqCells_true l m h2];congr 1;cases y <;> cases z <;> simp only [eqCell,reduceCtorEq,Option.some.injEq,beq_iff_eq] at h1
   ·split at h1
    ·rename_i hk;simp only [Option.some.injEq,beq_iff_eq] at h1;rw [hk,h1]
    ·cases h1
   ·rw [h1]
   ·rw [h1]
  ·cases h
theorem sameBits_cv {x:AV} (h:(∃ k n,x=.int k n)\/(∃ b,x=.bool b)\/∃ s,x=.str s) (n:Nat):Instr.sameBits n (cvA x) (cvA x)=true:=by
 rcases h with ⟨k,m,rfl⟩|⟨b,rfl⟩|⟨s,rfl⟩ <;> cases n <;> simp [cvA,Instr.sameBits] <;> (rw [beq_toListBytes]; simp)
theorem zip_self_all (f:Value->Value->Bool):∀ (l:List Value),(∀ x∈l,f x x=true)->((l.zip l).all fun (x,y)=>f x y)=true
 | [],_=>rfl
 | x::l,h=>by
  simp only [List.zip_cons_cons,List.all_cons,Bool.and_eq_true];exact ⟨h x (by simp),zip_self_all f l fun y hy=>h y (by simp [hy])⟩
structure KeyOK (P:Program) (kt:TypeId) (x:AV):Prop where
 val:vAV x=vOf (isAggT P kt) x.cells
 len:x.cells.length=P.cellsOf kt
 kinds:kindsOK P 20 kt x.cells=true
 lits:∀ y∈x.cells,(∃ k n,y=.int k n)\/(∃ b,y=.bool b)\/∃ s,y=.str s
 rel:∀ {ρ:Rho} {M:Mem} {v:Value},Rel ρ M v x->v=vAV x
 one:isAggT P kt=false->x.cells=[x]
theorem keyFit_ok {kt:TypeId} {x:AV} (h:keyFit P kt x=true):KeyOK P kt x:=by
 unfold keyFit at h;simp only [Bool.and_eq_true,beq_iff_eq] at h;obtain ⟨⟨⟨h1,h2⟩,h3⟩,h4⟩:=h;have h5:∃ r,eqCells x.cells x.cells=some r:=by
  split at h4
  ·exact ⟨_,‹_›⟩
  ·cases h4
 obtain ⟨r,h5⟩:=h5;have hl:=eqCells_lits _ _ r h5;cases x with
 | agg l =>
  have h1:isAggT P kt=true:=h1;exact ⟨by rw [h1]; rfl,h2,h3,hl,fun hr=>vOf_rel hr (.inl h5),fun e=>by rw [h1] at e; cases e⟩
 | int k n =>
  simp only [AV.isCell,Bool.and_true,Bool.not_eq_true'] at h1;exact ⟨by rw [h1]; rfl,h2,h3,hl,fun hr=>hr.intInv,fun _=>rfl⟩
 | bool b =>
  simp only [AV.isCell,Bool.and_true,Bool.not_eq_true'] at h1;exact ⟨by rw [h1]; rfl,h2,h3,hl,fun hr=>hr.boolInv,fun _=>rfl⟩
 | str s =>
  simp only [AV.isCell,Bool.and_true,Bool.not_eq_true'] at h1;exact ⟨by rw [h1]; rfl,h2,h3,hl,fun hr=>hr.strInv,fun _=>rfl⟩
 | _=>rcases hl _ (List.mem_cons_self ..) with ⟨_,_,e⟩|⟨_,e⟩|⟨_,e⟩ <;> cases e
theorem sameBits_key {kt:TypeId} {x:AV} (h:KeyOK P kt x):Instr.sameBits 10000 (vAV x) (vAV x)=true:=by
 rw [h.val];cases ha:isAggT P kt with
 | false =>
  simp only [vOf,h.one ha];exact sameBits_cv (h.lits x (by rw [h.one ha]; simp)) _
 | true =>
  simp only [vOf];rw [show (10000:Nat)=9999+1 from rfl,Instr.sameBits];simp only [beq_self_eq_true,Bool.true_and];refine zip_self_all _ _ fun v hv=>?_
  simp only [List.mem_map] at hv;obtain ⟨y,hy,rfl⟩:=hv;exact sameBits_cv (h.lits y hy) _
theorem run_checkK (em:Bool) {kt:TypeId} {x:AV} (hp:plainEq P 20 kt=true) (h:KeyOK P kt x) (w:World):(Instr.checkKey em 10000 kt (vAV x)).run P w=.ok () w:=by
 rw [h.val];exact run_checkP em 9980 20 kt hp w _ h.len h.kinds
theorem run_equalK {kt:TypeId} {x y:AV} (hp:plainEq P 20 kt=true) (h:KeyOK P kt x) (h':KeyOK P kt y) {r:Bool} (he:eqCells x.cells y.cells=some r) (w:World):(Op.equal kt (vAV x) (vAV y)).run P w=.ok r w:=by
 rw [h.val,h'.val];exact run_equalP 20 9980 kt hp w _ _ r h.len h.kinds he
def entAt (es':List MapEntry) (i:Nat):Value:=((es'[i]?).map (·.val)).getD undef
theorem run_askP {kt:TypeId} {x:AV} (hp:plainEq P 20 kt=true) (hx:KeyOK P kt x) (w:World):∀ (es':List MapEntry) (es:List (AV×AV)) (k:Nat) (r:Option Nat),
  es'.length=es.length->(∀ i,i<es.length->∃ e,es'[i]?=some e/\e.key=vAV (es.getD i (.undef,.undef)).1)->(∀ e∈es,KeyOK P kt e.1)->findAV x.cells es k=some r ->
  (Instr.findAsking kt (vAV x) es' k).run P w=.ok (r.map fun i=>(i,entAt es' (i - k))) w
 | [],[],k,r,_,_,_,hf=>by
  simp only [findAV,Option.some.injEq] at hf;subst hf;simp [Instr.findAsking]
 | [],_::_,_,_,hl,_,_,_=>by simp at hl
 | _::_,[],_,_,hl,_,_,_=>by simp at hl
 | e'::es',e::es,k,r,hl,hk,hK,hf=>by
  obtain ⟨e0,h0,h1⟩:=hk 0 (by simp)
  simp only [List.getElem?_cons_zero,Option.some.injEq] at h0;subst h0;simp only [List.getD_cons_zero] at h1;simp only [findAV] at hf;rw [Instr.findAsking,h1];split at hf
  ·rename_i he;simp only [Option.some.injEq] at hf;subst hf;have:=run_equalK hp hx (hK e (by simp)) he w
   simp [this,entAt]
  ·rename_i he;have:=run_equalK hp hx (hK e (by simp)) he w
   have ih:=run_askP hp hx w es' es (k+1) r (by simpa using hl) (fun i hi=>by
    have:=hk (i+1) (by simp; omega)
    simpa using this) (fun y hy=>hK y (by simp [hy])) hf
   simp only [Sem.run_bind,this,Result.andThen_ok,Bool.false_eq_true,if_false,ih];cases r with
   | none=>rfl
   | some i =>
    have hi:k+1<=i:=by
     have:∀ (es:List (AV×AV)) (j i:Nat),findAV x.cells es j=some (some i)->j<=i:=by
      intro es;induction es with
      | nil=>intro j i h; simp [findAV] at h
      | cons y es ih =>
       intro j i h;simp only [findAV] at h;split at h
       ·simp only [Option.some.injEq] at h; omega
       ·have:=ih _ _ h; omega
       ·cases h
     exact this es (k+1) i hf
    simp only [Option.map_some];have:i - k=(i - (k+1))+1:=by omega
    rw [this];simp [entAt]
  ·cases hf
theorem findAV_at (k:List AV):∀ (es:List (AV×AV)) (j i:Nat),findAV k es j=some (some i)->j<=i/\i - j<es.length/\eqCells k (es.getD (i - j) (.undef,.undef)).1.cells=some true
 | [],_,_,h=>by simp [findAV] at h
 | e::es,j,i,h=>by
  simp only [findAV] at h;split at h
  ·simp only [Option.some.injEq] at h;subst h;simpa using ‹_›
  ·obtain ⟨h1,h2,h3⟩:=findAV_at k es (j+1) i h;have e1:i - j=(i - (j+1))+1:=by omega
   rw [e1];exact ⟨by omega,by simp; omega,by simpa using h3⟩
  ·cases h
theorem kind_bool {l:List AV} (h:(match l with|[.bool _]=>true|_=>false)=true):∃ b,l=[.bool b]:=by
 split at h
 ·exact ⟨_,rfl⟩
 ·cases h
theorem kind_str {l:List AV} (h:(match l with|[.str _]=>true|_=>false)=true):∃ b,l=[.str b]:=by
 split at h
 ·exact ⟨_,rfl⟩
 ·cases h
theorem kind_int {l:List AV} {k:IntKind} (h:(match l with|[.int k' _]=>k==k'|_=>false)=true):∃ k' n,l=[.int k' n]/\k=k':=by
 split at h
 ·exact ⟨_,_,rfl,by simpa using h⟩
 ·cases h
theorem sameNow_eq {kt:TypeId} {x y:AV} {kd:TypeDesc} (hp:plainEq P 20 kt=true) (ha:isAggT P kt=false) (hu:P.underlying kt=some kd) (hx:KeyOK P kt x) (hy:KeyOK P kt y):Instr.sameNow kd (vAV x) (vAV y)=eqCells x.cells y.cells:=by
 have kx:=hx.kinds;have ky:=hy.kinds;have vx:=hx.val;have vy:=hy.val;rw [ha] at vx vy;rw [vx,vy];unfold plainEq at hp;unfold kindsOK at kx ky;rw [hu] at kx ky hp
 have hb:∀ (s1 s2:List UInt8),((ByteArray.mk ⟨s1⟩)==(ByteArray.mk ⟨s2⟩))=(s1==s2):=fun s1 s2=>by
  rw [beq_toListBytes,ByteArray.toList_eq,ByteArray.toList_eq]
 cases kd <;> simp only [reduceCtorEq,Bool.false_eq_true] at hp
 ·obtain ⟨b1,e1⟩:=kind_bool kx;obtain ⟨b2,e2⟩:=kind_bool ky;rw [e1,e2];simp [vOf,cvA,Instr.sameNow,eqCells,eqCell]
 ·obtain ⟨q1,n1,e1,f1⟩:=kind_int kx;obtain ⟨q2,n2,e2,f2⟩:=kind_int ky;subst f1;subst f2;rw [e1,e2];simp [vOf,cvA,Instr.sameNow,eqCells,eqCell]
 ·obtain ⟨s1,e1⟩:=kind_str kx;obtain ⟨s2,e2⟩:=kind_str ky;rw [e1,e2];simp [vOf,cvA,Instr.sameNow,eqCells,eqCell,hb]
 ·simp [isAggT,hu] at ha
 ·simp [isAggT,hu] at ha
theorem findNow_eq {kt:TypeId} {x:AV} {kd:TypeDesc} (hp:plainEq P 20 kt=true) (ha:isAggT P kt=false) (hu:P.underlying kt=some kd) (hx:KeyOK P kt x):∀ (es':List MapEntry) (es:List (AV×AV)) (k:Nat) (r:Option Nat),
  es'.length=es.length->(∀ i,i<es.length->∃ e,es'[i]?=some e/\e.key=vAV (es.getD i (.undef,.undef)).1)->(∀ e∈es,KeyOK P kt e.1)->findAV x.cells es k=some r ->
  Instr.findNow kd (vAV x) es' k=some (r.map fun i=>(i,entAt es' (i - k)))
 | [],[],k,r,_,_,_,hf=>by
  simp only [findAV,Option.some.injEq] at hf;subst hf;simp [Instr.findNow]
 | [],_::_,_,_,hl,_,_,_=>by simp at hl
 | _::_,[],_,_,hl,_,_,_=>by simp at hl
 | e'::es',e::es,k,r,hl,hk,hK,hf=>by
  obtain ⟨e0,h0,h1⟩:=hk 0 (by simp)
  simp only [List.getElem?_cons_zero,Option.some.injEq] at h0;subst h0;simp only [List.getD_cons_zero] at h1;simp only [findAV] at hf;rw [Instr.findNow,h1,sameNow_eq hp ha hu hx (hK e (by simp))]
  split at hf
  ·rename_i he;simp only [Option.some.injEq] at hf;subst hf;simp [he,entAt]
  ·rename_i he;have ih:=findNow_eq hp ha hu hx es' es (k+1) r (by simpa using hl) (fun i hi=>by
    have:=hk (i+1) (by simp; omega)
    simpa using this) (fun y hy=>hK y (by simp [hy])) hf
   simp only [he,ih];cases r with
   | none=>rfl
   | some i =>
    have hi:=(findAV_at _ _ _ _ hf).1;simp only [Option.map_some];have:i - k=(i - (k+1))+1:=by omega
    rw [this];simp [entAt]
  ·cases hf
theorem run_findK {kt:TypeId} {x:AV} (hp:plainEq P 20 kt=true) (hx:KeyOK P kt x) (w:World) {es':List MapEntry} {es:List (AV×AV)} {r:Option Nat}
  (hl:es'.length=es.length) (hk:∀ i,i<es.length->∃ e,es'[i]?=some e/\e.key=vAV (es.getD i (.undef,.undef)).1) (hK:∀ e∈es,KeyOK P kt e.1) (hf:findAV x.cells es 0=some r) :
  (Instr.findKey kt (vAV x) es').run P w=.ok (r.map fun i=>(i,entAt es' i)) w:=by
 obtain ⟨⟨kd,hu⟩,_⟩:=plainEq_shape 20 kt hp;cases ha:isAggT P kt with
 | false =>
  have:=findNow_eq hp ha hu hx es' es 0 r hl hk hK hf;simp [Instr.findKey,run_underlying hu,this]
 | true =>
  have h1:=run_askP hp hx w es' es 0 r hl hk hK hf;cases es' with
  | nil=>simpa [Instr.findKey,run_underlying hu,Instr.findNow,Instr.findAsking] using h1
  | cons e es' =>
   unfold isAggT at ha;rw [hu] at ha;cases kd <;> simp only [reduceCtorEq,Bool.false_eq_true] at ha <;> simpa [Instr.findKey,run_underlying hu,Instr.findNow,Instr.sameNow] using h1
theorem step_makeMap (h:SRel U w0 n ρ M tm hp nx a w) (t:TypeId) (ho:o.op=.makeMap t none):OpOut P o U w0 n ρ M tm hp nx a w (.map nx) [(nx,.loop (.mp []) noRec)]:=by
 obtain ⟨L,hL,hext,k⟩:=h.addMap;refine ⟨.map (some w.heap.size),w.alloc (.map #[] 0),_,M,.inl ?_,RX.upd hext (.inl (Nat.le_refl _)),MExt.refl M,?_,?_⟩
 ·have:(Instr.makeMap t none).run P w=.ok (.map (some w.heap.size)) (w.alloc (.map #[] 0)):=rfl;simp [execOp,ho,this]
 ·rw [<- hL];exact .map L nx (updR_same _ _ _ _)
 ·simpa [setEffF,newOf] using k
theorem mapAt (h:SRel U w0 n ρ M tm hp nx a w) {v:Value} {x:AV} {es:List (AV×AV)} (hx:Rel ρ M v x) (he:mapEs hp x=some es) :
  (v=.map none/\es=[])\/∃ b r L es' c,x=.map b/\hp b=.loop (.mp es) r/\ρ b 0=some L/\v=.map (some L.B)/\w.heap[L.B]?=some (.map es' c)/\EntOK ρ M es' es:=by
 cases x <;> simp only [mapEs,reduceCtorEq] at he
 ·cases he; exact .inl ⟨hx.nilmInv,rfl⟩
 ·rename_i b;obtain ⟨L,hL,rfl⟩:=hx.mapInv;split at he
  ·rename_i es0 r hb;cases he;obtain ⟨L1,es1,es1',c1,e0,e1,e2,e3,e4⟩:=(h.hok.loop b (.mp es) r hb).mapOK;rw [hL] at e1; cases e1;cases e0;exact .inr ⟨b,r,L,es1',c1,rfl,hb,hL,rfl,e3,e4⟩
  ·cases he
theorem EntOK.facts {es':Array MapEntry} {es:List (AV×AV)} (h:EntOK ρ M es' es):es'.toList.length=es.length/\(∀ i,i<es.length->∃ e,es'.toList[i]?=some e/\e.key=vAV (es.getD i (.undef,.undef)).1) /\
  ∀ i,i<es.length->Rel ρ M (entAt es'.toList i) (es.getD i (.undef,.undef)).2:=by
 refine ⟨by simpa using h.1,fun i hi=>?_,fun i hi=>?_⟩
 ·obtain ⟨e,e1,e2,e3⟩:=h.2 i hi;exact ⟨e,by simpa using e1,e2⟩
 ·obtain ⟨e,e1,e2,e3⟩:=h.2 i hi;have:es'.toList[i]?=some e:=by simpa using e1
  simpa [entAt,this] using e3
theorem step_lookup0 (h:SRel U w0 n ρ M tm hp nx a w) (t:TypeId) (x ix:Operand) (ok:Bool) (ho:o.op=.lookup t x ix ok) (ev:Operand->AV) (hx:Rel ρ M (a.eval x) (ev x)) (hix:Rel ρ M (a.eval ix) (ev ix)) (need v eff ob)
  (hs:lookupAV0 P hp t (ev x) (ev ix) ok=some ⟨need,v,eff,ob⟩):OpOut P o U w0 n ρ M tm hp nx a w v eff:=by
 unfold lookupAV0 at hs;split at hs
 case h_2=>cases hs
 rename_i kt et hu;split at hs
 case isFalse=>cases hs
 rename_i hp1;simp only [Bool.and_eq_true] at hp1;obtain ⟨hp1,hk⟩:=hp1;have hK:=keyFit_ok hk;simp only [Option.bind_eq_some_iff,zeroAV,Option.map_eq_some_iff] at hs;obtain ⟨z,⟨zv,⟨i,hi,hz⟩,rfl⟩,es,hes,hs⟩:=hs;split at hs
 case isFalse=>cases hs
 rename_i hall;simp only [Option.bind_eq_some_iff] at hs;obtain ⟨r,hf,hs⟩:=hs;have hKs:∀ e∈es,KeyOK P kt e.1:=fun e he=>keyFit_ok (List.all_eq_true.1 hall e he)
 have hzr:(zeroValue et).run P w=.ok zv w:=by simp [zeroValue,typeInfo,hi,hz]
 have hv:=hK.rel hix;have key:∃ es':List MapEntry,es'.length=es.length/\(∀ i,i<es.length->∃ e,es'[i]?=some e/\e.key=vAV (es.getD i (.undef,.undef)).1)/\(∀ i,i<es.length->Rel ρ M (entAt es' i) (es.getD i (.undef,.undef)).2) /\
   ∀ (u:Value),((match r with|some i=>pure (entAt es' i,true)|none=>do pure (<- zeroValue et,false):Sem (Value×Bool)).run P w=.ok (u,r.isSome) w) ->
    (execOp a.eval o).run P w=.ok (.value (if ok then .tuple #[u,.bool r.isSome] else u)) w:=by
  rcases mapAt h hx hes with ⟨e1,rfl⟩|⟨b,r0,L,es',c,_,_,_,e1,e2,e3⟩
  ·refine ⟨[],rfl,fun i hi=>by simp at hi,fun i hi=>by simp at hi,fun u hu'=>?_⟩
   have h1:=run_findK (es':=[]) hp1 hK w rfl (fun i hi=>by simp at hi) hKs hf
   have h2:=run_checkK true hp1 hK w;simp only [findAV,Option.some.injEq] at hf;subst hf;simp only [Option.map_none] at h1;simp only [Sem.run_bind,hzr,Result.andThen_ok,Sem.run_pure,Option.isSome_none] at hu';cases hu'
   simp [execOp,ho,Instr.lookup,run_underlying hu,e1,hv,h2,h1,hzr]
  ·obtain ⟨f1,f2,f3⟩:=e3.facts;refine ⟨es'.toList,f1,f2,f3,fun u hu'=>?_⟩
   have h1:=run_findK hp1 hK w f1 f2 hKs hf;have h2:=run_checkK es'.isEmpty hp1 hK w;have h3:(getObj L.B).run P w=.ok (.map es' c) w:=by simp [getObj,Sem.run,e2]
   cases r with
   | none =>
    simp only [Option.map_none] at h1;simp only [Sem.run_bind,hzr,Result.andThen_ok,Sem.run_pure,Option.isSome_none] at hu';cases hu';simp [execOp,ho,Instr.lookup,run_underlying hu,e1,hv,h2,h1,h3,hzr]
   | some i =>
    simp only [Option.map_some] at h1;simp only [Sem.run_pure,Option.isSome_some] at hu';cases hu';simp [execOp,ho,Instr.lookup,run_underlying hu,e1,hv,h2,h1,h3]
 obtain ⟨es',f1,f2,f3,f4⟩:=key;have two:∀ {u:Value} {y:AV} (b:Bool),Rel ρ M u y->Rel ρ M (.tuple #[u,.bool b]) (.tup [y,.bool b]):=by
  intro u y b hy;refine .tup _ _ rfl fun j hj=>?_
  simp only [List.length_cons,List.length_nil] at hj
  match j,hj with
  | 0,_=>exact hy
  | 1,_=>exact .pure (.bool b)
 cases r with
 | none =>
  have f5:=f4 zv (by simp [hzr])
  cases ok <;> simp only [ok1,Option.some.injEq,SR.mk.injEq] at hs <;> obtain ⟨_,rfl,rfl,rfl⟩:=hs
  ·exact OpOut.same h (by simpa using f5) (.pure (avOf_rel M zv))
  ·exact OpOut.same h (by simpa using f5) (two false (.pure (avOf_rel M zv)))
 | some i =>
  have hi2:=findAV_at _ _ _ _ hf;have f5:=f4 (entAt es' i) (by simp)
  have f6:=f3 i (by omega)
  cases ok <;> simp only [ok1,Option.some.injEq,SR.mk.injEq] at hs <;> obtain ⟨_,rfl,rfl,rfl⟩:=hs
  ·exact OpOut.same h (by simpa using f5) f6
  ·exact OpOut.same h (by simpa using f5) (two true f6)
theorem step_mapUpdate0 (h:SRel U w0 n ρ M tm hp nx a w) (t:TypeId) (x ix y:Operand) (ho:o.op=.mapUpdate t x ix y\/o.op=.insert t x ix y) (ev:Operand->AV) (hx:Rel ρ M (a.eval x) (ev x)) (hix:Rel ρ M (a.eval ix) (ev ix)) (hy:Rel ρ M (a.eval y) (ev y)) (need v eff ob)
  (hs:mapUpdateAV0 P hp t (ev x) (ev ix) (ev y)=some ⟨need,v,eff,ob⟩):OpOut P o U w0 n ρ M tm hp nx a w v eff:=by
 unfold mapUpdateAV0 at hs;split at hs
 case h_2=>cases hs
 rename_i kt et b hu hxe;rw [hxe] at hx;split at hs
 case isFalse=>cases hs
 rename_i hp1;simp only [Bool.and_eq_true] at hp1;obtain ⟨hp1,hk⟩:=hp1;have hK:=keyFit_ok hk;split at hs
 case h_2=>cases hs
 rename_i es r0 hb;split at hs
 case isFalse=>cases hs
 rename_i hall;simp only [Option.bind_eq_some_iff] at hs;obtain ⟨r,hf,hs⟩:=hs;have hKs:∀ e∈es,KeyOK P kt e.1:=fun e he=>keyFit_ok (List.all_eq_true.1 hall e he)
 have hv:=hK.rel hix;obtain ⟨L,hL,hxv⟩:=hx.mapInv;obtain ⟨L1,es1,es',c,e0,e1,e2,e3,e4⟩:=(h.hok.loop b (.mp es) r0 hb).mapOK;rw [hL] at e1; cases e1;cases e0;obtain ⟨f1,f2,f3⟩:=e4.facts;have h1:=run_findK hp1 hK w f1 f2 hKs hf
 have h2:=run_checkK false hp1 hK w;have h3:(getObj L.B).run P w=.ok (.map es' c) w:=by simp [getObj,Sem.run,e3]
 have hexec:(execOp a.eval o).run P w=((Instr.mapUpdate t (a.eval x) (a.eval ix) (a.eval y)).run P w).andThen fun _ w'=>.ok .skip w':=by
  rcases ho with ho|ho <;> simp [execOp,ho]
 have hset:∀ o',(setObj L.B o').run P w=.ok () (w.putObj L.B o'):=fun o'=>by
  simp [setObj,Sem.run,e3,World.putObj]
 have hsz:es'.size=es.length:=e4.1;cases r with
 | none =>
  simp only [Option.map_none] at h1;simp only [Option.some.injEq,SR.mk.injEq] at hs;obtain ⟨_,rfl,rfl,rfl⟩:=hs;have hE:EntOK ρ M (es'.push { key:=a.eval ix,val:=a.eval y,born:=c }) (es++[(ev ix,ev y)]):=by
   refine ⟨by simp [hsz],fun i hi=>?_⟩
   simp only [List.length_append,List.length_cons,List.length_nil] at hi;rcases Nat.lt_or_ge i es.length with hlt|hge
   ·obtain ⟨e,k1,k2,k3⟩:=e4.2 i hlt;refine ⟨e,?_,?_,?_⟩
    ·rw [Array.getElem?_push,if_neg (by omega)]; exact k1
    ·rw [getD_append_left _ _ _ _ hlt]; exact k2
    ·rw [getD_append_left _ _ _ _ hlt]; exact k3
   ·obtain rfl:i=es.length:=by omega
    refine ⟨_,by rw [Array.getElem?_push,if_pos hsz.symm],?_,?_⟩
    ·simpa [List.getD] using hv
    ·simpa [List.getD] using hy
  refine ⟨undef,w.putObj L.B (.map (es'.push { key:=a.eval ix,val:=a.eval y,born:=c }) (c+1)),ρ,M,.inr ⟨?_,rfl⟩,RX.refl ρ hp nx,MExt.refl M,Rel.undef _,?_⟩
  ·rw [hexec,hxv,hv];simp [Instr.mapUpdate,run_underlying hu,h3,h2,h1,hset]
  ·have:=h.setMap hb hL _ _ (c+1) hE;have hlt:=h.lt_nx (b:=b) (by rw [hb]; simp)
   simpa [setEffF,newOf,Nat.not_le.2 hlt] using this
 | some i =>
  simp only [Option.map_some] at h1;simp only [Option.some.injEq,SR.mk.injEq] at hs;obtain ⟨_,rfl,rfl,rfl⟩:=hs;obtain ⟨_,hi2,hi3⟩:=findAV_at _ _ _ _ hf;simp only [Nat.sub_zero] at hi2 hi3;obtain ⟨e,k1,k2,k3⟩:=e4.2 i hi2
  have hmem:es.getD i (.undef,.undef)∈es:=by
   have:es.getD i (.undef,.undef)=es[i]:=by simp [List.getD,hi2]
   rw [this]; exact List.getElem_mem hi2
  have hold:e.key=vAV (ev ix):=by
   rw [k2,(hKs _ hmem).val,hK.val,eqCells_true _ _ hi3]
  have hstay:(Instr.keyThatStays ((es'[i]?.map (·.key)).getD (a.eval ix)) (a.eval ix)).run P w=.ok (a.eval ix) w:=by
   rw [k1,hv];simp only [Option.map_some,Option.getD_some,hold,Instr.keyThatStays,sameBits_key hK,if_true,Sem.run_pure]
  have hE:EntOK ρ M (es'.modify i fun e=>{ e with key:=a.eval ix,val:=a.eval y }) (es.set i (ev ix,ev y)):=by
   refine ⟨by simp [hsz],fun j hj=>?_⟩
   simp only [List.length_set] at hj;by_cases hij:i=j
   ·subst hij;refine ⟨{ e with key:=a.eval ix,val:=a.eval y },by simp [Array.getElem?_modify,k1],?_,?_⟩
    ·simpa [List.getD,hi2] using hv
    ·simpa [List.getD,hi2] using hy
   ·obtain ⟨e',m1,m2,m3⟩:=e4.2 j hj;refine ⟨e',by simp [Array.getElem?_modify,hij,m1],?_,?_⟩
    ·simpa [List.getD,List.getElem?_set,hij] using m2
    ·simpa [List.getD,List.getElem?_set,hij] using m3
  refine ⟨undef,w.putObj L.B (.map (es'.modify i fun e=>{ e with key:=a.eval ix,val:=a.eval y }) c),ρ,M,.inr ⟨?_,rfl⟩,RX.refl ρ hp nx,MExt.refl M,Rel.undef _,?_⟩
  ·rw [hexec,hxv];have h1':(Instr.findKey kt (a.eval ix) es'.toList).run P w=.ok (some (i,entAt es'.toList i)) w:=by rw [hv]; exact h1
   have h2':(Instr.checkKey false 10000 kt (a.eval ix)).run P w=.ok () w:=by rw [hv]; exact h2
   simp only [Instr.mapUpdate,Sem.run_bind,run_underlying hu,Result.andThen_ok,h3,h2',h1',hstay,hset]
  ·have:=h.setMap hb hL _ _ c hE;have hlt:=h.lt_nx (b:=b) (by rw [hb]; simp)
   simpa [setEffF,newOf,Nat.not_le.2 hlt] using this
theorem SRel.reMap (h:SRel U w0 n ρ M tm hp nx a w) {b:Nat} {st st2:LSt} {r:LoopB} (hb:hp b=.loop st r) (hn:∀ k on sp,st2≠.abs k on sp) (hok:LoopOK ρ M w b st2 r) :
  SRel U w0 n ρ M tm (updH hp b (.loop st2 r)) nx a w:=by
 have hrow:∀ b' g sz pu sq,updH hp b (.loop st2 r) b'=.row g sz pu sq->hp b'=.row g sz pu sq:=by
  intro b' g sz pu sq e;simp only [updH] at e;split at e
  ·cases e
  ·exact e
 have hloop:∀ b' st' r',updH hp b (.loop st2 r) b'=.loop st' r'->(b'=b/\r'=r/\st'=st2)\/(b'≠b/\hp b'=.loop st' r'):=by
  intro b' st' r' e;simp only [updH] at e;split at e
  ·cases e; exact .inl ⟨‹_›,rfl,rfl⟩
  ·exact .inr ⟨‹_›,e⟩
 have hany:∀ b' st' r',updH hp b (.loop st2 r) b'=.loop st' r'->∃ st2,hp b'=.loop st2 r':=by
  intro b' st' r' e;rcases hloop b' st' r' e with ⟨rfl,rfl,_⟩|⟨_,e⟩
  ·exact ⟨_,hb⟩
  ·exact ⟨_,e⟩
 refine ⟨h.size,h.tm,⟨h.hok.mem,fun b' g sz pu sq e=>h.hok.row b' g sz pu sq (hrow _ _ _ _ _ e),fun b1 b2 g1 g2 sz1 sz2 pu1 pu2 s1 s2 L1 L2 f1 f2=>h.hok.inj b1 b2 g1 g2 sz1 sz2 pu1 pu2 s1 s2 L1 L2 (hrow _ _ _ _ _ f1) (hrow _ _ _ _ _ f2),fun b' g sz pu sq e=>h.hok.gen b' g sz pu sq (hrow _ _ _ _ _ e),
  fun b' st' r' e=>?_,fun b1 b2 st1 st2 r1 r2 L1 L2 f1 f2=>?_⟩,fun b' hb'=>?_,h.free,h.keep,h.memN,h.memE,fun b' g sz pu sq L' e=>h.own b' g sz pu sq L' (hrow _ _ _ _ _ e),h.nle,fun b' st' r' L' e=>?_,h.defers,h.marks,h.mown,h.nod,
  h.extStep (w':=w) rfl rfl rfl (Nat.le_refl _) (fun b' k on sp r' e=>?_) (fun b' g sz pu s L' h1 h2 h3=>.inr ⟨b',g,sz,pu,s,L',hrow _ _ _ _ _ h1,h2,h3,rfl⟩)
   (fun b' st' r' L' h1 h2=>(by obtain ⟨st2,e⟩:=hany _ _ _ h1; exact .inr ⟨st2,r',L',e,h2,rfl⟩)) (MExt.refl M) (fun _ _ _ hm=>.inl hm) (fun _ hr=>.inl hr) (fun _ h1 h2=>⟨h1,h2⟩) (fun b' d e=>?_) (fun B _=>.inl rfl)⟩
 case refine_6 =>
  simp only [updH] at e;split at e
  ·cases e
  ·exact ⟨e,fun _=>rfl⟩
 case refine_5 =>
  rcases hloop b' _ _ e with ⟨_,_,e2⟩|⟨_,e2⟩
  ·exact absurd e2.symm (hn _ _ _)
  ·exact ⟨_,e2⟩
 ·rcases hloop b' st' r' e with ⟨rfl,rfl,rfl⟩|⟨hne,e'⟩
  ·exact hok
  ·exact h.hok.loop b' st' r' e'
 ·obtain ⟨_,f1'⟩:=hany _ _ _ f1;obtain ⟨_,f2'⟩:=hany _ _ _ f2;exact h.hok.linj b1 b2 _ _ _ _ L1 L2 f1' f2'
 ·simp only [updH];split
  ·subst b';have:=h.lt_nx (b:=b) (by rw [hb]; simp)
   omega
  ·exact h.dead b' hb'
 ·obtain ⟨st2,e'⟩:=hany _ _ _ e;exact h.ownL b' st2 r' L' e'
theorem eqS (a b:List UInt8):eqCells [.str a] [.str b]=some (decide (a=b)):=by
 simp [eqCells,eqCell,Bool.beq_eq_decide_eq]
theorem keyFit_str {kt:TypeId} {s:List UInt8} (h:keyFit P kt (.str [])=true):keyFit P kt (.str s)=true:=by
 simp only [keyFit,AV.isCell,AV.cells,Bool.and_eq_true,Bool.and_true,Bool.not_eq_true'] at h ⊢;obtain ⟨⟨⟨h1,h2⟩,h3⟩,_⟩:=h;refine ⟨⟨⟨h1,h2⟩,?_⟩,by rw [eqS]⟩
 unfold kindsOK at h3 ⊢;unfold isAggT at h1;cases hu:P.underlying kt with
 | none=>rw [hu] at h3; exact h3
 | some d =>
  rw [hu] at h1 h3;cases d <;> first|exact h3|(simp at h1; done)
theorem sbB_cons {e:AV×AV} {es:List (AV×AV)} (h:sbB (e::es)=true):(∃ k v,e=(.str k,.bool v))/\sbB es=true:=by
 simp only [sbB,List.all_cons,Bool.and_eq_true] at h;refine ⟨?_,h.2⟩;have h1:=h.1;obtain ⟨x,y⟩:=e;cases x <;> cases y <;> first|(simp at h1; done)|exact ⟨_,_,rfl⟩
theorem findS {s:List UInt8}:∀ (es:List (AV×AV)) (k:Nat),sbB es=true->∃ r,findAV [.str s] es k=some r/\match r with|none=>lookS es s=false|some i=>k<=i/\(es.getD (i - k) (.undef,.undef)).2=.bool (lookS es s)
 | [],k,_=>⟨none,rfl,rfl⟩
 | e::es,k,h=>by
  obtain ⟨⟨q,v,rfl⟩,h2⟩:=sbB_cons h;simp only [findAV,AV.cells,eqS];by_cases hq:s=q
  ·subst hq;refine ⟨some k,by simp,Nat.le_refl _,by simp [lookS]⟩
  ·obtain ⟨r,h3,h4⟩:=findS (s:=s) es (k+1) h2;have hl:lookS ((.str q,.bool v)::es) s=lookS es s:=by simp [lookS,Ne.symm hq]
   refine ⟨r,by simp [hq,h3],?_⟩
   rw [hl];cases r with
   | none=>exact h4
   | some i =>
    obtain ⟨h5,h6⟩:=h4;refine ⟨by omega,?_⟩
    rw [show i - k=(i - (k+1))+1 by omega]
    simpa using h6
theorem sbB_keys {kt:TypeId} (hk:keyFit P kt (.str [])=true) {es:List (AV×AV)} (h:sbB es=true):es.all (fun e=>keyFit P kt e.1)=true:=by
 induction es with
 | nil=>rfl
 | cons e es ih =>
  obtain ⟨⟨q,v,rfl⟩,h2⟩:=sbB_cons h;simp only [List.all_cons,Bool.and_eq_true];exact ⟨keyFit_str hk,ih h2⟩
theorem lookS_app {s k:List UInt8} {c:Bool}:∀ {es:List (AV×AV)},sbB es=true->lookS es s=false\/True->(∀ i,findAV [.str s] es i=some none)->lookS (es++[(.str s,.bool c)]) k=if s=k then c else lookS es k
 | [],_,_,_=>by simp [lookS]
 | e::es,h,_,hf=>by
  obtain ⟨⟨q,v,rfl⟩,h2⟩:=sbB_cons h;have hne:s≠q:=fun e=>by
   have:=hf 0;simp [findAV,AV.cells,eqS,e] at this
  have hf2:∀ i,findAV [.str s] es i=some none:=fun i=>by
   have h3:findAV [.str s] es (i+1)=some none:=by
    have:=hf i;simpa [findAV,AV.cells,eqS,hne] using this
   obtain ⟨r,h4,h5⟩:=findS (s:=s) es i h2;obtain ⟨r',h6,h7⟩:=findS (s:=s) es (i+1) h2;rw [h3] at h6;cases h6;cases r with
   | none=>exact h4
   | some j=>exact absurd h4 (by
     intro h4;have:=(findAV_at _ _ _ _ h4);have h8:=findNone es (i+1) h3;exact h8 _ this.2.1 this.2.2)
  have ih:=lookS_app (k:=k) (c:=c) h2 (.inr trivial) hf2;simp only [List.cons_append,lookS,ih];by_cases h8:q=k
  ·subst h8;simp [hne]
  ·simp [h8]
where findNone:∀ (es:List (AV×AV)) (k:Nat),findAV [.str s] es k=some none->∀ i,i<es.length->eqCells [.str s] (es.getD i (.undef,.undef)).1.cells≠some true
 | [],_,_=>fun i hi=>by simp at hi
 | e::es,k,h=>by
  simp only [findAV] at h;split at h
  ·cases h
  ·have:=findNone es (k+1) h;intro i hi;cases i with
   | zero=>simpa using by rename_i h9; rw [h9]; simp
   | succ i=>simpa using this i (by simpa using hi)
  ·cases h
theorem noneAll {s:List UInt8} {es:List (AV×AV)} (h:sbB es=true) {k:Nat} (hf:findAV [.str s] es k=some none) (k':Nat):findAV [.str s] es k'=some none:=by
 obtain ⟨r,h4,h5⟩:=findS (s:=s) es k' h;cases r with
 | none=>exact h4
 | some j =>
  have h6:=findAV_at _ _ _ _ h4;exact absurd h6.2.2 (lookS_app.findNone es k hf _ h6.2.1)
theorem lookS_set {s t:List UInt8} {c:Bool}:∀ {es:List (AV×AV)} {k i:Nat},sbB es=true->findAV [.str s] es k=some (some i)->lookS (es.set (i - k) (.str s,.bool c)) t=if s=t then c else lookS es t
 | [],_,_,_,h=>by simp [findAV] at h
 | e::es,k,i,h,hf=>by
  obtain ⟨⟨q,v,rfl⟩,h2⟩:=sbB_cons h;simp only [findAV,AV.cells,eqS] at hf;by_cases hq:s=q
  ·subst hq;simp only [decide_true,Option.some.injEq] at hf;subst hf;simp only [Nat.sub_self,List.set_cons_zero,lookS];by_cases ht:s=t <;> simp [ht]
  ·simp only [hq,decide_false] at hf;have h6:=findAV_at _ _ _ _ hf;rw [show i - k=(i - (k+1))+1 by omega,List.set_cons_succ]
   simp only [lookS,lookS_set h2 hf];by_cases h8:q=t
   ·subst h8;simp [hq]
   ·simp [h8]
theorem sbB_set {s:List UInt8} {c:Bool} {es:List (AV×AV)} (h:sbB es=true) (i:Nat):sbB (es.set i (.str s,.bool c))=true:=by
 simp only [sbB,List.all_eq_true] at h ⊢;intro e he;rcases List.mem_or_eq_of_mem_set he with h1|rfl
 ·exact h e h1
 ·rfl
theorem sbB_app {s:List UInt8} {c:Bool} {es:List (AV×AV)} (h:sbB es=true):sbB (es++[(.str s,.bool c)])=true:=by
 simp only [sbB,List.all_append,Bool.and_eq_true] at h ⊢;exact ⟨h,rfl⟩
theorem updH_back {hp:Nat->Blk} {b:Nat} {x y:Blk} (hb:hp b=x):updH (updH hp b y) b x=hp:=by
 funext b';simp only [updH];split
 ·rename_i e; rw [e,hb]
 ·rfl
theorem updH_twice {hp:Nat->Blk} {b:Nat} {x y:Blk}:updH (updH hp b y) b x=updH hp b x:=by
 funext b';simp only [updH];split <;> rfl
theorem SRel.asMp (h:SRel U w0 n ρ M tm hp nx a w) {b:Nat} {m:List UInt8->Bool} {r:LoopB} (hb:hp b=.loop (.mf m) r):∃ es,SBok es m/\SRel U w0 n ρ M tm (updH hp b (.loop (.mp es) r)) nx a w:=by
 obtain ⟨L,es,es',c,h1,h2⟩:=(h.hok.loop b _ r hb).mfOK;exact ⟨es,h1,h.reMap hb (fun _ _ _ e=>by cases e) (.inr (.inl ⟨L,es,es',c,.inl rfl,h2⟩))⟩
theorem SRel.asMf (h:SRel U w0 n ρ M tm hp nx a w) {b:Nat} {es:List (AV×AV)} {m:List UInt8->Bool} {r:LoopB} (hb:hp b=.loop (.mp es) r) (hm:SBok es m):SRel U w0 n ρ M tm (updH hp b (.loop (.mf m) r)) nx a w:=by
 obtain ⟨L,es1,es',c,h0,h2⟩:=(h.hok.loop b _ r hb).mapOK;cases h0;exact h.reMap hb (fun _ _ _ e=>by cases e) (.inr (.inl ⟨L,es,es',c,.inr (.inl ⟨m,rfl,hm⟩),h2⟩))
theorem RX.ofUpd {ρ':Rho} {b:Nat} {x:Blk} (h:RX ρ ρ' (updH hp b x) nx) (hb:hp b≠.dead):RX ρ ρ' hp nx :=
 ⟨h.ext,fun b' g h1 h2=>h.dead b' g h1 (by
  simp only [updH];split
  ·rename_i e; rw [e] at h2; exact absurd h2 hb
  ·exact h2)⟩
theorem zfB_ok {et:TypeId} (h:zfB P et=true):zeroAV P et=some (.bool false):=by
 unfold zfB at h;split at h
 ·rename_i b e;rw [e];cases b
  ·rfl
  ·simp at h
 ·cases h
theorem step_lookup (h:SRel U w0 n ρ M tm hp nx a w) (t:TypeId) (x ix:Operand) (ok:Bool) (ho:o.op=.lookup t x ix ok) (ev:Operand->AV) (hx:Rel ρ M (a.eval x) (ev x)) (hix:Rel ρ M (a.eval ix) (ev ix)) (need v eff ob)
  (hs:lookupAV P hp t (ev x) (ev ix) ok=some ⟨need,v,eff,ob⟩) (hk:mkOf hp (ev x)=none):OpOut P o U w0 n ρ M tm hp nx a w v eff:=by
 unfold lookupAV at hs;rw [hk] at hs;split at hs
 case h_2=>exact step_lookup0 h t x ix ok ho ev hx hix need v eff ob hs
 rename_i m hm;unfold mfOf at hm;split at hm
 case h_2=>cases hm
 rename_i b hxe;split at hm
 case h_2=>cases hm
 rename_i m' r hb;cases hm;unfold lookupF at hs;split at hs
 case h_2=>cases hs
 rename_i kt et hu;split at hs
 case h_2=>cases hs
 rename_i s hie;split at hs
 case isFalse=>cases hs
 rename_i hc;simp only [ok1,Option.some.injEq,SR.mk.injEq] at hs;obtain ⟨_,rfl,rfl,_⟩:=hs;simp only [Bool.and_eq_true] at hc;obtain ⟨⟨hc1,hc2⟩,hc3⟩:=hc;obtain ⟨es,hes,h'⟩:=h.asMp hb
 have hb':updH hp b (.loop (.mp es) r) b=.loop (.mp es) r:=by simp [updH]
 obtain ⟨q,hq1,hq2⟩:=findS (s:=s) es 0 hes.1;have key:lookupAV0 P (updH hp b (.loop (.mp es) r)) t (ev x) (ev ix) false=some ⟨true,.bool (m s),[],none⟩:=by
  unfold lookupAV0;rw [hu,hxe,hie];simp only [hc1,keyFit_str hc2,Bool.and_self,if_true,zfB_ok hc3,Option.bind_some,mapEs,hb',sbB_keys hc2 hes.1,AV.cells,hq1];cases q with
  | none =>
   simp only at hq2;rw [<- hes.2 s,hq2];rfl
  | some i =>
   simp only [Nat.sub_zero] at hq2;rw [<- hes.2 s];simp only [ok1,hq2.2]
 obtain ⟨u,w',ρ',M',k1,k2,k3,k4,k5⟩:=step_lookup0 h' t x ix false ho ev hx hix _ _ _ _ key;refine ⟨u,w',ρ',M',k1,k2.ofUpd (by rw [hb]; simp),k3,k4,?_⟩
 have k6:=SRel.asMf (hp:=updH hp b (.loop (.mp es) r)) k5 hb' hes;rw [updH_back hb] at k6;exact k6
theorem step_mapUpdate (h:SRel U w0 n ρ M tm hp nx a w) (t:TypeId) (x ix y:Operand) (ho:o.op=.mapUpdate t x ix y\/o.op=.insert t x ix y) (ev:Operand->AV) (hx:Rel ρ M (a.eval x) (ev x)) (hix:Rel ρ M (a.eval ix) (ev ix)) (hy:Rel ρ M (a.eval y) (ev y)) (need v eff ob)
  (hs:mapUpdateAV P hp t (ev x) (ev ix) (ev y)=some ⟨need,v,eff,ob⟩) (hk:mkAt hp (ev x)=none):OpOut P o U w0 n ρ M tm hp nx a w v eff:=by
 unfold mapUpdateAV at hs;rw [hk] at hs;split at hs
 case h_2=>exact step_mapUpdate0 h t x ix y ho ev hx hix hy need v eff ob hs
 rename_i b m r hm;unfold mfAt at hm;split at hm
 case h_2=>cases hm
 rename_i b1 hxe;split at hm
 case h_2=>cases hm
 rename_i m' r' hb;cases hm;unfold mapUpdateF at hs;split at hs
 case h_2=>cases hs
 rename_i kt et hu;split at hs
 case h_2=>cases hs
 rename_i s c hie hye;split at hs
 case isFalse=>cases hs
 rename_i hc;simp only [Option.some.injEq,SR.mk.injEq] at hs;obtain ⟨_,rfl,rfl,_⟩:=hs;simp only [Bool.and_eq_true] at hc;obtain ⟨hc1,hc2⟩:=hc;obtain ⟨es,hes,h'⟩:=h.asMp hb
 have hb':updH hp b (.loop (.mp es) r) b=.loop (.mp es) r:=by simp [updH]
 obtain ⟨q,hq1,hq2⟩:=findS (s:=s) es 0 hes.1;have key:∃ es2,SBok es2 (fun k=>if s=k then c else m k)/\mapUpdateAV0 P (updH hp b (.loop (.mp es) r)) t (ev x) (ev ix) (ev y)=some ⟨true,.undef,[(b,.loop (.mp es2) r)],none⟩:=by
  unfold mapUpdateAV0;rw [hu,hxe,hie,hye];simp only [hc1,keyFit_str hc2,Bool.and_self,if_true,Option.bind_some,hb',sbB_keys hc2 hes.1,AV.cells,hq1];cases q with
  | none=>exact ⟨_,⟨sbB_app hes.1,fun k=>by rw [lookS_app hes.1 (.inr trivial) (noneAll hes.1 hq1),hes.2 k]⟩,rfl⟩
  | some i =>
   refine ⟨_,⟨sbB_set hes.1 i,fun k=>?_⟩,rfl⟩
   have:=lookS_set (t:=k) (c:=c) hes.1 hq1;rw [Nat.sub_zero] at this;rw [this,hes.2 k]
 obtain ⟨es2,hes2,key⟩:=key;obtain ⟨u,w',ρ',M',k1,k2,k3,k4,k5⟩:=step_mapUpdate0 h' t x ix y ho ev hx hix hy _ _ _ _ key;refine ⟨u,w',ρ',M',k1,k2.ofUpd (by rw [hb]; simp),k3,k4,?_⟩
 have k5':SRel U w0 n ρ' M' tm (updH (updH hp b (.loop (.mp es) r)) b (.loop (.mp es2) r)) (newOf nx [(b,.loop (.mp es2) r)]) a w':=k5;have k6:=SRel.asMf (es:=es2) (r:=r) k5' (b:=b) (by simp [updH]) hes2
 rw [updH_twice,updH_twice] at k6;exact k6
end
end Pw
