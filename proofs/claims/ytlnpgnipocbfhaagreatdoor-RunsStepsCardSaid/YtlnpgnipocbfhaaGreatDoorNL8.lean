/- TREES 8: trees that are made: plain facts. -/
import Derived.Test.YtlnpgnipocbfhaaGreatDoorNL6
import Derived.Test.YtlnpgnipocbfhaaGreatDoorNL7
namespace Go.Proofs.YtlnpgnipocbfhaaGreatDoor
open Pw Go
set_option maxRecDepth 100000
theorem getD_mem {α:Type} {l:List α} {d:α} {i:Nat} (hi:i<l.length):l.getD i d∈l:=by
 have:l.getD i d=l[i]:=by simp [List.getD,hi]
 rw [this];exact List.getElem_mem hi
theorem asc_ge {l:List Int} (h:ascB l=true) (h0:∀ x∈l,0<=x):∀ j,j<l.length->(j:Int)<=l.getD j 0
 | 0,hj=>by
  have:=h0 _ (getD_mem (d:=0) hj);omega
 | j+1,hj=>by
  have h1:=asc_ge h h0 j (by omega)
  simp only [ascB,List.all_eq_true,List.mem_range,decide_eq_true_eq] at h;have h2:=h j (by omega)
  omega
def rightS (s:SlotG):Prop:=0<=s.1/\s.1<12/\(∀ g∈s.gds,0<=g/\g<12)/\ascB s.gds=true
theorem rightS_few {s:SlotG} (h:rightS s):s.gds.length<=12:=by
 rcases Nat.lt_or_ge 12 s.gds.length with h1|h1
 ·have h2:=asc_ge h.2.2.2 (fun x hx=>(h.2.2.1 x hx).1) 12 h1
  have h3:=(h.2.2.1 _ (getD_mem (d:=0) h1)).2;omega
 ·exact h1
theorem chk_right {l:List SlotG} (h:chkL 12 l=0):l≠[]/\(l.getD 0 slotD').gds=[]/\∀ s∈l,rightS s:=by
 unfold chkL at h;split at h
 ·omega
 ·rename_i h1;rw [if_neg (by omega)] at h
  split at h
  ·omega
  ·rename_i h2;split at h
   ·rename_i h3;refine ⟨fun h4=>h1 (.inl (by rw [h4]; rfl)),List.eq_nil_of_length_eq_zero (by omega),fun s hs=>?_⟩
    simp only [Bool.not_eq_true,List.any_eq_false] at h2;have h5:outS 12 s=false:=by simpa using h2 s hs
    simp only [outS,outN,Bool.or_eq_false_iff,decide_eq_false_iff_not,List.any_eq_false] at h5;refine ⟨by omega,by omega,fun g hg=>?_,List.all_eq_true.1 h3 s hs⟩
    have:=h5.2 g hg;simp at this;omega
   ·omega
theorem addTwig_len (t:List TwigG) (a:Nat) (s:SlotG):(addTwig t a s).length=t.length+1:=by simp [addTwig]
theorem addTwig_get {t:List TwigG} {a:Nat} {s:SlotG} {i:Nat} (hi:i<t.length):(addTwig t a s).getD i twigD=if i=a then ((t.getD i twigD).slot,(t.getD i twigD).par,(t.getD i twigD).kids++[(t.length:Int)],(t.getD i twigD).ends,(t.getD i twigD).line,()) else t.getD i twigD:=by
 simp only [addTwig,List.getD_eq_getElem?_getD];rw [List.getElem?_append_left (by simpa using hi),List.getElem?_set]
 by_cases h:i=a
 ·subst h;simp [hi]
 ·rw [if_neg (fun e=>h e.symm),if_neg h]
theorem addTwig_last (t:List TwigG) (a:Nat) (s:SlotG):(addTwig t a s).getD t.length twigD=(s,(a:Int),[],false,-1,()):=by
 simp only [addTwig,List.getD_eq_getElem?_getD];rw [List.getElem?_append_right (by simp)]
 simp
theorem addTwig_slot {t:List TwigG} {a:Nat} {s:SlotG} {i:Nat} (hi:i<t.length):((addTwig t a s).getD i twigD).slot=(t.getD i twigD).slot:=by
 rw [addTwig_get hi];split <;> rfl
theorem addTwig_kids {t:List TwigG} {a:Nat} {s:SlotG} {i:Nat} (hi:i<t.length):((addTwig t a s).getD i twigD).kids=if i=a then (t.getD i twigD).kids++[(t.length:Int)] else (t.getD i twigD).kids:=by
 rw [addTwig_get hi];split <;> rfl
theorem findKid_congr {t t':List TwigG} {ks:List Int} (key:List Int) (h:∀ k∈ks,(t'.getD k.toNat twigD).slot=(t.getD k.toNat twigD).slot):findKid t' ks key=findKid t ks key:=by
 unfold findKid;induction ks with
 | nil=>rfl
 | cons k ks ih =>
  simp only [List.find?_cons,h k List.mem_cons_self];rw [ih fun q hq=>h q (List.mem_cons_of_mem _ hq)]
theorem findKid_mem {t:List TwigG} {ks:List Int} {key:List Int} {k:Int} (h:findKid t ks key=some k):k∈ks:=List.mem_of_find?_eq_some h
theorem findKid_app (t:List TwigG) (ks:List Int) (k:Int) (key:List Int):findKid t (ks++[k]) key=match findKid t ks key with|some x=>some x|none=>if keyL (t.getD k.toNat twigD).slot=key then some k else none:=by
 unfold findKid;rw [List.find?_append];cases List.find? _ ks with
 | some x=>rfl
 | none =>
  simp only [Option.none_or,List.find?_cons,List.find?_nil];by_cases h:keyL (t.getD k.toNat twigD).slot=key
  ·rw [decide_eq_true h,if_pos h]
  ·rw [decide_eq_false h,if_neg h]
theorem goodT_kid {t:List TwigG} {n:Nat} (h:goodT t n) {i:Nat} (hi:i<t.length) {k:Int} (hk:k∈(t.getD i twigD).kids):0<=k/\k<t.length:=h.2.2.1 i hi k hk
theorem goodT_add {t:List TwigG} {n a:Nat} (s:SlotG) (h:goodT t n):goodT (addTwig t a s) (n+1):=by
 refine ⟨by rw [addTwig_len]; omega,by rw [addTwig_len]; have:=h.2.1; omega,fun j hj k hk=>?_,fun j hj=>?_⟩
 rotate_left
 ·rw [addTwig_len] at hj ⊢;rcases Nat.lt_or_ge j t.length with h1|h1
  ·have:=h.2.2.2 j h1;rw [addTwig_kids h1];by_cases h2:j=a
   ·rw [if_pos h2,List.length_append,List.length_singleton];omega
   ·rw [if_neg h2];omega
  ·obtain rfl:j=t.length:=by omega
   rw [addTwig_last];exact Nat.zero_le _
 rw [addTwig_len] at hj ⊢;rcases Nat.lt_or_ge j t.length with h1|h1
 ·rw [addTwig_kids h1] at hk;split at hk
  ·rcases List.mem_append.1 hk with h2|h2
   ·have:=h.2.2.1 j h1 k h2;omega
   ·simp at h2;omega
  ·have:=h.2.2.1 j h1 k hk;omega
 ·obtain rfl:j=t.length:=by omega
  rw [addTwig_last] at hk;cases hk
theorem goodT_end {t:List TwigG} {n a:Nat} (z:Int) (h:goodT t n):goodT (endTwig t a z) n:=by
 have hk:∀ j,j<t.length->((endTwig t a z).getD j twigD).kids=(t.getD j twigD).kids:=fun j h1=>by
  simp only [endTwig,List.getD_eq_getElem?_getD];rw [List.getElem?_set];by_cases h3:a=j
  ·subst h3;simp [h1]
  ·rw [if_neg h3]
 have hl:(endTwig t a z).length=t.length:=by simp [endTwig]
 unfold goodT;rw [hl];refine ⟨h.1,h.2.1,fun j hj=>?_,fun j hj=>?_⟩
 ·rw [hk j hj];exact h.2.2.1 j hj
 ·rw [hk j hj];exact h.2.2.2 j hj
theorem goodT_mono {t:List TwigG} {n m:Nat} (h:goodT t n) (hm:n<=m):goodT t m:=⟨h.1,by have:=h.2.1; omega,h.2.2⟩
theorem kid_add {t:List TwigG} {n a:Nat} {s:SlotG} (h:goodT t n) (ha:a<t.length) (hn:kidHas t a (keyL s)=false) {i:Nat} (hi:i<t.length+1) (q:List Int) :
  findKid (addTwig t a s) ((addTwig t a s).getD i twigD).kids q=if i=t.length then none else if i=a then (if q=keyL s then some (t.length:Int) else findKid t (t.getD a twigD).kids q) else findKid t (t.getD i twigD).kids q:=by
 by_cases h1:i=t.length
 ·subst h1;rw [addTwig_last,if_pos rfl];rfl
 have h2:i<t.length:=by omega
 rw [if_neg h1,addTwig_kids h2];have hc:∀ k∈(t.getD i twigD).kids,((addTwig t a s).getD k.toNat twigD).slot=(t.getD k.toNat twigD).slot:=fun k hk=>by
  have:=goodT_kid h h2 hk;exact addTwig_slot (by omega)
 by_cases h3:i=a
 ·subst h3;rw [if_pos rfl,if_pos rfl,findKid_app,findKid_congr q hc];have h4:((addTwig t i s).getD (Int.toNat (t.length:Int)) twigD).slot=s:=by
   rw [Int.toNat_natCast,addTwig_last]
  rw [h4];by_cases h5:q=keyL s
  ·subst h5;simp only [kidHas] at hn;have h6:findKid t (t.getD i twigD).kids (keyL s)=none:=by
    cases h7:findKid t (t.getD i twigD).kids (keyL s) with
    | none=>rfl
    | some x=>rw [h7] at hn; cases hn
   simp only [h6,if_pos]
  ·rw [if_neg h5,if_neg (fun e=>h5 e.symm)]
   cases findKid t (t.getD i twigD).kids q <;> rfl
 ·rw [if_neg h3,if_neg h3,findKid_congr q hc]
def longB (ls:List (List SlotG)):Bool:=ls.any fun l=>decide (12<l.length)
def ofT (ls:List (List SlotG)):List TwigG×Int :=
 if ls.length<1\/64<ls.length\/longB ls=true then ([],23)
 else match ls.find? fun l=>decide (chkL 12 l≠0) with
  | some l=>([],chkL 12 l)
  | none=>match trN ls ls.length with
   | some t=>(t,0)
   | none=>([],8)
theorem impB_of {m need:Bool} (h:m=true->need=true):impB m need=true:=by
 cases m <;> cases need <;> simp_all [impB]
theorem range_any {α:Type} (l:List α) (d:α) (p:α->Bool):((List.range l.length).any fun i=>p (l.getD i d))=l.any p:=by
 rw [Bool.eq_iff_iff,List.any_eq_true,List.any_eq_true];constructor
 ·rintro ⟨i,hi,h⟩;exact ⟨_,getD_mem (d:=d) (by simpa using hi),h⟩
 ·rintro ⟨x,hx,h⟩;obtain ⟨i,hi,rfl⟩:=List.getElem_of_mem hx;exact ⟨i,by simpa using hi,by simpa [List.getD,hi] using h⟩
theorem find_none' {α:Type} {l:List α} {d:α} {p:α->Bool} (h:∀ j,j<l.length->p (l.getD j d)=false):l.find? p=none:=by
 rw [List.find?_eq_none];intro x hx;obtain ⟨i,hi,rfl⟩:=List.getElem_of_mem hx;have:=h i hi;simpa [List.getD,hi] using this
theorem find_first {α:Type} {d:α} {p:α->Bool}:∀ {l:List α} {i:Nat},i<l.length->(∀ j,j<i->p (l.getD j d)=false)->p (l.getD i d)=true->l.find? p=some (l.getD i d)
 | [],i,hi,_,_=>by simp at hi
 | x::l,0,_,_,h=>by
  have h1:p x=true:=h;simp [List.find?_cons,h1]
 | x::l,i+1,hi,h0,h=>by
  have h1:p x=false:=h0 0 (by omega)
  have h2:=find_first (d:=d) (l:=l) (i:=i) (by simpa using hi) (fun j hj=>h0 (j+1) (by omega)) h
  rw [List.find?_cons,h1];exact h2
theorem tq_sub (k:Nat) (x:TwigG):(twigQ k x).sub (twigQ k x):=⟨rfl,sub_ints _,rfl,⟨rfl,rfl,rfl,fun q _=>⟨rfl,rfl⟩⟩,rfl,rfl,trivial⟩
theorem tq_push (k:Nat) (x:TwigG) (n:Nat):(AV.agg [.int .i64 x.slot.1,intsA x.slot.gds,.int .i64 x.par,.gro 40 k (x.kids.length+1) (fun q=>mergeAV (q<x.kids.length) (.int .i64 (x.kids.getD q 0)) (.int .i64 n)),.bool x.ends,.int .i64 x.line]).sub (twigQ k (x.slot,x.par,x.kids++[(n:Int)],x.ends,x.line,())):=by
 refine ⟨rfl,sub_ints _,rfl,⟨rfl,rfl,by simp [TwigG.kids],fun q hq=>?_⟩,rfl,rfl,trivial⟩
 show (mergeAV (q<x.kids.length) (.int .i64 (x.kids.getD q 0)) (.int .i64 n)).sub (.int .i64 ((x.kids++[(n:Int)]).getD q 0))/\(mergeAV (q<x.kids.length) (.int .i64 (x.kids.getD q 0)) (.int .i64 n)).cells.length=1;rw [mergeAV_eq]
 by_cases h:q<x.kids.length
 ·rw [if_pos h];have:(x.kids++[(n:Int)]).getD q 0=x.kids.getD q 0:=by
   simp only [List.getD_eq_getElem?_getD];rw [List.getElem?_append_left h]
  exact ⟨this.symm,rfl⟩
 ·rw [if_neg h];obtain rfl:q=x.kids.length:=by omega
  have:(x.kids++[(n:Int)]).getD x.kids.length 0=n:=by simp [List.getD_eq_getElem?_getD]
  exact ⟨this.symm,rfl⟩
theorem tq_new (k:Nat) (s:SlotG) (a:Int):(AV.agg [.int .i64 s.1,.rof s.gds.length (fun i=>.int .i64 (i64Of (.int .i64 (s.gds.getD i 0)))) false,.int .i64 a,.nils,.bool false,.int .i64 (-1)]).sub (twigQ k (s,a,[],false,-1,())):=⟨rfl,sub_ints _,rfl,rfl,rfl,rfl,trivial⟩
theorem take_succ' {α:Type} (d:α) {l:List α} {j:Nat} (h:j<l.length):l.take (j+1)=l.take j++[l.getD j d]:=by
 rw [List.take_add_one];simp [List.getD,h]
theorem kidLen_add {t:List TwigG} {a:Nat} (s:SlotG) (ha:a<t.length) (i:Nat):(if i=a then (t.getD a twigD).kids.length+1 else kidLen t i)=kidLen (addTwig t a s) i:=by
 unfold kidLen;rcases Nat.lt_trichotomy i t.length with h|h|h
 ·rw [addTwig_kids h];by_cases h1:i=a
  ·subst h1;simp
  ·rw [if_neg h1,if_neg h1]
 ·subst h;rw [addTwig_last,if_neg (by omega)]
  simp [List.getD,TwigG.kids,twigD]
 ·rw [if_neg (by omega)]
  have h1:t.getD i twigD=twigD:=by simp [List.getD,Nat.le_of_lt h]
  have h2:(addTwig t a s).getD i twigD=twigD:=by
   rw [List.getD_eq_getElem?_getD,List.getElem?_eq_none (by rw [addTwig_len]; omega)]
   rfl
  rw [h1,h2]
theorem maps_add {t:List TwigG} {n a:Nat} {s:SlotG} (h:goodT t n) (ha:a<t.length) (hn:kidHas t a (keyL s)=false) {i:Nat} (hi:i<t.length+1) (q:List Int) :
  (if i=t.length then false else if i=a then ((KM.mk keyZ (.int .i64 0) (kidHas t a) (kidVal t a)).put (keyL s) (.int .i64 t.length)).has q else kidHas t i q)=kidHas (addTwig t a s) i q /\
  mergeAV (i=t.length) (.int .i64 0) (mergeAV (i=a) (((KM.mk keyZ (.int .i64 0) (kidHas t a) (kidVal t a)).put (keyL s) (.int .i64 t.length)).val q) (kidVal t i q))=kidVal (addTwig t a s) i q:=by
 have hk:=kid_add h ha hn hi q;simp only [KM.put,mergeAV_eq];simp only [kidHas,kidVal,hk];by_cases h1:i=t.length
 ·simp only [if_pos h1];exact ⟨rfl,rfl⟩
 ·simp only [if_neg h1];by_cases h2:i=a
  ·simp only [if_pos h2];by_cases h3:q=keyL s
   ·simp only [if_pos h3];exact ⟨rfl,rfl⟩
   ·simp only [if_neg h3];exact ⟨trivial,trivial⟩
  ·simp only [if_neg h2];exact ⟨trivial,trivial⟩
theorem endTwig_get {t:List TwigG} {a i:Nat} (z:Int) (hi:i<t.length):(endTwig t a z).getD i twigD=if i=a then ((t.getD i twigD).slot,(t.getD i twigD).par,(t.getD i twigD).kids,true,z,()) else t.getD i twigD:=by
 simp only [endTwig,List.getD_eq_getElem?_getD];rw [List.getElem?_set];by_cases h:i=a
 ·subst h;simp [hi]
 ·rw [if_neg (fun e=>h e.symm),if_neg h]
theorem endTwig_len (t:List TwigG) (a:Nat) (z:Int):(endTwig t a z).length=t.length:=by simp [endTwig]
theorem endTwig_kids (t:List TwigG) (a i:Nat) (z:Int):((endTwig t a z).getD i twigD).kids=(t.getD i twigD).kids:=by
 rcases Nat.lt_or_ge i t.length with h|h
 ·rw [endTwig_get z h];split <;> rfl
 ·rw [show (endTwig t a z).getD i twigD=twigD by rw [List.getD_eq_getElem?_getD,List.getElem?_eq_none (by rw [endTwig_len]; exact h)]; rfl]
  rw [show t.getD i twigD=twigD by rw [List.getD_eq_getElem?_getD,List.getElem?_eq_none h]; rfl]
theorem endTwig_slot (t:List TwigG) (a i:Nat) (z:Int):((endTwig t a z).getD i twigD).slot=(t.getD i twigD).slot:=by
 rcases Nat.lt_or_ge i t.length with h|h
 ·rw [endTwig_get z h];split <;> rfl
 ·rw [show (endTwig t a z).getD i twigD=twigD by rw [List.getD_eq_getElem?_getD,List.getElem?_eq_none (by rw [endTwig_len]; exact h)]; rfl]
  rw [show t.getD i twigD=twigD by rw [List.getD_eq_getElem?_getD,List.getElem?_eq_none h]; rfl]
theorem findKid_end (t:List TwigG) (a i:Nat) (z:Int) (q:List Int):findKid (endTwig t a z) ((endTwig t a z).getD i twigD).kids q=findKid t (t.getD i twigD).kids q:=by
 rw [endTwig_kids];exact findKid_congr q fun k _=>endTwig_slot _ _ _ _
theorem trN_none {ls:List (List SlotG)} {m:Nat} (h:trN ls m=none):∀ k,trN ls (m+k)=none
 | 0=>h
 | k+1=>by
  show (match trN ls (m+k) with|none=>none|some t=>addLine t (ls.getD (m+k) []) (m+k))=none
  rw [trN_none h k]
theorem ELg_ok (ls:List (List SlotG)):CtrOK (ELg ls):=mkE_ctr (tbl_nil _)
theorem long_pure (ls:List (List SlotG)) (hl:ls.length<=1000000):PureC Tryz.prog gU 48 [linesA ls,.fn (.func 49) [] []] (.bool (longB ls)):=by
 refine PureC.of_vc (E:=ELg ls) (k:=20) (d:=3) mix (ELg_ok ls) ((long_vc ls _).mpr ⟨⟨0,⟨Nat.zero_le _,fun j hj=>by omega⟩,⟨sub_lines ls,⟨rfl,trivial,trivial⟩,rfl,rfl,trivial⟩,trivial⟩,fun i hpre=>?_⟩)
 obtain ⟨hi,hpre⟩:=hpre;refine VB_intro (fun h=>?_) (fun h=>?_)
 ·have h1:i<ls.length:=by simpa using h
  refine NB_intro (by simp; omega) (VB_intro (fun h2=>?_) (fun h2=>?_))
  ·have h3:longB ls=true:=any_at (d:=[]) h1 (by
    have h4:(12:Int)<((ls.getD i []).length:Int):=of_decide_eq_true h2;exact decide_eq_true (by omega))
   rw [h3];simp
  ·have h3:(ls.getD i []).length<=12:=by
    have h4:¬ (12:Int)<((ls.getD i []).length:Int):=of_decide_eq_false h2;omega
   refine ⟨i+1,⟨by omega,fun j hj=>?_⟩,by simp only [invLg]; omega,⟨sub_lines ls,⟨rfl,trivial,trivial⟩,rfl,by rw [wrap_i64_id (by omega) (by omega)]; omega,trivial⟩,trivial⟩
   rcases Nat.lt_or_ge j i with h4|h4
   ·exact hpre j h4
   ·obtain rfl:j=i:=by omega
    exact h3
 ·have h1:¬ i<ls.length:=by simpa using h
  have h3:longB ls=false:=any_none (d:=[]) (fun j hj=>decide_eq_false (by have:=hpre j (by omega); omega))
  rw [h3]
theorem long_ok:PureF Tryz.prog 48 cLong:=by
 intro args nd v he hnd;unfold cLong at he;split at he <;> cases he
 rename_i n f ex g;simp only [Bool.and_eq_true,decide_eq_true_eq] at hnd;obtain ⟨⟨h1,rfl⟩,h2⟩:=hnd;have h3:((List.range n).any fun i=>decide (12<lineLen (f i)))=longB (linesOf' n f):=by
  rw [longB,linesOf',List.any_map];congr 1;funext i;simp [lineOf_len]
 rw [h3];refine PureC.args (args':=[linesA (linesOf' n f),.fn (.func 49) [] []]) rfl (fun i hi=>?_) (long_pure _ (by rw [linesOf_len]; exact h1))
 match i,hi with
 | 0,_=>exact lines_sub h2
 | 1,_=>exact ⟨rfl,trivial,trivial⟩
theorem EOf_ok (ls:List (List SlotG)):CtrOK (EOf ls):=⟨(mkE_ctr (P:=Tryz.prog) (inv:=fun _ _=>none) (tbl_cons long_ok (tbl_cons chk_ok (tbl_cons of_ok (tbl_cons cloneI_ok (tbl_nil _)))))).1,itr_none rfl⟩
theorem good_root:goodT rootT 1:=⟨by simp [rootT],by simp [rootT],fun j hj k hk=>(by
 have:j=0:=by simp [rootT] at hj; omega
 subst this;cases hk),fun j hj=>by
 have:j=0:=by simp [rootT] at hj; omega
 subst this;exact Nat.zero_le _⟩
theorem ofTree_pure (ls:List (List SlotG)) (t:List TwigG) (e:Int) (hf:∀ l∈ls,fewS l=true) (hr:ofT ls=(t,e)):PureC Tryz.prog gU 12 [linesA ls] (.tup [treeA t,.int .i64 e]):=by
 refine PureC.of_vc (E:=EOf ls) (k:=20) (d:=3) mix (EOf_ok ls) ((of_tree_vc ls t e).mpr ?_)
 conv=>zeta
 refine NB_intro (impB_of fun hm=>?_) ?_
 ·have h1:¬ (ls.length<1\/64<ls.length):=fun hc=>by
   have h2:(decide ((ls.length:Int)<1)||decide ((ls.length:Int) > 64))=true:=by
    simp only [Bool.or_eq_true,decide_eq_true_eq];omega
   rw [h2] at hm;cases hm
  have h2:((List.range ls.length).all fun i=>isLineL (lineA (ls.getD i [])))=true:=by
   rw [List.all_eq_true];exact fun _ _=>slotsB_self _
  rw [h2];simp;omega
 rw [show ((List.range ls.length).any fun (i:Nat)=>decide ((12:Nat)<lineLen (lineA (ls.getD i []))))=longB ls from range_any ls [] (fun l=>decide (12<l.length))]
 refine VB_intro (fun h=>?_) (fun h=>?_)
 ·have h1:ls.length<1\/64<ls.length\/longB ls=true:=by
   simp only [Bool.or_eq_true,decide_eq_true_eq] at h;rcases h with (h|h)|h
   ·omega
   ·omega
   ·exact .inr (.inr h)
  rw [ofT,if_pos h1,Prod.mk.injEq] at hr;obtain ⟨rfl,rfl⟩:=hr;exact ⟨⟨rfl,trivial⟩,rfl,trivial⟩
 simp only [Bool.or_eq_false_iff,decide_eq_false_iff_not] at h;have h1:¬ (ls.length<1\/64<ls.length\/longB ls=true):=by
  rintro (h2|h2|h2)
  ·omega
  ·omega
  ·rw [h.2] at h2;cases h2
 rw [ofT,if_neg h1] at hr;have hlong:∀ j,j<ls.length->(ls.getD j []).length<=12:=fun j hj=>by
  rcases Nat.lt_or_ge 12 (ls.getD j []).length with h2|h2
  ·exact (h1 (.inr (.inr (any_at (d:=[]) hj (decide_eq_true h2))))).elim
  ·exact h2
 have hl:ls.length<=64:=by omega
 refine ⟨⟨0,⟨Nat.zero_le _,fun j hj=>by omega⟩,⟨sub_lines ls,⟨rfl,rfl,rfl⟩,sub_lines ls,rfl,rfl,trivial⟩,⟨rfl,fun h=>h,⟨⟨trivial,trivial⟩,rfl⟩,trivial⟩,trivial⟩,fun i hpre=>?_⟩
 obtain ⟨hi,hpre⟩:=hpre;refine VB_intro (fun h2=>?_) (fun h2=>?_)
 ·have h3:i<ls.length:=by simpa using h2
  rw [show (Int.toNat (i:Int))=i from rfl,slotsOf_self,slotsB_self];refine NB_intro (by simp; omega) (NB_intro (by rw [hf _ (getD_mem (d:=[]) h3)]; rfl) (VB_intro (fun h4=>?_) (fun h4=>?_)))
  ·have h5:decide (chkL 12 (ls.getD i [])≠0)=true:=by simpa using h4
   rw [find_first (d:=[]) h3 (fun j hj=>by simpa using hpre j hj) h5] at hr
   simp only [Prod.mk.injEq] at hr;obtain ⟨rfl,rfl⟩:=hr;exact ⟨⟨rfl,trivial⟩,rfl,trivial⟩
  ·have h5:chkL 12 (ls.getD i [])=0:=by simpa using h4
   refine ⟨i+1,⟨by omega,fun j hj=>?_⟩,by simp only [invOf0]; omega,⟨sub_lines ls,⟨rfl,rfl,rfl⟩,sub_lines ls,rfl,by rw [wrap_i64_id (by omega) (by omega)]; omega,trivial⟩,⟨rfl,fun h=>h,⟨⟨trivial,trivial⟩,rfl⟩,trivial⟩,trivial⟩
   rcases Nat.lt_or_ge j i with h6|h6
   ·exact hpre j h6
   ·obtain rfl:j=i:=by omega
    exact h5
 have h3:¬ i<ls.length:=by simpa using h2
 have hall:∀ j,j<ls.length->chkL 12 (ls.getD j [])=0:=fun j hj=>hpre j (by omega)
 clear hpre h2 h3 hi i;rw [find_none' (d:=[]) (fun j hj=>by simpa using hall j hj)] at hr
 refine ⟨⟨(0,rootT),⟨Nat.zero_le _,rfl,good_root⟩,?_⟩,fun p hpre=>?_⟩
 ·repeat' (first|exact sub_lines _|exact sub_slots _|exact tq_sub _ _|exact trivial|exact rfl|exact Or.inr rfl|exact fun h=>h|exact fun _ _=>rfl|exact fun _ _=>⟨tq_sub _ _,rfl⟩|exact fun _ _ _=>⟨rfl,rfl⟩|exact fun _ _=>⟨⟨rfl,rfl⟩,rfl⟩|exact fun _=>rfl|refine And.intro ?_ ?_)
  ·intro i hi q;obtain rfl:i=0:=by omega
   exact ⟨rfl,rfl⟩
  ·intro i
   match i with
   | 0=>rfl
   | _+1=>rfl
 obtain ⟨n,t0⟩:=p;obtain ⟨hn,htr,hg⟩:=hpre;refine VB_intro (fun h2=>?_) (fun h2=>?_)
 ·have h3:n<ls.length:=by simpa using h2
  refine NB_intro (by simp; omega) ?_
  have hright:=chk_right (hall n h3);have hlen:=hlong n h3;rw [show (Int.toNat (n:Int))=n from rfl];generalize hL:ls.getD n []=L at hright hlen ⊢;refine ⟨⟨(0,t0,0),⟨Nat.zero_le _,⟨t0,htr,rfl⟩,hg,hg.1⟩,?_⟩,fun p hpre=>?_⟩
  ·repeat' (first|exact sub_lines _|exact sub_slots _|exact tq_sub _ _|exact trivial|exact rfl|exact Or.inr rfl|exact fun h=>h|exact fun _ _=>rfl|exact fun _ _=>⟨tq_sub _ _,rfl⟩|exact fun _ _ _=>⟨rfl,rfl⟩|exact fun _ _=>⟨⟨rfl,rfl⟩,rfl⟩|exact fun _=>rfl|refine And.intro ?_ ?_)
  obtain ⟨j,t1,a⟩:=p;obtain ⟨hj,⟨t0',ht0',hfold⟩,hg1,ha⟩:=hpre;have ht1:t1.length<=1000:=by have:=hg1.2.1; simp only at this; omega
  have ht2:1<=t1.length:=hg1.1;have ha':a<t1.length:=ha;rw [show (Int.toNat (a:Int))=a from rfl];refine VB_intro (fun h4=>?_) (fun h4=>?_)
  ·have h5:j<L.length:=by simpa using h4
   rw [show (Int.toNat (j:Int))=j from rfl];have hs:=hright.2.2 _ (getD_mem (d:=slotD') h5);have htake:=take_succ' slotD' h5;generalize L.getD j slotD'=s at hs htake ⊢;have hgd:=rightS_few hs;rw [intsB_self]
   have nb13:(decide (s.gds.length<=13)&&true)=true:=by simp; omega
   have nbm:(decide (s.gds.length<=1000000)&&true)=true:=by simp; omega
   have nba:(decide (t1.length - 1=t1.length - 1)&&decide ((0:Int)<=(a:Int)/\(a:Int)<(t1.length:Int)))=true:=by simp; omega
   have nbe:decide (t1.length - 1=t1.length - 1)=true:=decide_eq_true rfl;have nbl:decide (0+a<t1.length)=true:=decide_eq_true (by omega)
   have hmu:(ls.getD n []).length - (j+1)<(ls.getD n []).length - j:=by rw [hL]; omega
   have hW:IntKind.i64.wrap ((j:Int)+1)=((j+1:Nat):Int):=by rw [wrap_i64_id (by omega) (by omega)]; rfl
   refine NB_intro (by simp; omega) (NB_intro nba (NB_intro nbe (NB_intro nb13 (NB_intro nbl (VB_intro (fun h6=>?_) (fun h6=>?_))))))
   ·have hn:kidHas t1 a (keyL s)=false:=by
     have h7:(!kidHas t1 (0+a) (keyL s))=true:=h6;rw [Nat.zero_add] at h7;simpa using h7
    have hnone:findKid t1 (t1.getD a twigD).kids (keyL s)=none:=by
     cases h7:findKid t1 (t1.getD a twigD).kids (keyL s) with
     | none=>rfl
     | some x=>rw [kidHas,h7] at hn; cases hn
    have nbk:(true&&room ((t1.getD (0+a) twigD).kids.length+1) 8&&decide ((t1.getD (0+a) twigD).kids.length=kidLen t1 (0+a)))=true:=by
     have hr8:room ((t1.getD (0+a) twigD).kids.length+1) 8=true:=by
      rw [Nat.zero_add];have:=hg1.2.2.2 a ha';exact decide_eq_true ⟨by simp only at this; omega,by simp only at this; omega⟩
     rw [hr8,decide_eq_true (show (t1.getD (0+a) twigD).kids.length=kidLen t1 (0+a) from rfl)];rfl
    have hroom:room (t1.length+1) 80=true:=decide_eq_true ⟨by omega,by omega⟩
    have hroom8:room (t1.length+1) 8=true:=decide_eq_true ⟨by omega,by omega⟩
    have nbr:(true&&decide (t1.length - 1=t1.length - 1)&&room (t1.length+1) 80)=true:=by rw [hroom,nbe]; rfl
    have nbr8:(true&&decide (t1.length - 1=t1.length - 1)&&room (t1.length+1) 8)=true:=by rw [hroom8,nbe]; rfl
    refine NB_intro nba (NB_intro nbe (NB_intro nb13 (NB_intro nbl (NB_intro nba (NB_intro nbe (NB_intro nbk (NB_intro nba (NB_intro nbe (NB_intro nbm (NB_intro nbr (NB_intro nbr8 ?_)))))))))));have hlen':=addTwig_len t1 a s
    refine ⟨(j+1,addTwig t1 a s,t1.length),⟨by omega,⟨t0',ht0',?_⟩,?_,?_⟩,hmu,?_⟩
    ·rw [htake,List.foldl_append,hfold];show stepSlot (t1,a) s=_;simp only [stepSlot,hnone]
    ·exact goodT_add s hg1
    ·show t1.length<(addTwig t1 a s).length;omega
    rw [Nat.zero_add];have hL1:t1.length - 1+1=(addTwig t1 a s).length - 1:=by omega
    have hL2:t1.length+1=(addTwig t1 a s).length:=by omega
    repeat' (first|exact sub_lines _|exact sub_slots _|exact tq_sub _ _|exact trivial|exact rfl|exact Or.inr rfl|exact fun h=>h|exact fun _ _=>rfl|exact fun _ _=>⟨tq_sub _ _,rfl⟩|exact fun _ _ _=>⟨rfl,rfl⟩|exact fun _ _=>⟨⟨rfl,rfl⟩,rfl⟩|exact fun _=>rfl|refine And.intro ?_ ?_)
    all_goals try (first|exact hL1|exact hL2|exact hW|exact kidLen_add s ha')
    ·intro i hi;dsimp only at hi ⊢;by_cases hin:i<t1.length
     ·rw [if_pos hin,addTwig_get hin,Nat.zero_add];by_cases hia:i=a
      ·subst hia;simp only [if_true];exact ⟨tq_push _ _ _,rfl⟩
      ·rw [if_neg hia];simp only [if_neg hia];exact ⟨tq_sub _ _,rfl⟩
     ·obtain rfl:i=t1.length:=by omega
      rw [if_neg hin,addTwig_last,Nat.sub_self];exact ⟨tq_new _ s a,rfl⟩
    ·intro i hi q;exact maps_add hg1 ha' hn hi q
    ·intro i hi;dsimp only at hi ⊢;by_cases hin:i<t1.length
     ·rw [if_pos hin,Nat.zero_add];exact ⟨⟨rfl,rfl⟩,rfl⟩
     ·obtain rfl:i=t1.length:=by omega
      rw [if_neg hin,Nat.sub_self];exact ⟨⟨rfl,rfl⟩,rfl⟩
   ·have hn:kidHas t1 a (keyL s)=true:=by
     have h7:(!kidHas t1 (0+a) (keyL s))=false:=h6;rw [Nat.zero_add] at h7;simpa using h7
    obtain ⟨k,hk⟩:=Option.isSome_iff_exists.1 hn;have hkb:=hg1.2.2.1 a ha' k (findKid_mem hk);dsimp only at hkb;refine ⟨(j+1,t1,k.toNat),⟨by omega,⟨t0',ht0',?_⟩,?_,?_⟩,hmu,?_⟩
    ·rw [htake,List.foldl_append,hfold];show stepSlot (t1,a) s=_;simp only [stepSlot,hk]
    ·exact goodT_mono hg1 (by dsimp only; omega)
    ·show k.toNat<t1.length;omega
    have hkk:(findKid t1 (t1.getD (0+a) twigD).kids (keyL s)).getD 0=((k.toNat:Nat):Int):=by
     rw [Nat.zero_add,hk];show k=_;omega
    repeat' (first|exact sub_lines _|exact sub_slots _|exact tq_sub _ _|exact trivial|exact rfl|exact Or.inr rfl|exact fun h=>h|exact fun _ _=>rfl|exact fun _ _=>⟨tq_sub _ _,rfl⟩|exact fun _ _ _=>⟨rfl,rfl⟩|exact fun _ _=>⟨⟨rfl,rfl⟩,rfl⟩|exact fun _=>rfl|refine And.intro ?_ ?_)
    all_goals (first|exact hkk|exact hW)
  ·have h5:j=L.length:=by
    have:¬ j<L.length:=by simpa using h4
    omega
   subst h5;obtain rfl:t0=t0':=by
    have h6:trN ls n=some t0:=htr;have h7:trN ls n=some t0':=ht0';rw [h6] at h7;exact Option.some.inj h7
   rw [List.take_length] at hfold;dsimp only at hfold;have nba:(decide (t1.length - 1=t1.length - 1)&&decide ((0:Int)<=(a:Int)/\(a:Int)<(t1.length:Int)))=true:=by simp; omega
   have nbe:decide (t1.length - 1=t1.length - 1)=true:=decide_eq_true rfl;have hstep:trN ls (n+1)=if (t1.getD a twigD).ends then none else some (endTwig t1 a n):=by
    have h6:trN ls n=some t0:=htr;show (match trN ls n with|none=>none|some t=>addLine t (ls.getD n []) n)=_
    rw [h6,hL];show addLine t0 L n=_;rw [addLine,hfold]
   refine NB_intro nba (NB_intro nbe (VB_intro (fun h6=>?_) (fun h6=>?_)))
   ·rw [Nat.zero_add] at h6;rw [h6,if_pos rfl] at hstep;have h7:=trN_none hstep (ls.length - (n+1));rw [show n+1+(ls.length - (n+1))=ls.length by omega] at h7
    rw [h7] at hr;simp only [Prod.mk.injEq] at hr;obtain ⟨rfl,rfl⟩:=hr;exact ⟨⟨rfl,trivial⟩,rfl,trivial⟩
   ·rw [Nat.zero_add] at h6;rw [h6,if_neg (by simp)] at hstep
    have hW:IntKind.i64.wrap ((n:Int)+1)=((n+1:Nat):Int):=by rw [wrap_i64_id (by omega) (by omega)]; rfl
    have hL0:=endTwig_len t1 a n;refine NB_intro nba (NB_intro nbe (NB_intro nba (NB_intro nbe ⟨(n+1,endTwig t1 a n),⟨by omega,hstep,?_⟩,by simp only [invOf2]; omega,?_⟩)))
    ·exact goodT_mono (goodT_end n hg1) (by dsimp only; omega)
    have hL1:t1.length - 1=(endTwig t1 a n).length - 1:=by omega
    have hL2:t1.length=(endTwig t1 a n).length:=by omega
    rw [Nat.zero_add]
    repeat' (first|exact sub_lines _|exact sub_slots _|exact tq_sub _ _|exact trivial|exact rfl|exact Or.inr rfl|exact fun h=>h|exact fun _ _=>rfl|exact fun _ _=>⟨tq_sub _ _,rfl⟩|exact fun _ _ _=>⟨rfl,rfl⟩|exact fun _ _=>⟨⟨rfl,rfl⟩,rfl⟩|exact fun _=>rfl|refine And.intro ?_ ?_)
    all_goals try (first|exact hL1|exact hL2|exact hW)
    ·intro i hi;dsimp only at hi ⊢;rw [endTwig_get n hi];by_cases hia:i=a
     ·subst hia;simp only [if_true];exact ⟨tq_sub i ((t1.getD i twigD).slot,(t1.getD i twigD).par,(t1.getD i twigD).kids,true,(n:Int),()),by trivial⟩
     ·simp only [if_neg hia];exact ⟨tq_sub _ _,by trivial⟩
    ·intro i hi q;simp only [kidHas,kidVal,findKid_end];exact ⟨trivial,trivial⟩
    ·intro i;exact (congrArg List.length (endTwig_kids t1 a i n)).symm
 ·have h3:n=ls.length:=by
   have h4:¬ n<ls.length:=by simpa using h2
   have h5:n<=ls.length:=hn;omega
  subst h3;have h4:trN ls ls.length=some t0:=htr;rw [h4] at hr;simp only [Prod.mk.injEq] at hr;obtain ⟨rfl,rfl⟩:=hr;refine NB_intro (by simp) ⟨⟨⟨rfl,fun i hi=>?_,fun h=>by cases h⟩,trivial⟩,rfl,trivial⟩
  dsimp only;rw [Nat.zero_add];exact ⟨⟨rfl,⟨rfl,fun _ _=>⟨rfl,rfl⟩,fun h=>h⟩,rfl,⟨rfl,fun _ _=>⟨rfl,rfl⟩,fun h=>h⟩,rfl,rfl,trivial⟩,rfl⟩
end Go.Proofs.YtlnpgnipocbfhaaGreatDoor
