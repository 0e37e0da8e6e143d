/- TREES J: nfa.lines: the contract. -/
import Derived.Test.YtlnpgnipocbfhaaGreatDoorNLI
namespace Go.Proofs.YtlnpgnipocbfhaaGreatDoor
open Pw Go
set_option maxRecDepth 100000
theorem stepSlot_good {t:List TwigG} {n a:Nat} (s:SlotG) (h:goodT t n) (ha:a<t.length):goodT (stepSlot (t,a) s).1 (n+1)/\(stepSlot (t,a) s).2<(stepSlot (t,a) s).1.length:=by
 unfold stepSlot;dsimp only;split
 ·rename_i k hk;have:=h.2.2.1 a ha k (findKid_mem hk);exact ⟨goodT_mono h (by omega),by dsimp only; omega⟩
 ·exact ⟨goodT_add s h,by dsimp only; rw [addTwig_len]; omega⟩
theorem fold_good:∀ (l:List SlotG) {t:List TwigG} {n a:Nat},goodT t n->a<t.length->goodT (l.foldl stepSlot (t,a)).1 (n+l.length)/\(l.foldl stepSlot (t,a)).2<(l.foldl stepSlot (t,a)).1.length
 | [],_,_,_,h,ha=>⟨h,ha⟩
 | s::l,t,n,a,h,ha=>by
  obtain ⟨h1,h2⟩:=stepSlot_good s h ha;have h3:=fold_good l (t:=(stepSlot (t,a) s).1) (a:=(stepSlot (t,a) s).2) h1 h2;simp only [List.foldl_cons,List.length_cons];exact ⟨goodT_mono h3.1 (by omega),h3.2⟩
theorem trN_good {ls:List (List SlotG)}:∀ {n:Nat} {t:List TwigG},(∀ j,j<n->(ls.getD j []).length<=12)->trN ls n=some t->goodT t (1+12 * n)
 | 0,t,_,h=>by
  cases h;exact good_root
 | n+1,t,hl,h=>by
  change (match trN ls n with|none=>none|some t=>addLine t (ls.getD n []) n)=some t at h
  cases h0:trN ls n with
  | none=>rw [h0] at h; cases h
  | some t0 =>
   rw [h0] at h;have h1:=trN_good (fun j hj=>hl j (by omega)) h0
   have h2:=(fold_good (ls.getD n []) h1 h1.1).1
   change addLine t0 (ls.getD n []) n=some t at h
   unfold addLine at h;split at h
   ·cases h
   ·cases h;exact goodT_mono (goodT_end _ h2) (by have:=hl n (by omega); omega)
def slotsP (P:SlotG->Prop) (t:List TwigG):Prop:=∀ i,P (t.getD i twigD).slot
theorem getD_out {t:List TwigG} {i:Nat} (h:t.length<=i):t.getD i twigD=twigD:=by
 rw [List.getD_eq_getElem?_getD,List.getElem?_eq_none h];rfl
theorem stepSlot_slots {P:SlotG->Prop} {t:List TwigG} {a:Nat} {s:SlotG} (h:slotsP P t) (hs:P s):slotsP P (stepSlot (t,a) s).1:=by
 unfold stepSlot;dsimp only;split
 ·exact h
 ·intro i;rcases Nat.lt_trichotomy i t.length with h1|h1|h1
  ·rw [addTwig_slot h1];exact h i
  ·subst h1;rw [addTwig_last];exact hs
  ·rw [getD_out (by rw [addTwig_len]; omega)]
   have:=h i
   rwa [getD_out (by omega)] at this
theorem fold_slots {P:SlotG->Prop}:∀ (l:List SlotG) {t:List TwigG} {a:Nat},slotsP P t->(∀ s∈l,P s)->slotsP P (l.foldl stepSlot (t,a)).1
 | [],_,_,h,_=>h
 | s::l,t,a,h,hs=>by
  have h1:=stepSlot_slots (a:=a) h (hs s List.mem_cons_self);exact fold_slots l (t:=(stepSlot (t,a) s).1) (a:=(stepSlot (t,a) s).2) h1 fun x hx=>hs x (List.mem_cons_of_mem _ hx)
theorem trN_slots {P:SlotG->Prop} {ls:List (List SlotG)} (h0:P slotD'):∀ {n:Nat} {t:List TwigG},(∀ j,j<n->∀ s∈ls.getD j [],P s)->trN ls n=some t->slotsP P t
 | 0,t,_,h=>by
  cases h;intro i
  match i with
  | 0=>exact h0
  | _+1=>exact h0
 | n+1,t,hl,h=>by
  change (match trN ls n with|none=>none|some t=>addLine t (ls.getD n []) n)=some t at h
  cases h1:trN ls n with
  | none=>rw [h1] at h; cases h
  | some t0 =>
   rw [h1] at h;have h2:=trN_slots h0 (fun j hj=>hl j (by omega)) h1
   have h3:=fold_slots (ls.getD n []) (a:=0) h2 (hl n (by omega))
   change addLine t0 (ls.getD n []) n=some t at h
   unfold addLine at h;split at h
   ·cases h
   ·cases h;intro i;rw [endTwig_slot];exact h3 i
theorem ofT_ok {ls:List (List SlotG)} (h:(ofT ls).2=0):1<=ls.length/\ls.length<=64/\(∀ j,j<ls.length->(ls.getD j []).length<=12)/\(∀ j,j<ls.length->chkL 12 (ls.getD j [])=0)/\trN ls ls.length=some (ofT ls).1:=by
 unfold ofT at h ⊢;split at h
 ·cases h
 ·rename_i h1;rw [if_neg h1];split at h
  ·rename_i l hl;have:=List.find?_some hl;simp only [decide_eq_true_eq] at this;exact absurd h this
  ·rename_i hl;split at h
   ·rename_i t ht;refine ⟨by omega,by omega,fun j hj=>?_,fun j hj=>?_,ht⟩
    ·rcases Nat.lt_or_ge 12 (ls.getD j []).length with h2|h2
     ·exact (h1 (.inr (.inr (any_at (d:=[]) hj (decide_eq_true h2))))).elim
     ·exact h2
    ·have:=List.find?_eq_none.1 hl _ (getD_mem (d:=[]) hj);simpa using this
   ·cases h
theorem ofT_few {ls:List (List SlotG)} (h:(ofT ls).2=0):few2s (ofT ls).1=true:=by
 obtain ⟨_,h2,h3,h4,h5⟩:=ofT_ok h;have hg:=trN_good h3 h5;have hs:=trN_slots (P:=fun s=>s.gds.length<=12) (Nat.zero_le _) (fun j hj s hs=>rightS_few ((chk_right (h4 j hj)).2.2 s hs)) h5
 have hl:=hg.2.1;simp only [few2s,Bool.and_eq_true,decide_eq_true_eq,List.all_eq_true];refine ⟨by omega,fun x hx=>?_⟩
 obtain ⟨i,hi,rfl⟩:=List.getElem_of_mem hx;have e:(ofT ls).1.getD i twigD=(ofT ls).1[i]:=by simp [List.getD,hi]
 have k1:=hs i;have k2:=hg.2.2.2 i hi;rw [e] at k1 k2;simp only [few2,Bool.and_eq_true,decide_eq_true_eq];exact ⟨by omega,by omega⟩
theorem upR_len (t:List TwigG):∀ n i,(upR t n i).length<=n
 | 0,_=>Nat.le_refl _
 | n+1,i=>by
  unfold upR;split
  ·exact Nat.zero_le _
  ·rw [List.length_cons];have:=upR_len t n (t.getD i twigD).par.toNat;omega
theorem upR_mem {P:SlotG->Prop} {t:List TwigG} (h:slotsP P t):∀ n i s,s∈upR t n i->P s
 | 0,_,_,hs=>by cases hs
 | n+1,i,s,hs=>by
  unfold upR at hs;split at hs
  ·cases hs
  ·rcases List.mem_cons.1 hs with rfl|hs
   ·exact h i
   ·exact upR_mem h n _ s hs
theorem upL_few {t:List TwigG} (h:slotsP (fun s=>s.gds.length<=1000) t) {k:Int} (hk:k<1000):fewS (upL t k)=true:=by
 simp only [fewS,Bool.and_eq_true,decide_eq_true_eq,List.all_eq_true,upL,List.length_reverse];refine ⟨?_,fun s hs=>upR_mem h _ _ s (List.mem_reverse.1 hs)⟩
 have:=upR_len t k.toNat k.toNat;omega
def shortT (t:List TwigG):Bool:=linesIn t&&t.all fun x=>decide (x.slot.gds.length<=1000)&&decide (x.kids.length<=1000000)
theorem shortT_slots {t:List TwigG} (h:shortT t=true):slotsP (fun s=>s.gds.length<=1000) t:=fun i=>by
 simp only [shortT,Bool.and_eq_true,List.all_eq_true,decide_eq_true_eq] at h;rcases Nat.lt_or_ge i t.length with h1|h1
 ·exact (h.2 _ (getD_mem h1)).1
 ·rw [getD_out h1];exact Nat.zero_le _
theorem shortT_few {t:List TwigG} (h:shortT t=true) (hl:t.length<=769):few2s t=true:=by
 simp only [shortT,Bool.and_eq_true,List.all_eq_true,decide_eq_true_eq] at h;simp only [few2s,few2,Bool.and_eq_true,decide_eq_true_eq,List.all_eq_true];refine ⟨by omega,fun x hx=>⟨?_,(h.2 x hx).2⟩⟩
 have:=(h.2 x hx).1;omega
theorem endsE_ok {t:List TwigG} (hln:linesIn t=true) (h:(endsE t).2=true):t.length<=769/\(∀ j,j<t.length->okN t j=true)/\(endsE t).1=endS t/\(∀ k∈(endsE t).1,0<=k/\k<t.length/\(t.getD k.toNat twigD).ends=true)/\∀ j,j<(endsE t).1.length->lnG t ((endsE t).1.getD j 0)=j:=by
 unfold endsE at h ⊢;split at h
 ·cases h
 ·rename_i h1;rw [if_neg h1];split at h
  ·rename_i h2;rw [if_pos h2];split at h
   ·rename_i h3;rw [if_pos h3];have h4:∀ j,j<t.length->okN t j=true:=fun j hj=>List.all_eq_true.1 h2 j (by simpa using hj)
    refine ⟨by omega,h4,rfl,fun k hk=>?_,fun j hj=>?_⟩
    ·have h5:k∈endsN t t.length:=(sort_perm (okL_ends hln h4)).mem_iff.1 hk;exact endsN_mem h5
    ·have:=List.all_eq_true.1 h3 j (by simpa using hj)
     simpa using this
   ·cases h
  ·cases h
theorem parOK_of {t:List TwigG} (h:∀ j,j<t.length->okN t j=true):parOK t=true:=by
 rw [parOK,List.all_eq_true];intro j hj;have:=h j (by simpa using hj)
 simp only [okN,Bool.and_eq_true,Bool.or_eq_true,decide_eq_true_eq] at this;exact decide_eq_true this.1
theorem gdsOK_of {t:List TwigG} (h:slotsP (fun s=>s.gds.length<=1000) t):gdsOK t=true:=by
 rw [gdsOK,List.all_eq_true];intro j _;have:=h j;exact decide_eq_true (by dsimp only at this; omega)
theorem ends_ok:PureF Tryz.prog 136 cEnds:=by
 intro args nd v he hnd;unfold cEnds at he;split at he <;> cases he
 rename_i X;simp only [Bool.and_eq_true] at hnd;refine PureC.args (args':=[treeA (treeDec X)]) rfl (fun i hi=>?_) (ends_pure _ _ _ hnd.2 rfl)
 match i,hi with
 | 0,_=>exact tree_sub hnd.1
theorem up_ok:PureF Tryz.prog 71 cUp:=by
 intro args nd v he hnd;unfold cUp at he;split at he <;> cases he
 rename_i X m;simp only [Bool.and_eq_true,decide_eq_true_eq] at hnd;obtain ⟨⟨⟨⟨⟨h1,h2⟩,h3⟩,h4⟩,h5⟩,h6⟩:=hnd;refine PureC.args (args':=[treeA (treeDec X),.int .i64 (m.toNat:Nat)]) rfl (fun i hi=>?_) (up_pure _ _ h2 h3 h4 (by omega))
 match i,hi with
 | 0,_=>exact tree_sub h1
 | 1,_ =>
  show (AV.int .i64 m).sub (.int .i64 (m.toNat:Nat));rw [show ((m.toNat:Nat):Int)=m by omega]
  exact rfl
theorem ofT_okC:PureF Tryz.prog 12 cOfT:=by
 intro args nd v he hnd;unfold cOfT at he;split at he <;> cases he
 rename_i n f ex;simp only [Bool.and_eq_true] at hnd;refine PureC.args (args':=[linesA (linesOf' n f)]) rfl (fun i hi=>?_) (ofTree_pure _ _ _ (List.all_eq_true.1 hnd.2) rfl)
 match i,hi with
 | 0,_=>exact lines_sub hnd.1
theorem twigs_sub {n:Nat} {f:Nat->AV} {ex:Bool} (h:((List.range n).all fun i=>isTwig (f i))=true):(AV.rof n f ex).sub (twigsA (twigsOf' n f)):=by
 have h1:isTree (.agg [.rof n f ex])=true:=h;exact (tree_sub h1).1
theorem sameTs_ok:PureF Tryz.prog 137 cSameTs:=by
 intro args nd v he hnd;unfold cSameTs at he;split at he <;> cases he
 rename_i n f ex m g ex' h;simp only [Bool.and_eq_true,decide_eq_true_eq] at hnd;obtain ⟨⟨⟨⟨rfl,h1⟩,h2⟩,h3⟩,h4⟩:=hnd
 refine PureC.args (args':=[twigsA (twigsOf' n f),twigsA (twigsOf' m g),.fn (.func 138) [] []]) rfl (fun i hi=>?_) (sameTs_pure _ _ h3 h4)
 match i,hi with
 | 0,_=>exact twigs_sub h1
 | 1,_=>exact twigs_sub h2
 | 2,_=>exact ⟨rfl,trivial,trivial⟩
noncomputable def lnsE (t:List TwigG):List (List SlotG):=(endsE t).1.map (upL t)
noncomputable def linesE (t:List TwigG):List (List SlotG)×List Int×Bool :=
 if (endsE t).2=true then (lnsE t,(endsE t).1,(ofT (lnsE t)).2==0&&decide ((ofT (lnsE t)).1=t)) else ([],[],false)
theorem line_self (l:List SlotG):lineOf (lineA l)=l:=slotsOf_self l
theorem linesOf_map (t:List TwigG) (E:List Int):(linesOf' E.length fun (k:Nat)=>lineA (upL t (E.getD (0+k) 0)))=E.map (upL t):=by
 refine List.ext_getElem (by simp [linesOf']) fun i h1 h2=>?_
 have h3:i<E.length:=by simpa using h2
 simp [linesOf',line_self,List.getD,h3]
theorem twigsOf_self (T:List TwigG):(twigsOf' T.length fun (k:Nat)=>twigA (T.getD k twigD))=T:=treeDec_self T
theorem isTwigs_self (T:List TwigG):((List.range T.length).all fun (i:Nat)=>isTwig (twigA (T.getD i twigD)))=true:=isTree_self T
theorem ELn_ok (t:List TwigG) (E:List Int):CtrOK (ELn t E):=⟨(mkE_ctr (P:=Tryz.prog) (inv:=fun _ _=>none) (tbl_cons ends_ok (tbl_cons up_ok (tbl_cons ofT_okC (tbl_cons sameTs_ok (tbl_nil _)))))).1,itr_none rfl⟩
theorem lines_pure (t:List TwigG) (L:List (List SlotG)) (E:List Int) (b:Bool) (hs:shortT t=true) (hr:linesE t=(L,E,b)):PureC Tryz.prog gU 95 [treeA t] (.tup [linesA L,intsA E,.bool b]):=by
 refine PureC.of_vc (E:=ELn t (endsE t).1) (k:=20) (d:=3) mix (ELn_ok t (endsE t).1) ?_;refine (lines_vc t L E b).mpr ?_
 conv=>zeta
 have hT:treeDec (AV.agg [AV.rof t.length (fun (k:Nat)=>twigA (t.getD k twigD)) false])=t:=treeDec_self t
 have hI:isTree (AV.agg [AV.rof t.length (fun (k:Nat)=>twigA (t.getD k twigD)) false])=true:=isTree_self t
 have hln:linesIn t=true:=by
  simp only [shortT,Bool.and_eq_true] at hs;exact hs.1
 show NB _ _;rw [hT,hI];refine NB_intro (by rw [hln]; rfl) (VB_intro (fun h=>?_) (fun h=>?_))
 ·have h1:(endsE t).2=false:=by simpa using h
  rw [linesE,h1,if_neg (by simp)] at hr
  simp only [Prod.mk.injEq] at hr;obtain ⟨rfl,rfl,rfl⟩:=hr;exact ⟨rfl,rfl,rfl,trivial⟩
 have h1:(endsE t).2=true:=by simpa using h
 obtain ⟨hl,hok,_,hmem,_⟩:=endsE_ok hln h1;rw [linesE,if_pos h1,lnsE] at hr;have hpar:=parOK_of hok;have hsl:=shortT_slots hs;have hgd:=gdsOK_of hsl;have hfew:=shortT_few hs hl;have hEl:(endsE t).1.length<=1000:=by
  have h2:(endsE t).1=endS t:=by assumption
  rw [h2];have:=sort_len (okL_ends hln hok);have:=endsN_len t t.length;show (sortT t (endsN t t.length)).length<=1000;omega
 generalize (endsE t).1=E0 at *;refine ⟨?_,fun p hpre=>?_⟩
 ·refine ⟨(0,0),Nat.zero_le _,?_⟩
  repeat' (first|exact sub_tree _|exact sub_ints _|exact trivial|exact rfl|exact Or.inr rfl|exact fun h=>h|exact fun _ _=>rfl|exact fun _ _=>⟨rfl,rfl⟩|exact fun _=>rfl|refine And.intro ?_ ?_)
 obtain ⟨i,g⟩:=p;have hi:i<=E0.length:=hpre;dsimp only;refine VB_intro (fun h2=>?_) (fun h2=>?_)
 ·have h3:i<E0.length:=by
   have:=of_decide_eq_true h2;omega
  have hk:=hmem _ (getD_mem (d:=0) h3);rw [show (Int.toNat (i:Int))=i from rfl];have hroom:room (i+1) 24=true:=decide_eq_true ⟨by omega,by omega⟩
  refine NB_intro (by simp; omega) (NB_intro (by rw [hpar,hgd,decide_eq_true (show t.length<=1000000 by omega),decide_eq_true hk.1,decide_eq_true hk.2.1]; rfl) (NB_intro (by rw [hroom]; simp) ⟨(i+1,g+1),(show i+1<=E0.length by omega),(show E0.length - (i+1)<E0.length - i by omega),?_⟩))
  have hW:IntKind.i64.wrap ((i:Int)+1)=((i+1:Nat):Int):=by rw [wrap_i64_id (by omega) (by omega)]; omega
  repeat' (first|exact sub_tree _|exact sub_ints _|exact trivial|exact rfl|exact Or.inr rfl|exact fun h=>h|exact fun _ _=>rfl|exact fun _ _=>⟨rfl,rfl⟩|exact fun _=>rfl|refine And.intro ?_ ?_)
  all_goals try (first|exact hW)
  ·intro k hk2;by_cases hin:k<i
   ·rw [if_pos hin,if_pos hin,Nat.zero_add];exact ⟨sub_line _,rfl⟩
   ·obtain rfl:k=i:=by omega
    rw [if_neg hin,if_neg hin,Nat.sub_self];exact ⟨sub_line (upL t (E0.getD k 0)),rfl⟩
 ·have h3:i=E0.length:=by
   have:=of_decide_eq_false h2;omega
  subst h3;rw [linesOf_map,twigsOf_self,twigsOf_self,isTwigs_self,isTwigs_self];have hf:(E0.map (upL t)).all fewS=true:=by
   rw [List.all_eq_true];intro l hl2;obtain ⟨k,hk,rfl⟩:=List.mem_map.1 hl2;have:=hmem k hk;exact upL_few hsl (by omega)
  have hlin:((List.range E0.length).all fun (i:Nat)=>isLineL (lineA (upL t (E0.getD (0+i) 0))))=true:=by
   rw [List.all_eq_true];exact fun _ _=>slotsB_self _
  refine NB_intro (by simp) (NB_intro (by rw [hlin,hf]; rfl) (NB_intro (impB_of fun hm=>?_) ?_))
  ·have h5:(ofT (E0.map (upL t))).2=0:=by
    have:((ofT (E0.map (upL t))).2==0)=true:=hm;exact eq_of_beq this
   rw [ofT_few h5,hfew];rfl
  ·simp only [Prod.mk.injEq] at hr;obtain ⟨rfl,rfl,rfl⟩:=hr;refine ⟨⟨by simp,fun k hk=>?_,fun h=>by cases h⟩,⟨rfl,fun _ _=>⟨rfl,rfl⟩,fun h=>h⟩,rfl,trivial⟩
   have h6:(E0.map (upL t)).getD k []=upL t (E0.getD k 0):=by simp [List.getD,hk]
   rw [Nat.zero_add,h6];exact ⟨⟨⟨rfl,fun _ _=>⟨⟨rfl,⟨rfl,fun _ _=>⟨rfl,rfl⟩,fun h=>h⟩,trivial⟩,rfl⟩,fun h=>h⟩,trivial⟩,rfl⟩
end Go.Proofs.YtlnpgnipocbfhaaGreatDoor
