/- RUNS 3: whether a tree and atoms fit: contracts. -/
import Derived.Test.YtlnpgnipocbfhaaGreatDoorRS2
namespace Go.Proofs.YtlnpgnipocbfhaaGreatDoor
open Pw Go
set_option maxRecDepth 100000
theorem trie_of {t:List TwigG} (h:checkE t=0):Trie t/\t.length<=769/\2<=t.length:=by
 have h1:=check_made h;obtain ⟨h2,h3,_⟩:=ofT_made h1;exact ⟨h2.trie,h3,made_two h1⟩
theorem ga_any {m:Int} {s:SlotG} {k:Nat} (h:outN m (gaS s k)=true):outS m s=true:=by
 unfold gaS at h;unfold outS;split at h
 ·rename_i hk;rw [List.any_eq_true.2 ⟨_,getD_mem hk,h⟩,Bool.or_true]
 ·rw [h,Bool.true_or]
theorem ga_none {m:Int} {s:SlotG} (h:∀ k,k<s.gds.length+1->outN m (gaS s k)=false):outS m s=false:=by
 unfold outS;rw [Bool.or_eq_false_iff];refine ⟨?_,?_⟩
 ·have:=h s.gds.length (by omega)
  unfold gaS at this
  rwa [if_neg (by omega)] at this
 ·rw [Bool.eq_false_iff];intro hc;obtain ⟨x,hx,e⟩:=List.any_eq_true.1 hc;obtain ⟨k,hk,rfl⟩:=List.getElem_of_mem hx;have:=h k (by omega)
  unfold gaS at this;rw [if_pos hk] at this;have e2:s.gds.getD k 0=s.gds[k]:=by simp [List.getD,hk]
  rw [e2] at this;rw [this] at e;cases e
theorem ga_pos {s:SlotG} (h:rightS s) (k:Nat):0<=gaS s k:=by
 unfold gaS;split
 ·rename_i hk;exact (h.2.2.1 _ (getD_mem hk)).1
 ·exact h.1
theorem fit_bad {t:List TwigG} {m:Nat} {A:Ats} (h:(checkE t !=0)=true):checkE t=fitE t m A:=by
 unfold fitE;rw [if_pos (by simpa using h)]
theorem fit_big {t:List TwigG} {m:Nat} {A:Ats} (hc:checkE t=0) (h:12<m):(2:Int)=fitE t m A:=by
 unfold fitE;rw [if_neg (by simpa using hc),if_pos h]
theorem fit_out {t:List TwigG} {m:Nat} {A:Ats} {j:Nat} (hc:checkE t=0) (hm:¬ 12<m) (_:1<=j) (hj:j<t.length) (ho:outA m t j=true):(2:Int)=fitE t m A:=by
 unfold fitE;rw [if_neg (by simpa using hc),if_neg hm,if_pos]
 exact List.any_eq_true.2 ⟨j - 1,by rw [List.mem_range]; omega,by rwa [show j - 1+1=j by omega]⟩
theorem fit_in {t:List TwigG} {m:Nat} {A:Ats} (hc:checkE t=0) (hm:¬ 12<m) (h:∀ j,1<=j->j<t.length->outA m t j=false):fitE t m A=Pd.ckS A m:=by
 unfold fitE;rw [if_neg (by simpa using hc),if_neg hm,if_neg]
 intro hx;obtain ⟨j,hj,e⟩:=List.any_eq_true.1 hx;rw [List.mem_range] at hj;rw [h (j+1) (by omega) (by omega)] at e
 cases e
theorem ck_stop {A:Ats} {m i:Nat} (hi:i<m) (h:Pd.ckS A i=0) (hc:Pd.checkJ A i≠0):Pd.ckS A m=Pd.checkJ A i:=by
 have h1:=Pd.ckS_succ h;have h2:=Pd.ckS_stay (A:=A) (i:=i+1) (by rw [h1]; exact hc) (m - (i+1))
 rw [show i+1+(m - (i+1))=m by omega,h1] at h2
 exact h2
theorem sub_atm (m:Nat) (A:Ats):(atmA m A).sub (atmA m A):=⟨rfl,fun _ _=>⟨⟨rfl,rfl,rfl,⟨rfl,fun _ _=>⟨⟨rfl,rfl,trivial⟩,rfl⟩,fun h=>h⟩,rfl,trivial⟩,rfl⟩,fun h=>h⟩
theorem sub_tail (t:List TwigG):(tailA t).sub (tailA t):=⟨rfl,fun _ _=>⟨⟨rfl,sub_ints _,rfl,sub_ints _,rfl,rfl,trivial⟩,rfl⟩,fun h=>h⟩
theorem sub_ga (s:SlotG):(gaA s).sub (gaA s):=⟨rfl,fun _ _=>⟨rfl,rfl⟩,fun h=>h⟩
theorem wrapS {i:Nat} (h:i<=1000000000):IntKind.i64.wrap ((i:Int)+1)=((i+1:Nat):Int):=by rw [wrap_i64_id (by omega) (by omega)]; omega
theorem idx_ok {i n:Nat} (h:i<n):decide ((0:Int)<=(i:Int)/\(i:Int)<(n:Int))=true:=decide_eq_true ⟨by omega,by omega⟩
theorem EFi_ok (t:List TwigG) (m:Nat) (A:Ats) (hs:shortT t=true):CtrOK (EFi t m A) :=
 ⟨(mkG_ctr (P:=Tryz.prog) (gl:=Pd.gN) (inv:=fun _ _=>none) (n:=0) (tblG_cons (cAsG_ok (checkT_pure t _ hs rfl).up) (tblG_cons (Pd.check_of Pd.checkI_pure) (tblG_nil _ _)))).1,itr_none rfl⟩
theorem EFr_ok (t:List TwigG) (m:Nat) (A:Ats) (hs:shortT t=true):CtrOK (EFr t m A) :=
 ⟨(mkG_ctr (P:=Tryz.prog) (gl:=Pd.gN) (inv:=fun _ _=>none) (n:=0) (tblG_cons (cAsG_ok (dcheck_pure t _ hs rfl).up) (tblG_cons (Pd.check_of Pd.checkR_pure) (tblG_nil _ _)))).1,itr_none rfl⟩
theorem fitI_pure (t:List TwigG) (m:Nat) (A:Ats) (r:Int) (hs:shortT t=true) (hA:Pd.atsOK m A) (hr:fitE t m A=r):PureC Tryz.prog Pd.gN 76 [treeA t,Pd.atsAV m A] (.int .i64 r):=by
 subst hr;refine PureC.of_vc (E:=EFi t m A) (k:=20) (d:=3) mix (EFi_ok t m A hs) ((fitI_vc t m A _).mpr ?_)
 conv=>zeta
 refine NB_intro (asB_t ⟨sub_tree t,trivial⟩) (VB_intro fit_bad (fun hc=>?_))
 have hc:checkE t=0:=by simpa using hc
 obtain ⟨hT,hl,hl2⟩:=trie_of hc;refine VB_intro (fun h=>fit_big hc (by have:=of_decide_eq_true h; omega)) (fun hm=>?_)
 have hm:¬ 12<m:=by have:=of_decide_eq_false hm; omega
 refine NB_intro (decide_eq_true ⟨by omega,by omega,by omega⟩) ⟨⟨0,⟨Nat.zero_le _,fun j hj=>absurd hj (Nat.not_lt_zero _)⟩,?_⟩,fun i hi=>?_⟩
 ·refine ⟨⟨sub_atm m A,sub_tail t,rfl,rfl,trivial⟩,trivial⟩
 obtain ⟨hi1,hi2⟩:=hi;refine VB_intro (fun h=>NB_intro (by rw [idx_ok (by have:=of_decide_eq_true h; omega)]) ?_) (fun h=>?_)
 ·have hi:i<t.length - 1:=by have:=of_decide_eq_true h; omega
  rw [show (Int.toNat (i:Int))=i from rfl];have hS:=hT.right (1+i);have hf:=rightS_few hS;have hout:outA m t (1+i)=outS m (t.getD (1+i) twigD).slot:=rfl;have hfo:=fun h=>fit_out (A:=A) (j:=1+i) hc hm (by omega) (by omega) h
  have hμ:∀ a b:Nat,(t.getD (1+i) twigD).slot.gds.length+1 - a<(t.getD (1+i) twigD).slot.gds.length+1 - b->(invF2 t m A i).μ a<(invF2 t m A i).μ b:=fun _ _ h=>h
  generalize (t.getD (1+i) twigD).slot=s at *
  refine fun b hb=>VB_intro (fun hx=>⟨⟨0,⟨Nat.zero_le _,fun j hj=>absurd hj (Nat.not_lt_zero _)⟩,?_⟩,?_⟩) (fun hx=>NB_intro ?_ (NB_intro ?_ ⟨⟨0,⟨Nat.zero_le _,fun j hj=>absurd hj (Nat.not_lt_zero _)⟩,?_⟩,?_⟩))
  ·have h0:=hb (by simpa using hx)
   have e:s.1=gaS s 0:=by unfold gaS; rw [if_neg (by omega)]
   refine ⟨⟨sub_atm m A,sub_tail t,rfl,rfl,⟨by rw [h0]; rfl,⟨⟨e,rfl⟩,trivial⟩,fun h=>by cases h⟩,by rw [h0]; rfl,rfl,trivial⟩,trivial⟩
  rotate_left
  ·rw [show room (0+s.gds.length) 8=true from decide_eq_true ⟨by omega,by omega⟩]
   simp
  ·rw [show room (0+s.gds.length+1) 8=true from decide_eq_true ⟨by omega,by omega⟩]
   rfl
  ·refine ⟨⟨sub_atm m A,sub_tail t,rfl,rfl,⟨by omega,fun k hk=>?_,fun h=>by cases h⟩,by omega,rfl,trivial⟩,trivial⟩
   by_cases hk2:k<s.gds.length
   ·rw [if_pos (by omega)]
    unfold gaE gaS;rw [if_pos hk2,show 0+(0+k)=k by omega]
    exact ⟨rfl,rfl⟩
   ·rw [if_neg (by omega)]
    unfold gaE gaS;rw [if_neg hk2,show 0+k - (0+s.gds.length)=0 by omega]
    exact ⟨rfl,rfl⟩
  all_goals
   intro k hk;obtain ⟨hk1,hk2⟩:=hk;refine VB_intro (fun h1=>NB_intro (idx_ok (by have:=of_decide_eq_true h1; omega)) (VB_intro (fun h2=>?_) (fun h2=>?_))) (fun h1=>?_)
   ·refine hfo ?_;rw [hout];refine ga_any (k:=k) ?_;unfold outN;have h2:gaS s k>=m:=of_decide_eq_true h2;rw [decide_eq_true h2,Bool.or_true]
   ·have h1:=of_decide_eq_true h1;have h2:¬ gaS s k>=m:=of_decide_eq_false h2;refine ⟨k+1,⟨by omega,fun j hj=>?_⟩,hμ _ _ (by omega),⟨sub_atm m A,sub_tail t,rfl,rfl,sub_ga s,rfl,wrapS (by omega),trivial⟩,trivial⟩
    rcases Nat.lt_or_ge j k with h5|h5
    ·exact hk2 j h5
    ·obtain rfl:j=k:=by omega
     omega
   ·have h1:=of_decide_eq_false h1;refine ⟨i+1,⟨by omega,fun j hj=>?_⟩,(show t.length - 1 - (i+1)<t.length - 1 - i by omega),⟨sub_atm m A,sub_tail t,rfl,wrapS (by omega),trivial⟩,trivial⟩
    rcases Nat.lt_or_ge j i with h5|h5
    ·exact hi2 j h5
    ·obtain rfl:j=i:=by omega
     rw [hout];refine ga_none fun q hq=>?_
     have h6:=hk2 q (by omega)
     have h7:=ga_pos hS q;unfold outN;rw [decide_eq_false (by omega),decide_eq_false (by omega)]
     rfl
 ·have h:=of_decide_eq_false h;rw [fit_in hc hm fun j h1 hj=>by have:=hi2 (j - 1) (by omega); rwa [show 1+(j - 1)=j by omega] at this]
  refine ⟨⟨0,⟨Nat.zero_le _,rfl⟩,⟨sub_atm m A,rfl,rfl,trivial⟩,trivial⟩,fun q hq=>?_⟩
  obtain ⟨hq1,hq2⟩:=hq;refine VB_intro (fun h1=>?_) (fun h1=>?_)
  ·have h1:q<m:=by have:=of_decide_eq_true h1; omega
   refine NB_intro (idx_ok h1) (NB_intro (by rw [Pd.condsB_agg]; exact decide_eq_true (hA q h1).1) (VB_intro (fun h2=>?_) (fun h2=>?_)))
   ·have h2:(Pd.checkJ A q !=0)=true:=h2;exact (ck_stop h1 hq2 (by simpa using h2)).symm
   ·have h2:(Pd.checkJ A q !=0)=false:=h2;exact ⟨q+1,⟨by omega,by rw [Pd.ckS_succ hq2]; simpa using h2⟩,(show m - (q+1)<m - q by omega),⟨sub_atm m A,rfl,wrapS (by omega),trivial⟩,trivial⟩
  ·have h1:q=m:=by have:=of_decide_eq_false h1; omega
   subst h1;exact hq2.symm
theorem fitR_pure (t:List TwigG) (m:Nat) (A:Ats) (r:Int) (hs:shortT t=true) (hA:Pd.atsOK m A) (hr:fitE t m A=r):PureC Tryz.prog Pd.gN 81 [treeA t,Pd.atsAV m A] (.int .i64 r):=by
 subst hr;refine PureC.of_vc (E:=EFr t m A) (k:=20) (d:=3) mix (EFr_ok t m A hs) ((fitR_vc t m A _).mpr ?_)
 conv=>zeta
 refine NB_intro (asB_t ⟨sub_tree t,trivial⟩) (VB_intro fit_bad (fun hc=>?_))
 have hc:checkE t=0:=by simpa using hc
 obtain ⟨hT,hl,hl2⟩:=trie_of hc;refine VB_intro (fun h=>fit_big hc (by have:=of_decide_eq_true h; omega)) (fun hm=>?_)
 have hm:¬ 12<m:=by have:=of_decide_eq_false hm; omega
 refine ⟨⟨1,⟨Nat.le_refl _,by omega,fun j h1 hj=>absurd hj (by omega)⟩,?_⟩,fun i hi=>?_⟩
 ·repeat' (first|exact sub_tree _|exact trivial|exact rfl|exact hW|exact Or.inl rfl|exact fun h=>h|exact sub_atm _ _|refine And.intro ?_ ?_)
 obtain ⟨hi0,hi1,hi2⟩:=hi;refine VB_intro (fun h=>NB_intro (idx_ok (by have:=of_decide_eq_true h; omega)) ?_) (fun h=>?_)
 ·have hi:i<t.length:=by have:=of_decide_eq_true h; omega
  rw [show (Int.toNat (i:Int))=i from rfl];have hS:=hT.right i;have hf:=rightS_few hS;have hout:outA m t i=outS m (t.getD i twigD).slot:=rfl;have hfo:=fun h=>fit_out (A:=A) (j:=i) hc hm (by omega) (by omega) h
  have hμ:∀ a b:Nat,(t.getD i twigD).slot.gds.length+1 - a<(t.getD i twigD).slot.gds.length+1 - b->(invFr2 t m A i).μ a<(invFr2 t m A i).μ b:=fun _ _ h=>h
  generalize (t.getD i twigD).slot=s at *
  refine NB_intro (by rw [show room (0+s.gds.length) 8=true from decide_eq_true ⟨by omega,by omega⟩]; simp) (NB_intro (by rw [show room (0+s.gds.length+1) 8=true from decide_eq_true ⟨by omega,by omega⟩]; rfl) ⟨⟨0,⟨Nat.zero_le _,fun j hj=>absurd hj (Nat.not_lt_zero _)⟩,?_⟩,fun k hk=>?_⟩)
  ·refine ⟨⟨sub_atm m A,⟨rfl,rfl,rfl⟩,rfl,⟨by omega,fun k hk=>?_,fun h=>by cases h⟩,rfl,trivial⟩,?_⟩
   ·by_cases hk2:k<s.gds.length
    ·rw [if_pos (by omega)]
     unfold gaE gaS;rw [if_pos hk2,show 0+(0+k)=k by omega]
     exact ⟨rfl,rfl⟩
    ·rw [if_neg (by omega)]
     unfold gaE gaS;rw [if_neg hk2,show 0+k - (0+s.gds.length)=0 by omega]
     exact ⟨rfl,rfl⟩
   ·repeat' (first|exact sub_tree _|exact trivial|exact rfl|exact hW|exact Or.inl rfl|exact fun h=>h|exact sub_atm _ _|refine And.intro ?_ ?_)
  obtain ⟨hk1,hk2⟩:=hk;refine VB_intro (fun h1=>?_) (fun h1=>?_)
  ·have h1:k<s.gds.length+1:=by have:=of_decide_eq_true h1; omega
   refine NB_intro (idx_ok h1) (NB_intro (impB_of fun _=>idx_ok h1) (VB_intro (fun h2=>?_) (fun h2=>?_)))
   ·refine hfo ?_;rw [hout];exact ga_any (k:=k) h2
   ·have hW:=wrapS (i:=k) (by omega)
    refine ⟨k+1,⟨by omega,fun j hj=>?_⟩,hμ _ _ (by omega),⟨sub_atm m A,⟨rfl,rfl,rfl⟩,rfl,sub_ga s,hW,trivial⟩,?_⟩
    ·rcases Nat.lt_or_ge j k with h5|h5
     ·exact hk2 j h5
     ·obtain rfl:j=k:=by omega
      exact h2
    ·repeat' (first|exact sub_tree _|exact trivial|exact rfl|exact hW|exact Or.inl rfl|exact fun h=>h|exact sub_atm _ _|refine And.intro ?_ ?_)
  ·have h1:=of_decide_eq_false h1;have hW:=wrapS (i:=i) (by omega)
   refine ⟨i+1,⟨by omega,by omega,fun j h0 hj=>?_⟩,(show t.length - (i+1)<t.length - i by omega),?_⟩
   ·rcases Nat.lt_or_ge j i with h5|h5
    ·exact hi2 j h0 h5
    ·obtain rfl:j=i:=by omega
     rw [hout];exact ga_none fun q hq=>hk2 q (by omega)
   ·repeat' (first|exact sub_tree _|exact trivial|exact rfl|exact hW|exact Or.inl rfl|exact fun h=>h|exact sub_atm _ _|refine And.intro ?_ ?_)
 ·have h:=of_decide_eq_false h;rw [fit_in hc hm fun j h1 hj=>hi2 j h1 (by omega)]
  refine ⟨⟨0,⟨Nat.zero_le _,rfl⟩,⟨sub_atm m A,rfl,trivial⟩,trivial⟩,fun q hq=>?_⟩
  obtain ⟨hq1,hq2⟩:=hq;refine VB_intro (fun h1=>?_) (fun h1=>?_)
  ·have h1:q<m:=by have:=of_decide_eq_true h1; omega
   refine NB_intro (idx_ok h1) (NB_intro (by rw [Pd.condsB_agg]; exact decide_eq_true (hA q h1).1) (VB_intro (fun h2=>?_) (fun h2=>?_)))
   ·have h2:(Pd.checkJ A q !=0)=true:=h2;exact (ck_stop h1 hq2 (by simpa using h2)).symm
   ·have h2:(Pd.checkJ A q !=0)=false:=h2;exact ⟨q+1,⟨by omega,by rw [Pd.ckS_succ hq2]; simpa using h2⟩,(show m - (q+1)<m - q by omega),⟨sub_atm m A,wrapS (by omega),trivial⟩,trivial⟩
  ·have h1:q=m:=by have:=of_decide_eq_false h1; omega
   subst h1;exact hq2.symm
end Go.Proofs.YtlnpgnipocbfhaaGreatDoor
