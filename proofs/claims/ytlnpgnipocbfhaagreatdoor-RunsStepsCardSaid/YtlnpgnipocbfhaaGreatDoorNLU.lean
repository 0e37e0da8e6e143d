/- TREES U: what the document's Of makes: plain facts. -/
import Derived.Test.YtlnpgnipocbfhaaGreatDoorNLT
namespace Go.Proofs.YtlnpgnipocbfhaaGreatDoor
open Pw Go
set_option maxRecDepth 100000
theorem lastKid_take (t:List TwigG) (ks:List Int) (s:SlotG) {k:Nat} (hk:k<ks.length) :
  lastKid t (ks.take (k+1)) s=if (t.getD (ks.getD k 0).toNat twigD).slot=s then ks.getD k 0 else lastKid t (ks.take k) s:=by
 unfold lastKid;rw [take_succ' 0 hk,List.foldl_append];rfl
theorem lastKid_mem (t:List TwigG) (s:SlotG) (ks:List Int):lastKid t ks s=-1\/lastKid t ks s∈ks:=by
 unfold lastKid
 suffices h:∀ (ks:List Int) (z:Int),ks.foldl (fun z k=>if (t.getD k.toNat twigD).slot=s then k else z) z=z\/ks.foldl (fun z k=>if (t.getD k.toNat twigD).slot=s then k else z) z∈ks from h ks (-1)
 intro ks;induction ks with
 | nil=>exact fun z=>.inl rfl
 | cons k ks ih =>
  intro z;rw [List.foldl_cons];by_cases h:(t.getD k.toNat twigD).slot=s
  ·rw [if_pos h];rcases ih k with h1|h1
   ·exact .inr (by rw [h1]; exact List.mem_cons_self)
   ·exact .inr (List.mem_cons_of_mem _ h1)
  ·rw [if_neg h];rcases ih z with h1|h1
   ·exact .inl h1
   ·exact .inr (List.mem_cons_of_mem _ h1)
theorem pushT_len (t:List TwigG) (a:Nat) (s:SlotG):(pushT t a s).length=t.length+1:=by simp [pushT]
theorem pushT_get {t:List TwigG} {a:Nat} {s:SlotG} {i:Nat} (hi:i<t.length):(pushT t a s).getD i twigD=t.getD i twigD:=by
 simp only [pushT,List.getD_eq_getElem?_getD];rw [List.getElem?_append_left hi]
theorem pushT_last (t:List TwigG) (a:Nat) (s:SlotG):(pushT t a s).getD t.length twigD=(s,(a:Int),[],false,-1,()):=by
 simp [pushT,List.getD_eq_getElem?_getD]
theorem pushT_kidLen (t:List TwigG) (a:Nat) (s:SlotG) (i:Nat):kidLen t i=kidLen (pushT t a s) i:=by
 unfold kidLen;rcases Nat.lt_trichotomy i t.length with h|h|h
 ·rw [pushT_get h]
 ·subst h;rw [pushT_last,getD_out (Nat.le_refl _)]
 ·rw [getD_out (by omega),getD_out (by rw [pushT_len]; omega)]
theorem linesOf_self (ls:List (List SlotG)):(linesOf' ls.length fun (k:Nat)=>lineA (ls.getD k []))=ls:=by
 refine List.ext_getElem (by simp [linesOf']) fun i h1 h2=>?_
 simp [linesOf',line_self,List.getD,h2]
theorem isLines_self (ls:List (List SlotG)):((List.range ls.length).all fun (i:Nat)=>isLineL (lineA (ls.getD i [])))=true:=by
 rw [List.all_eq_true];exact fun _ _=>slotsB_self _
theorem rchk_okC:PureF Tryz.prog 53 cRchk:=by
 intro args nd v he hnd;unfold cRchk at he;split at he <;> cases he
 rename_i n f ex;simp only [Bool.and_eq_true] at hnd;refine PureC.args (args':=[linesA (linesOf' n f)]) rfl (fun i hi=>?_) (rcheck_pure _ _ (List.all_eq_true.1 hnd.2) rfl)
 match i,hi with
 | 0,_=>exact lines_sub hnd.1
theorem ERo_ok (ls:List (List SlotG)):CtrOK (ERo ls):=⟨(mkE_ctr (P:=Tryz.prog) (inv:=fun _ _=>none) (tbl_cons rchk_okC (tbl_cons sameS_ok (tbl_cons ownS_ok (tbl_nil _))))).1,itr_none rfl⟩
theorem tq_own (k:Nat) (s:SlotG) (a:Int):(AV.agg [.int .i64 s.1,.rof (slotOf (slotA s)).gds.length (fun q=>.int .i64 ((slotOf (slotA s)).gds.getD q 0)) false,.int .i64 a,.nils,.bool false,.int .i64 (-1)]).sub (twigQ k (s,a,[],false,-1,())):=by
 rw [slot_self];exact ⟨rfl,sub_ints _,rfl,rfl,rfl,rfl,trivial⟩
theorem addTwig_slots {P:SlotG->Prop} {t:List TwigG} {a:Nat} {s:SlotG} (h:slotsP P t) (hs:P s):slotsP P (addTwig t a s):=fun i=>by
 rcases Nat.lt_trichotomy i t.length with h1|h1|h1
 ·rw [addTwig_slot h1];exact h i
 ·subst h1;rw [addTwig_last];exact hs
 ·rw [getD_out (by rw [addTwig_len]; omega)]
  have:=h i
  rwa [getD_out (by omega)] at this
theorem rcheckE_ok {ls:List (List SlotG)} (h:rcheckE ls=0):ls.length<=64/\∀ j,j<ls.length->(ls.getD j []).length<=12:=by
 unfold rcheckE at h;split at h
 ·cases h
 ·rename_i h1;refine ⟨by omega,fun j hj=>?_⟩
  rcases Nat.lt_or_ge 12 (ls.getD j []).length with h2|h2
  ·exact (h1 (.inr (.inr (any_at (d:=[]) hj (decide_eq_true h2))))).elim
  ·exact h2
theorem rof_pure (ls:List (List SlotG)) (t:List TwigG) (e:Int) (hf:∀ l∈ls,fewS l=true) (hr:rofT ls=(t,e)):PureC Tryz.prog gU 13 [linesA ls] (.tup [treeA t,.int .i64 e]):=by
 refine PureC.of_vc (E:=ERo ls) (k:=20) (d:=3) mix (ERo_ok ls) ?_;refine (rof_vc ls t e).mpr ?_
 conv=>zeta
 show NB _ _;rw [isLines_self,linesOf_self];have hfa:ls.all fewS=true:=by
  rw [List.all_eq_true];exact hf
 refine NB_intro (by rw [hfa]; rfl) (VB_intro (fun h=>?_) (fun h=>?_))
 ·have h1:¬ rcheckE ls=0:=by simpa using h
  rw [rofT,if_neg h1,Prod.mk.injEq] at hr;obtain ⟨rfl,rfl⟩:=hr;exact ⟨⟨rfl,trivial⟩,rfl,trivial⟩
 have h1:rcheckE ls=0:=by simpa using h
 rw [rofT,if_pos h1,Prod.mk.injEq] at hr;obtain ⟨hl,hlong⟩:=rcheckE_ok h1;refine ⟨?_,fun p hpre=>?_⟩
 ·refine ⟨(0,rootT),⟨Nat.zero_le _,rfl,good_root,?_⟩,?_⟩
  ·intro i
   match i with
   | 0=>exact Nat.zero_le _
   | _+1=>exact Nat.zero_le _
  repeat' (first|exact sub_lines _|exact tq_sub _ _|exact trivial|exact rfl|exact Or.inr rfl|exact fun h=>h|exact fun _ _=>rfl|exact fun _ _=>⟨tq_sub _ _,rfl⟩|exact fun _=>rfl|refine And.intro ?_ ?_)
  ·intro i
   match i with
   | 0=>rfl
   | _+1=>rfl
 obtain ⟨i,t0⟩:=p;obtain ⟨hi,hT0,hg0,hw0⟩:=hpre;dsimp only at hi hT0 hg0 hw0;dsimp only;refine VB_intro (fun h2=>?_) (fun h2=>?_)
 ·have h3:i<ls.length:=by simpa using h2
  rw [show (Int.toNat (i:Int))=i from rfl];have hLl:=hlong i h3;have hLf:=hf _ (getD_mem (d:=[]) h3);generalize hL:ls.getD i []=L at hLl hLf ⊢;refine ⟨?_,fun p hpre=>?_⟩
  ·refine ⟨(0,t0,0),⟨Nat.zero_le _,by rw [hT0]; rfl,hg0,hg0.1,hw0⟩,?_⟩
   repeat' (first|exact sub_lines _|exact tq_sub _ _|exact trivial|exact rfl|exact Or.inr rfl|exact fun h=>h|exact fun _ _=>rfl|exact fun _ _=>⟨tq_sub _ _,rfl⟩|exact fun _=>rfl|refine And.intro ?_ ?_)
  obtain ⟨s,t1,a⟩:=p;obtain ⟨hs,hfold,hg1,ha,hw1⟩:=hpre;dsimp only at hs hfold hg1 ha hw1;dsimp only;have hn1:=hg1.2.1;have hn0:=hg1.1;have nbi:decide (0<=(i:Int)/\(i:Int)<(ls.length:Int))=true:=by simp; omega
  refine NB_intro nbi (VB_intro (fun h4=>?_) (fun h4=>?_))
  ·have h5:s<L.length:=by simpa using h4
   rw [show (Int.toNat (s:Int))=s from rfl];have hp1:preT ls i s t1 a:=⟨by rw [hL]; exact hs,by rw [hL]; exact hfold,hg1,ha,hw1⟩
   have htake:=take_succ' slotD' h5;have hsf:(L.getD s slotD').gds.length<=1000:=fewS_at hLf h5;generalize L.getD s slotD'=ss at htake hsf ⊢;have nbs:decide (0<=(s:Int)/\(s:Int)<(L.length:Int))=true:=by simp; omega
   have hWs:IntKind.i64.wrap ((s:Int)+1)=((s+1:Nat):Int):=by rw [wrap_i64_id (by omega) (by omega)]; omega
   have hmu:(ls.getD i []).length - (s+1)<(ls.getD i []).length - s:=by rw [hL]; omega
   refine ⟨?_,fun p hpre=>?_⟩
   ·refine ⟨(0,-1,t1,a),⟨hp1,Nat.zero_le _,rfl⟩,?_⟩
    repeat' (first|exact sub_lines _|exact tq_sub _ _|exact trivial|exact rfl|exact Or.inr rfl|exact fun h=>h|exact fun _ _=>rfl|exact fun _ _=>⟨tq_sub _ _,rfl⟩|exact fun _=>rfl|refine And.intro ?_ ?_)
   obtain ⟨k,next,t2,a2⟩:=p;obtain ⟨hp2,hk,hnext⟩:=hpre;obtain ⟨_,hfold2,hg2,ha2,hw2⟩:=id hp2;dsimp only at hp2 hk hnext hfold2 hg2 ha2 hw2;dsimp only;rw [hL] at hfold2;have hn2:=hg2.2.1;have hn2':=hg2.1
   rw [show (Int.toNat (a2:Int))=a2 from rfl,Nat.zero_add];have nba:(decide (t2.length - 1=t2.length - 1)&&decide ((0:Int)<=(a2:Int)/\(a2:Int)<(t2.length:Int)))=true:=by simp; omega
   have nbe:decide (t2.length - 1=t2.length - 1)=true:=decide_eq_true rfl;refine NB_intro nba (NB_intro nbe (VB_intro (fun h6=>?_) (fun h6=>?_)))
   ·have h7:k<(t2.getD a2 twigD).kids.length:=by simpa using h6
    rw [show (Int.toNat (k:Int))=k from rfl,Nat.zero_add];have hkv:=hg2.2.2.1 a2 ha2 _ (getD_mem (d:=0) h7);have hnext':=lastKid_take t2 (t2.getD a2 twigD).kids ss h7;have hxf:=hw2 ((t2.getD a2 twigD).kids.getD k 0).toNat;dsimp only at hxf
    have nbk:decide (0<=(k:Int)/\(k:Int)<(((t2.getD a2 twigD).kids.length:Nat):Int))=true:=decide_eq_true ⟨by omega,by omega⟩
    have nbv:(decide (t2.length - 1=t2.length - 1)&&decide (0<=(t2.getD a2 twigD).kids.getD k 0/\(t2.getD a2 twigD).kids.getD k 0<(t2.length:Int)))=true:=by rw [nbe,decide_eq_true hkv]; rfl
    have hnb:(isSlot (slotA (t2.getD ((t2.getD a2 twigD).kids.getD k 0).toNat twigD).slot)&&isSlot (slotA ss)&&fewG (slotOf (slotA (t2.getD ((t2.getD a2 twigD).kids.getD k 0).toNat twigD).slot))&&fewG (slotOf (slotA ss)))=true:=by
     rw [isSlot_self,isSlot_self,slot_self,slot_self,fewG,fewG,decide_eq_true (by omega),decide_eq_true (by omega)]
     rfl
    have hkl:=hg2.2.2.2 a2 ha2;have hWk:IntKind.i64.wrap ((k:Int)+1)=((k+1:Nat):Int):=by rw [wrap_i64_id (by omega) (by omega)]; omega
    refine NB_intro nba (NB_intro nbe (NB_intro nbk (NB_intro nbv (NB_intro nbe (NB_intro nbi (NB_intro nbs (NB_intro hnb (VB_intro (fun h8=>?_) (fun h8=>?_)))))))))
    ·have h9:decide (slotOf (slotA (t2.getD ((t2.getD a2 twigD).kids.getD k 0).toNat twigD).slot)=slotOf (slotA ss))=true:=h8;rw [slot_self,slot_self] at h9
     refine ⟨(k+1,(t2.getD a2 twigD).kids.getD k 0,t2,a2),⟨hp2,h7,by dsimp only; rw [hnext',if_pos (of_decide_eq_true h9)]⟩,(show (t2.getD a2 twigD).kids.length - (k+1)<(t2.getD a2 twigD).kids.length - k by omega),?_⟩
     repeat' (first|exact sub_lines _|exact tq_sub _ _|exact trivial|exact rfl|exact Or.inr rfl|exact fun h=>h|exact fun _ _=>rfl|exact fun _ _=>⟨tq_sub _ _,rfl⟩|exact fun _=>rfl|refine And.intro ?_ ?_)
     all_goals exact hWk
    ·have h9:decide (slotOf (slotA (t2.getD ((t2.getD a2 twigD).kids.getD k 0).toNat twigD).slot)=slotOf (slotA ss))=false:=h8;rw [slot_self,slot_self] at h9
     refine ⟨(k+1,next,t2,a2),⟨hp2,h7,by dsimp only; rw [hnext',if_neg (of_decide_eq_false h9)]; exact hnext⟩,(show (t2.getD a2 twigD).kids.length - (k+1)<(t2.getD a2 twigD).kids.length - k by omega),?_⟩
     repeat' (first|exact sub_lines _|exact tq_sub _ _|exact trivial|exact rfl|exact Or.inr rfl|exact fun h=>h|exact fun _ _=>rfl|exact fun _ _=>⟨tq_sub _ _,rfl⟩|exact fun _=>rfl|refine And.intro ?_ ?_)
     all_goals exact hWk
   ·have h7:k=(t2.getD a2 twigD).kids.length:=by
     have:¬ k<(t2.getD a2 twigD).kids.length:=by simpa using h6
     omega
    rw [h7,List.take_length] at hnext;refine VB_intro (fun h8=>?_) (fun h8=>?_)
    ·have h9:next<0:=of_decide_eq_true h8;have hnbo:(isSlot (slotA ss)&&fewG (slotOf (slotA ss)))=true:=by
      rw [isSlot_self,slot_self,fewG,decide_eq_true (by omega)]
      rfl
     have hroom:room (t2.length+1) 80=true:=decide_eq_true ⟨by omega,by omega⟩
     refine ⟨NB_intro nbi (NB_intro nbs (NB_intro hnbo (NB_intro (by rw [nbe,hroom]; rfl) ⟨(t2,a2),⟨hp2,by dsimp only; rw [<- hnext]; exact h9⟩,?_⟩))),fun q hq=>?_⟩
     ·have hL1:t2.length - 1+1=(pushT t2 a2 ss).length - 1:=by rw [pushT_len]; omega
      have hL2:t2.length+1=(pushT t2 a2 ss).length:=by rw [pushT_len]
      repeat' (first|exact sub_lines _|exact tq_sub _ _|exact trivial|exact rfl|exact Or.inr rfl|exact fun h=>h|exact fun _ _=>rfl|exact fun _ _=>⟨tq_sub _ _,rfl⟩|exact fun _=>rfl|refine And.intro ?_ ?_)
      all_goals try (first|exact hL1|exact hL2|exact pushT_kidLen t2 a2 ss)
      ·intro j hj;by_cases hin:j<t2.length
       ·rw [if_pos hin,Nat.zero_add,pushT_get hin];exact ⟨tq_sub _ _,rfl⟩
       ·obtain rfl:j=t2.length:=by omega
        rw [if_neg hin,pushT_last,Nat.sub_self];exact ⟨tq_own _ ss a2,rfl⟩
     ·obtain ⟨t3,a3⟩:=q;obtain ⟨hp3,hlk⟩:=hq;obtain ⟨_,hfold3,hg3,ha3,hw3⟩:=id hp3;dsimp only at hp3 hlk hfold3 hg3 ha3 hw3;dsimp only;rw [hL] at hfold3;rw [show (Int.toNat (a3:Int))=a3 from rfl,Nat.zero_add];have hPl:=pushT_len t3 a3 ss
      have hn3:=hg3.2.1;have hkl3:=hg3.2.2.2 a3 ha3;have nba3:(decide ((pushT t3 a3 ss).length - 1=(pushT t3 a3 ss).length - 1)&&decide ((0:Int)<=(a3:Int)/\(a3:Int)<((pushT t3 a3 ss).length:Int)))=true:=by simp; omega
      have nbe3:decide ((pushT t3 a3 ss).length - 1=(pushT t3 a3 ss).length - 1)=true:=decide_eq_true rfl
      have nbk3:(true&&room (((pushT t3 a3 ss).getD a3 twigD).kids.length+1) 8&&decide (((pushT t3 a3 ss).getD a3 twigD).kids.length=kidLen (pushT t3 a3 ss) a3))=true:=by
       have hr8:room (((pushT t3 a3 ss).getD a3 twigD).kids.length+1) 8=true:=by
        rw [pushT_get ha3];exact decide_eq_true ⟨by omega,by omega⟩
       rw [hr8,decide_eq_true (show ((pushT t3 a3 ss).getD a3 twigD).kids.length=kidLen (pushT t3 a3 ss) a3 from rfl)];rfl
      have hal:=addTwig_len t3 a3 ss
      refine NB_intro nba3 (NB_intro nbe3 (NB_intro nbk3 (NB_intro nba3 (NB_intro nbe3 ⟨(s+1,addTwig t3 a3 ss,t3.length),⟨by dsimp only; omega,?_,goodT_add ss hg3,by dsimp only; omega,addTwig_slots hw3 hsf⟩,hmu,?_⟩))))
      ·rw [htake,List.foldl_append,hfold3];show stepR (t3,a3) ss=_;rw [stepR,if_pos hlk]
      have hL1:(pushT t3 a3 ss).length - 1=(addTwig t3 a3 ss).length - 1:=by omega
      have hL2:(pushT t3 a3 ss).length=(addTwig t3 a3 ss).length:=by omega
      repeat' (first|exact sub_lines _|exact tq_sub _ _|exact trivial|exact rfl|exact Or.inr rfl|exact fun h=>h|exact fun _ _=>rfl|exact fun _ _=>⟨tq_sub _ _,rfl⟩|exact fun _=>rfl|refine And.intro ?_ ?_)
      all_goals try (first|exact hL1|exact hL2|exact hWs)
      ·intro j hj;dsimp only at hj ⊢;by_cases hja:j=a3
       ·subst hja;simp only [if_true];rw [addTwig_get ha3,if_pos rfl,pushT_get ha3];exact ⟨tq_push _ _ _,by trivial⟩
       ·simp only [if_neg hja];by_cases hin:j<t3.length
        ·rw [addTwig_get hin,if_neg hja,pushT_get hin];exact ⟨tq_sub _ _,by trivial⟩
        ·obtain rfl:j=t3.length:=by omega
         rw [addTwig_last,pushT_last];exact ⟨tq_sub _ _,by trivial⟩
      ·intro j;rw [pushT_get ha3,<- pushT_kidLen];exact kidLen_add ss ha3 j
    ·have h9:¬ next<0:=of_decide_eq_false h8;have hlt:next.toNat<t2.length:=by
      rcases lastKid_mem t2 ss (t2.getD a2 twigD).kids with h10|h10
      ·omega
      ·rw [<- hnext] at h10;have:=hg2.2.2.1 a2 ha2 _ h10;omega
     refine ⟨(s+1,t2,next.toNat),⟨by dsimp only; omega,?_,goodT_mono hg2 (by dsimp only; omega),hlt,hw2⟩,hmu,?_⟩
     ·rw [htake,List.foldl_append,hfold2];show stepR (t2,a2) ss=_;simp only [stepR];rw [<- hnext,if_neg h9]
     have hnn:next=((next.toNat:Nat):Int):=by omega
     repeat' (first|exact sub_lines _|exact tq_sub _ _|exact trivial|exact rfl|exact Or.inr rfl|exact fun h=>h|exact fun _ _=>rfl|exact fun _ _=>⟨tq_sub _ _,rfl⟩|exact fun _=>rfl|refine And.intro ?_ ?_)
     all_goals (first|exact hnn|exact hWs)
  ·have h5:s=L.length:=by
    have:¬ s<L.length:=by simpa using h4
    omega
   subst h5;rw [List.take_length] at hfold;have nba1:(decide (t1.length - 1=t1.length - 1)&&decide ((0:Int)<=(a:Int)/\(a:Int)<(t1.length:Int)))=true:=by simp; omega
   have nbe1:decide (t1.length - 1=t1.length - 1)=true:=decide_eq_true rfl;have hW:IntKind.i64.wrap ((i:Int)+1)=((i+1:Nat):Int):=by rw [wrap_i64_id (by omega) (by omega)]; omega
   have hL0:=endTwig_len t1 a i
   refine NB_intro nba1 (NB_intro nbe1 (NB_intro nba1 (NB_intro nbe1 ⟨(i+1,endTwig t1 a i),⟨by dsimp only; omega,?_,goodT_mono (goodT_end i hg1) (by dsimp only; omega),fun j=>?_⟩,(show ls.length - (i+1)<ls.length - i by omega),?_⟩)))
   ·show endTwig ((ls.getD i []).foldl stepR (rT ls i,0)).1 ((ls.getD i []).foldl stepR (rT ls i,0)).2 i=_;rw [hL,hfold]
   ·rw [endTwig_slot];exact hw1 j
   have hL1:t1.length - 1=(endTwig t1 a i).length - 1:=by omega
   have hL2:t1.length=(endTwig t1 a i).length:=by omega
   rw [show (Int.toNat (a:Int))=a from rfl,Nat.zero_add]
   repeat' (first|exact sub_lines _|exact tq_sub _ _|exact trivial|exact rfl|exact Or.inr rfl|exact fun h=>h|exact fun _ _=>rfl|exact fun _ _=>⟨tq_sub _ _,rfl⟩|exact fun _=>rfl|refine And.intro ?_ ?_)
   all_goals try (first|exact hL1|exact hL2|exact hW)
   ·intro j hj;dsimp only at hj ⊢;rw [endTwig_get i hj];by_cases hia:j=a
    ·subst hia;simp only [if_true];exact ⟨tq_sub j ((t1.getD j twigD).slot,(t1.getD j twigD).par,(t1.getD j twigD).kids,true,(i:Int),()),by trivial⟩
    ·simp only [if_neg hia];exact ⟨tq_sub _ _,by trivial⟩
   ·intro j;exact (congrArg List.length (endTwig_kids t1 a j i)).symm
 ·have h3:i=ls.length:=by
   have:¬ i<ls.length:=by simpa using h2
   omega
  subst h3;obtain ⟨rfl,rfl⟩:=hr;rw [hT0];refine NB_intro (by simp) ⟨⟨⟨rfl,fun k hk=>?_,fun h=>by cases h⟩,trivial⟩,rfl,trivial⟩
  rw [Nat.zero_add];exact ⟨⟨rfl,⟨rfl,fun _ _=>⟨rfl,rfl⟩,fun h=>h⟩,rfl,⟨rfl,fun _ _=>⟨rfl,rfl⟩,fun h=>h⟩,rfl,rfl,trivial⟩,rfl⟩
end Go.Proofs.YtlnpgnipocbfhaaGreatDoor
