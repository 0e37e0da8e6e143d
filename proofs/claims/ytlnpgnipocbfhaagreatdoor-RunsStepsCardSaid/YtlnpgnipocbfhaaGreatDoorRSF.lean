/- RUNS F: Extend, the program: the proof of its conditions. -/
import Derived.Test.YtlnpgnipocbfhaaGreatDoorRSE
namespace Go.Proofs.YtlnpgnipocbfhaaGreatDoor
open Pw Go
set_option maxRecDepth 100000
theorem ga_ext {pos:Int} {P:List Int} {k:Nat} (hk:k<P.length+1):(if 0+k<P.length then AV.int .i64 (P.getD (0+(0+k)) 0) else (Sq.lst [AV.int .i64 pos]).get (0+k - P.length)).sub (gaE (pos,P,()) k) /\
  (if 0+k<P.length then AV.int .i64 (P.getD (0+(0+k)) 0) else (Sq.lst [AV.int .i64 pos]).get (0+k - P.length)).cells.length=(gaE (pos,P,()) k).cells.length:=by
 by_cases h:k<P.length
 ·rw [if_pos (by omega)]
  unfold gaE gaS;rw [if_pos h,show 0+(0+k)=k by omega]
  exact ⟨rfl,rfl⟩
 ·rw [if_neg (by omega)]
  unfold gaE gaS;rw [if_neg h,show 0+k - P.length=0 by omega]
  exact ⟨rfl,rfl⟩
theorem new_run2 (t:List TwigG) (r:RunG) (pos:Int) (i:Nat) (b:Bool):(AV.agg [.int .i64 (kidN t r.nd i),.rof ((SlotG.gds (pos,r.ps,())).length+1) (fun k=>gaE (pos,r.ps,()) k) b,.int .u64 r.fs,.int .u64 0]).sub (runA (kidN t r.nd i,posL (pos,r.ps,()),r.fs,0,())):=by
 refine ⟨rfl,⟨?_,fun k hk=>?_,fun h=>by cases h⟩,rfl,rfl,trivial⟩
 ·show r.ps.length+1=(r.ps++[pos]).length;rw [List.length_append];rfl
 ·dsimp only;rw [posL_get (pos,r.ps,()) (by omega)]
  exact ⟨rfl,rfl⟩
theorem EExI_ok (t:List TwigG) (m:Nat) (A:Ats) (e:StG) (r:RunG) (pos w:Int) (hs:shortT t=true) (hA:Pd.atsOK m A) (hb:r.ps.length<=1000):CtrOK (EExI t m A e r pos w) :=
 ⟨(mkG_ctr (P:=Tryz.prog) (gl:=Pd.gN) (inv:=fun _ _=>none) (n:=0) (tblG_cons (cAsG_ok (ckI_pure t m A r _ hs hA hb rfl)) (tblG_cons (cAsG_ok (aliveI_pure r e.tk w).up) (tblP_ok t r pos hs hb)))).1,itr_none rfl⟩
theorem extI_pure {t:List TwigG} {m:Nat} {A:Ats} {e:StG} {r:RunG} (pos w:Int) (o:OKt t m A e) (n:OKn r) (R':List RunG) (M':List MtG) (f:Int) (hr:extO t m A e r pos w=(R',M',f)) :
  PureC Tryz.prog Pd.gN 33 [treeA t,atmA m A,runA r,stA e,.int .i64 pos,.int .u64 w] (.tup [runsA R',mtcsA M',.int .i64 f]):=by
 have hn0:=n.hb;have hu1:=Pd.u64B_iff.1 o.ht;have hu2:=Pd.u64B_iff.1 n.hfs;refine PureC.of_vc (E:=EExI t m A e r pos w) (k:=20) (d:=3) mix (EExI_ok t m A e r pos w o.hs o.hA n.hb) ((extI_vc t m A e r pos w _ _ _).mpr ?_)
 conv=>zeta
 have hif:∀ x:Int,(if ckE t m A r≠0 then ckE t m A r else x)=(if ckE t m A r=0 then x else ckE t m A r):=fun x=>by
  by_cases h:ckE t m A r=0 <;> simp [h]
 have hw1:1<=r.ps.length->IntKind.i64.wrap ((r.ps.length:Int) - 1)=((r.ps.length - 1:Nat):Int):=fun h=>by rw [wrap_i64_id (by omega) (by omega)]; omega
 refine NB_intro (asB_t ⟨sub_tree t,sub_atm m A,sub_run r,trivial⟩) ⟨VB_intro (fun h0=>?_) (fun h0=>?_),fun _ _=>⟨NB_intro (impB_of fun h0=>?_) (VB_intro (fun h0=>?_) (fun h0=>?_)),fun _ _=>NB_intro (impB_of fun _=>asB_t ⟨sub_run r,rfl,rfl,trivial⟩) ?_⟩⟩
 ·have h0:ckE t m A r=0:=by simpa using h0
  refine ⟨(),trivial,?_⟩
  repeat' (first|exact sub_atm _ _|exact sub_treeP _|exact sub_runP _|exact sub_stP _|exact sub_evP _|exact sub_twigP _|exact sub_twigs _|exact sub_ga _|exact sub_ints _|exact trivial|exact rfl|exact hW|exact Or.inl rfl|exact fun h=>h|exact fun _ _=>⟨sub_run _,rfl⟩|exact fun _ _=>⟨sub_mtc _,rfl⟩|exact fun k _=>rn_self _ _ _ k|refine And.intro ?_ ?_)
  rw [if_neg (by simpa using h0)]
 ·have h0:ckE t m A r≠0:=by simpa using h0
  refine ⟨(),trivial,?_⟩
  repeat' (first|exact sub_atm _ _|exact sub_treeP _|exact sub_runP _|exact sub_stP _|exact sub_evP _|exact sub_twigP _|exact sub_twigs _|exact sub_ga _|exact sub_ints _|exact trivial|exact rfl|exact hW|exact Or.inl rfl|exact fun h=>h|exact fun _ _=>⟨sub_run _,rfl⟩|exact fun _ _=>⟨sub_mtc _,rfl⟩|exact fun k _=>rn_self _ _ _ k|refine And.intro ?_ ?_)
  rw [if_pos h0]
 ·rw [isW_t,beq_iff_eq,hif] at h0;split at h0
  ·rename_i h1;have:=(ck_run h1).2.2.2.2;rw [hw1 this];exact idx_ok (by omega)
  ·rename_i h1;exact (h1 h0).elim
 ·simp only [Bool.and_eq_true,beq_iff_eq,Bool.or_eq_true,decide_eq_true_eq] at h0;refine ⟨(),trivial,?_⟩
  repeat' (first|exact sub_atm _ _|exact sub_treeP _|exact sub_runP _|exact sub_stP _|exact sub_evP _|exact sub_twigP _|exact sub_twigs _|exact sub_ga _|exact sub_ints _|exact trivial|exact rfl|exact hW|exact Or.inl rfl|exact fun h=>h|exact fun _ _=>⟨sub_run _,rfl⟩|exact fun _ _=>⟨sub_mtc _,rfl⟩|exact fun k _=>rn_self _ _ _ k|refine And.intro ?_ ?_)
  rw [hif] at h0;split at h0
  ·rename_i h1;have:=(ck_run h1).2.2.2.2;rw [hw1 this,Int.toNat_natCast] at h0;unfold exE;rw [if_neg (by simpa using h1),if_neg (by simpa using h0.1),if_pos h0.2]
  ·rename_i h1;exact (h1 h0.1).elim
 ·refine ⟨(),trivial,?_⟩
  repeat' (first|exact sub_atm _ _|exact sub_treeP _|exact sub_runP _|exact sub_stP _|exact sub_evP _|exact sub_twigP _|exact sub_twigs _|exact sub_ga _|exact sub_ints _|exact trivial|exact rfl|exact hW|exact Or.inl rfl|exact fun h=>h|exact fun _ _=>⟨sub_run _,rfl⟩|exact fun _ _=>⟨sub_mtc _,rfl⟩|exact fun k _=>rn_self _ _ _ k|refine And.intro ?_ ?_)
  unfold exE;rw [hif] at h0 ⊢;split
  ·rename_i h1;have h3:=(ck_run h1).2.2.2.2;rw [if_pos h1,hw1 h3,Int.toNat_natCast] at h0;rw [if_neg (by simpa using h1)]
   split
   ·rfl
   rename_i h2;have h2:sndE e=0:=by simpa using h2
   rw [h2] at h0 ⊢;rw [if_neg (by simpa using h0)]
  ·rfl
 unfold extO at hr;refine VB_intro (fun h0=>?_) (fun h0=>?_)
 ·by_cases h1:exE t m A e r pos=0
  ·rw [h1] at h0 hr ⊢;rw [if_neg (by simp)] at hr
   simp only [bne_self_eq_false,Bool.false_or,Bool.not_eq_true',alvB,Bool.or_eq_false_iff,decide_eq_false_iff_not] at h0;rw [wrap_u64_id (by omega) (by omega)] at h0
   rw [if_pos (by omega)] at hr
   exact nil3 hr
  ·rw [if_pos h1] at hr;exact nil3 hr
 simp only [Bool.or_eq_false_iff,bne_eq_false_iff_eq,Bool.not_eq_false',alvB,Bool.or_eq_true,decide_eq_true_eq] at h0;obtain ⟨h0,halv⟩:=h0;rw [if_neg (by simpa using h0)] at hr
 have hck:ckE t m A r=0:=by
  unfold exE at h0;split at h0
  ·assumption
  ·rename_i h1; simpa using h1
 have hge:¬ e.tk<r.fs:=fun h=>by
  unfold exE at h0;rw [if_neg (by simpa using hck)] at h0
  split at h0
  ·contradiction
  ·rw [if_pos (.inr h)] at h0;cases h0
 rw [if_neg (by
  rcases halv with h1|h1
  ·omega
  ·by_cases h2:e.tk<r.fs
   ·omega
   ·rw [wrap_u64_id (by omega) (by omega)] at h1
    omega)] at hr
 have q:=okr_ext o n hck;have hk:=q.hk r.nd;have hb:=q.hb;refine NB_intro (decide_eq_true ⟨q.n0,q.n1⟩) ⟨⟨(0,0,0),Nat.zero_le _,?_⟩,fun p hi=>?_⟩
 ·repeat' (first|exact sub_atm _ _|exact sub_treeP _|exact sub_runP _|exact sub_stP _|exact sub_evP _|exact sub_twigP _|exact sub_twigs _|exact sub_ga _|exact sub_ints _|exact trivial|exact rfl|exact hW|exact Or.inl rfl|exact fun h=>h|exact fun _ _=>⟨sub_run _,rfl⟩|exact fun _ _=>⟨sub_mtc _,rfl⟩|exact fun k _=>rn_self _ _ _ k|refine And.intro ?_ ?_)
 obtain ⟨i,g1,g2⟩:=p;have hi:i<=(kidsN t r.nd).length:=hi;dsimp only
 repeat rw [show Int.toNat ((i:Nat):Int)=i from rfl]
 have hRl:=runs_len t A e r pos i;have hMl:=mts_len t A e r pos i;refine VB_intro (fun h=>?_) (fun h=>?_)
 ·have hi:i<(kidsN t r.nd).length:=by have:=of_decide_eq_true h; omega
  obtain ⟨k0,k1,s0,s1,hpl,_⟩:=kid_ok q hi;have hat:=q.hA (kidT t r.nd i).slot.1.toNat (by omega)
  have hkk:decide ((0:Int)<=kidN t r.nd i/\kidN t r.nd i<(t.length:Int))=true:=decide_eq_true ⟨by omega,k1⟩
  refine NB_intro (idx_ok hi) (NB_intro hkk (NB_intro (decide_eq_true ⟨s0,s1⟩) (NB_intro (fit_need hat q.hl) (VB_intro (fun hn=>?_) (fun hn=>?_)))))
  ·have hh:hitB t A e r i=true:=hitI.symm.trans hn;have hbd:decide ((0:Int)<=0/\(0:Int)<=(r.ps.length:Int)/\(r.ps.length:Int)=(r.ps.length:Int)/\(r.ps.length:Int)<=(r.ps.length:Int))=true:=decide_eq_true ⟨by omega,by omega,rfl,by omega⟩
   have hrm:(true&&room (r.ps.length+1) 8&&(1 !=0||r.ps.length==0))=true:=by rw [show room (r.ps.length+1) 8=true from decide_eq_true ⟨by omega,by omega⟩]; rfl
   have hr2:room ((runsK t A e r pos i).length+1) 48=true:=decide_eq_true (by omega)
   refine NB_intro hbd (NB_intro hrm (NB_intro hkk ⟨VB_intro (fun hx=>?_) (fun hx=>?_),fun g3 _=>?_⟩))
   ·have hx:0<(t.getD (kidN t r.nd i).toNat twigD).kids.length:=by have:=of_decide_eq_true hx; show 0<(t.getD (kidN t r.nd i).toNat twigD).kids.length; unfold kidN; omega
    refine NB_intro (asB_t ⟨⟨rfl,fun k hk=>ga_ext hk,fun h=>by cases h⟩,trivial⟩) (NB_intro (by rw [hr2]; simp) ⟨g1+1,trivial,?_⟩)
    repeat' (first|exact sub_atm _ _|exact sub_treeP _|exact sub_runP _|exact sub_stP _|exact sub_evP _|exact sub_twigP _|exact sub_twigs _|exact sub_ga _|exact sub_ints _|exact trivial|exact rfl|exact hW|exact Or.inl rfl|exact fun h=>h|exact fun _ _=>⟨sub_run _,rfl⟩|exact fun _ _=>⟨sub_mtc _,rfl⟩|exact fun k _=>rn_self _ _ _ k|refine And.intro ?_ ?_)
    all_goals first|(intro h; cases h; done)|exact fun k hk=>ga_ext hk|exact (if_pos hx).symm|exact fun k hk=>rn_app (new_run2 t r pos i false) rfl hk
   ·have hx:¬ 0<(t.getD (kidN t r.nd i).toNat twigD).kids.length:=by have:=of_decide_eq_false hx; show ¬ 0<(t.getD (kidN t r.nd i).toNat twigD).kids.length; unfold kidN; omega
    refine ⟨g1,trivial,?_⟩
    repeat' (first|exact sub_atm _ _|exact sub_treeP _|exact sub_runP _|exact sub_stP _|exact sub_evP _|exact sub_twigP _|exact sub_twigs _|exact sub_ga _|exact sub_ints _|exact trivial|exact rfl|exact hW|exact Or.inl rfl|exact fun h=>h|exact fun _ _=>⟨sub_run _,rfl⟩|exact fun _ _=>⟨sub_mtc _,rfl⟩|exact fun k _=>rn_self _ _ _ k|refine And.intro ?_ ?_)
    all_goals first|(intro h; cases h; done)|exact fun k hk=>ga_ext hk|exact (if_neg hx).symm|exact fun k hk=>rn_old hk
   ·have hW:=wrapS (i:=i) (by omega)
    have hlt:i+1<=(kidsN t r.nd).length:=hi;have hmu:(kidsN t r.nd).length - (i+1)<(kidsN t r.nd).length - i:=by omega
    refine VB_intro (fun hx=>NB_intro (asB_t ⟨sub_tree t,trivial⟩) ⟨⟨(0,0),Nat.zero_le _,?_⟩,fun q2 hq=>?_⟩) (fun hx=>VB_intro (fun hc=>?_) (fun _=>?_))
    ·repeat' (first|exact sub_atm _ _|exact sub_treeP _|exact sub_runP _|exact sub_stP _|exact sub_evP _|exact sub_twigP _|exact sub_twigs _|exact sub_ga _|exact sub_ints _|exact trivial|exact rfl|exact hW|exact Or.inl rfl|exact fun h=>h|exact fun _ _=>⟨sub_run _,rfl⟩|exact fun _ _=>⟨sub_mtc _,rfl⟩|exact fun k _=>rn_self _ _ _ k|refine And.intro ?_ ?_)
    ·obtain ⟨k,g⟩:=q2;have hq:k<=(pathE t (kidN t r.nd i)).1.length:=hq;dsimp only
     repeat rw [show Int.toNat ((k:Nat):Int)=k from rfl]
     refine VB_intro (fun h1=>?_) (fun h1=>?_)
     ·have h1:k<(pathE t (kidN t r.nd i)).1.length:=by have:=of_decide_eq_true h1; exact Int.ofNat_lt.1 this
      have hr3:room (k+1) 16=true:=decide_eq_true (by omega)
      have hk1:k<r.ps.length+1:=by omega
      have hW:=wrapS (i:=k) (by omega)
      refine NB_intro (idx_ok h1) (NB_intro (idx_ok hk1) (NB_intro (by rw [hr3]; simp) ⟨(k+1,g+1),(show k+1<=_ from h1),(show (pathE t (kidN t r.nd i)).1.length - (k+1)<(pathE t (kidN t r.nd i)).1.length - k by omega),?_⟩))
      dsimp only
      repeat' (first|exact sub_atm _ _|exact sub_treeP _|exact sub_runP _|exact sub_stP _|exact sub_evP _|exact sub_twigP _|exact sub_twigs _|exact sub_ga _|exact sub_ints _|exact trivial|exact rfl|exact hW|exact Or.inl rfl|exact fun h=>h|exact fun _ _=>⟨sub_run _,rfl⟩|exact fun _ _=>⟨sub_mtc _,rfl⟩|exact fun k _=>rn_self _ _ _ k|refine And.intro ?_ ?_)
      all_goals exact fun j hj=>plc_row h1 hj
     ·have hkl:k=(pathE t (kidN t r.nd i)).1.length:=by
       have:=of_decide_eq_false h1;have:¬ k<(pathE t (kidN t r.nd i)).1.length:=fun h=>this (Int.ofNat_lt.2 h)
       omega
      have hr4:room ((mtsK t A e r pos i).length+1) 24=true:=decide_eq_true (by omega)
      refine NB_intro (by simp) (NB_intro (by rw [hr4]; simp) (VB_intro (fun hc=>?_) (fun _=>⟨(i+1,g3,g2+1),hlt,hmu,?_⟩)))
      ·rw [Bool.and_false] at hc;cases hc
      ·dsimp only;rw [mts_yes ⟨hh,hx⟩]
       repeat' (first|exact sub_atm _ _|exact sub_treeP _|exact sub_runP _|exact sub_stP _|exact sub_evP _|exact sub_twigP _|exact sub_twigs _|exact sub_ga _|exact sub_ints _|exact trivial|exact rfl|exact hW|exact Or.inl rfl|exact fun h=>h|exact fun _ _=>⟨sub_run _,rfl⟩|exact fun _ _=>⟨sub_mtc _,rfl⟩|exact fun k _=>rn_self _ _ _ k|refine And.intro ?_ ?_)
       all_goals first|exact rn_len hh|exact fun k hk=>rn_sub hh hk|(rw [List.length_append]; rfl)|exact fun j hj=>app_row sub_mtc (new_mtc (pos,r.ps,()) _ hkl _) rfl hj
    ·rw [Bool.and_false] at hc;cases hc
    ·refine ⟨(i+1,g3,g2),hlt,hmu,?_⟩;dsimp only;rw [mts_no (by rw [show (kidT t r.nd i).ends=false from hx]; simp)]
     repeat' (first|exact sub_atm _ _|exact sub_treeP _|exact sub_runP _|exact sub_stP _|exact sub_evP _|exact sub_twigP _|exact sub_twigs _|exact sub_ga _|exact sub_ints _|exact trivial|exact rfl|exact hW|exact Or.inl rfl|exact fun h=>h|exact fun _ _=>⟨sub_run _,rfl⟩|exact fun _ _=>⟨sub_mtc _,rfl⟩|exact fun k _=>rn_self _ _ _ k|refine And.intro ?_ ?_)
     all_goals first|exact rn_len hh|exact fun k hk=>rn_sub hh hk
  ·have hh:hitB t A e r i=false:=hitI.symm.trans hn;have hW:=wrapS (i:=i) (by omega)
   refine VB_intro (fun hc=>?_) (fun _=>⟨(i+1,g1,g2),hi,(show (kidsN t r.nd).length - (i+1)<(kidsN t r.nd).length - i by omega),?_⟩)
   ·have hn2:=hitI (t:=t) (A:=A) (e:=e) (r:=r) (i:=i);rw [hh,isW_t] at hn2;have:(false&&true)=true:=by rw [<- hn2]; exact hc
    cases this
   ·dsimp only;rw [runs_no (by rw [hh]; simp),mts_no (by rw [hh]; simp)]
    repeat' (first|exact sub_atm _ _|exact sub_treeP _|exact sub_runP _|exact sub_stP _|exact sub_evP _|exact sub_twigP _|exact sub_twigs _|exact sub_ga _|exact sub_ints _|exact trivial|exact rfl|exact hW|exact Or.inl rfl|exact fun h=>h|exact fun _ _=>⟨sub_run _,rfl⟩|exact fun _ _=>⟨sub_mtc _,rfl⟩|exact fun k _=>rn_self _ _ _ k|refine And.intro ?_ ?_)
 ·have h:=of_decide_eq_false h;obtain rfl:i=(kidsN t r.nd).length:=by omega
  have hr':=out3 hr;refine NB_intro (by simp) ⟨⟨hr'.1.1,fun k hk=>?_,fun h=>by cases h⟩,⟨hr'.2.1.1,fun k hk=>?_,fun h=>by cases h⟩,hr'.2.2⟩
  ·rw [Nat.zero_add];exact hr'.1.2.1 k hk
  ·rw [Nat.zero_add];exact hr'.2.1.2.1 k hk
end Go.Proofs.YtlnpgnipocbfhaaGreatDoor
