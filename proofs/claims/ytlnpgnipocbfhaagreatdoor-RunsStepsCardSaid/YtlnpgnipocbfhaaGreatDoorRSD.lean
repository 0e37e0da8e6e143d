/- RUNS D: Start, the program: the proof of its conditions. -/
import Derived.Test.YtlnpgnipocbfhaaGreatDoorRSC
namespace Go.Proofs.YtlnpgnipocbfhaaGreatDoor
open Pw Go
set_option maxRecDepth 100000
theorem sub_evP (e:StG):(evPA e).sub (evPA e):=⟨⟨⟨rfl,rfl,rfl,trivial⟩,rfl⟩,rfl⟩
theorem sub_twigP (x:TwigG):(twigPA x).sub (twigPA x):=⟨⟨sub_twig x,rfl⟩,rfl⟩
theorem rn_self (n:Nat) (L:List RunG) (x:RunG) (k:Nat):(rnE n (fun k=>runA (L.getD k runD)) x k).sub (rnE n (fun k=>runA (L.getD k runD)) x k)/\(rnE n (fun k=>runA (L.getD k runD)) x k).cells.length=(rnE n (fun k=>runA (L.getD k runD)) x k).cells.length:=by
 refine ⟨?_,rfl⟩;unfold rnE;split <;> exact sub_run _
section
variable {t:List TwigG} {A:Ats} {e:StG} {r:RunG} {pos:Int} {i:Nat}
theorem rn_len (hh:hitB t A e r i=true):(if 0<(t.getD (kidN t r.nd i).toNat twigD).kids.length then (runsK t A e r pos i).length+1 else (runsK t A e r pos i).length)=(runsK t A e r pos (i+1)).length:=by
 split
 ·rename_i h;rw [runs_yes ⟨hh,h⟩,List.length_append];rfl
 ·rename_i h;rw [runs_no fun q=>h q.2]
theorem rn_sub (hh:hitB t A e r i=true) {k:Nat} (hk:k<if 0<(t.getD (kidN t r.nd i).toNat twigD).kids.length then (runsK t A e r pos i).length+1 else (runsK t A e r pos i).length) :
  (rnE (runsK t A e r pos i).length (fun k=>runA ((runsK t A e r pos i).getD k runD)) (kidN t r.nd i,posL (pos,r.ps,()),r.fs,0,()) k).sub (runA ((runsK t A e r pos (i+1)).getD k runD)) /\
  (rnE (runsK t A e r pos i).length (fun k=>runA ((runsK t A e r pos i).getD k runD)) (kidN t r.nd i,posL (pos,r.ps,()),r.fs,0,()) k).cells.length=(runA ((runsK t A e r pos (i+1)).getD k runD)).cells.length:=by
 unfold rnE;by_cases h:k<(runsK t A e r pos i).length
 ·rw [if_pos h];by_cases h2:0<(t.getD (kidN t r.nd i).toNat twigD).kids.length
  ·rw [runs_yes ⟨hh,h2⟩,List.getD_eq_getElem?_getD (l:=_++_),List.getElem?_append_left h,<- List.getD_eq_getElem?_getD];exact ⟨sub_run _,rfl⟩
  ·rw [runs_no fun q=>h2 q.2]
   exact ⟨sub_run _,rfl⟩
 ·rw [if_neg h];split at hk
  ·rename_i h2;obtain rfl:k=(runsK t A e r pos i).length:=by omega
   rw [runs_yes ⟨hh,h2⟩,List.getD_eq_getElem?_getD (l:=_++_),List.getElem?_append_right (Nat.le_refl _),Nat.sub_self];exact ⟨sub_run _,rfl⟩
  ·omega
theorem rn_app {x:AV} {y:RunG} (hx:x.sub (runA y)) (hc:x.cells.length=4) {k:Nat} (hk:k<(runsK t A e r pos i).length+1) :
  (if k<(runsK t A e r pos i).length then runA ((runsK t A e r pos i).getD (0+k) runD) else (Sq.lst [x]).get (k - (runsK t A e r pos i).length)).sub (rnE (runsK t A e r pos i).length (fun k=>runA ((runsK t A e r pos i).getD k runD)) y k) /\
  (if k<(runsK t A e r pos i).length then runA ((runsK t A e r pos i).getD (0+k) runD) else (Sq.lst [x]).get (k - (runsK t A e r pos i).length)).cells.length=(rnE (runsK t A e r pos i).length (fun k=>runA ((runsK t A e r pos i).getD k runD)) y k).cells.length:=by
 unfold rnE;by_cases h:k<(runsK t A e r pos i).length
 ·rw [if_pos h,if_pos h,Nat.zero_add];exact ⟨sub_run _,rfl⟩
 ·rw [if_neg h,if_neg h,show k - (runsK t A e r pos i).length=0 by omega]
  exact ⟨hx,hc⟩
theorem rn_old {y:RunG} {k:Nat} (hk:k<(runsK t A e r pos i).length) :
  (runA ((runsK t A e r pos i).getD k runD)).sub (rnE (runsK t A e r pos i).length (fun k=>runA ((runsK t A e r pos i).getD k runD)) y k) /\
  4=(rnE (runsK t A e r pos i).length (fun k=>runA ((runsK t A e r pos i).getD k runD)) y k).cells.length:=by
 unfold rnE;rw [if_pos hk];exact ⟨sub_run _,rfl⟩
end
theorem clone_ga (s:SlotG) (h:s.gds.length<=1000):PureC Tryz.prog Pd.gN 52 [gaA s] (gaA s):=by
 refine cloneI_ok.up [gaA s] _ (gaA s) rfl ?_;simp only [Bool.and_eq_true,decide_eq_true_eq];refine ⟨by omega,?_⟩
 unfold intsB;rw [List.all_eq_true];intro k _;rfl
theorem pathT_ok (t:List TwigG) (hs:shortT t=true):PureF Tryz.prog 22 (cPathT t):=by
 intro args nd v he hnd;unfold cPathT at he;split at he <;> cases he
 rename_i X k;obtain ⟨h1,h2⟩:=subL_at _ _ (asB_i.1 hnd);refine PureC.args (args':=[treeA t,.int .i64 k]) rfl (fun i hi=>?_) (path_pure t k _ _ hs rfl)
 match i,hi with
 | 0,_=>exact h2 0 (by simp)
 | 1,_=>exact rfl
theorem tblP_ok (t:List TwigG) (r:RunG) (pos:Int) (hs:shortT t=true) (hb:r.ps.length<=1000):TblOK Tryz.prog Pd.gN (tblOf (tblP t r pos)) :=
 tblG_cons soundI_ok.up (tblG_cons evOfI_ok.up (tblG_cons (Pd.matches_of fun k bd bo n o v nm l ek x h=>Pd.matchesI_pure k bd bo n o v nm l ek x h) (tblG_cons (pathT_ok t hs).up (tblG_cons (cAsG_ok (clone_ga _ hb)) (tblG_nil _ _)))))
theorem hitI {t:List TwigG} {A:Ats} {e:StG} {r:RunG} {i:Nat}:isW true (Pd.MatB (A.K (kidT t r.nd i).slot.1.toNat) (A.B (kidT t r.nd i).slot.1.toNat) (A.O (kidT t r.nd i).slot.1.toNat) (A.N (kidT t r.nd i).slot.1.toNat) (fun k=>A.P (kidT t r.nd i).slot.1.toNat k) (fun k=>A.V (kidT t r.nd i).slot.1.toNat k) (A.M (kidT t r.nd i).slot.1.toNat) e.lb e.kd e.vl&&andI IntKind.u64 (shrI IntKind.u64 r.bl (i:Int)) 1==0)=hitB t A e r i:=by
 rw [isW_t,bit_zero,Bool.and_comm];rfl
theorem EStI_ok (t:List TwigG) (m:Nat) (A:Ats) (e:StG) (pos:Int) (hs:shortT t=true) (hA:Pd.atsOK m A):CtrOK (EStI t m A e pos) :=
 ⟨(mkG_ctr (P:=Tryz.prog) (gl:=Pd.gN) (inv:=fun _ _=>none) (n:=0) (tblG_cons (cAsG_ok (fitI_pure t m A _ hs hA rfl)) (tblP_ok t (run0 e) pos hs (Nat.zero_le _)))).1,itr_none rfl⟩
theorem startI_pure {t:List TwigG} {m:Nat} {A:Ats} {e:StG} (pos:Int) (o:OKt t m A e) (R':List RunG) (M':List MtG) (f:Int) (hr:startO t m A e pos=(R',M',f)) :
  PureC Tryz.prog Pd.gN 29 [treeA t,atmA m A,stA e,.int .i64 pos] (.tup [runsA R',mtcsA M',.int .i64 f]):=by
 refine PureC.of_vc (E:=EStI t m A e pos) (k:=20) (d:=3) mix (EStI_ok t m A e pos o.hs o.hA) ((startI_vc t m A e pos _ _ _).mpr ?_)
 conv=>zeta
 refine NB_intro (asB_t ⟨sub_tree t,sub_atm m A,trivial⟩) ⟨VB_intro (fun h0=>?_) (fun h0=>?_),fun _ _=>⟨VB_intro (fun h0=>?_) (fun h0=>?_),fun _ _=>?_⟩⟩
 ·have h0:fitE t m A=0:=by simpa using h0
  refine ⟨(),trivial,?_⟩
  repeat' (first|exact sub_atm _ _|exact sub_treeP _|exact sub_runP _|exact sub_stP _|exact sub_evP _|exact sub_twigP _|exact sub_twigs _|exact sub_ga _|exact sub_ints _|exact trivial|exact rfl|exact hW|exact Or.inl rfl|exact fun h=>h|exact fun _ _=>⟨sub_run _,rfl⟩|exact fun _ _=>⟨sub_mtc _,rfl⟩|exact fun k _=>rn_self _ _ _ k|refine And.intro ?_ ?_)
  rw [if_neg (by simpa using h0)]
 ·have h0:fitE t m A≠0:=by simpa using h0
  refine ⟨(),trivial,?_⟩
  repeat' (first|exact sub_atm _ _|exact sub_treeP _|exact sub_runP _|exact sub_stP _|exact sub_evP _|exact sub_twigP _|exact sub_twigs _|exact sub_ga _|exact sub_ints _|exact trivial|exact rfl|exact hW|exact Or.inl rfl|exact fun h=>h|exact fun _ _=>⟨sub_run _,rfl⟩|exact fun _ _=>⟨sub_mtc _,rfl⟩|exact fun k _=>rn_self _ _ _ k|refine And.intro ?_ ?_)
  rw [if_pos h0]
 ·simp only [Bool.and_eq_true,beq_iff_eq,decide_eq_true_eq] at h0;refine ⟨(),trivial,?_⟩
  repeat' (first|exact sub_atm _ _|exact sub_treeP _|exact sub_runP _|exact sub_stP _|exact sub_evP _|exact sub_twigP _|exact sub_twigs _|exact sub_ga _|exact sub_ints _|exact trivial|exact rfl|exact hW|exact Or.inl rfl|exact fun h=>h|exact fun _ _=>⟨sub_run _,rfl⟩|exact fun _ _=>⟨sub_mtc _,rfl⟩|exact fun k _=>rn_self _ _ _ k|refine And.intro ?_ ?_)
  unfold stE;split at h0
  ·exact (by assumption:fitE t m A≠0) h0.1 |>.elim
  rename_i h1;rw [if_neg h1,if_neg (by simpa using h0.1),if_pos h0.2]
 ·refine ⟨(),trivial,?_⟩
  repeat' (first|exact sub_atm _ _|exact sub_treeP _|exact sub_runP _|exact sub_stP _|exact sub_evP _|exact sub_twigP _|exact sub_twigs _|exact sub_ga _|exact sub_ints _|exact trivial|exact rfl|exact hW|exact Or.inl rfl|exact fun h=>h|exact fun _ _=>⟨sub_run _,rfl⟩|exact fun _ _=>⟨sub_mtc _,rfl⟩|exact fun k _=>rn_self _ _ _ k|refine And.intro ?_ ?_)
  unfold stE;split
  ·rfl
  rename_i h1;rw [if_neg h1] at h0;split
  ·rfl
  rename_i h2;have h2:sndE e=0:=by simpa using h2
  rw [h2] at h0 ⊢;rw [if_neg (by simpa using h0)]
 unfold startO at hr;refine VB_intro (fun h0=>?_) (fun h0=>?_)
 ·have h0:stE t m A e pos≠0:=by simpa using h0
  rw [if_pos h0] at hr;exact nil3 hr
 have h0:stE t m A e pos=0:=by simpa using h0
 rw [if_neg (by simpa using h0)] at hr
 have hfit:fitE t m A=0:=by
  unfold stE at h0;split at h0
  ·assumption
  ·rename_i h1; simpa using h1
 have q:=okr_start o hfit;have hk:=q.hk (run0 e).nd;refine NB_intro (decide_eq_true ⟨q.n0,q.n1⟩) ⟨⟨(0,0,0),Nat.zero_le _,?_⟩,fun p hi=>?_⟩
 ·repeat' (first|exact sub_atm _ _|exact sub_treeP _|exact sub_runP _|exact sub_stP _|exact sub_evP _|exact sub_twigP _|exact sub_twigs _|exact sub_ga _|exact sub_ints _|exact trivial|exact rfl|exact hW|exact Or.inl rfl|exact fun h=>h|exact fun _ _=>⟨sub_run _,rfl⟩|exact fun _ _=>⟨sub_mtc _,rfl⟩|exact fun k _=>rn_self _ _ _ k|refine And.intro ?_ ?_)
 obtain ⟨i,g1,g2⟩:=p;have hi:i<=(kidsN t (run0 e).nd).length:=hi;dsimp only
 repeat rw [show Int.toNat ((i:Nat):Int)=i from rfl]
 have hRl:=runs_len t A e (run0 e) pos i;have hMl:=mts_len t A e (run0 e) pos i;refine VB_intro (fun h=>?_) (fun h=>?_)
 ·have hi:i<(kidsN t (run0 e).nd).length:=by have:=of_decide_eq_true h; omega
  obtain ⟨k0,k1,s0,s1,hpl,_⟩:=kid_ok q hi;have hat:=q.hA (kidT t (run0 e).nd i).slot.1.toNat (by omega)
  have hkk:decide ((0:Int)<=kidN t (run0 e).nd i/\kidN t (run0 e).nd i<(t.length:Int))=true:=decide_eq_true ⟨by omega,k1⟩
  refine NB_intro (idx_ok hi) (NB_intro hkk (NB_intro (decide_eq_true ⟨s0,s1⟩) (NB_intro (fit_need hat q.hl) (VB_intro (fun hn=>?_) (fun hn=>?_)))))
  ·have hh:hitB t A e (run0 e) i=true:=hitI.symm.trans hn;have hr2:room ((runsK t A e (run0 e) pos i).length+1) 48=true:=decide_eq_true (by omega)
   refine NB_intro hkk ⟨VB_intro (fun hx=>?_) (fun hx=>?_),fun g3 _=>?_⟩
   ·have hx:0<(t.getD (kidN t (run0 e).nd i).toNat twigD).kids.length:=by have:=of_decide_eq_true hx; show 0<(t.getD (kidN t (run0 e).nd i).toNat twigD).kids.length; unfold kidN; omega
    refine NB_intro (asB_t ⟨⟨rfl,⟨⟨rfl,rfl⟩,trivial⟩,fun h=>by cases h⟩,trivial⟩) (NB_intro (by rw [hr2]; simp) ⟨g1+1,trivial,?_⟩)
    repeat' (first|exact sub_atm _ _|exact sub_treeP _|exact sub_runP _|exact sub_stP _|exact sub_evP _|exact sub_twigP _|exact sub_twigs _|exact sub_ga _|exact sub_ints _|exact trivial|exact rfl|exact hW|exact Or.inl rfl|exact fun h=>h|exact fun _ _=>⟨sub_run _,rfl⟩|exact fun _ _=>⟨sub_mtc _,rfl⟩|exact fun k _=>rn_self _ _ _ k|refine And.intro ?_ ?_)
    all_goals first|(intro h; cases h; done)|exact (if_pos hx).symm|exact fun k hk=>rn_app (new_run t (run0 e) pos i false) rfl hk
   ·have hx:¬ 0<(t.getD (kidN t (run0 e).nd i).toNat twigD).kids.length:=by have:=of_decide_eq_false hx; show ¬ 0<(t.getD (kidN t (run0 e).nd i).toNat twigD).kids.length; unfold kidN; omega
    refine ⟨g1,trivial,?_⟩
    repeat' (first|exact sub_atm _ _|exact sub_treeP _|exact sub_runP _|exact sub_stP _|exact sub_evP _|exact sub_twigP _|exact sub_twigs _|exact sub_ga _|exact sub_ints _|exact trivial|exact rfl|exact hW|exact Or.inl rfl|exact fun h=>h|exact fun _ _=>⟨sub_run _,rfl⟩|exact fun _ _=>⟨sub_mtc _,rfl⟩|exact fun k _=>rn_self _ _ _ k|refine And.intro ?_ ?_)
    all_goals first|(intro h; cases h; done)|exact (if_neg hx).symm|exact fun k hk=>rn_old hk
   ·have hW:=wrapS (i:=i) (by omega)
    have hlt:i+1<=(kidsN t (run0 e).nd).length:=hi;have hmu:(kidsN t (run0 e).nd).length - (i+1)<(kidsN t (run0 e).nd).length - i:=by omega
    refine VB_intro (fun hx=>NB_intro (asB_t ⟨sub_tree t,trivial⟩) ⟨⟨(0,0),Nat.zero_le _,?_⟩,fun q2 hq=>?_⟩) (fun hx=>VB_intro (fun hc=>?_) (fun _=>?_))
    ·repeat' (first|exact sub_atm _ _|exact sub_treeP _|exact sub_runP _|exact sub_stP _|exact sub_evP _|exact sub_twigP _|exact sub_twigs _|exact sub_ga _|exact sub_ints _|exact trivial|exact rfl|exact hW|exact Or.inl rfl|exact fun h=>h|exact fun _ _=>⟨sub_run _,rfl⟩|exact fun _ _=>⟨sub_mtc _,rfl⟩|exact fun k _=>rn_self _ _ _ k|refine And.intro ?_ ?_)
    ·obtain ⟨k,g⟩:=q2;have hq:k<=(pathE t (kidN t (run0 e).nd i)).1.length:=hq;dsimp only
     repeat rw [show Int.toNat ((k:Nat):Int)=k from rfl]
     refine VB_intro (fun h1=>?_) (fun h1=>?_)
     ·have h1:k<(pathE t (kidN t (run0 e).nd i)).1.length:=by have:=of_decide_eq_true h1; exact Int.ofNat_lt.1 this
      have hr3:room (k+1) 16=true:=decide_eq_true (by have:(run0 e).ps.length=0:=rfl; omega)
      have hk1:k<0+1:=by have:(run0 e).ps.length=0:=rfl; omega
      have hW:=wrapS (i:=k) (by omega)
      refine NB_intro (idx_ok h1) (NB_intro (idx_ok hk1) (NB_intro (by rw [hr3]; simp) ⟨(k+1,g+1),(show k+1<=_ from h1),(show (pathE t (kidN t (run0 e).nd i)).1.length - (k+1)<(pathE t (kidN t (run0 e).nd i)).1.length - k by omega),?_⟩))
      dsimp only
      repeat' (first|exact sub_atm _ _|exact sub_treeP _|exact sub_runP _|exact sub_stP _|exact sub_evP _|exact sub_twigP _|exact sub_twigs _|exact sub_ga _|exact sub_ints _|exact trivial|exact rfl|exact hW|exact Or.inl rfl|exact fun h=>h|exact fun _ _=>⟨sub_run _,rfl⟩|exact fun _ _=>⟨sub_mtc _,rfl⟩|exact fun k _=>rn_self _ _ _ k|refine And.intro ?_ ?_)
      all_goals exact fun j hj=>plc_row h1 hj
     ·have hkl:k=(pathE t (kidN t (run0 e).nd i)).1.length:=by
       have:=of_decide_eq_false h1;have:¬ k<(pathE t (kidN t (run0 e).nd i)).1.length:=fun h=>this (Int.ofNat_lt.2 h)
       omega
      have hr4:room ((mtsK t A e (run0 e) pos i).length+1) 24=true:=decide_eq_true (by omega)
      refine NB_intro (by simp) (NB_intro (by rw [hr4]; simp) (VB_intro (fun hc=>?_) (fun _=>⟨(i+1,g3,g2+1),hlt,hmu,?_⟩)))
      ·rw [Bool.and_false] at hc;cases hc
      ·dsimp only;rw [mts_yes ⟨hh,hx⟩]
       repeat' (first|exact sub_atm _ _|exact sub_treeP _|exact sub_runP _|exact sub_stP _|exact sub_evP _|exact sub_twigP _|exact sub_twigs _|exact sub_ga _|exact sub_ints _|exact trivial|exact rfl|exact hW|exact Or.inl rfl|exact fun h=>h|exact fun _ _=>⟨sub_run _,rfl⟩|exact fun _ _=>⟨sub_mtc _,rfl⟩|exact fun k _=>rn_self _ _ _ k|refine And.intro ?_ ?_)
       all_goals first|exact rn_len hh|exact fun k hk=>rn_sub hh hk|(rw [List.length_append]; rfl)|exact fun j hj=>app_row sub_mtc (new_mtc (pos,(run0 e).ps,()) _ hkl _) rfl hj
    ·rw [Bool.and_false] at hc;cases hc
    ·refine ⟨(i+1,g3,g2),hlt,hmu,?_⟩;dsimp only;rw [mts_no (by rw [show (kidT t (run0 e).nd i).ends=false from hx]; simp)]
     repeat' (first|exact sub_atm _ _|exact sub_treeP _|exact sub_runP _|exact sub_stP _|exact sub_evP _|exact sub_twigP _|exact sub_twigs _|exact sub_ga _|exact sub_ints _|exact trivial|exact rfl|exact hW|exact Or.inl rfl|exact fun h=>h|exact fun _ _=>⟨sub_run _,rfl⟩|exact fun _ _=>⟨sub_mtc _,rfl⟩|exact fun k _=>rn_self _ _ _ k|refine And.intro ?_ ?_)
     all_goals first|exact rn_len hh|exact fun k hk=>rn_sub hh hk
  ·have hh:hitB t A e (run0 e) i=false:=hitI.symm.trans hn;have hW:=wrapS (i:=i) (by omega)
   refine VB_intro (fun hc=>?_) (fun _=>⟨(i+1,g1,g2),hi,(show (kidsN t (run0 e).nd).length - (i+1)<(kidsN t (run0 e).nd).length - i by omega),?_⟩)
   ·have hn2:=hitI (t:=t) (A:=A) (e:=e) (r:=run0 e) (i:=i);rw [hh,isW_t] at hn2;have:(false&&true)=true:=by rw [<- hn2]; exact hc
    cases this
   ·dsimp only;rw [runs_no (by rw [hh]; simp),mts_no (by rw [hh]; simp)]
    repeat' (first|exact sub_atm _ _|exact sub_treeP _|exact sub_runP _|exact sub_stP _|exact sub_evP _|exact sub_twigP _|exact sub_twigs _|exact sub_ga _|exact sub_ints _|exact trivial|exact rfl|exact hW|exact Or.inl rfl|exact fun h=>h|exact fun _ _=>⟨sub_run _,rfl⟩|exact fun _ _=>⟨sub_mtc _,rfl⟩|exact fun k _=>rn_self _ _ _ k|refine And.intro ?_ ?_)
 ·have h:=of_decide_eq_false h;obtain rfl:i=(kidsN t (run0 e).nd).length:=by omega
  have hr':=out3 hr;refine NB_intro (by simp) ⟨⟨hr'.1.1,fun k hk=>?_,fun h=>by cases h⟩,⟨hr'.2.1.1,fun k hk=>?_,fun h=>by cases h⟩,hr'.2.2⟩
  ·rw [Nat.zero_add];exact hr'.1.2.1 k hk
  ·rw [Nat.zero_add];exact hr'.2.1.2.1 k hk
end Go.Proofs.YtlnpgnipocbfhaaGreatDoor
