/- TREES, law NfaLooks: the proof of its conditions. -/
import Derived.Test.YtlnpgnipocbfhaaNPG
namespace Go.Proofs.Ytlnpgnipocbfhaa
open Pw Go
set_option maxRecDepth 100000
set_option linter.unusedSimpArgs false
theorem ESm_ok (t:List TwigG):CtrOK (ESm t):=mkE_ctr (tbl_nil _)
theorem small_pure (t:List TwigG):PureC Try.prog gU 6 [treeA t] (.bool (smallT t)):=by
 refine PureC.of_vc (E:=ESm t) (k:=20) (d:=3) mix (ESm_ok t) ((small_vc t _).mpr (VB_intro (fun h=>?_) (fun h=>⟨⟨0,⟨Nat.zero_le _,fun j hj=>absurd hj (Nat.not_lt_zero _)⟩,?_⟩,fun i hpre=>?_⟩)))
 ·have h:=of_decide_eq_true h
  unfold smallT
  rw [decide_eq_false (by omega),Bool.false_and]
 ·repeat' (first|exact sub_tree _|exact trivial|exact rfl|exact fun h=>h|refine And.intro ?_ ?_)
 have h:=of_decide_eq_false h
 obtain ⟨hi,hpre⟩:=hpre
 refine VB_intro (fun h1=>?_) (fun h1=>?_)
 ·have h2:i<t.length:=by
   have:=of_decide_eq_true h1
   omega
  have hW:IntKind.i64.wrap ((i:Int)+1)=((i+1:Nat):Int):=by rw [wrap_i64_id (by omega) (by omega)]; omega
  have hix:decide ((0:Int)≤(i:Int)∧(i:Int)<(t.length:Int))=true:=decide_eq_true ⟨by omega,by omega⟩
  rw [show (Int.toNat (i:Int))=i from rfl]
  refine NB_intro hix (NB_intro (impB_of fun _=>hix) (VB_intro (fun h3=>?_) (fun h3=>?_)))
  ·simp only [Bool.or_eq_true,decide_eq_true_eq] at h3
   unfold smallT
   have:(List.range t.length).all (smallN t)=false:=by
    rw [Bool.eq_false_iff]
    intro hall
    have:=List.all_eq_true.1 hall i (by simpa using h2)
    simp only [smallN,Bool.and_eq_true,decide_eq_true_eq] at this
    omega
   rw [this,Bool.and_false]
  ·simp only [Bool.or_eq_false_iff,decide_eq_false_iff_not] at h3
   refine ⟨i+1,⟨by omega,fun j hj=>?_⟩,(show t.length - (i+1)<t.length - i by omega),?_⟩
   ·rcases Nat.lt_or_ge j i with h5|h5
    ·exact hpre j h5
    ·obtain rfl:j=i:=by omega
     unfold smallN
     rw [decide_eq_true (by omega),decide_eq_true (by omega)]
     rfl
   repeat' (first|exact sub_tree _|exact trivial|exact rfl|exact hW|exact fun h=>h|refine And.intro ?_ ?_)
 ·have h2:i=t.length:=by
   have:=of_decide_eq_false h1
   omega
  subst h2
  unfold smallT
  rw [decide_eq_true (by omega),List.all_eq_true.2 fun j hj=>hpre j (by simpa using hj)]
  rfl
theorem small_ok:PureF Try.prog 6 cSmall:=by
 intro args nd v he hnd
 unfold cSmall at he
 split at he <;> cases he
 rename_i X
 refine PureC.args (args':=[treeA (treeDec X)]) rfl (fun i hi=>?_) (small_pure _)
 match i,hi with
 | 0,_=>exact tree_sub hnd
theorem awakeL_ok:PureF Try.prog 7 cAwakeL:=by
 intro args nd v he hnd
 unfold cAwakeL at he
 split at he <;> cases he
 exact PureC.args (args':=[]) rfl (fun i hi=>absurd hi (Nat.not_lt_zero _)) kAwake_runs
theorem EOt_ok (t:List TwigG):CtrOK (EOt t):=⟨(mkE_ctr (P:=Try.prog) (inv:=fun _ _=>none) (tbl_nil _)).1,itr_none rfl⟩
theorem twig_refl (x:TwigG):(twigA x).sub (twigA x):=⟨rfl,sub_ints _,rfl,sub_ints _,rfl,rfl,trivial⟩
theorem ownT_pure (t:List TwigG) (hs:shortT t=true) (ht:t.length≤1000000):PureC Try.prog gU 8 [treeA t] (treeA t):=by
 refine PureC.of_vc (E:=EOt t) (k:=20) (d:=3) mix (EOt_ok t) ((ownT_vc t).mpr ⟨?_,fun p hpre=>?_⟩)
 ·refine ⟨(0,0),Nat.zero_le _,?_⟩
  repeat' (first|exact sub_tree _|exact trivial|exact rfl|exact Or.inl rfl|exact fun h=>h|refine And.intro ?_ ?_)
 obtain ⟨i,g⟩:=p
 have hi:i≤t.length:=hpre
 dsimp only
 refine VB_intro (fun h=>?_) (fun h=>?_)
 ·have h1:i<t.length:=by
   have:=of_decide_eq_true h
   omega
  have k1:=shortT_slots hs i
  have k1:(t.getD i twigD).slot.gds.length≤1000:=k1
  have k2:=shortT_kids hs i
  have hr1:room (0+(t.getD i twigD).slot.gds.length) 8=true:=decide_eq_true ⟨by omega,by omega⟩
  have hr2:room (0+(t.getD i twigD).kids.length) 8=true:=decide_eq_true ⟨by omega,by omega⟩
  have hr3:room (i+1) 80=true:=decide_eq_true ⟨by omega,by omega⟩
  have hW:IntKind.i64.wrap ((i:Int)+1)=((i+1:Nat):Int):=by rw [wrap_i64_id (by omega) (by omega)]; omega
  rw [show (Int.toNat (i:Int))=i from rfl]
  refine NB_intro (decide_eq_true ⟨by omega,by omega⟩) (NB_intro (by rw [hr1]; simp) (NB_intro (by rw [hr2]; simp) (NB_intro (by rw [hr3]; simp) ⟨(i+1,g+1),(show i+1≤t.length by omega),(show t.length - (i+1)<t.length - i by omega),?_⟩)))
  repeat' (first|exact sub_tree _|exact trivial|exact rfl|exact hW|exact Or.inl rfl|exact fun h=>h|refine And.intro ?_ ?_)
  intro k hk
  by_cases hin:k<i
  ·repeat rw [if_pos hin]
   rw [Nat.zero_add]
   exact ⟨twig_refl (t.getD k twigD),rfl⟩
  ·obtain rfl:k=i:=by omega
   repeat rw [if_neg hin]
   rw [Nat.sub_self]
   refine ⟨⟨rfl,⟨Nat.zero_add _,fun j hj=>?_,fun h=>by cases h⟩,rfl,⟨Nat.zero_add _,fun j hj=>?_,fun h=>by cases h⟩,rfl,rfl,trivial⟩,rfl⟩
   ·dsimp only
    rw [Nat.zero_add]
    exact ⟨rfl,rfl⟩
   ·dsimp only
    rw [Nat.zero_add]
    exact ⟨rfl,rfl⟩
 ·have h1:i=t.length:=by
   have:=of_decide_eq_false h
   omega
  subst h1
  refine NB_intro (by simp) ⟨⟨rfl,fun k hk=>?_,fun h=>by cases h⟩,trivial⟩
  rw [Nat.zero_add]
  exact ⟨⟨rfl,⟨rfl,fun _ _=>⟨rfl,rfl⟩,fun h=>h⟩,rfl,⟨rfl,fun _ _=>⟨rfl,rfl⟩,fun h=>h⟩,rfl,rfl,trivial⟩,rfl⟩
theorem small_short {t:List TwigG} (hln:linesIn t=true) (h:smallT t=true):shortT t=true∧t.length≤200:=by
 simp only [smallT,Bool.and_eq_true,decide_eq_true_eq] at h
 refine ⟨?_,h.1⟩
 unfold shortT
 rw [hln,Bool.true_and,List.all_eq_true]
 intro x hx
 obtain ⟨i,hi,rfl⟩:=List.getElem_of_mem hx
 have:=List.all_eq_true.1 h.2 i (by simpa using hi)
 have e:t.getD i twigD=t[i]:=by simp [List.getD,hi]
 simp only [smallN,e,Bool.and_eq_true,decide_eq_true_eq] at this
 exact Bool.and_eq_true_iff.2 ⟨decide_eq_true (by omega),decide_eq_true (by omega)⟩
theorem lens {t:List TwigG} (hs:shortT t=true) (m:Int):(endsR t).1.length≤1000000∧(pathE t m).1.length≤1000000∧(beginsE t m).1.length≤1000000∧(linesR t).1.length≤1000000∧∀ l∈(linesR t).1,fewS l=true:=by
 by_cases hc:checkE t=0
 ·obtain ⟨h1,h2,h3⟩:=check_lines hc
  obtain ⟨hm,htl,_,hl,_⟩:=ofT_made (check_made hc)
  obtain ⟨s1,_⟩:=made_sorted hm (by omega)
  refine ⟨by rw [h2]; show (endS t).length≤_; omega,?_,?_,by rw [h1]; show (lnsE t).length≤_; omega,?_⟩
  ·unfold pathE
   rw [if_neg (by simpa using hc)]
   split
   ·exact Nat.zero_le _
   ·have h6:=upL_few (shortT_slots hs) (k:=m) (by omega)
    simp only [fewS,Bool.and_eq_true,decide_eq_true_eq] at h6
    show (atomsL (upL t m)).length≤_
    simp only [atomsL,List.length_map]
    omega
  ·unfold beginsE
   rw [if_neg (by simpa using hc)]
   show (pathsL t [m] 0).length≤_
   rw [begK_all]
   unfold begK
   rw [List.take_length]
   exact Nat.le_trans (List.length_filter_le _ _) (shortT_kids hs _)
  ·rw [h1]
   have:=linesD_few (shortT_slots hs)
   rw [h3] at this
   exact this
 ·obtain ⟨h1,h2⟩:=check_bad hc
  refine ⟨by rw [h2]; exact Nat.zero_le _,?_,?_,by rw [h1]; exact Nat.zero_le _,by rw [h1]; exact fun l hl=>by cases hl⟩
  ·unfold pathE
   rw [if_pos (by simpa using hc)]
   exact Nat.zero_le _
  ·unfold beginsE
   rw [if_pos (by simpa using hc)]
   exact Nat.zero_le _
theorem looks_pure (t:List TwigG) (m:Int) (l:List Int) (hln:linesIn t=true):PureC Try.prog gU 3 [treeA t,.int .i64 m,intsA l] (.bool true):=by
 have hT:treeDec (AV.agg [AV.rof t.length (fun (k:Nat)=>twigA (t.getD k twigD)) false])=t:=treeDec_self t
 have hI:isTree (AV.agg [AV.rof t.length (fun (k:Nat)=>twigA (t.getD k twigD)) false])=true:=isTree_self t
 by_cases hsm:smallT t=true∧l.length≤14
 case neg =>
  refine PureC.of_vc (E:=EL0) (k:=20) (d:=3) mix (mkE_ctr (tbl_cons small_ok (tbl_cons awakeL_ok (tbl_nil _)))) ((looks0_vc t m l).mpr ⟨?_,fun _ h=>h⟩)
  rw [hT,hI]
  refine NB_intro rfl (VB_intro (fun _=>rfl) (fun h=>?_))
  simp only [Bool.or_eq_false_iff,Bool.not_eq_false',decide_eq_false_iff_not] at h
  exact (hsm ⟨h.1,by omega⟩).elim
 obtain ⟨hsm,hl⟩:=hsm
 obtain ⟨hs,ht⟩:=small_short hln hsm
 obtain ⟨n1,n2,n3,n4,n5⟩:=lens hs m
 have hf2:=shortT_few2 hs (by omega)
 have c1:=cAs_ok (ownT_pure t hs (by omega))
 have c2:=cAs_ok (checkT_pure t _ hs rfl)
 have c3:=cAs_ok (dcheck_pure t _ hs rfl)
 have c4:=cAs_ok (linesT_pure t _ _ hs rfl)
 have c5:=cAs_ok (dlinesT_pure t _ _ hs rfl)
 have c6:=cAs_ok (by have:=kLines_pure (linesR t).1 (linesR t).1 n4 n5 n5; rwa [decide_eq_true rfl] at this)
 have c7:=cAs_ok (endsT_pure t _ _ hs rfl)
 have c8:=cAs_ok (dends_pure t _ _ hs rfl)
 have c9:=cAs_ok (path_pure t m _ _ hs rfl)
 have c10:=cAs_ok (dpath_pure t m _ _ hs rfl)
 have c11:=cAs_ok (begins_pure t m _ _ hs rfl)
 have c12:=cAs_ok (dbeginsE_pure t m _ _ hs rfl)
 have c13:=cAs_ok (depth_pure t m hs)
 have c14:=cAs_ok (ddepth_pure t m hs)
 have c15:=cAs_ok (walk_pure t l _ _ hs (by omega) rfl)
 have c16:=cAs_ok (dwalkE_pure t l _ _ hs (by omega) rfl)
 have c17:=cAs_ok (by have:=kTree_pure t t hf2 hf2; rwa [decide_eq_true rfl] at this)
 refine PureC.of_vc (E:=ELo t m l (checkE t) (linesR t).1 (linesR t).2 (endsR t).1 (endsR t).2 (pathE t m).1 (pathE t m).2 (beginsE t m).1 (beginsE t m).2 (pathE t m).1.length (walkE t l).1 (walkE t l).2) (k:=20) (d:=3) mix
  (mkE_ctr (tbl_cons small_ok (tbl_cons awakeL_ok (tbl_cons c1 (tbl_cons c2 (tbl_cons c3 (tbl_cons c4 (tbl_cons c5 (tbl_cons c6 (tbl_cons c7 (tbl_cons c8 (tbl_cons kInts_ok (tbl_cons c9 (tbl_cons c10 (tbl_cons c11 (tbl_cons c12 (tbl_cons c13 (tbl_cons c14 (tbl_cons c15 (tbl_cons c16 (tbl_cons c17 (tbl_nil _))))))))))))))))))))))
  ((looks_vc t m l _ _ _ _ _ _ _ _ _ _ _ _).mpr ?_)
 rw [hT,hI]
 generalize checkE t=c at *
 generalize linesR t=Lr at *
 generalize endsR t=Er at *
 generalize pathE t m=Pr at *
 generalize beginsE t m=Br at *
 generalize walkE t l=Wr at *
 have hA:asB [treeA t] [treeA t]=true:=asB_t ⟨sub_tree t,trivial⟩
 have hAm:asB [treeA t,.int .i64 m] [treeA t,.int .i64 m]=true:=asB_t ⟨sub_tree t,rfl,trivial⟩
 have hAl:asB [treeA t,intsA l] [treeA t,intsA l]=true:=asB_t ⟨sub_tree t,sub_ints l,trivial⟩
 have eqI:∀ X:List Int,X.length≤1000000→((decide (X.length≤1000000)&&decide (X.length≤1000000)&&intsB X.length fun (k:Nat)=>AV.int IntKind.i64 (X.getD k (0:Int)))&&intsB X.length fun (k:Nat)=>AV.int IntKind.i64 (X.getD k (0:Int)))=true:=fun X h=>by
  rw [decide_eq_true h,intsB_self]
  rfl
 refine NB_intro rfl (VB_intro (fun _=>rfl) (fun _=>?_))
 refine NB_intro hA (NB_intro hA (NB_intro hA (VB_intro (fun h=>by simp at h) (fun _=>?_))))
 refine NB_intro hA (NB_intro hA (NB_intro (asB_t ⟨sub_lines _,sub_lines _,trivial⟩) (VB_intro (fun h=>by simp at h) (fun _=>?_))))
 refine NB_intro hA (NB_intro hA (NB_intro (eqI _ n1) (VB_intro (fun h=>by simp at h) (fun _=>?_))))
 refine NB_intro hAm (NB_intro hAm (NB_intro (eqI _ n2) (VB_intro (fun h=>by simp at h) (fun _=>?_))))
 refine NB_intro hAm (NB_intro hAm (NB_intro (eqI _ n3) (VB_intro (fun h=>by simp at h) (fun _=>?_))))
 refine NB_intro hAm (NB_intro hAm (NB_intro hAl (NB_intro hAl (NB_intro (impB_of fun _=>asB_t ⟨sub_tree t,sub_tree t,trivial⟩) ?_))))
 simp
end Go.Proofs.Ytlnpgnipocbfhaa
