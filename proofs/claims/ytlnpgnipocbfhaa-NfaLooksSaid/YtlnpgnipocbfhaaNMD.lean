/- TREES, document D: Check, Lines, Ends, Path, Depth: contracts. -/
import Derived.Test.YtlnpgnipocbfhaaNMC
import Derived.Test.YtlnpgnipocbfhaaNME
namespace Go.Proofs.Ytlnpgnipocbfhaa
open Pw Go
set_option maxRecDepth 100000
set_option linter.unusedSimpArgs false
theorem linesOf_me (ls:List (List SlotG)):(linesOf' ls.length fun (k:Nat)=>lineA (ls.getD k []))=ls:=by
 refine List.ext_getElem (by simp [linesOf']) fun i h1 h2=>?_
 simp [linesOf',line_self,List.getD,h2]
theorem linesB_me (ls:List (List SlotG)):((List.range ls.length).all fun (i:Nat)=>isLineL (lineA (ls.getD i [])))=true:=by
 rw [List.all_eq_true]
 exact fun _ _=>slotsB_self _
theorem rOf_ok:PureF Try.prog 37 cROf:=by
 intro args nd v he hnd
 unfold cROf at he
 split at he <;> cases he
 rename_i n f ex
 simp only [Bool.and_eq_true] at hnd
 refine PureC.args (args':=[linesA (linesOf' n f)]) rfl (fun i hi=>?_) (rof_pure _ _ _ (List.all_eq_true.1 hnd.2) rfl)
 match i,hi with
 | 0,_=>exact lines_sub hnd.1
theorem ECd_ok:CtrOK ECd:=mkE_ctr (tbl_cons dlines_ok (tbl_cons rOf_ok (tbl_cons alike_ok (tbl_nil _))))
theorem shortT_few2 {t:List TwigG} (h:shortT t=true) (hl:t.length≤1000000):few2s t=true:=by
 simp only [shortT,Bool.and_eq_true,List.all_eq_true,decide_eq_true_eq] at h
 simp only [few2s,few2,Bool.and_eq_true,decide_eq_true_eq,List.all_eq_true]
 refine ⟨hl,fun x hx=>⟨?_,(h.2 x hx).2⟩⟩
 have:=(h.2 x hx).1
 omega
theorem linesD_small {t:List TwigG} (h:(linesD t).2=true):t.length≤769:=by
 unfold linesD at h
 split at h
 ·cases h
 ·omega
theorem dcheck_pure (t : List TwigG) (r : Int) (hs : shortT t = true) (hr : checkE t = r) : PureC Try.prog gU 10 [treeA t] (.int .i64 r) := by
  refine PureC.of_vc (E := ECd) (k := 20) (d := 3) mix ECd_ok ((dcheck_vc t r).mpr ?_)
  have hT : treeDec (AV.agg [AV.rof t.length (fun (k : Nat) => twigA (t.getD k twigD)) false]) = t := treeDec_self t
  have hI : isTree (AV.agg [AV.rof t.length (fun (k : Nat) => twigA (t.getD k twigD)) false]) = true := isTree_self t
  rw [hT, hI]
  have hsl := shortT_slots hs
  have hgd := gdsOK_of hsl
  have hfew := linesD_few hsl
  rw [← checkD_eq] at hr
  unfold checkD at hr
  have hsm := fun h => linesD_small (t := t) h
  generalize linesD t = LD at *
  obtain ⟨L, b⟩ := LD
  dsimp only at *
  rw [linesOf_me, linesB_me, List.all_eq_true.2 hfew]
  generalize hR : rofT L = R at *
  obtain ⟨t', e⟩ := R
  dsimp only at *
  have hT' : treeDec (AV.agg [AV.rof t'.length (fun (k : Nat) => twigA (t'.getD k twigD)) false]) = t' := treeDec_self t'
  have hI' : isTree (AV.agg [AV.rof t'.length (fun (k : Nat) => twigA (t'.getD k twigD)) false]) = true := isTree_self t'
  rw [hT', hI']
  refine NB_intro (by rw [hgd]; rfl) (VB_intro (fun h => ?_) (fun h => ?_))
  · rw [if_neg (by simpa using h)] at hr
    exact hr
  have hb : b = true := by simpa using h
  rw [if_pos hb] at hr
  refine NB_intro rfl (NB_intro (impB_of fun h2 => ?_) (VB_intro (fun h2 => ?_) (fun h2 => ?_)))
  · have he : e = 0 := by
      have h3 : (!(e != 0)) = true := by
        cases h4 : (e != 0) with
        | false => rfl
        | true => rw [h4] at h2; cases h2
      simpa using h3
    subst he
    have := of_rof hR
    have h5 : few2s t' = true := by
      have := ofT_few (ls := L) (by rw [this])
      rwa [of_rof hR] at this
    rw [h5, shortT_few2 hs (by have := hsm hb; omega)]
    rfl
  · rw [if_pos] at hr
    · exact hr
    · simp only [Bool.or_eq_true, bne_iff_ne, ne_eq, Bool.not_eq_true', decide_eq_false_iff_not] at h2
      exact h2
  · rw [if_neg] at hr
    · exact hr
    · simp only [Bool.or_eq_false_iff, bne_eq_false_iff_eq, Bool.not_eq_false', decide_eq_true_eq] at h2
      rintro (k | k)
      · exact k h2.1
      · exact k h2.2
theorem dcheck_ok:PureF Try.prog 10 cCheckT:=by
 intro args nd v he hnd
 unfold cCheckT at he
 split at he <;> cases he
 rename_i X
 simp only [Bool.and_eq_true] at hnd
 refine PureC.args (args':=[treeA (treeDec X)]) rfl (fun i hi=>?_) (dcheck_pure _ _ hnd.2 rfl)
 match i,hi with
 | 0,_=>exact tree_sub hnd.1
theorem ELd_ok:CtrOK ELd:=mkE_ctr (tbl_cons dcheck_ok (tbl_cons dlines_ok (tbl_nil _)))
theorem check_lines {t:List TwigG} (h:checkE t=0):linesR t=(lnsE t,0)∧endsR t=(endS t,0)∧linesD t=(lnsE t,true):=by
 have h1:=check_made h
 have h2:=made_lines h1
 refine ⟨?_,?_,made_linesD h1⟩
 ·unfold linesR
  rw [h2,if_pos rfl]
 ·unfold endsR
  rw [h2,if_pos rfl]
theorem check_bad {t:List TwigG} (h:checkE t≠0):linesR t=([],checkE t)∧endsR t=([],checkE t):=by
 have h1:¬ (linesE t).2.2=true:=fun e=>h (by unfold checkE; rw [if_pos e])
 have h3:checkE t=3:=by
  unfold checkE
  rw [if_neg h1]
 unfold linesR endsR
 rw [if_neg h1,if_neg h1,h3]
 exact ⟨rfl,rfl⟩
theorem dlinesT_pure (t:List TwigG) (L:List (List SlotG)) (r:Int) (hs:shortT t=true) (hr:linesR t=(L,r)):PureC Try.prog gU 12 [treeA t] (.tup [linesA L,.int .i64 r]):=by
 refine PureC.of_vc (E:=ELd) (k:=20) (d:=3) mix ELd_ok ((dlinesT_vc t L r).mpr ?_)
 have hT:treeDec (AV.agg [AV.rof t.length (fun (k:Nat)=>twigA (t.getD k twigD)) false])=t:=treeDec_self t
 have hI:isTree (AV.agg [AV.rof t.length (fun (k:Nat)=>twigA (t.getD k twigD)) false])=true:=isTree_self t
 rw [hT,hI]
 have hgd:=gdsOK_of (shortT_slots hs)
 refine NB_intro (by rw [hs]; rfl) (VB_intro (fun h=>?_) (fun h=>?_))
 ·rw [(check_bad (by simpa using h)).1] at hr
  simp only [Prod.mk.injEq] at hr
  obtain ⟨rfl,rfl⟩:=hr
  exact ⟨rfl,rfl,trivial⟩
 ·obtain ⟨h1,_,h3⟩:=check_lines (t:=t) (by simpa using h)
  rw [h1] at hr
  simp only [Prod.mk.injEq] at hr
  obtain ⟨rfl,rfl⟩:=hr
  rw [h3]
  exact NB_intro (by rw [hgd]; rfl) ⟨⟨rfl,fun _ _=>⟨⟨⟨rfl,fun _ _=>⟨⟨rfl,⟨rfl,fun _ _=>⟨rfl,rfl⟩,fun h=>h⟩,trivial⟩,rfl⟩,fun h=>h⟩,trivial⟩,rfl⟩,fun h=>h⟩,rfl,trivial⟩
theorem dlinesT_ok:PureF Try.prog 12 cLinesR:=by
 intro args nd v he hnd
 unfold cLinesR at he
 split at he <;> cases he
 rename_i X
 simp only [Bool.and_eq_true] at hnd
 refine PureC.args (args':=[treeA (treeDec X)]) rfl (fun i hi=>?_) (dlinesT_pure _ _ _ hnd.2 rfl)
 match i,hi with
 | 0,_=>exact tree_sub hnd.1
theorem EEd_ok (t:List TwigG) (n:Nat):CtrOK (EEd t n):=mkE_ctr (tbl_cons dlinesT_ok (tbl_nil _))
theorem dends_pure (t:List TwigG) (L:List Int) (r:Int) (hs:shortT t=true) (hr:endsR t=(L,r)):PureC Try.prog gU 15 [treeA t] (.tup [intsA L,.int .i64 r]):=by
 refine PureC.of_vc (E:=EEd t (lnsE t).length) (k:=20) (d:=3) mix (EEd_ok t _) ((dends_vc t _ L r).mpr ?_)
 have hT:treeDec (AV.agg [AV.rof t.length (fun (k:Nat)=>twigA (t.getD k twigD)) false])=t:=treeDec_self t
 have hI:isTree (AV.agg [AV.rof t.length (fun (k:Nat)=>twigA (t.getD k twigD)) false])=true:=isTree_self t
 rw [hT,hI]
 refine NB_intro (by rw [hs]; rfl) ?_
 by_cases hc:checkE t=0
 case neg =>
  obtain ⟨h1,h2⟩:=check_bad hc
  rw [h2] at hr
  simp only [Prod.mk.injEq] at hr
  obtain ⟨rfl,rfl⟩:=hr
  rw [h1]
  refine VB_intro (fun _=>⟨rfl,rfl,trivial⟩) (fun h=>?_)
  exact absurd (by simpa using h) hc
 obtain ⟨h1,h2,_⟩:=check_lines hc
 have hm0:=check_made hc
 rw [h2] at hr
 simp only [Prod.mk.injEq] at hr
 obtain ⟨rfl,rfl⟩:=hr
 rw [h1]
 generalize lnsE t=ls at *
 obtain ⟨hm,htl,_,hl,_⟩:=ofT_made hm0
 refine VB_intro (fun h=>by simp at h) (fun _=>NB_intro (decide_eq_true ⟨by omega,rfl,by dsimp only; omega,by dsimp only; omega⟩) ⟨⟨0,Nat.zero_le _,?_⟩,fun i hi=>?_⟩)
 ·repeat' (first|exact sub_tree _|exact trivial|exact rfl|exact Or.inl rfl|exact fun h=>h|exact fun _ _=>⟨rfl,rfl⟩|refine And.intro ?_ ?_)
 have hi:i≤t.length:=hi
 refine VB_intro (fun h=>?_) (fun h=>?_)
 ·have h4:i<t.length:=by
   have:=of_decide_eq_true h
   omega
  have hW:IntKind.i64.wrap ((i:Int)+1)=((i+1:Nat):Int):=by rw [wrap_i64_id (by omega) (by omega)]; omega
  rw [show (Int.toNat (i:Int))=i from rfl]
  refine NB_intro (by simp; omega) (VB_intro (fun h5=>?_) (fun h5=>?_))
  ·obtain ⟨j,j1,j2,_⟩:=hm.on i h4 h5
   refine NB_intro (by simp; omega) (NB_intro (decide_eq_true ⟨by omega,by omega⟩) ⟨i+1,(show i+1≤t.length by omega),(show t.length - (i+1)<t.length - i by omega),?_⟩)
   repeat' (first|exact sub_tree _|exact trivial|exact rfl|exact hW|exact Or.inl rfl|exact fun h=>h|refine And.intro ?_ ?_)
   intro k hk
   refine ⟨?_,rfl⟩
   by_cases hkl:k=0+(t.getD i twigD).line.toNat
   ·rw [if_pos hkl]
    unfold endK
    rw [atK_hit (by omega)]
   ·rw [if_neg hkl]
    unfold endK
    rw [atK_skip (by omega)]
  ·have h6:=hm.off i h4 h5
   refine ⟨i+1,(show i+1≤t.length by omega),(show t.length - (i+1)<t.length - i by omega),?_⟩
   repeat' (first|exact sub_tree _|exact trivial|exact rfl|exact hW|exact Or.inl rfl|exact fun h=>h|refine And.intro ?_ ?_)
   intro k hk
   refine ⟨?_,rfl⟩
   unfold endK
   rw [atK_skip (by omega)]
 ·have h4:i=t.length:=by
   have:=of_decide_eq_false h
   omega
  subst h4
  obtain ⟨s1,s2,s3⟩:=made_sorted hm (by omega)
  refine ⟨⟨s1.symm,fun k hk=>⟨?_,rfl⟩,fun h=>by cases h⟩,rfl,trivial⟩
  rw [Nat.zero_add]
  obtain ⟨e1,e2,_⟩:=s3 _ (getD_mem (d:=0) (show k<(endS t).length by omega))
  have e4:=s2 k (by omega)
  change (t.getD ((endS t).getD k 0).toNat twigD).line=k at e4
  obtain ⟨q,hq⟩:=atK_has (t:=t) (k:=(k:Int)) (j:=t.length) (i:=((endS t).getD k 0).toNat) (by omega) e4
  obtain ⟨q1,q2⟩:=atK_mem hq
  have:=hm.line_one (i:=q) (j:=((endS t).getD k 0).toNat) q1 (by omega) (by omega) (by omega)
  unfold endK
  rw [hq]
  dsimp only
  omega
theorem EPd_ok:CtrOK EPd:=mkE_ctr (tbl_cons dcheck_ok (tbl_cons rup_ok (tbl_cons datoms_ok (tbl_nil _))))
theorem dpath_pure (t:List TwigG) (m:Int) (L:List Int) (r:Int) (hs:shortT t=true) (hr:pathE t m=(L,r)):PureC Try.prog gU 18 [treeA t,.int .i64 m] (.tup [intsA L,.int .i64 r]):=by
 refine PureC.of_vc (E:=EPd) (k:=20) (d:=3) mix EPd_ok ((dpath_vc t m L r).mpr ?_)
 have hT:treeDec (AV.agg [AV.rof t.length (fun (k:Nat)=>twigA (t.getD k twigD)) false])=t:=treeDec_self t
 have hI:isTree (AV.agg [AV.rof t.length (fun (k:Nat)=>twigA (t.getD k twigD)) false])=true:=isTree_self t
 rw [hT,hI]
 unfold pathE at hr
 refine NB_intro (by rw [hs]; rfl) (VB_intro (fun h=>?_) (fun h=>VB_intro (fun h1=>?_) (fun h1=>?_)))
 ·simp only [Bool.and_eq_true,beq_iff_eq,Bool.or_eq_true,decide_eq_true_eq] at h
  rw [if_neg (by simpa using h.1),if_pos (by omega)] at hr
  simp only [Prod.mk.injEq] at hr
  obtain ⟨rfl,rfl⟩:=hr
  exact ⟨rfl,rfl,trivial⟩
 ·rw [if_pos (by simpa using h1)] at hr
  simp only [Prod.mk.injEq] at hr
  obtain ⟨rfl,rfl⟩:=hr
  exact ⟨rfl,rfl,trivial⟩
 ·have h0:checkE t=0:=by simpa using h1
  have hm:¬ (m<0∨(t.length:Int)≤m):=by
   intro hm
   rw [h0] at h
   simp at h
   omega
  rw [if_neg (by simpa using h0),if_neg hm] at hr
  simp only [Prod.mk.injEq] at hr
  obtain ⟨rfl,rfl⟩:=hr
  obtain ⟨_,h3,h4,h5⟩:=checkE_ok hs h0
  have h6:=upL_few (shortT_slots hs) (k:=m) (by omega)
  have h7:(upL t m).length≤1000000:=by
   simp only [fewS,Bool.and_eq_true,decide_eq_true_eq] at h6
   omega
  rw [slotsB_self,slotsOf_self]
  refine NB_intro (by rw [h4,h5,decide_eq_true (show t.length≤1000000 by omega),decide_eq_true (show 0≤m by omega),decide_eq_true (show m<t.length by omega)]; rfl) (NB_intro (by rw [decide_eq_true h7]; rfl) ⟨⟨rfl,fun _ _=>⟨rfl,rfl⟩,fun h=>h⟩,rfl,trivial⟩)
theorem dpath_ok:PureF Try.prog 18 cPath:=by
 intro args nd v he hnd
 unfold cPath at he
 split at he <;> cases he
 rename_i X m
 simp only [Bool.and_eq_true] at hnd
 refine PureC.args (args':=[treeA (treeDec X),.int .i64 m]) rfl (fun i hi=>?_) (dpath_pure _ _ _ _ hnd.2 rfl)
 match i,hi with
 | 0,_=>exact tree_sub hnd.1
 | 1,_=>exact rfl
theorem EDd_ok:CtrOK EDd:=mkE_ctr (tbl_cons dpath_ok (tbl_nil _))
theorem ddepth_pure (t:List TwigG) (m:Int) (hs:shortT t=true):PureC Try.prog gU 22 [treeA t,.int .i64 m] (.tup [.int .i64 (pathE t m).1.length,.int .i64 (pathE t m).2]):=by
 refine PureC.of_vc (E:=EDd) (k:=20) (d:=3) mix EDd_ok ((ddepth_vc t m _ _).mpr ?_)
 have hT:treeDec (AV.agg [AV.rof t.length (fun (k:Nat)=>twigA (t.getD k twigD)) false])=t:=treeDec_self t
 have hI:isTree (AV.agg [AV.rof t.length (fun (k:Nat)=>twigA (t.getD k twigD)) false])=true:=isTree_self t
 rw [hT,hI]
 exact NB_intro (by rw [hs]; rfl) ⟨rfl,rfl,trivial⟩
end Go.Proofs.Ytlnpgnipocbfhaa
