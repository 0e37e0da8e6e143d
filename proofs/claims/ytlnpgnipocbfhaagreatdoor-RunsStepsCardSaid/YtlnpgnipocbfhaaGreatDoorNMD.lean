/- TREES, document D: Check, Lines, Ends, Path, Depth: contracts. -/
import Derived.Test.YtlnpgnipocbfhaaGreatDoorNMA
import Derived.Test.YtlnpgnipocbfhaaGreatDoorNB1
namespace Go.Proofs.YtlnpgnipocbfhaaGreatDoor
open Pw Go
set_option maxRecDepth 100000
theorem linesOf_me (ls:List (List SlotG)):(linesOf' ls.length fun (k:Nat)=>lineA (ls.getD k []))=ls:=by
 refine List.ext_getElem (by simp [linesOf']) fun i h1 h2=>?_
 simp [linesOf',line_self,List.getD,h2]
theorem linesB_me (ls:List (List SlotG)):((List.range ls.length).all fun (i:Nat)=>isLineL (lineA (ls.getD i [])))=true:=by
 rw [List.all_eq_true];exact fun _ _=>slotsB_self _
theorem rOf_ok:PureF Tryz.prog 13 cROf:=by
 intro args nd v he hnd;unfold cROf at he;split at he <;> cases he
 rename_i n f ex;simp only [Bool.and_eq_true] at hnd;refine PureC.args (args':=[linesA (linesOf' n f)]) rfl (fun i hi=>?_) (rof_pure _ _ _ (List.all_eq_true.1 hnd.2) rfl)
 match i,hi with
 | 0,_=>exact lines_sub hnd.1
theorem ECd_ok:CtrOK ECd:=mkE_ctr (tbl_cons dlines_ok (tbl_cons rOf_ok (tbl_cons alike_ok (tbl_nil _))))
theorem shortT_few2 {t:List TwigG} (h:shortT t=true) (hl:t.length<=1000000):few2s t=true:=by
 simp only [shortT,Bool.and_eq_true,List.all_eq_true,decide_eq_true_eq] at h;simp only [few2s,few2,Bool.and_eq_true,decide_eq_true_eq,List.all_eq_true];refine ⟨hl,fun x hx=>⟨?_,(h.2 x hx).2⟩⟩
 have:=(h.2 x hx).1;omega
theorem linesD_small {t:List TwigG} (h:(linesD t).2=true):t.length<=769:=by
 unfold linesD at h;split at h
 ·cases h
 ·omega
theorem dcheck_pure (t:List TwigG) (r:Int) (hs:shortT t=true) (hr:checkE t=r):PureC Tryz.prog gU 122 [treeA t] (.int .i64 r):=by
 refine PureC.of_vc (E:=ECd) (k:=20) (d:=3) mix ECd_ok ((dcheck_vc t r).mpr ?_)
 conv=>zeta
 have hT:treeDec (AV.agg [AV.rof t.length (fun (k:Nat)=>twigA (t.getD k twigD)) false])=t:=treeDec_self t
 have hI:isTree (AV.agg [AV.rof t.length (fun (k:Nat)=>twigA (t.getD k twigD)) false])=true:=isTree_self t
 rw [hT,hI];have hsl:=shortT_slots hs;have hgd:=gdsOK_of hsl;have hfew:=linesD_few hsl;rw [<- checkD_eq] at hr;unfold checkD at hr;have hsm:=fun h=>linesD_small (t:=t) h
 generalize linesD t=LD at *;obtain ⟨L,b⟩:=LD;dsimp only at *;rw [linesOf_me,linesB_me,List.all_eq_true.2 hfew];generalize hR:rofT L=R at *;obtain ⟨t',e⟩:=R;dsimp only at *
 have hT':treeDec (AV.agg [AV.rof t'.length (fun (k:Nat)=>twigA (t'.getD k twigD)) false])=t':=treeDec_self t'
 have hI':isTree (AV.agg [AV.rof t'.length (fun (k:Nat)=>twigA (t'.getD k twigD)) false])=true:=isTree_self t'
 rw [hT',hI'];refine NB_intro (by rw [hgd]; rfl) (VB_intro (fun h=>?_) (fun h=>?_))
 ·rw [if_neg (by simpa using h)] at hr
  exact hr
 have hb:b=true:=by simpa using h
 rw [if_pos hb] at hr;refine NB_intro rfl (NB_intro (impB_of fun h2=>?_) (VB_intro (fun h2=>?_) (fun h2=>?_)))
 ·have he:e=0:=by
   have h3:(!(e !=0))=true:=by
    cases h4:(e !=0) with
    | false=>rfl
    | true=>rw [h4] at h2; cases h2
   simpa using h3
  subst he;have:=of_rof hR;have h5:few2s t'=true:=by
   have:=ofT_few (ls:=L) (by rw [this])
   rwa [of_rof hR] at this
  rw [h5,shortT_few2 hs (by have:=hsm hb; omega)]
  rfl
 ·rw [if_pos] at hr
  ·exact hr
  ·simp only [Bool.or_eq_true,bne_iff_ne,ne_eq,Bool.not_eq_true',decide_eq_false_iff_not] at h2;exact h2
 ·rw [if_neg] at hr
  ·exact hr
  ·simp only [Bool.or_eq_false_iff,bne_eq_false_iff_eq,Bool.not_eq_false',decide_eq_true_eq] at h2;rintro (k|k)
   ·exact k h2.1
   ·exact k h2.2
theorem dcheck_ok:PureF Tryz.prog 122 cCheckT:=by
 intro args nd v he hnd;unfold cCheckT at he;split at he <;> cases he
 rename_i X;simp only [Bool.and_eq_true] at hnd;refine PureC.args (args':=[treeA (treeDec X)]) rfl (fun i hi=>?_) (dcheck_pure _ _ hnd.2 rfl)
 match i,hi with
 | 0,_=>exact tree_sub hnd.1
theorem EPd_ok:CtrOK EPd:=mkE_ctr (tbl_cons dcheck_ok (tbl_cons rup_ok (tbl_cons datoms_ok (tbl_nil _))))
theorem dpath_pure (t:List TwigG) (m:Int) (L:List Int) (r:Int) (hs:shortT t=true) (hr:pathE t m=(L,r)):PureC Tryz.prog gU 127 [treeA t,.int .i64 m] (.tup [intsA L,.int .i64 r]):=by
 refine PureC.of_vc (E:=EPd) (k:=20) (d:=3) mix EPd_ok ((dpath_vc t m L r).mpr ?_)
 conv=>zeta
 have hT:treeDec (AV.agg [AV.rof t.length (fun (k:Nat)=>twigA (t.getD k twigD)) false])=t:=treeDec_self t
 have hI:isTree (AV.agg [AV.rof t.length (fun (k:Nat)=>twigA (t.getD k twigD)) false])=true:=isTree_self t
 rw [hT,hI];unfold pathE at hr;refine NB_intro (by rw [hs]; rfl) (VB_intro (fun h=>?_) (fun h=>VB_intro (fun h1=>?_) (fun h1=>?_)))
 ·simp only [Bool.and_eq_true,beq_iff_eq,Bool.or_eq_true,decide_eq_true_eq] at h;rw [if_neg (by simpa using h.1),if_pos (by omega)] at hr
  simp only [Prod.mk.injEq] at hr;obtain ⟨rfl,rfl⟩:=hr;exact ⟨rfl,rfl,trivial⟩
 ·rw [if_pos (by simpa using h1)] at hr
  simp only [Prod.mk.injEq] at hr;obtain ⟨rfl,rfl⟩:=hr;exact ⟨rfl,rfl,trivial⟩
 ·have h0:checkE t=0:=by simpa using h1
  have hm:¬ (m<0\/(t.length:Int)<=m):=by
   intro hm;rw [h0] at h;simp at h;omega
  rw [if_neg (by simpa using h0),if_neg hm] at hr
  simp only [Prod.mk.injEq] at hr;obtain ⟨rfl,rfl⟩:=hr;obtain ⟨_,h3,h4,h5⟩:=checkE_ok hs h0;have h6:=upL_few (shortT_slots hs) (k:=m) (by omega)
  have h7:(upL t m).length<=1000000:=by
   simp only [fewS,Bool.and_eq_true,decide_eq_true_eq] at h6;omega
  rw [slotsB_self,slotsOf_self]
  refine NB_intro (by rw [h4,h5,decide_eq_true (show t.length<=1000000 by omega),decide_eq_true (show 0<=m by omega),decide_eq_true (show m<t.length by omega)]; rfl) (NB_intro (by rw [decide_eq_true h7]; rfl) ⟨⟨rfl,fun _ _=>⟨rfl,rfl⟩,fun h=>h⟩,rfl,trivial⟩)
end Go.Proofs.YtlnpgnipocbfhaaGreatDoor
