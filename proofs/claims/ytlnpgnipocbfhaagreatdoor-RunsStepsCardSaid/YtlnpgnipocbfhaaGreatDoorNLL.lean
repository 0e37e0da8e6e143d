/- TREES L: conditions of line.Atoms, nfa.Check, Lines, Ends, Path, Depth. -/
import Derived.Test.YtlnpgnipocbfhaaGreatDoorNLJ
namespace Go.Proofs.YtlnpgnipocbfhaaGreatDoor
open Pw Go
set_option maxRecDepth 100000
noncomputable def checkE (t:List TwigG):Int:=if (linesE t).2.2=true then 0 else 3
def atomsL (l:List SlotG):List Int:=l.map (·.1)
noncomputable def pathE (t:List TwigG) (m:Int):List Int×Int :=
 if checkE t≠0 then ([],checkE t) else if m<0\/t.length<=m then ([],2) else (atomsL (upL t m),0)
noncomputable def cLines:Ctr
 | [X]=>some (isTree X&&shortT (treeDec X),.tup [linesA (linesE (treeDec X)).1,intsA (linesE (treeDec X)).2.1,.bool (linesE (treeDec X)).2.2])
 | _=>none
noncomputable def cCheckT:Ctr
 | [X]=>some (isTree X&&shortT (treeDec X),.int .i64 (checkE (treeDec X)))
 | _=>none
def cAtoms:Ctr
 | [.agg [.rof n f _]]=>some (decide (n<=1000000)&&slotsB n f,intsA (atomsL (slotsOf' n f)))
 | _=>none
noncomputable def cPath:Ctr
 | [X,.int .i64 m]=>some (isTree X&&shortT (treeDec X),.tup [intsA (pathE (treeDec X) m).1,.int .i64 (pathE (treeDec X) m).2])
 | _=>none
def invAt (l:List SlotG):Inv:=⟨Nat×Nat,30,fun p=>⟨[(3,.sl 20 p.2 0 p.1 none),(7,slotsA l),(8,.int .i64 l.length),(9,.int .i64 p.1)],[(20,.row p.2 1 true (.fn p.1 fun k=>.int .i64 (l.getD k slotD').1))]⟩,
 fun p=>p.1<=l.length,fun p=>l.length - p.1⟩
noncomputable def EAt (l:List SlotG):Env:=mkE Tryz.prog (tblOf []) (fun f b=>if f=24/\b=0 then some (invAt l) else none)
noncomputable def ECl:Env:=mkE Tryz.prog (tblOf [(95,cLines)]) (fun _ _=>none)
noncomputable def EPt:Env:=mkE Tryz.prog (tblOf [(45,cCheckT),(71,cUp),(24,cAtoms)]) (fun _ _=>none)
noncomputable def EDp:Env:=mkE Tryz.prog (tblOf [(22,cPath)]) (fun _ _=>none)
theorem atoms_vc (l:List SlotG) (r:List Int):(vcFun (EAt l) 20 24 [lineA l] .nil 0 (retP 3 (intsA r))).sat=(let c0:=fun (i_1:Nat) (i:Nat×Nat)=>(if i_1<i.fst then AV.int .i64 (l.getD (0+i_1) slotD').fst else ((Sq.lst [AV.int .i64 (l.getD (i.fst:Int).toNat slotD').fst]).sub 0 1).get (i_1 - i.fst))
 (∃ (i:Nat×Nat),i.fst.le l.length/\((i.fst=0/\i.snd=i.snd/\i.fst=0)/\(slotsA l).sub (slotsA l)/\(l.length:Int)=(l.length:Int)/\(0:Int)=(i.fst:Int)/\True)/\i.fst=0/\True)/\∀ (i:Nat×Nat),i.fst.le l.length->VB (decide ((i.fst:Int)<(l.length:Int))) (NB (decide ((0:Int)<=(i.fst:Int)/\(i.fst:Int)<(l.length:Int))) (NB (true&&decide (i.snd=i.snd)&&room (i.fst+1) 8) (∃ (i':Nat×Nat),i'.fst.le l.length/\(invAt l).μ i'<(invAt l).μ i/\((i.snd+1=i'.snd/\0=0/\i.fst+1=i'.fst/\(@Eq (Option Nat) none none\/@Eq (Option Nat) none none))/\(slotsA l).sub (slotsA l)/\(l.length:Int)=(l.length:Int)/\IntKind.i64.wrap ((i.fst:Int)+(1:Int))=(i'.fst:Int)/\True)/\(i.snd+1=i'.snd/\(true=true->true=true)/\i.fst+1=i'.fst/\∀ i_1:Nat,i_1<i.fst+1->(c0 i_1 i).sub (AV.int .i64 (l.getD i_1 slotD').fst)/\(c0 i_1 i).cells.length=[AV.int .i64 (l.getD i_1 slotD').fst].length)/\True))) (NB (decide (i.snd=i.snd)) (i.fst=r.length/\(∀ i_1:Nat,i_1<i.fst->(l.getD (0+i_1) slotD').fst=r.getD i_1 (0:Int)/\1=1)/\(false=true->decide (none=some i.fst)=true)))):=by
 kernel_rfl
theorem checkT_vc (t:List TwigG) (r:Int):(vcFun ECl 20 45 [treeA t] .nil 0 (retP 3 (.int .i64 r))).sat=( NB (isTree (AV.agg [AV.rof t.length (fun k:Nat=> twigA (t.getD k twigD)) false])&&shortT (treeDec (AV.agg [AV.rof t.length (fun k:Nat=> twigA (t.getD k twigD)) false]))) (VB (!(linesE (treeDec (AV.agg [AV.rof t.length (fun k:Nat=> twigA (t.getD k twigD)) false]))).snd.snd) ((3:Int)=r) ((0:Int)=r))):=by
 kernel_rfl
theorem path_vc (t:List TwigG) (m:Int) (L:List Int) (r:Int):(vcFun EPt 20 22 [treeA t,.int .i64 m] .nil 0 (retP 3 (.tup [intsA L,.int .i64 r]))).sat=(let c2:=(AV.agg [AV.rof t.length (fun k:Nat=> twigA (t.getD k twigD)) false])
 let c0:=(treeDec c2)
 let c1:=(atomsL (slotsOf' (upL c0 m).length fun k:Nat=> slotA ((upL c0 m).getD k slotD')))
 NB (isTree c2&&shortT c0) (VB (checkE c0 !=(0:Int)) (L.length=0/\checkE c0=r/\True) (VB (decide (m<(0:Int))||decide (m>=(t.length:Int))) (L.length=0/\(2:Int)=r/\True) (NB (isTree c2&&parOK c0&&gdsOK c0&&decide (c0.length<=1000000)&&decide ((0:Int)<=m)&&decide (m<(c0.length:Int))) (NB (decide ((upL c0 m).length<=1000000)&&slotsB (upL c0 m).length fun k:Nat=> slotA ((upL c0 m).getD k slotD')) ((c1.length=L.length/\(∀ i:Nat,i<c1.length->c1.getD i (0:Int)=L.getD i (0:Int)/\1=1)/\(false=true->false=true))/\(0:Int)=r/\True)))))):=by
 kernel_rfl
theorem depth_vc (t:List TwigG) (m:Int) (L:Int) (r:Int):(vcFun EDp 20 62 [treeA t,.int .i64 m] .nil 0 (retP 3 (.tup [.int .i64 L,.int .i64 r]))).sat=( NB (isTree (AV.agg [AV.rof t.length (fun k:Nat=> twigA (t.getD k twigD)) false])&&shortT (treeDec (AV.agg [AV.rof t.length (fun k:Nat=> twigA (t.getD k twigD)) false]))) ((↑(pathE (treeDec (AV.agg [AV.rof t.length (fun k:Nat=> twigA (t.getD k twigD)) false])) m).fst.length:Int)=L/\(pathE (treeDec (AV.agg [AV.rof t.length (fun k:Nat=> twigA (t.getD k twigD)) false])) m).snd=r/\True)):=by
 kernel_rfl
theorem EAt_ok (l:List SlotG):CtrOK (EAt l):=mkE_ctr (tbl_nil _)
theorem atoms_pure (l:List SlotG) (hl:l.length<=1000000):PureC Tryz.prog gU 24 [lineA l] (intsA (atomsL l)):=by
 refine PureC.of_vc (E:=EAt l) (k:=20) (d:=3) mix (EAt_ok l) ?_;refine (atoms_vc l _).mpr ⟨?_,fun p hpre=>?_⟩
 ·refine ⟨(0,0),Nat.zero_le _,?_⟩
  repeat' (first|exact sub_tree _|exact sub_slots _|exact sub_ints _|exact trivial|exact rfl|exact Or.inr rfl|exact fun h=>h|exact fun _ _=>rfl|exact fun _ _=>⟨rfl,rfl⟩|exact fun _=>rfl|refine And.intro ?_ ?_)
 obtain ⟨i,g⟩:=p;have hi:i<=l.length:=hpre;dsimp only;refine VB_intro (fun h=>?_) (fun h=>?_)
 ·have h1:i<l.length:=by
   have:=of_decide_eq_true h;omega
  have hroom:room (i+1) 8=true:=decide_eq_true ⟨by omega,by omega⟩
  rw [show (Int.toNat (i:Int))=i from rfl];refine NB_intro (by simp; omega) (NB_intro (by rw [hroom]; simp) ⟨(i+1,g+1),(show i+1<=l.length by omega),(show l.length - (i+1)<l.length - i by omega),?_⟩)
  have hW:IntKind.i64.wrap ((i:Int)+1)=((i+1:Nat):Int):=by rw [wrap_i64_id (by omega) (by omega)]; omega
  repeat' (first|exact sub_tree _|exact sub_slots _|exact sub_ints _|exact trivial|exact rfl|exact Or.inr rfl|exact fun h=>h|exact fun _ _=>rfl|exact fun _ _=>⟨rfl,rfl⟩|exact fun _=>rfl|refine And.intro ?_ ?_)
  all_goals try (first|exact hW)
  ·intro k hk;by_cases hin:k<i
   ·rw [if_pos hin,Nat.zero_add];exact ⟨rfl,rfl⟩
   ·obtain rfl:k=i:=by omega
    rw [if_neg hin,Nat.sub_self];exact ⟨rfl,rfl⟩
 ·have h1:i=l.length:=by
   have:=of_decide_eq_false h;omega
  subst h1;refine NB_intro (by simp) ⟨by simp [atomsL],fun k hk=>?_,fun h=>by cases h⟩
  rw [Nat.zero_add];have h2:(atomsL l).getD k 0=(l.getD k slotD').1:=by simp [atomsL,List.getD,hk]
  exact ⟨h2.symm,rfl⟩
theorem atoms_ok:PureF Tryz.prog 24 cAtoms:=by
 intro args nd v he hnd;unfold cAtoms at he;split at he <;> cases he
 rename_i n f ex;simp only [Bool.and_eq_true,decide_eq_true_eq] at hnd;refine PureC.args (args':=[lineA (slotsOf' n f)]) rfl (fun i hi=>?_) (atoms_pure _ (by rw [slotsOf_len]; exact hnd.1))
 match i,hi with
 | 0,_=>exact ⟨slots_sub hnd.2,trivial⟩
theorem lines_ok:PureF Tryz.prog 95 cLines:=by
 intro args nd v he hnd;unfold cLines at he;split at he <;> cases he
 rename_i X;simp only [Bool.and_eq_true] at hnd;refine PureC.args (args':=[treeA (treeDec X)]) rfl (fun i hi=>?_) (lines_pure _ _ _ _ hnd.2 rfl)
 match i,hi with
 | 0,_=>exact tree_sub hnd.1
theorem ECl_ok:CtrOK ECl:=mkE_ctr (tbl_cons lines_ok (tbl_nil _))
theorem checkT_pure (t:List TwigG) (r:Int) (hs:shortT t=true) (hr:checkE t=r):PureC Tryz.prog gU 45 [treeA t] (.int .i64 r):=by
 refine PureC.of_vc (E:=ECl) (k:=20) (d:=3) mix ECl_ok ?_;refine (checkT_vc t r).mpr ?_;have hT:treeDec (AV.agg [AV.rof t.length (fun (k:Nat)=>twigA (t.getD k twigD)) false])=t:=treeDec_self t
 have hI:isTree (AV.agg [AV.rof t.length (fun (k:Nat)=>twigA (t.getD k twigD)) false])=true:=isTree_self t
 rw [hT,hI];subst hr;refine NB_intro (by rw [hs]; rfl) (VB_intro (fun h=>?_) (fun h=>?_))
 ·rw [checkE,if_neg (by simpa using h)]
 ·rw [checkE,if_pos (by simpa using h)]
theorem checkT_ok:PureF Tryz.prog 45 cCheckT:=by
 intro args nd v he hnd;unfold cCheckT at he;split at he <;> cases he
 rename_i X;simp only [Bool.and_eq_true] at hnd;refine PureC.args (args':=[treeA (treeDec X)]) rfl (fun i hi=>?_) (checkT_pure _ _ hnd.2 rfl)
 match i,hi with
 | 0,_=>exact tree_sub hnd.1
theorem checkE_ok {t:List TwigG} (hs:shortT t=true) (h:checkE t=0):(endsE t).2=true/\t.length<=769/\parOK t=true/\gdsOK t=true:=by
 have h1:(linesE t).2.2=true:=by
  unfold checkE at h;split at h
  ·assumption
  ·cases h
 have h2:(endsE t).2=true:=by
  unfold linesE at h1;split at h1
  ·assumption
  ·cases h1
 have hln:linesIn t=true:=by
  simp only [shortT,Bool.and_eq_true] at hs;exact hs.1
 obtain ⟨h3,h4,_⟩:=endsE_ok hln h2;exact ⟨h2,h3,parOK_of h4,gdsOK_of (shortT_slots hs)⟩
theorem EPt_ok:CtrOK EPt:=mkE_ctr (tbl_cons checkT_ok (tbl_cons up_ok (tbl_cons atoms_ok (tbl_nil _))))
theorem path_pure (t:List TwigG) (m:Int) (L:List Int) (r:Int) (hs:shortT t=true) (hr:pathE t m=(L,r)):PureC Tryz.prog gU 22 [treeA t,.int .i64 m] (.tup [intsA L,.int .i64 r]):=by
 refine PureC.of_vc (E:=EPt) (k:=20) (d:=3) mix EPt_ok ?_;refine (path_vc t m L r).mpr ?_
 conv=>zeta
 have hT:treeDec (AV.agg [AV.rof t.length (fun (k:Nat)=>twigA (t.getD k twigD)) false])=t:=treeDec_self t
 have hI:isTree (AV.agg [AV.rof t.length (fun (k:Nat)=>twigA (t.getD k twigD)) false])=true:=isTree_self t
 rw [hT,hI];refine NB_intro (by rw [hs]; rfl) (VB_intro (fun h=>?_) (fun h=>?_))
 ·rw [pathE,if_pos (by simpa using h)] at hr
  simp only [Prod.mk.injEq] at hr;obtain ⟨rfl,rfl⟩:=hr;exact ⟨rfl,rfl,trivial⟩
 have h0:checkE t=0:=by simpa using h
 rw [pathE,if_neg (by simpa using h0)] at hr
 refine VB_intro (fun h1=>?_) (fun h1=>?_)
 ·have h2:m<0\/(t.length:Int)<=m:=by simpa using h1
  rw [if_pos h2] at hr;simp only [Prod.mk.injEq] at hr;obtain ⟨rfl,rfl⟩:=hr;exact ⟨rfl,rfl,trivial⟩
 ·simp only [Bool.or_eq_false_iff,decide_eq_false_iff_not] at h1;rw [if_neg (by omega)] at hr
  simp only [Prod.mk.injEq] at hr;obtain ⟨rfl,rfl⟩:=hr;obtain ⟨_,h3,h4,h5⟩:=checkE_ok hs h0;have h6:=upL_few (shortT_slots hs) (k:=m) (by omega)
  have h7:(upL t m).length<=1000000:=by
   simp only [fewS,Bool.and_eq_true,decide_eq_true_eq] at h6;omega
  rw [slotsB_self,slotsOf_self]
  refine NB_intro (by rw [h4,h5,decide_eq_true (show t.length<=1000000 by omega),decide_eq_true (show 0<=m by omega),decide_eq_true (show m<t.length by omega)]; rfl) (NB_intro (by rw [decide_eq_true h7]; rfl) ⟨⟨rfl,fun _ _=>⟨rfl,rfl⟩,fun h=>h⟩,rfl,trivial⟩)
theorem path_ok:PureF Tryz.prog 22 cPath:=by
 intro args nd v he hnd;unfold cPath at he;split at he <;> cases he
 rename_i X m;simp only [Bool.and_eq_true] at hnd;refine PureC.args (args':=[treeA (treeDec X),.int .i64 m]) rfl (fun i hi=>?_) (path_pure _ _ _ _ hnd.2 rfl)
 match i,hi with
 | 0,_=>exact tree_sub hnd.1
 | 1,_=>exact rfl
theorem EDp_ok:CtrOK EDp:=mkE_ctr (tbl_cons path_ok (tbl_nil _))
theorem depth_pure (t:List TwigG) (m:Int) (hs:shortT t=true):PureC Tryz.prog gU 62 [treeA t,.int .i64 m] (.tup [.int .i64 (pathE t m).1.length,.int .i64 (pathE t m).2]):=by
 refine PureC.of_vc (E:=EDp) (k:=20) (d:=3) mix EDp_ok ?_;refine (depth_vc t m _ _).mpr ?_;have hT:treeDec (AV.agg [AV.rof t.length (fun (k:Nat)=>twigA (t.getD k twigD)) false])=t:=treeDec_self t
 have hI:isTree (AV.agg [AV.rof t.length (fun (k:Nat)=>twigA (t.getD k twigD)) false])=true:=isTree_self t
 rw [hT,hI];exact NB_intro (by rw [hs]; rfl) ⟨rfl,rfl,trivial⟩
end Go.Proofs.YtlnpgnipocbfhaaGreatDoor
