/- RUNS J: the law RunsSteps: contracts; its condition holds. -/
import Derived.Test.YtlnpgnipocbfhaaGreatDoorRSI
import Derived.Test.YtlnpgnipocbfhaaGreatDoorRK2
import Derived.Test.YtlnpgnipocbfhaaGreatDoorPwG5
namespace Go.Proofs.YtlnpgnipocbfhaaGreatDoor
open Pw Go
set_option maxRecDepth 100000
theorem lightR_pure (t:List TwigG) (m:Nat) (A:Ats) (r:RunG):PureC Tryz.prog gU 26 [treeA t,atmA m A,runA r] (.bool (lightR t m A r)):=by
 refine PureC.of_vc (E:=ELgR t m A r) (k:=20) (d:=3) mix (mkE_ctr (tbl_nil _)) ((lightR_vc t m A r _).mpr ⟨⟨0,⟨Nat.zero_le _,Nat.zero_le _,fun j hj=>absurd hj (Nat.not_lt_zero _)⟩,?_⟩,fun i hi=>?_⟩)
 ·repeat' (first|exact sub_atm _ _|exact sub_tree _|exact sub_run _|exact trivial|exact rfl|exact hW|exact Or.inl rfl|exact fun h=>h|exact fun _ _=>⟨rfl,rfl⟩|exact fun _ _=>⟨sub_run _,rfl⟩|exact fun _ _=>⟨sub_mtc _,rfl⟩|exact fun _ _=>⟨⟨rfl,rfl,trivial⟩,rfl⟩|refine And.intro ?_ ?_)
 obtain ⟨h1,h2,h3⟩:=hi;rw [show Int.toNat ((i:Nat):Int)=i from rfl];refine VB_intro (fun h=>?_) (fun h=>?_)
 ·simp only [Bool.and_eq_true,decide_eq_true_eq] at h;have hW:=wrapS (i:=i) (by omega)
  refine NB_intro (idx_ok (by omega)) (NB_intro (impB_of fun _=>idx_ok (by omega)) (VB_intro (fun h4=>?_) (fun h4=>?_)))
  ·refine (Bool.eq_false_iff.2 fun hl=>?_).symm
   unfold lightR at hl;simp only [Bool.and_eq_true,List.all_eq_true,List.mem_range] at hl;have:=hl.2.1 i (by omega)
   unfold smK at this;simp only [Bool.and_eq_true,Bool.or_eq_true,decide_eq_true_eq] at this h4;omega
  ·simp only [Bool.or_eq_false_iff,decide_eq_false_iff_not] at h4;refine ⟨i+1,⟨by omega,by omega,fun j hj=>?_⟩,(show t.length - (i+1)<t.length - i by omega),?_⟩
   ·rcases Nat.lt_or_ge j i with h5|h5
    ·exact h3 j h5
    ·obtain rfl:j=i:=by omega
     unfold smK;rw [decide_eq_true (by omega),decide_eq_true (by omega)]
     rfl
   ·repeat' (first|exact sub_atm _ _|exact sub_tree _|exact sub_run _|exact trivial|exact rfl|exact hW|exact Or.inl rfl|exact fun h=>h|exact fun _ _=>⟨rfl,rfl⟩|exact fun _ _=>⟨sub_run _,rfl⟩|exact fun _ _=>⟨sub_mtc _,rfl⟩|exact fun _ _=>⟨⟨rfl,rfl,trivial⟩,rfl⟩|refine And.intro ?_ ?_)
 ·have h:i=t.length\/i=61:=by
   simp only [Bool.and_eq_false_iff,decide_eq_false_iff_not] at h;omega
  have hs:∀ j,j<t.length->j<61->smK t j=true:=fun j h4 h5=>h3 j (by omega)
  refine ⟨⟨0,⟨⟨Nat.zero_le _,Nat.zero_le _⟩,hs,fun j hj=>absurd hj (Nat.not_lt_zero _)⟩,?_⟩,fun k hk=>?_⟩
  ·repeat' (first|exact sub_atm _ _|exact sub_tree _|exact sub_run _|exact trivial|exact rfl|exact hW|exact Or.inl rfl|exact fun h=>h|exact fun _ _=>⟨rfl,rfl⟩|exact fun _ _=>⟨sub_run _,rfl⟩|exact fun _ _=>⟨sub_mtc _,rfl⟩|exact fun _ _=>⟨⟨rfl,rfl,trivial⟩,rfl⟩|refine And.intro ?_ ?_)
  obtain ⟨⟨g1,g2⟩,-,g3⟩:=hk;rw [show Int.toNat ((k:Nat):Int)=k from rfl];refine VB_intro (fun h=>?_) (fun h=>?_)
  ·simp only [Bool.and_eq_true,decide_eq_true_eq] at h;have hW:=wrapS (i:=k) (by omega)
   refine NB_intro (idx_ok (by omega)) (VB_intro (fun h4=>?_) (fun h4=>?_))
   ·refine (Bool.eq_false_iff.2 fun hl=>?_).symm
    unfold lightR at hl;simp only [Bool.and_eq_true,List.all_eq_true,List.mem_range,decide_eq_true_eq] at hl h4;have:=hl.2.2 k (by omega)
    omega
   ·have h4:=of_decide_eq_false h4;refine ⟨k+1,⟨⟨by omega,by omega⟩,hs,fun j hj=>?_⟩,(show m - (k+1)<m - k by omega),?_⟩
    ·rcases Nat.lt_or_ge j k with h5|h5
     ·exact g3 j h5
     ·obtain rfl:j=k:=by omega
      omega
    ·repeat' (first|exact sub_atm _ _|exact sub_tree _|exact sub_run _|exact trivial|exact rfl|exact hW|exact Or.inl rfl|exact fun h=>h|exact fun _ _=>⟨rfl,rfl⟩|exact fun _ _=>⟨sub_run _,rfl⟩|exact fun _ _=>⟨sub_mtc _,rfl⟩|exact fun _ _=>⟨⟨rfl,rfl,trivial⟩,rfl⟩|refine And.intro ?_ ?_)
  ·have h:k=m\/k=15:=by
    simp only [Bool.and_eq_false_iff,decide_eq_false_iff_not] at h;omega
   rw [Bool.eq_iff_iff];unfold lightR;simp only [Bool.and_eq_true,List.all_eq_true,List.mem_range,decide_eq_true_eq];constructor
   ·intro q;exact ⟨⟨⟨by omega,by omega⟩,by omega⟩,fun j hj=>hs j hj (by omega),fun j hj=>g3 j (by omega)⟩
   ·intro q;omega
theorem ownI_pure (l:List Int) (h:l.length<=1000000):PureC Tryz.prog gU 75 [intsA l] (intsA l):=by
 refine PureC.of_vc (E:=EOwI) (k:=20) (d:=3) mix ⟨(mkE_ctr (P:=Tryz.prog) (inv:=fun _ _=>none) (tbl_nil _)).1,itr_none rfl⟩ ((ownI_vc l).mpr (NB_intro ?_ ⟨Nat.zero_add _,fun _ _=>⟨rfl,rfl⟩,fun h=>h⟩))
 rw [show room (0+l.length) 8=true from decide_eq_true ⟨by omega,by omega⟩]
 simp
theorem ownR_pure (r:RunG) (h:r.ps.length<=1000000):PureC Tryz.prog gU 28 [runA r] (runA r) :=
 PureC.of_vc (E:=EOwR r) (k:=20) (d:=3) mix (mkE_ctr (tbl_cons (cAs_ok (ownI_pure _ h)) (tbl_nil _))) ((ownR_vc r).mpr (NB_intro (asB_t ⟨sub_ints _,trivial⟩) ⟨rfl,sub_ints _,rfl,rfl,trivial⟩))
theorem smR_pure (r:RunG) (h:r.ps.length<=1000000):PureC Tryz.prog gU 37 [runA r,runA r] (.bool true):=by
 have hk:=kInts_pure r.ps r.ps h;rw [decide_eq_true rfl] at hk
 exact PureC.of_vc (E:=ESmR r) (k:=20) (d:=3) mix (mkE_ctr (tbl_cons (cAs_ok hk) (tbl_nil _))) ((smR_vc r).mpr (NB_intro (impB_of fun _=>asB_t ⟨sub_ints _,sub_ints _,trivial⟩) (by simp)))
theorem smR_ok:PureF Tryz.prog 37 cSmR:=by
 intro args nd v he hnd;unfold cSmR at he;split at he <;> cases he
 rename_i a n f ex c d a' m g ex' c' d';simp only [Bool.and_eq_true,decide_eq_true_eq,beq_iff_eq] at hnd;obtain ⟨⟨⟨⟨⟨⟨h1,h2⟩,h3⟩,rfl⟩,h4⟩,rfl⟩,rfl⟩:=hnd
 refine PureC.args (args':=[runA (a,intsOf' n f,c,d,()),runA (a,intsOf' n f,c,d,())]) rfl (fun i hi=>?_) (smR_pure _ (by show (intsOf' n f).length<=_; rw [intsOf_len]; exact h3))
 match i,hi with
 | 0,_=>exact ⟨rfl,ints_sub h1,rfl,rfl,trivial⟩
 | 1,_=>exact ⟨rfl,h4▸ints_sub h2,rfl,rfl,trivial⟩
theorem smM_pure (l:MtG) (h:l.length<=1000000):PureC Tryz.prog gU 84 [mtcA l,mtcA l] (.bool true):=by
 refine PureC.of_vc (E:=ESM l) (k:=20) (d:=3) mix (mkE_ctr (tbl_nil _)) ((smM_vc l).mpr (VB_intro (fun h=>by simp at h) (fun _=>⟨⟨0,Nat.zero_le _,?_⟩,fun i hi=>?_⟩)))
 ·repeat' (first|exact sub_atm _ _|exact sub_tree _|exact sub_run _|exact trivial|exact rfl|exact hW|exact Or.inl rfl|exact fun h=>h|exact fun _ _=>⟨rfl,rfl⟩|exact fun _ _=>⟨sub_run _,rfl⟩|exact fun _ _=>⟨sub_mtc _,rfl⟩|exact fun _ _=>⟨⟨rfl,rfl,trivial⟩,rfl⟩|refine And.intro ?_ ?_)
 have hi:i<=l.length:=hi;refine VB_intro (fun h1=>?_) (fun h1=>rfl)
 have h1:i<l.length:=Int.ofNat_lt.1 (of_decide_eq_true h1);have hW:=wrapS (i:=i) (by omega)
 refine NB_intro (idx_ok h1) (NB_intro (idx_ok h1) (VB_intro (fun h2=>by simp at h2) (fun _=>⟨i+1,h1,(show l.length - (i+1)<l.length - i by omega),?_⟩)))
 repeat' (first|exact sub_atm _ _|exact sub_tree _|exact sub_run _|exact trivial|exact rfl|exact hW|exact Or.inl rfl|exact fun h=>h|exact fun _ _=>⟨rfl,rfl⟩|exact fun _ _=>⟨sub_run _,rfl⟩|exact fun _ _=>⟨sub_mtc _,rfl⟩|exact fun _ _=>⟨⟨rfl,rfl,trivial⟩,rfl⟩|refine And.intro ?_ ?_)
theorem plcs_sub {n:Nat} {f:Nat->AV} {ex:Bool} (h:(List.range n).all (fun i=>isPlc (f i))=true):(AV.rof n f ex).sub (plcsA (plcsOf n f)):=by
 refine ⟨by simp [plcsOf],fun j hj=>?_,by simp⟩
 have:=List.all_eq_true.1 h j (by simpa using hj)
 have e:(plcsOf n f).getD j (0,0,())=plcOf (f j):=by simp [plcsOf,List.getD,hj]
 show (f j).sub (plcA ((plcsOf n f).getD j (0,0,())))/\(f j).cells.length=2;rw [e];generalize f j=x at this;unfold isPlc at this;split at this
 ·exact ⟨⟨rfl,rfl,trivial⟩,rfl⟩
 ·cases this
theorem smM_ok:PureF Tryz.prog 84 cSmM:=by
 intro args nd v he hnd;unfold cSmM at he;split at he <;> cases he
 rename_i n f ex m g ex';rw [Bool.and_eq_true,Bool.and_eq_true,Bool.and_eq_true,decide_eq_true_eq,decide_eq_true_eq] at hnd;obtain ⟨⟨⟨h1,h2⟩,h3⟩,h4⟩:=hnd
 refine PureC.args (args':=[mtcA (plcsOf n f),mtcA (plcsOf n f)]) rfl (fun i hi=>?_) (smM_pure _ (by simpa [plcsOf] using h3))
 match i,hi with
 | 0,_=>exact ⟨plcs_sub h1,trivial⟩
 | 1,_=>exact ⟨h4▸plcs_sub h2,trivial⟩
theorem smRs_pure (R:List RunG) (hR:R.length<=1000000) (h:∀ x∈R,x.ps.length<=1000000):PureC Tryz.prog gU 31 [runsA R,runsA R] (.bool true):=by
 refine PureC.of_vc (E:=ESRs R) (k:=20) (d:=3) mix (mkE_ctr (tbl_cons smR_ok (tbl_nil _))) ((smRs_vc R).mpr ?_)
 conv=>zeta
 refine (VB_intro (fun h=>by simp at h) (fun _=>⟨⟨0,Nat.zero_le _,?_⟩,fun i hi=>?_⟩))
 ·repeat' (first|exact sub_atm _ _|exact sub_tree _|exact sub_run _|exact trivial|exact rfl|exact hW|exact Or.inl rfl|exact fun h=>h|exact fun _ _=>⟨rfl,rfl⟩|exact fun _ _=>⟨sub_run _,rfl⟩|exact fun _ _=>⟨sub_mtc _,rfl⟩|exact fun _ _=>⟨⟨rfl,rfl,trivial⟩,rfl⟩|refine And.intro ?_ ?_)
 have hi:i<=R.length:=hi;refine VB_intro (fun h1=>?_) (fun h1=>rfl)
 have h1:i<R.length:=Int.ofNat_lt.1 (of_decide_eq_true h1);have hW:=wrapS (i:=i) (by omega)
 have hx:=h (R.getD i runD) (getD_mem h1);refine NB_intro (idx_ok h1) (NB_intro (idx_ok h1) (NB_intro ?_ ⟨i+1,h1,(show R.length - (i+1)<R.length - i by omega),?_⟩))
 ·rw [show Int.toNat ((i:Nat):Int)=i from rfl,intsB_self,decide_eq_true hx,decide_eq_true rfl];simp
 ·repeat' (first|exact sub_atm _ _|exact sub_tree _|exact sub_run _|exact trivial|exact rfl|exact hW|exact Or.inl rfl|exact fun h=>h|exact fun _ _=>⟨rfl,rfl⟩|exact fun _ _=>⟨sub_run _,rfl⟩|exact fun _ _=>⟨sub_mtc _,rfl⟩|exact fun _ _=>⟨⟨rfl,rfl,trivial⟩,rfl⟩|refine And.intro ?_ ?_)
theorem smMs_pure (M:List MtG) (hM:M.length<=1000000) (h:∀ x∈M,x.length<=1000000):PureC Tryz.prog gU 32 [mtcsA M,mtcsA M] (.bool true):=by
 refine PureC.of_vc (E:=ESMs M) (k:=20) (d:=3) mix (mkE_ctr (tbl_cons smM_ok (tbl_nil _))) ((smMs_vc M).mpr ?_)
 conv=>zeta
 refine (VB_intro (fun h=>by simp at h) (fun _=>⟨⟨0,Nat.zero_le _,?_⟩,fun i hi=>?_⟩))
 ·repeat' (first|exact sub_atm _ _|exact sub_tree _|exact sub_run _|exact trivial|exact rfl|exact hW|exact Or.inl rfl|exact fun h=>h|exact fun _ _=>⟨rfl,rfl⟩|exact fun _ _=>⟨sub_run _,rfl⟩|exact fun _ _=>⟨sub_mtc _,rfl⟩|exact fun _ _=>⟨⟨rfl,rfl,trivial⟩,rfl⟩|refine And.intro ?_ ?_)
 have hi:i<=M.length:=hi;refine VB_intro (fun h1=>?_) (fun h1=>rfl)
 have h1:i<M.length:=Int.ofNat_lt.1 (of_decide_eq_true h1);have hW:=wrapS (i:=i) (by omega)
 have hx:=h (M.getD i []) (getD_mem h1);have hp:((List.range (M.getD i []).length).all fun j=>isPlc (plcA ((M.getD i []).getD j (0,0,()))))=true:=by
  rw [List.all_eq_true];intro _ _;rfl
 refine NB_intro (idx_ok h1) (NB_intro (idx_ok h1) (NB_intro ?_ ⟨i+1,h1,(show M.length - (i+1)<M.length - i by omega),?_⟩))
 ·rw [show Int.toNat ((i:Nat):Int)=i from rfl,hp,decide_eq_true hx,decide_eq_true rfl];rfl
 ·repeat' (first|exact sub_atm _ _|exact sub_tree _|exact sub_run _|exact trivial|exact rfl|exact hW|exact Or.inl rfl|exact fun h=>h|exact fun _ _=>⟨rfl,rfl⟩|exact fun _ _=>⟨sub_run _,rfl⟩|exact fun _ _=>⟨sub_mtc _,rfl⟩|exact fun _ _=>⟨⟨rfl,rfl,trivial⟩,rfl⟩|refine And.intro ?_ ?_)
abbrev AtmG:=Int×Bool×Int×List (Int×Int×Unit)×List UInt8×Unit
abbrev atmD:AtmG:=(0,false,0,[],[],())
def atsL (l:List AtmG):Ats:=⟨fun j=>(l.getD j atmD).1,fun j=>(l.getD j atmD).2.1,fun j=>(l.getD j atmD).2.2.1,fun j=>(l.getD j atmD).2.2.2.1.length,fun j i=>((l.getD j atmD).2.2.2.1.getD i (0,0,())).1,fun j i=>((l.getD j atmD).2.2.2.1.getD i (0,0,())).2.1,fun j=>(l.getD j atmD).2.2.2.2.1⟩
theorem awake_pure:PureC Tryz.prog Pd.gN 27 [] (.bool true):=Rk.p24
section
variable {t:List TwigG} {m:Nat} {A:Ats} {e:StG} {r:RunG} {pos w:Int}
theorem runs_mem:∀ {i:Nat} {x:RunG},x∈runsK t A e r pos i->x.ps.length=r.ps.length+1
 | 0,x,h=>by cases h
 | i+1,x,h=>by
  simp only [runsK] at h;split at h
  ·rcases List.mem_append.1 h with h|h
   ·exact runs_mem h
   ·rw [List.mem_singleton.1 h];show (r.ps++[pos]).length=_;rw [List.length_append];rfl
  ·exact runs_mem h
theorem mts_mem (o:OKr t m A e r):∀ {i:Nat} {x:MtG},i<=(kidsN t r.nd).length->x∈mtsK t A e r pos i->x.length=r.ps.length+1
 | 0,x,_,h=>by cases h
 | i+1,x,hi,h=>by
  simp only [mtsK] at h;split at h
  ·rcases List.mem_append.1 h with h|h
   ·exact mts_mem o (by omega) h
   ·rw [List.mem_singleton.1 h,plS_len];exact (kid_ok o (by omega)).2.2.2.2.1
  ·exact mts_mem o (by omega) h
theorem start_few (o:OKt t m A e):((startO t m A e pos).1.length<=1000000/\∀ x∈(startO t m A e pos).1,x.ps.length<=1000000)/\(startO t m A e pos).2.1.length<=1000000/\∀ x∈(startO t m A e pos).2.1,x.length<=1000000:=by
 unfold startO;split
 ·exact ⟨⟨Nat.zero_le _,fun x h=>by cases h⟩,Nat.zero_le _,fun x h=>by cases h⟩
 rename_i h0;have h0:stE t m A e pos=0:=by simpa using h0
 have hfit:fitE t m A=0:=by
  unfold stE at h0;split at h0
  ·assumption
  ·rename_i h1; simpa using h1
 have hk:=o.hk 0;have h1:=runs_len t A e (run0 e) pos (kidsN t 0).length;have h2:=mts_len t A e (run0 e) pos (kidsN t 0).length
 refine ⟨⟨by show (runsK t A e (run0 e) pos (kidsN t 0).length).length<=_; omega,fun x h=>?_⟩,by show (mtsK t A e (run0 e) pos (kidsN t 0).length).length<=_; omega,fun x h=>?_⟩
 ·rw [runs_mem h];show 0+1<=1000000;decide
 ·rw [mts_mem (okr_start o hfit) (Nat.le_refl _) h];show 0+1<=1000000;decide
theorem ext_few (o:OKt t m A e) (n:OKn r):((extO t m A e r pos w).1.length<=1000000/\∀ x∈(extO t m A e r pos w).1,x.ps.length<=1000000)/\(extO t m A e r pos w).2.1.length<=1000000/\∀ x∈(extO t m A e r pos w).2.1,x.length<=1000000:=by
 unfold extO;split
 ·exact ⟨⟨Nat.zero_le _,fun x h=>by cases h⟩,Nat.zero_le _,fun x h=>by cases h⟩
 rename_i h0;have h0:exE t m A e r pos=0:=by simpa using h0
 split
 ·exact ⟨⟨Nat.zero_le _,fun x h=>by cases h⟩,Nat.zero_le _,fun x h=>by cases h⟩
 have hck:ckE t m A r=0:=by
  unfold exE at h0;split at h0
  ·assumption
  ·rename_i h1; simpa using h1
 have hk:=o.hk r.nd;have hb:=n.hb;have h1:=runs_len t A e r pos (kidsN t r.nd).length;have h2:=mts_len t A e r pos (kidsN t r.nd).length
 refine ⟨⟨by show (runsK t A e r pos (kidsN t r.nd).length).length<=_; omega,fun x h=>?_⟩,by show (mtsK t A e r pos (kidsN t r.nd).length).length<=_; omega,fun x h=>?_⟩
 ·rw [runs_mem h];omega
 ·rw [mts_mem (okr_ext o n hck) (Nat.le_refl _) h];omega
theorem blk_few (n:OKn r):(blkO t m A e r).1.ps.length<=1000000:=by
 have hb:=n.hb;unfold blkO;split
 ·exact Nat.zero_le _
 ·show r.ps.length<=_;omega
end
theorem ok_of {t:List TwigG} {m:Nat} {A:Ats} {e:StG} {r:RunG} (hl:linesIn t=true) (hA:Pd.atsOK m A) (h1:Pd.u64B e.lb=true) (h2:Pd.u64B e.tk=true) (h3:Pd.u64B r.bl=true) (h4:Pd.u64B r.fs=true) (h:lightR t m A r=true):OKt t m A e/\OKn r/\m<=1000000:=by
 unfold lightR at h;simp only [Bool.and_eq_true,List.all_eq_true,List.mem_range,decide_eq_true_eq] at h;have hn:∀ j,j<t.length->(t.getD j twigD).kids.length<=20/\(t.getD j twigD).slot.gds.length<=20:=fun j hj=>by
  have:=h.2.1 j hj;unfold smK at this;simpa using this
 refine ⟨⟨?_,fun a=>?_,hA,h1,h2⟩,⟨by omega,h3,h4⟩,by omega⟩
 ·unfold shortT;rw [hl,Bool.true_and,List.all_eq_true];intro x hx;obtain ⟨j,hj,rfl⟩:=List.getElem_of_mem hx;have:=hn j hj;rw [show t.getD j twigD=t[j] by simp [List.getD,hj]] at this
  rw [decide_eq_true (by omega),decide_eq_true (by omega)]
  rfl
 ·show (t.getD a.toNat twigD).kids.length<=20;rcases Nat.lt_or_ge a.toNat t.length with h5|h5
  ·exact (hn _ h5).1
  ·rw [show t.getD a.toNat twigD=twigD by simp [List.getD,h5]]
   exact Nat.zero_le _
noncomputable def EStx (t:List TwigG) (m:Nat) (A:Ats) (r:RunG) (e:StG) (pos w:Int):Env:=ESt t m A r e pos w (lightR t m A r) (startO t m A e pos).1 (startO t m A e pos).2.1 (startO t m A e pos).2.2 (extO t m A e r pos w).1 (extO t m A e r pos w).2.1 (extO t m A e r pos w).2.2 (blkO t m A e r).1 (blkO t m A e r).2.1 (blkO t m A e r).2.2
theorem EStx_ok {t:List TwigG} {m:Nat} {A:Ats} {r:RunG} {e:StG} (pos w:Int) (hl:linesIn t=true) (hA:Pd.atsOK m A) (h1:Pd.u64B e.lb=true) (h2:Pd.u64B e.tk=true) (h3:Pd.u64B r.bl=true) (h4:Pd.u64B r.fs=true):CtrOK (EStx t m A r e pos w):=by
 have k:lightR t m A r=true->OKt t m A e/\OKn r/\m<=1000000:=ok_of hl hA h1 h2 h3 h4
 have hRs:PureG Tryz.prog Pd.gN 31 (fun args=>some (lightR t m A r&&(asB args [runsA (startO t m A e pos).1,runsA (startO t m A e pos).1]||asB args [runsA (extO t m A e r pos w).1,runsA (extO t m A e r pos w).1]),.bool true)):=by
  intro args nd v he hnd;cases he;rw [Bool.and_eq_true,Bool.or_eq_true] at hnd;obtain ⟨hb,q|q⟩:=hnd
  ·exact cAsG_ok (smRs_pure _ (start_few (k hb).1).1.1 (start_few (k hb).1).1.2).up _ _ _ rfl q
  ·exact cAsG_ok (smRs_pure _ (ext_few (k hb).1 (k hb).2.1).1.1 (ext_few (k hb).1 (k hb).2.1).1.2).up _ _ _ rfl q
 have hMs:PureG Tryz.prog Pd.gN 32 (fun args=>some (lightR t m A r&&(asB args [mtcsA (startO t m A e pos).2.1,mtcsA (startO t m A e pos).2.1]||asB args [mtcsA (extO t m A e r pos w).2.1,mtcsA (extO t m A e r pos w).2.1]),.bool true)):=by
  intro args nd v he hnd;cases he;rw [Bool.and_eq_true,Bool.or_eq_true] at hnd;obtain ⟨hb,q|q⟩:=hnd
  ·exact cAsG_ok (smMs_pure _ (start_few (k hb).1).2.1 (start_few (k hb).1).2.2).up _ _ _ rfl q
  ·exact cAsG_ok (smMs_pure _ (ext_few (k hb).1 (k hb).2.1).2.1 (ext_few (k hb).1 (k hb).2.1).2.2).up _ _ _ rfl q
 have hR:PureG Tryz.prog Pd.gN 37 (fun args=>some (lightR t m A r&&(asB args [runA (blkO t m A e r).1,runA (blkO t m A e r).1]||asB args [runA r,runA r]),.bool true)):=by
  intro args nd v he hnd;cases he;rw [Bool.and_eq_true,Bool.or_eq_true] at hnd;obtain ⟨hb,q|q⟩:=hnd
  ·exact cAsG_ok (smR_pure _ (blk_few (k hb).2.1)).up _ _ _ rfl q
  ·exact cAsG_ok (smR_pure r (by have:=(k hb).2.1.hb; omega)).up _ _ _ rfl q
 exact ⟨(mkG_ctr (P:=Tryz.prog) (gl:=Pd.gN) (inv:=fun _ _=>none) (n:=0) (tblG_cons (cAsG_ok (lightR_pure t m A r).up) (tblG_cons (litCtr_cons awake_pure (litCtr_nil _ _ _)) (tblG_cons (cAsIfG_ok fun hb=>(ownR_pure r (by have:=(k hb).2.1.hb; omega)).up)
  (tblG_cons (cAsIfG_ok fun hb=>startI_pure pos (k hb).1 _ _ _ rfl) (tblG_cons (cAsIfG_ok fun hb=>startR_pure pos (k hb).1 _ _ _ rfl) (tblG_cons (cAsIfG_ok fun hb=>extI_pure pos w (k hb).1 (k hb).2.1 _ _ _ rfl) (tblG_cons (cAsIfG_ok fun hb=>extR_pure pos w (k hb).1 (k hb).2.1 _ _ _ rfl)
  (tblG_cons (cAsIfG_ok fun hb=>blockI_pure (k hb).1 (k hb).2.1 (k hb).2.2 _ _ _ rfl) (tblG_cons (cAsIfG_ok fun hb=>blockR_pure (k hb).1 (k hb).2.1 _ _ _ rfl) (tblG_cons hRs (tblG_cons hMs (tblG_cons hR (tblG_nil _ _)))))))))))))).1,itr_none rfl⟩
theorem sub_runs (R:List RunG):(runsA R).sub (runsA R):=⟨rfl,fun _ _=>⟨sub_run _,rfl⟩,fun h=>h⟩
theorem sub_mtcs (M:List MtG):(mtcsA M).sub (mtcsA M):=⟨rfl,fun _ _=>⟨sub_mtc _,rfl⟩,fun h=>h⟩
theorem steps_sat (t:List TwigG) (m:Nat) (A:Ats) (r:RunG) (e:StG) (pos w:Int):(vcFun (EStx t m A r e pos w) 40 5 [treeA t,atmA m A,runA r,stA e,.int .i64 pos,.int .u64 w] .nil 0 (isBool true)).sat:=by
 unfold EStx;generalize lightR t m A r=lq;generalize startO t m A e pos=s1;generalize extO t m A e r pos w=s2;generalize blkO t m A e r=s3
 refine (steps_vc t m A r e pos w lq _ _ _ _ _ _ _ _ _).mpr (NB_intro (asB_t ⟨sub_tree t,sub_atm m A,sub_run r,trivial⟩) (VB_intro (fun _=>rfl) (fun hq=>?_)))
 have hq:lq=true:=by simpa using hq
 subst hq
 refine NB_intro (asB_t ⟨sub_run r,trivial⟩) (NB_intro (asB_t ⟨sub_tree t,sub_atm m A,sub_st e,rfl,trivial⟩) (NB_intro (asB_t ⟨sub_tree t,sub_atm m A,sub_st e,rfl,trivial⟩) (NB_intro ?_ (NB_intro (impB_of fun _=>?_) (VB_intro (fun h=>by simp at h) (fun _ =>
  NB_intro (asB_t ⟨sub_tree t,sub_atm m A,sub_run r,sub_st e,rfl,rfl,trivial⟩) (NB_intro (asB_t ⟨sub_tree t,sub_atm m A,sub_run r,sub_st e,rfl,rfl,trivial⟩) (NB_intro ?_ (NB_intro (impB_of fun _=>?_) (VB_intro (fun h=>by simp at h) (fun _ =>
  NB_intro (asB_t ⟨sub_tree t,sub_atm m A,sub_run r,sub_st e,trivial⟩) (NB_intro (asB_t ⟨sub_tree t,sub_atm m A,sub_run r,sub_st e,trivial⟩) (NB_intro ?_ (NB_intro (impB_of fun _=>?_) (by simp)))))))))))))))
 ·rw [asB_t (by exact ⟨sub_runs _,sub_runs _,trivial⟩)]
  rfl
 ·rw [asB_t (by exact ⟨sub_mtcs _,sub_mtcs _,trivial⟩)]
  rfl
 ·rw [asB_t (b:=[runsA s2.1,runsA s2.1]) (by exact ⟨sub_runs _,sub_runs _,trivial⟩),Bool.or_true]
  rfl
 ·rw [asB_t (b:=[mtcsA s2.2.1,mtcsA s2.2.1]) (by exact ⟨sub_mtcs _,sub_mtcs _,trivial⟩),Bool.or_true]
  rfl
 ·rw [asB_t (by exact ⟨sub_run _,sub_run _,trivial⟩)]
  rfl
 ·rw [asB_t (b:=[runA r,runA r]) (by exact ⟨sub_run _,sub_run _,trivial⟩),Bool.or_true]
  rfl
end Go.Proofs.YtlnpgnipocbfhaaGreatDoor
