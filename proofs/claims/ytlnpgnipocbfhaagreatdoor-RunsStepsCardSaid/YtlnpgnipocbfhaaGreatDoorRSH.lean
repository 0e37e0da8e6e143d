/- RUNS H: Block: the proofs of its conditions. -/
import Derived.Test.YtlnpgnipocbfhaaGreatDoorRSG
namespace Go.Proofs.YtlnpgnipocbfhaaGreatDoor
open Pw Go
set_option maxRecDepth 100000
abbrev BlkO:=RunG×Bool×Int
noncomputable def blkO (t:List TwigG) (m:Nat) (A:Ats) (e:StG) (r:RunG):BlkO:=if blE t m A e r≠0 then (runD,false,blE t m A e r) else (blkR t A e r (kidsN t r.nd).length,openS (blkK t A e r (kidsN t r.nd).length) (kidsN t r.nd).length,0)
theorem or_idem (b x:Int):orI .u64 (orI .u64 b x) x=orI .u64 b x:=by
 have e:∀ v:BitVec 64,BitVec.ofInt 64 (IntKind.u64.wrap (v.toNat:Int))=v:=fun v=>by
  have hv:v.toNat<2 ^ 64:=v.isLt;rw [wrap_u64_id (by omega) (by omega)]
  simp
 unfold orI;show IntKind.u64.wrap ((BitVec.ofInt 64 (IntKind.u64.wrap ((BitVec.ofInt 64 b ||| BitVec.ofInt 64 x).toNat:Int)) ||| BitVec.ofInt 64 x).toNat:Int)=IntKind.u64.wrap ((BitVec.ofInt 64 b ||| BitVec.ofInt 64 x).toNat:Int)
 rw [e,BitVec.or_assoc,BitVec.or_self]
section
variable {t:List TwigG} {m:Nat} {A:Ats} {e:StG} {r:RunG}
theorem bl_zero (h:blE t m A e r=0):ckE t m A r=0/\sndE e=0:=by
 unfold blE at h;split at h
 ·contradiction
 ·rename_i h1;exact ⟨by simpa using h1,h⟩
theorem snd_kind (h:sndE e=0):0<=e.kd/\e.kd<26:=by
 unfold sndE soundS at h;split at h
 ·cases h
 split at h
 ·cases h
 ·omega
theorem all_zero (hf:fitE t m A=0) (h:sndE e=0):Pd.allE A m e.kd=0:=by
 have h1:=snd_kind h;have h2:Pd.ckS A m=0:=(ck_all hf).2.2.2;rw [Pd.allE,if_pos h2,Pd.eventE];simp;omega
theorem er_zero {w:Nat->Int}:∀ {c:Nat},(∀ j,j<c->outN m (w j)=false)->Pd.erS m w c=0
 | 0,_=>rfl
 | c+1,h=>by
  have h1:=h c (by omega)
  unfold outN at h1;rw [Bool.or_eq_false_iff,decide_eq_false_iff_not,decide_eq_false_iff_not] at h1;rw [Pd.er_succ (er_zero fun j hj=>h j (by omega)),if_neg (by omega)]
theorem gd_in {s:SlotG} (h:outS (m:Int) s=false) {j:Nat} (hj:j<s.gds.length):outN m (s.gds.getD j 0)=false:=by
 unfold outS at h;rw [Bool.or_eq_false_iff] at h;have:=List.any_eq_false.1 h.2 (s.gds.getD j 0) (getD_mem hj);simpa using this
theorem an_gd (hf:fitE t m A=0) (hs:sndE e=0) {i:Nat} (ho:outS (m:Int) (kidT t r.nd i).slot=false):∀ k,k<=(kidT t r.nd i).slot.gds.length->Pd.anS A (fun j=>(kidT t r.nd i).slot.gds.getD j 0) e.lb e.kd e.vl k=gdB t A e r.nd i k
 | 0,_=>rfl
 | k+1,hk=>by
  have h1:=gd_in ho (show k<_ from hk);unfold outN at h1;rw [Bool.or_eq_false_iff,decide_eq_false_iff_not,decide_eq_false_iff_not] at h1;have h2:=Pd.ck_all (ck_all hf).2.2.2 ((kidT t r.nd i).slot.gds.getD k 0).toNat (by omega)
  have h3:=snd_kind hs;have h4:Pd.eventE e.kd=0:=by rw [Pd.eventE,if_neg (by omega)]
  show (Pd.anS A _ e.lb e.kd e.vl k||Pd.matchJ A e.lb e.kd e.vl _)=(gdB t A e r.nd i k||fitB A e _);rw [an_gd hf hs ho k (by omega)]
  unfold fitB Pd.MatB;unfold Pd.checkJ at h2;rw [decide_eq_true h2,decide_eq_true h4];rfl
theorem any_gd (hf:fitE t m A=0) (hs:sndE e=0) {i:Nat} (ho:outS (m:Int) (kidT t r.nd i).slot=false) :
  Pd.anyB A m (fun k=>(kidT t r.nd i).slot.gds.getD k 0) (kidT t r.nd i).slot.gds.length e.lb e.kd e.vl=gdB t A e r.nd i (kidT t r.nd i).slot.gds.length:=by
 unfold Pd.anyB;rw [all_zero hf hs,er_zero fun j hj=>gd_in ho hj,an_gd hf hs ho _ (Nat.le_refl _)]
 rfl
theorem gd_succ {i k:Nat}:gdB t A e r.nd i (k+1)=(gdB t A e r.nd i k||fitB A e ((kidT t r.nd i).slot.gds.getD k 0).toNat):=rfl
theorem blk_yes {i:Nat} (h:gdB t A e r.nd i (kidT t r.nd i).slot.gds.length=true):blkK t A e r (i+1)=orI .u64 (blkK t A e r i) (shlI .u64 1 i):=by
 simp only [blkK];rw [if_pos h]
theorem blk_no {i:Nat} (h:gdB t A e r.nd i (kidT t r.nd i).slot.gds.length=false):blkK t A e r (i+1)=blkK t A e r i:=by
 simp only [blkK];rw [if_neg (by rw [h]; simp)]
end
theorem anyK_ok (m:Nat) (A:Ats) (e:StG) (hm:m<=1000000) (hA:Pd.atsOK m A) (hl:Pd.u64B e.lb=true):PureG Tryz.prog Pd.gN 88 (cAnyK m A e):=by
 intro args nd v he hnd;unfold cAnyK at he;split at he <;> cases he
 rename_i X c g ex E;simp only [Bool.and_eq_true,decide_eq_true_eq] at hnd;obtain ⟨h1,h2⟩:=subL_at _ _ (asB_i.1 hnd.1.1)
 refine PureC.args (args':=[Pd.atsAV m A,Pd.wAV c (fun k=>Pd.iOf (g k)),.agg (Pd.evL e.lb e.kd e.vl)]) rfl (fun i hi=>?_) (Pd.anyI_pure m c A _ _ _ _ hm hnd.2 hA hl)
 match i,hi with
 | 0,_=>exact h2 0 (by simp)
 | 1,_=>exact Pd.ints_sub hnd.1.2
 | 2,_=>exact h2 1 (by simp)
theorem blk3 {q q':RunG} {b b':Bool} {f f':Int} (h:((q,b,f):BlkO)=(q',b',f')):(runA q).sub (runA q')/\b=b'/\f=f'/\True:=by
 cases h;exact ⟨sub_run _,rfl,rfl,trivial⟩
theorem blk0 {q':RunG} {b b':Bool} {f f':Int} (h:((runD,b,f):BlkO)=(q',b',f')):(AV.agg [.int .i64 0,.nils,.int .u64 0,.int .u64 0]).sub (runA q')/\b=b'/\f=f'/\True:=by
 cases h;exact ⟨⟨rfl,rfl,rfl,rfl,trivial⟩,rfl,rfl,trivial⟩
theorem blockI_pure {t:List TwigG} {m:Nat} {A:Ats} {e:StG} {r:RunG} (o:OKt t m A e) (n:OKn r) (hm:m<=1000000) (q:RunG) (b:Bool) (f:Int) (hr:blkO t m A e r=(q,b,f)) :
  PureC Tryz.prog Pd.gN 35 [treeA t,atmA m A,runA r,stA e] (.tup [runA q,.bool b,.int .i64 f]):=by
 have hb:=n.hb
 refine PureC.of_vc (E:=EBlI t m A e r) (k:=20) (d:=3) mix ⟨(mkG_ctr (P:=Tryz.prog) (gl:=Pd.gN) (inv:=fun _ _=>none) (n:=0) (tblG_cons (cAsG_ok (ckI_pure t m A r _ o.hs o.hA hb rfl)) (tblG_cons soundI_ok.up (tblG_cons evOfI_ok.up (tblG_cons (cAsG_ok (cloneI_pure r.ps (by omega)).up) (tblG_cons (anyK_ok m A e hm o.hA o.hl) (tblG_cons bits_ok.up (tblG_nil _ _)))))))).1,itr_none rfl⟩ ((blockI_vc t m A e r _ _ _).mpr ?_)
 conv=>zeta
 refine NB_intro (asB_t ⟨sub_tree t,sub_atm m A,sub_run r,trivial⟩) ⟨VB_intro (fun h0=>?_) (fun h0=>?_),fun _ _=>VB_intro (fun h0=>?_) (fun h0=>?_)⟩
 ·have h0:ckE t m A r=0:=by simpa using h0
  refine ⟨(),trivial,?_⟩
  repeat' (first|exact sub_atm _ _|exact sub_treeP _|exact sub_runP _|exact sub_stP _|exact sub_ints _|exact trivial|exact rfl|exact hW|exact Or.inl rfl|exact fun h=>h|exact fun _ _=>⟨rfl,rfl⟩|refine And.intro ?_ ?_)
  unfold blE;rw [if_neg (by simpa using h0)]
 ·have h0:ckE t m A r≠0:=by simpa using h0
  refine ⟨(),trivial,?_⟩
  repeat' (first|exact sub_atm _ _|exact sub_treeP _|exact sub_runP _|exact sub_stP _|exact sub_ints _|exact trivial|exact rfl|exact hW|exact Or.inl rfl|exact fun h=>h|exact fun _ _=>⟨rfl,rfl⟩|refine And.intro ?_ ?_)
  unfold blE;rw [if_pos h0]
 ·have h0:blE t m A e r≠0:=by simpa using h0
  unfold blkO at hr;rw [if_pos h0] at hr;exact blk0 hr
 have h0:blE t m A e r=0:=by simpa using h0
 unfold blkO at hr;rw [if_neg (by simpa using h0)] at hr
 obtain ⟨hck,hsn⟩:=bl_zero h0;have hq:=okr_ext o n hck;have hk:=o.hk r.nd;refine NB_intro (asB_t ⟨sub_ints _,trivial⟩) (NB_intro (decide_eq_true ⟨hq.n0,hq.n1⟩) ⟨⟨0,Nat.zero_le _,?_⟩,fun i hi=>?_⟩)
 ·repeat' (first|exact sub_atm _ _|exact sub_treeP _|exact sub_runP _|exact sub_stP _|exact sub_ints _|exact trivial|exact rfl|exact hW|exact Or.inl rfl|exact fun h=>h|exact fun _ _=>⟨rfl,rfl⟩|refine And.intro ?_ ?_)
 have hi:i<=(kidsN t r.nd).length:=hi;rw [show Int.toNat ((i:Nat):Int)=i from rfl];refine VB_intro (fun h=>?_) (fun h=>?_)
 ·have hi:i<(kidsN t r.nd).length:=by have:=of_decide_eq_true h; omega
  obtain ⟨k0,k1,_,_,_,ho⟩:=kid_ok hq hi;have hgl:(kidT t r.nd i).slot.gds.length<=1000:=shortT_slots o.hs _;have hW:=wrapS (i:=i) (by omega)
  have hmu:(kidsN t r.nd).length - (i+1)<(kidsN t r.nd).length - i:=by omega
  refine NB_intro (idx_ok hi) (NB_intro (decide_eq_true ⟨by show 0<=kidN t r.nd i; omega,k1⟩) (NB_intro ?_ (VB_intro (fun hg=>?_) (fun hg=>?_))))
  ·rw [asB_t (by exact ⟨sub_atm m A,⟨rfl,rfl,rfl,trivial⟩,trivial⟩),Pd.intsB_at,decide_eq_true (show (t.getD ((kidsN t r.nd).getD i 0).toNat twigD).slot.gds.length<=1000000 from Nat.le_trans hgl (by decide))]
   rfl
  ·have hg:gdB t A e r.nd i (kidT t r.nd i).slot.gds.length=true:=(any_gd hq.hf hsn ho).symm.trans hg;refine ⟨i+1,hi,hmu,?_⟩
   repeat' (first|exact sub_atm _ _|exact sub_treeP _|exact sub_runP _|exact sub_stP _|exact sub_ints _|exact trivial|exact rfl|exact hW|exact Or.inl rfl|exact fun h=>h|exact fun _ _=>⟨rfl,rfl⟩|refine And.intro ?_ ?_)
   exact (blk_yes hg).symm
  ·have hg:gdB t A e r.nd i (kidT t r.nd i).slot.gds.length=false:=(any_gd hq.hf hsn ho).symm.trans hg;refine ⟨i+1,hi,hmu,?_⟩
   repeat' (first|exact sub_atm _ _|exact sub_treeP _|exact sub_runP _|exact sub_stP _|exact sub_ints _|exact trivial|exact rfl|exact hW|exact Or.inl rfl|exact fun h=>h|exact fun _ _=>⟨rfl,rfl⟩|refine And.intro ?_ ?_)
   exact (blk_no hg).symm
 ·have h:=of_decide_eq_false h;obtain rfl:i=(kidsN t r.nd).length:=by omega
  have h1:=blk3 hr;refine ⟨h1.1,?_,h1.2.2⟩;rw [<- h1.2.1];have:=open_iff (b:=blkK t A e r (kidsN t r.nd).length) (n:=(kidsN t r.nd).length) (by omega)
  show decide (((opN (blkK t A e r (kidsN t r.nd).length) ((kidsN t r.nd).length:Int) 64:Nat):Int) > 0)=_;cases ho:openS (blkK t A e r (kidsN t r.nd).length) (kidsN t r.nd).length with
  | false=>rw [this.1 ho]; rfl
  | true =>
   refine decide_eq_true ?_;have:opN (blkK t A e r (kidsN t r.nd).length) ((kidsN t r.nd).length:Int) 64≠0:=fun hz=>by rw [this.2 hz] at ho; cases ho
   omega
theorem blq_end {t:List TwigG} {A:Ats} {e:StG} {r:RunG} {i:Nat}:blkQ t A e r i (kidT t r.nd i).slot.gds.length=blkR t A e r (i+1):=rfl
theorem blq_no {t:List TwigG} {A:Ats} {e:StG} {r:RunG} {i k:Nat} (h:fitB A e ((kidT t r.nd i).slot.gds.getD k 0).toNat=false):blkQ t A e r i (k+1)=blkQ t A e r i k:=by
 unfold blkQ;rw [gd_succ,h,Bool.or_false]
theorem blq_yes {t:List TwigG} {A:Ats} {e:StG} {r:RunG} {i k:Nat} (h:fitB A e ((kidT t r.nd i).slot.gds.getD k 0).toNat=true):orI .u64 (blkQ t A e r i k).bl (shlI .u64 1 (i:Int))=(blkQ t A e r i (k+1)).bl:=by
 show orI .u64 (if gdB t A e r.nd i k=true then orI .u64 (blkK t A e r i) (shlI .u64 1 i) else blkK t A e r i) (shlI .u64 1 (i:Int))=(if gdB t A e r.nd i (k+1)=true then orI .u64 (blkK t A e r i) (shlI .u64 1 i) else blkK t A e r i)
 rw [gd_succ,h,Bool.or_true,if_pos rfl];split
 ·rw [or_idem]
 ·rfl
theorem blockR_pure {t:List TwigG} {m:Nat} {A:Ats} {e:StG} {r:RunG} (o:OKt t m A e) (n:OKn r) (q:RunG) (b:Bool) (f:Int) (hr:blkO t m A e r=(q,b,f)) :
  PureC Tryz.prog Pd.gN 36 [treeA t,atmA m A,runA r,stA e] (.tup [runA q,.bool b,.int .i64 f]):=by
 have hb:=n.hb;have hk:=o.hk r.nd
 refine PureC.of_vc (E:=EBlR t m A e r) (k:=20) (d:=3) mix ⟨(mkG_ctr (P:=Tryz.prog) (gl:=Pd.gN) (inv:=fun _ _=>none) (n:=0) (tblG_cons (cAsG_ok (ckR_pure t m A r _ o.hs o.hA hb o.hk n.hbl rfl)) (tblG_cons soundR_ok.up (tblG_cons fits_ok (tblG_cons (cAsIfG_ok fun h=>(open_pure t (blkR t A e r (kidsN t r.nd).length) (by simp only [Bool.and_eq_true,decide_eq_true_eq] at h; exact h.1) (by simp only [Bool.and_eq_true,decide_eq_true_eq] at h; exact h.2) hk).up) (tblG_nil _ _)))))).1,itr_none rfl⟩ ((blockR_vc t m A e r _ _ _).mpr ?_)
 conv=>zeta
 refine NB_intro (asB_t ⟨sub_tree t,sub_atm m A,sub_run r,trivial⟩) ⟨VB_intro (fun h0=>?_) (fun h0=>?_),fun _ _=>VB_intro (fun h0=>?_) (fun h0=>?_)⟩
 ·have h0:ckE t m A r=0:=by simpa using h0
  refine ⟨(),trivial,?_⟩
  repeat' (first|exact sub_atm _ _|exact sub_treeP _|exact sub_runP _|exact sub_stP _|exact sub_ints _|exact trivial|exact rfl|exact hW|exact Or.inl rfl|exact fun h=>h|exact fun _ _=>⟨rfl,rfl⟩|refine And.intro ?_ ?_)
  unfold blE;rw [if_neg (by simpa using h0)]
 ·have h0:ckE t m A r≠0:=by simpa using h0
  refine ⟨(),trivial,?_⟩
  repeat' (first|exact sub_atm _ _|exact sub_treeP _|exact sub_runP _|exact sub_stP _|exact sub_ints _|exact trivial|exact rfl|exact hW|exact Or.inl rfl|exact fun h=>h|exact fun _ _=>⟨rfl,rfl⟩|refine And.intro ?_ ?_)
  unfold blE;rw [if_pos h0]
 ·have h0:blE t m A e r≠0:=by simpa using h0
  unfold blkO at hr;rw [if_pos h0] at hr;exact blk0 hr
 have h0:blE t m A e r=0:=by simpa using h0
 unfold blkO at hr;rw [if_neg (by simpa using h0)] at hr
 obtain ⟨hck,hsn⟩:=bl_zero h0;have hq:=okr_ext o n hck;refine NB_intro (by rw [show room (0+r.ps.length) 8=true from decide_eq_true ⟨by omega,by omega⟩]; simp) (NB_intro (decide_eq_true ⟨hq.n0,hq.n1⟩) ⟨⟨0,Nat.zero_le _,?_⟩,fun i hi=>?_⟩)
 ·repeat' (first|exact sub_atm _ _|exact sub_treeP _|exact sub_runP _|exact sub_stP _|exact sub_ints _|exact trivial|exact rfl|exact hW|exact Or.inl rfl|exact fun h=>h|exact fun _ _=>⟨rfl,rfl⟩|refine And.intro ?_ ?_)
  exact Nat.zero_add _
 have hi:i<=(kidsN t r.nd).length:=hi
 repeat rw [show Int.toNat ((i:Nat):Int)=i from rfl]
 refine VB_intro (fun h=>?_) (fun h=>?_)
 ·have hi:i<(kidsN t r.nd).length:=by have:=of_decide_eq_true h; omega
  obtain ⟨k0,k1,_,_,_,ho⟩:=kid_ok hq hi;have hgl:(kidT t r.nd i).slot.gds.length<=1000:=shortT_slots o.hs _;refine NB_intro (idx_ok hi) (NB_intro (decide_eq_true ⟨by show 0<=kidN t r.nd i; omega,k1⟩) ⟨⟨0,Nat.zero_le _,?_⟩,fun k hk2=>?_⟩)
  ·repeat' (first|exact sub_atm _ _|exact sub_treeP _|exact sub_runP _|exact sub_stP _|exact sub_ints _|exact trivial|exact rfl|exact hW|exact Or.inl rfl|exact fun h=>h|exact fun _ _=>⟨rfl,rfl⟩|refine And.intro ?_ ?_)
  have hk2:k<=(kidT t r.nd i).slot.gds.length:=hk2
  repeat rw [show Int.toNat ((k:Nat):Int)=k from rfl]
  refine VB_intro (fun h2=>?_) (fun h2=>?_)
  ·have hk3:k<(kidT t r.nd i).slot.gds.length:=by have:=of_decide_eq_true h2; omega
   have hin:=gd_in ho hk3;unfold outN at hin;rw [Bool.or_eq_false_iff,decide_eq_false_iff_not,decide_eq_false_iff_not] at hin;have hat:=o.hA ((kidT t r.nd i).slot.gds.getD k 0).toNat (by omega)
   have hW:=wrapS (i:=k) (by omega)
   have hmu:(kidT t r.nd i).slot.gds.length - (k+1)<(kidT t r.nd i).slot.gds.length - k:=by omega
   rw [wrapU (by omega)]
   refine NB_intro (idx_ok hk3) (NB_intro (decide_eq_true ⟨by omega,by omega⟩) (NB_intro (fit_need hat o.hl) (VB_intro (fun hf=>?_) (fun hf=>?_))))
   ·refine ⟨k+1,hk3,hmu,?_⟩
    repeat' (first|exact sub_atm _ _|exact sub_treeP _|exact sub_runP _|exact sub_stP _|exact sub_ints _|exact trivial|exact rfl|exact hW|exact Or.inl rfl|exact fun h=>h|exact fun _ _=>⟨rfl,rfl⟩|refine And.intro ?_ ?_)
    exact blq_yes hf
   ·refine ⟨k+1,hk3,hmu,?_⟩;rw [blq_no hf]
    repeat' (first|exact sub_atm _ _|exact sub_treeP _|exact sub_runP _|exact sub_stP _|exact sub_ints _|exact trivial|exact rfl|exact hW|exact Or.inl rfl|exact fun h=>h|exact fun _ _=>⟨rfl,rfl⟩|refine And.intro ?_ ?_)
  ·have h2:=of_decide_eq_false h2;obtain rfl:k=(kidT t r.nd i).slot.gds.length:=by omega
   have hW:=wrapS (i:=i) (by omega)
   refine ⟨i+1,hi,(show (kidsN t r.nd).length - (i+1)<(kidsN t r.nd).length - i by omega),?_⟩
   rw [blq_end]
   repeat' (first|exact sub_atm _ _|exact sub_treeP _|exact sub_runP _|exact sub_stP _|exact sub_ints _|exact trivial|exact rfl|exact hW|exact Or.inl rfl|exact fun h=>h|exact fun _ _=>⟨rfl,rfl⟩|refine And.intro ?_ ?_)
 ·have h:=of_decide_eq_false h;obtain rfl:i=(kidsN t r.nd).length:=by omega
  refine NB_intro ?_ (blk3 hr);rw [decide_eq_true hq.n0,decide_eq_true hq.n1];exact asB_t ⟨sub_tree t,sub_run _,trivial⟩
end Go.Proofs.YtlnpgnipocbfhaaGreatDoor
