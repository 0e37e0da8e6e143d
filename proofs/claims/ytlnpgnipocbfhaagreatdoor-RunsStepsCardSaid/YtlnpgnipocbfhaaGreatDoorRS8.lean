/- RUNS 8: what an event reaches, the document: contract. -/
import Derived.Test.YtlnpgnipocbfhaaGreatDoorRS7
namespace Go.Proofs.YtlnpgnipocbfhaaGreatDoor
open Pw Go
set_option maxRecDepth 100000
theorem sub_treeP (t:List TwigG):(treePA t).sub (treePA t):=⟨⟨sub_tree t,rfl⟩,rfl⟩
theorem sub_runP (r:RunG):(runPA r).sub (runPA r):=⟨⟨sub_run r,rfl⟩,rfl⟩
theorem sub_st (e:StG):(stA e).sub (stA e):=⟨rfl,rfl,rfl,rfl,rfl,rfl,trivial⟩
theorem sub_stP (e:StG):(stPA e).sub (stPA e):=⟨⟨sub_st e,rfl⟩,rfl⟩
theorem sub_mtc (l:MtG):(mtcA l).sub (mtcA l):=⟨⟨rfl,fun _ _=>⟨⟨rfl,rfl,trivial⟩,rfl⟩,fun h=>h⟩,trivial⟩
theorem sub_twig (x:TwigG):(twigA x).sub (twigA x):=⟨rfl,sub_ints _,rfl,sub_ints _,rfl,rfl,trivial⟩
theorem ga_new (s:SlotG) {k:Nat} (hk:k<0+s.gds.length+1):(if 0+k<0+s.gds.length then AV.int .i64 (s.gds.getD (0+(0+k)) 0) else (Sq.lst [AV.int .i64 s.1]).get (0+k - (0+s.gds.length))).sub (gaE s k) /\
  (if 0+k<0+s.gds.length then AV.int .i64 (s.gds.getD (0+(0+k)) 0) else (Sq.lst [AV.int .i64 s.1]).get (0+k - (0+s.gds.length))).cells.length=(gaE s k).cells.length:=by
 by_cases hk2:k<s.gds.length
 ·rw [if_pos (by omega)]
  unfold gaE gaS;rw [if_pos hk2,show 0+(0+k)=k by omega]
  exact ⟨rfl,rfl⟩
 ·rw [if_neg (by omega)]
  unfold gaE gaS;rw [if_neg hk2,show 0+k - (0+s.gds.length)=0 by omega]
  exact ⟨rfl,rfl⟩
theorem app_row {α:Type} {F:α->AV} {L:List α} {a d:α} {x:AV} (hF:∀ b,(F b).sub (F b)) (hx:x.sub (F a)) (hc:x.cells.length=(F a).cells.length) {k:Nat} (hk:k<L.length+1) :
  (if k<L.length then F (L.getD (0+k) d) else ((Sq.lst [x]).sub 0 1).get (k - L.length)).sub (F ((L++[a]).getD k d))/\(if k<L.length then F (L.getD (0+k) d) else ((Sq.lst [x]).sub 0 1).get (k - L.length)).cells.length=(F ((L++[a]).getD k d)).cells.length:=by
 by_cases h:k<L.length
 ·rw [if_pos h,Nat.zero_add,show (L++[a]).getD k d=L.getD k d by rw [List.getD_eq_getElem?_getD,List.getElem?_append_left h,<- List.getD_eq_getElem?_getD]]
  exact ⟨hF _,rfl⟩
 ·obtain rfl:k=L.length:=by omega
  rw [if_neg h,Nat.sub_self,show (L++[a]).getD L.length d=a by simp [List.getD]]
  exact ⟨hx,hc⟩
theorem posL_get (s:SlotG) {k:Nat} (hk:k<s.gds.length+1):(posL s).getD k 0=gaS s k:=by
 unfold posL gaS;split
 ·rename_i h;rw [List.getD_eq_getElem?_getD,List.getElem?_append_left h,<- List.getD_eq_getElem?_getD]
 ·obtain rfl:k=s.gds.length:=by omega
  simp [List.getD]
theorem fits_ok:PureG Tryz.prog Pd.gN 90 cFits:=by
 intro args nd v he hnd;unfold cFits at he;split at he <;> cases he
 rename_i k bd bo n f ex nm l no od tk ek x;simp only [Bool.and_eq_true] at hnd
 refine PureC.args (args':=[.agg (Pd.atomL k bd bo n (fun i=>Pd.opOf (f i)) (fun i=>Pd.valOf (f i)) nm),.agg [.int .u64 l,.int .u64 no,.int .u64 od,.int .u64 tk,.int .i64 ek,.int .i64 x]]) rfl (fun i hi=>?_)
  (PureC.of_vc (E:=EFt) (k:=20) (d:=3) mix (mkG_ctr (tblG_cons evOfR_ok.up (tblG_cons (Pd.matches_of fun k bd bo n o v nm l ek x h=>Pd.matchesR_pure k bd bo n o v nm l ek x h) (tblG_nil _ _)))) ((fits_vc _ _ _ _ _ _ _ _ _ _ _ _ _ _).mpr (NB_intro (by rw [Pd.condsB_agg,hnd.1.1.2,hnd.1.2,hnd.2]; rfl) rfl)))
 match i,hi with
 | 0,_=>exact Pd.atom_sub hnd.1.1.1
 | 1,_=>exact ⟨rfl,rfl,rfl,rfl,rfl,rfl,trivial⟩
structure OKr (t:List TwigG) (m:Nat) (A:Ats) (e:StG) (r:RunG):Prop where
 hs:shortT t=true
 hk:kids20 t
 hf:fitE t m A=0
 hA:Pd.atsOK m A
 hl:Pd.u64B e.lb=true
 n0:0<=r.nd
 n1:r.nd<t.length
 hp:r.ps.length=(upL t r.nd).length
 hb:r.ps.length<=1000
theorem kid_ok {t:List TwigG} {m:Nat} {A:Ats} {e:StG} {r:RunG} (o:OKr t m A e r) {i:Nat} (hi:i<(kidsN t r.nd).length) :
  0<kidN t r.nd i/\kidN t r.nd i<t.length/\0<=(kidT t r.nd i).slot.1/\(kidT t r.nd i).slot.1<m/\(pathE t (kidN t r.nd i)).1.length=r.ps.length+1/\outS m (kidT t r.nd i).slot=false:=by
 obtain ⟨hc,_,ho,_⟩:=ck_all o.hf;obtain ⟨hT,hl,_⟩:=trie_of hc;have n1:=o.n1;have n0:=o.n0;have hm:kidN t r.nd i∈(t.getD r.nd.toNat twigD).kids:=getD_mem hi;obtain ⟨k0,k1,k2⟩:=hT.kid r.nd.toNat (by omega) _ hm
 have hou:=ho (kidN t r.nd i).toNat (by omega) (by omega)
 have hout:outS m (kidT t r.nd i).slot=false:=hou;have hn:outN m (kidT t r.nd i).slot.1=false:=by
  unfold outS at hout;rw [Bool.or_eq_false_iff] at hout;exact hout.1
 unfold outN at hn;rw [Bool.or_eq_false_iff,decide_eq_false_iff_not,decide_eq_false_iff_not] at hn;refine ⟨k0,k1,by omega,by omega,?_,hout⟩
 unfold pathE;rw [if_neg (by simpa using hc),if_neg (by omega)]
 have h1:=upL_par hT (i:=(kidN t r.nd i).toNat) (by omega) (by omega)
 rw [k2,show (((kidN t r.nd i).toNat:Nat):Int)=kidN t r.nd i by omega,show ((((r.nd.toNat:Nat):Int).toNat:Nat):Int)=r.nd by omega] at h1
 show (atomsL (upL t (kidN t r.nd i))).length=_;rw [atomsL,List.length_map,h1,List.length_append,o.hp];rfl
theorem runs_no {t:List TwigG} {A:Ats} {e:StG} {r:RunG} {pos:Int} {i:Nat} (h:¬ (hitB t A e r i=true/\0<(kidT t r.nd i).kids.length)):runsK t A e r pos (i+1)=runsK t A e r pos i:=by
 simp only [runsK];rw [if_neg h]
theorem runs_yes {t:List TwigG} {A:Ats} {e:StG} {r:RunG} {pos:Int} {i:Nat} (h:hitB t A e r i=true/\0<(kidT t r.nd i).kids.length):runsK t A e r pos (i+1)=runsK t A e r pos i++[(kidN t r.nd i,posL (pos,r.ps,()),r.fs,0,())]:=by
 simp only [runsK];rw [if_pos h]
theorem mts_no {t:List TwigG} {A:Ats} {e:StG} {r:RunG} {pos:Int} {i:Nat} (h:¬ (hitB t A e r i=true/\(kidT t r.nd i).ends=true)):mtsK t A e r pos (i+1)=mtsK t A e r pos i:=by
 simp only [mtsK];rw [if_neg h]
theorem mts_yes {t:List TwigG} {A:Ats} {e:StG} {r:RunG} {pos:Int} {i:Nat} (h:hitB t A e r i=true/\(kidT t r.nd i).ends=true):mtsK t A e r pos (i+1)=mtsK t A e r pos i++[plS (pos,r.ps,()) (pathE t (kidN t r.nd i)).1]:=by
 simp only [mtsK];rw [if_pos h]
theorem runs_len (t:List TwigG) (A:Ats) (e:StG) (r:RunG) (pos:Int):∀ i,(runsK t A e r pos i).length<=i
 | 0=>Nat.le_refl _
 | i+1=>by
  have:=runs_len t A e r pos i;simp only [runsK];split
  ·rw [List.length_append];exact Nat.succ_le_succ this
  ·omega
theorem mts_len (t:List TwigG) (A:Ats) (e:StG) (r:RunG) (pos:Int):∀ i,(mtsK t A e r pos i).length<=i
 | 0=>Nat.le_refl _
 | i+1=>by
  have:=mts_len t A e r pos i;simp only [mtsK];split
  ·rw [List.length_append];exact Nat.succ_le_succ this
  ·omega
theorem plS_len (q:SlotG) (p:List Int):(plS q p).length=p.length:=by simp [plS]
theorem plS_get {q:SlotG} {p:List Int} {k:Nat} (hk:k<p.length):(plS q p).getD k (0,0,())=(gaS q k,p.getD k 0,()):=by simp [plS,List.getD,hk]
theorem new_run (t:List TwigG) (r:RunG) (pos:Int) (i:Nat) (b:Bool):(AV.agg [.int .i64 (kidN t r.nd i),.rof (0+((SlotG.gds (pos,r.ps,())).length+1)) (fun k=>gaE (pos,r.ps,()) (0+k)) b,.int .u64 r.fs,.int .u64 0]).sub (runA (kidN t r.nd i,posL (pos,r.ps,()),r.fs,0,())):=by
 refine ⟨rfl,⟨?_,fun k hk=>?_,fun h=>by cases h⟩,rfl,rfl,trivial⟩
 ·show 0+(r.ps.length+1)=(r.ps++[pos]).length;rw [List.length_append,Nat.zero_add];rfl
 ·dsimp only;rw [posL_get (pos,r.ps,()) (by omega),Nat.zero_add]
  exact ⟨rfl,rfl⟩
theorem new_mtc (q:SlotG) (p:List Int) {n:Nat} (hn:n=p.length) (b:Bool):(AV.agg [.rof n (fun k=>plcA ((plS q p).getD (0+k) (0,0,()))) b]).sub (mtcA (plS q p)):=by
 refine ⟨⟨by rw [plS_len]; exact hn,fun k hk=>?_,fun h=>by cases h⟩,trivial⟩
 dsimp only;rw [Nat.zero_add];exact ⟨⟨rfl,rfl,trivial⟩,rfl⟩
theorem plc_row {q:SlotG} {p:List Int} {k i:Nat} (hk:k<p.length) (hi:i<k+1) :
  (if i<k then plcA ((plS q p).getD (0+i) (0,0,())) else ((Sq.lst [AV.agg [.int .i64 (gaS q k),.int .i64 (p.getD k 0)]]).sub 0 1).get (i - k)).sub (plcA ((plS q p).getD i (0,0,()))) /\
  (if i<k then plcA ((plS q p).getD (0+i) (0,0,())) else ((Sq.lst [AV.agg [.int .i64 (gaS q k),.int .i64 (p.getD k 0)]]).sub 0 1).get (i - k)).cells.length=(plcA ((plS q p).getD i (0,0,()))).cells.length:=by
 by_cases h:i<k
 ·rw [if_pos h,Nat.zero_add];exact ⟨⟨rfl,rfl,trivial⟩,rfl⟩
 ·obtain rfl:i=k:=by omega
  rw [if_neg h,Nat.sub_self,plS_get hk];exact ⟨⟨rfl,rfl,trivial⟩,rfl⟩
theorem fit_need {A:Ats} {j:Nat} {l:Int} (h:(A.M j).length<=9223372036854775807/\Pd.u64B (A.O j)=true) (hl:Pd.u64B l=true):((Pd.condsB (A.N j) fun i=>AV.agg [AV.int .i64 (A.P j i),AV.int .i64 (A.V j i)])&&Pd.nmB (A.M j)&&Pd.u64B l&&Pd.u64B (A.O j))=true:=by
 rw [Pd.condsB_agg,Pd.nmB,decide_eq_true h.1,hl,h.2];rfl
theorem dpathT_ok (t:List TwigG) (hs:shortT t=true):PureF Tryz.prog 127 (cPathT t):=by
 intro args nd v he hnd;unfold cPathT at he;split at he <;> cases he
 rename_i X k;obtain ⟨h1,h2⟩:=subL_at _ _ (asB_i.1 hnd);refine PureC.args (args':=[treeA t,.int .i64 k]) rfl (fun i hi=>?_) (dpath_pure t k _ _ hs rfl)
 match i,hi with
 | 0,_=>exact h2 0 (by simp)
 | 1,_=>exact rfl
theorem EReach_ok (t:List TwigG) (m:Nat) (A:Ats) (e:StG) (r:RunG) (pos:Int) (hs:shortT t=true):CtrOK (EReach t m A e r pos) :=
 ⟨(mkG_ctr (P:=Tryz.prog) (gl:=Pd.gN) (inv:=fun _ _=>none) (n:=0) (tblG_cons fits_ok (tblG_cons (dpathT_ok t hs).up (tblG_nil _ _)))).1,itr_none rfl⟩
theorem reach_pure {t:List TwigG} {m:Nat} {A:Ats} {e:StG} {r:RunG} (pos:Int) (o:OKr t m A e r) :
  PureC Tryz.prog Pd.gN 83 [treeA t,atmA m A,runA r,stA e,.int .i64 pos] (.tup [runsA (runsK t A e r pos (kidsN t r.nd).length),mtcsA (mtsK t A e r pos (kidsN t r.nd).length)]):=by
 refine PureC.of_vc (E:=EReach t m A e r pos) (k:=20) (d:=3) mix (EReach_ok t m A e r pos o.hs) ((reach_vc t m A e r pos).mpr ?_)
 conv=>zeta
 have hk:=o.hk r.nd;have hb:=o.hb
 refine NB_intro (by rw [show room (0+r.ps.length) 8=true from decide_eq_true ⟨by omega,by omega⟩]; simp) (NB_intro (by rw [show room (0+r.ps.length+1) 8=true from decide_eq_true ⟨by omega,by omega⟩]; rfl) (NB_intro (decide_eq_true ⟨o.n0,o.n1⟩) ⟨⟨(0,0,0),Nat.zero_le _,?_⟩,fun p hi=>?_⟩))
 ·repeat' (first|exact sub_atm _ _|exact sub_treeP _|exact sub_runP _|exact sub_stP _|exact sub_ga _|exact sub_ints _|exact sub_twig _|exact trivial|exact rfl|exact hW|exact Or.inl rfl|exact fun h=>h|exact fun _ _=>⟨sub_run _,rfl⟩|exact fun _ _=>⟨sub_mtc _,rfl⟩|refine And.intro ?_ ?_)
  ·exact Nat.zero_add _▸rfl
  ·exact fun k hk=>ga_new (pos,r.ps,()) hk
 obtain ⟨i,g1,g2⟩:=p;have hi:i<=(kidsN t r.nd).length:=hi;dsimp only
 repeat rw [show Int.toNat ((i:Nat):Int)=i from rfl]
 have hRl:=runs_len t A e r pos i;have hMl:=mts_len t A e r pos i;refine VB_intro (fun h=>?_) (fun h=>?_)
 ·have hi:i<(kidsN t r.nd).length:=by have:=of_decide_eq_true h; omega
  obtain ⟨k0,k1,s0,s1,hpl,_⟩:=kid_ok o hi;have hat:=o.hA (kidT t r.nd i).slot.1.toNat (by omega)
  rw [wrapU (by omega)]
  refine NB_intro (idx_ok hi) (NB_intro (decide_eq_true ⟨by show 0<=kidN t r.nd i; omega,k1⟩) (NB_intro (impB_of fun _=>decide_eq_true ⟨s0,s1⟩) (NB_intro (impB_of fun _=>fit_need hat o.hl) (VB_intro (fun hn=>?_) (fun hn=>?_)))))
  ·have hn:(bitB r.bl i||!fitB A e (kidT t r.nd i).slot.1.toNat)=true:=hn;have hh:hitB t A e r i=false:=by
    unfold hitB;cases h1:bitB r.bl i
    ·rw [h1] at hn;simpa using hn
    ·rfl
   refine ⟨(i+1,g1,g2),(show i+1<=(kidsN t r.nd).length from hi),(show (kidsN t r.nd).length - (i+1)<(kidsN t r.nd).length - i by omega),?_⟩
   dsimp only;rw [runs_no (by rw [hh]; simp),mts_no (by rw [hh]; simp)]
   have hW:=wrapS (i:=i) (by omega)
   repeat' (first|exact sub_atm _ _|exact sub_treeP _|exact sub_runP _|exact sub_stP _|exact sub_ga _|exact sub_ints _|exact sub_twig _|exact trivial|exact rfl|exact hW|exact Or.inl rfl|exact fun h=>h|exact fun _ _=>⟨sub_run _,rfl⟩|exact fun _ _=>⟨sub_mtc _,rfl⟩|refine And.intro ?_ ?_)
  have hn:(bitB r.bl i||!fitB A e (kidT t r.nd i).slot.1.toNat)=false:=hn;have hh:hitB t A e r i=true:=by
   unfold hitB;rw [Bool.or_eq_false_iff] at hn;rw [hn.1];simpa using hn.2
  refine ⟨VB_intro (fun hx=>?_) (fun hx=>?_),fun g1 hq=>?_⟩
  ·have hx:0<(kidT t r.nd i).kids.length:=by have:=of_decide_eq_true hx; show 0<(t.getD (kidN t r.nd i).toNat twigD).kids.length; unfold kidN; omega
   have hre:room (0+((SlotG.gds (pos,r.ps,())).length+1)) 8=true:=decide_eq_true (by have:(SlotG.gds (pos,r.ps,())).length=r.ps.length:=rfl; omega)
   have hr2:room ((runsK t A e r pos i).length+1) 48=true:=decide_eq_true (by omega)
   refine NB_intro (idx_ok hi) (NB_intro (by rw [hre]; simp) (NB_intro (by rw [hr2]; simp) ⟨g1+1,⟨hi,hh⟩,?_⟩))
   rw [runs_yes ⟨hh,hx⟩]
   repeat' (first|exact sub_atm _ _|exact sub_treeP _|exact sub_runP _|exact sub_stP _|exact sub_ga _|exact sub_ints _|exact sub_twig _|exact trivial|exact rfl|exact hW|exact Or.inl rfl|exact fun h=>h|exact fun _ _=>⟨sub_run _,rfl⟩|exact fun _ _=>⟨sub_mtc _,rfl⟩|refine And.intro ?_ ?_)
   ·rw [List.length_append]; rfl
   ·rw [List.length_append]; rfl
   ·exact fun k hk=>app_row sub_run (new_run t r pos i _) rfl hk
  ·have hx:¬ 0<(kidT t r.nd i).kids.length:=by have:=of_decide_eq_false hx; show ¬ 0<(t.getD (kidN t r.nd i).toNat twigD).kids.length; unfold kidN; omega
   refine ⟨g1,⟨hi,hh⟩,?_⟩;rw [runs_no fun h=>hx h.2]
   repeat' (first|exact sub_atm _ _|exact sub_treeP _|exact sub_runP _|exact sub_stP _|exact sub_ga _|exact sub_ints _|exact sub_twig _|exact trivial|exact rfl|exact hW|exact Or.inl rfl|exact fun h=>h|exact fun _ _=>⟨sub_run _,rfl⟩|exact fun _ _=>⟨sub_mtc _,rfl⟩|refine And.intro ?_ ?_)
  ·refine VB_intro (fun hx=>NB_intro (idx_ok hi) (NB_intro (asB_t ⟨sub_tree t,trivial⟩) ⟨⟨(0,0),Nat.zero_le _,?_⟩,fun q hq=>?_⟩)) (fun hx=>?_)
   ·repeat' (first|exact sub_atm _ _|exact sub_treeP _|exact sub_runP _|exact sub_stP _|exact sub_ga _|exact sub_ints _|exact sub_twig _|exact trivial|exact rfl|exact hW|exact Or.inl rfl|exact fun h=>h|exact fun _ _=>⟨sub_run _,rfl⟩|exact fun _ _=>⟨sub_mtc _,rfl⟩|refine And.intro ?_ ?_)
   ·obtain ⟨k,g⟩:=q;have hq:k<=(pathE t (kidN t r.nd i)).1.length:=hq;dsimp only
    repeat rw [show Int.toNat ((k:Nat):Int)=k from rfl]
    have hg:(SlotG.gds (pos,r.ps,())).length=r.ps.length:=rfl;refine VB_intro (fun h1=>?_) (fun h1=>?_)
    ·simp only [Bool.and_eq_true,decide_eq_true_eq] at h1;have hr3:room (k+1) 16=true:=decide_eq_true (by omega)
     have hW:=wrapS (i:=k) (by omega)
     refine NB_intro (idx_ok (by omega)) (NB_intro (idx_ok (by omega)) (NB_intro (by rw [hr3]; simp) ⟨(k+1,g+1),(show k+1<=_ by omega),(show (pathE t (kidN t r.nd i)).1.length - (k+1)<(pathE t (kidN t r.nd i)).1.length - k by omega),?_⟩))
     dsimp only
     repeat' (first|exact sub_atm _ _|exact sub_treeP _|exact sub_runP _|exact sub_stP _|exact sub_ga _|exact sub_ints _|exact sub_twig _|exact trivial|exact rfl|exact hW|exact Or.inl rfl|exact fun h=>h|exact fun _ _=>⟨sub_run _,rfl⟩|exact fun _ _=>⟨sub_mtc _,rfl⟩|refine And.intro ?_ ?_)
     exact fun j hj=>plc_row (by omega) hj
    ·have hkl:k=(pathE t (kidN t r.nd i)).1.length:=by
      refine Classical.byContradiction fun hne=>?_
      rw [decide_eq_true (by omega),decide_eq_true (by omega)] at h1
      cases h1
     have hr4:room ((mtsK t A e r pos i).length+1) 24=true:=decide_eq_true (by omega)
     have hW:=wrapS (i:=i) (by omega)
     refine NB_intro (by simp) (NB_intro (by rw [hr4]; simp) ⟨(i+1,g1,g2+1),(show i+1<=(kidsN t r.nd).length from hi),(show (kidsN t r.nd).length - (i+1)<(kidsN t r.nd).length - i by omega),?_⟩)
     dsimp only;rw [mts_yes ⟨hh,hx⟩]
     repeat' (first|exact sub_atm _ _|exact sub_treeP _|exact sub_runP _|exact sub_stP _|exact sub_ga _|exact sub_ints _|exact sub_twig _|exact trivial|exact rfl|exact hW|exact Or.inl rfl|exact fun h=>h|exact fun _ _=>⟨sub_run _,rfl⟩|exact fun _ _=>⟨sub_mtc _,rfl⟩|refine And.intro ?_ ?_)
     ·rw [List.length_append]; rfl
     ·rw [List.length_append]; rfl
     ·exact fun j hj=>app_row sub_mtc (new_mtc (pos,r.ps,()) _ hkl _) rfl hj
   ·have hW:=wrapS (i:=i) (by omega)
    refine ⟨(i+1,g1,g2),(show i+1<=(kidsN t r.nd).length from hi),(show (kidsN t r.nd).length - (i+1)<(kidsN t r.nd).length - i by omega),?_⟩
    dsimp only;rw [mts_no (by rw [hx]; simp)]
    repeat' (first|exact sub_atm _ _|exact sub_treeP _|exact sub_runP _|exact sub_stP _|exact sub_ga _|exact sub_ints _|exact sub_twig _|exact trivial|exact rfl|exact hW|exact Or.inl rfl|exact fun h=>h|exact fun _ _=>⟨sub_run _,rfl⟩|exact fun _ _=>⟨sub_mtc _,rfl⟩|refine And.intro ?_ ?_)
 ·have h:=of_decide_eq_false h;obtain rfl:i=(kidsN t r.nd).length:=by omega
  refine NB_intro (by simp) ⟨⟨rfl,fun k _=>?_,fun h=>by cases h⟩,⟨rfl,fun k _=>?_,fun h=>by cases h⟩,trivial⟩
  ·rw [Nat.zero_add];exact ⟨sub_run _,rfl⟩
  ·rw [Nat.zero_add];exact ⟨sub_mtc _,rfl⟩
abbrev sndE (e:StG):Int:=soundS e.no e.od e.tk e.kd
noncomputable def stE (t:List TwigG) (m:Nat) (A:Ats) (e:StG) (pos:Int):Int:=if fitE t m A≠0 then fitE t m A else if sndE e≠0 then sndE e else if pos<0 then 2 else 0
noncomputable def exE (t:List TwigG) (m:Nat) (A:Ats) (e:StG) (r:RunG) (pos:Int):Int:=if ckE t m A r≠0 then ckE t m A r else if sndE e≠0 then sndE e else if pos<=r.ps.getD (r.ps.length - 1) 0\/e.tk<r.fs then 9 else 0
abbrev run0 (e:StG):RunG:=(0,[],e.tk,0,())
noncomputable def EStR (t:List TwigG) (m:Nat) (A:Ats) (e:StG) (pos:Int) (R:List RunG) (M:List MtG):Env:=mkG Tryz.prog Pd.gN (tblOf [(81,cAs [treeA t,Pd.atsAV m A] (.int .i64 (fitE t m A))),(82,cSound),(83,cAsIf (decide (fitE t m A=0)) [treeA t,atmA m A,runA (run0 e),stA e,.int .i64 pos] (.tup [runsA R,mtcsA M]))]) (fun _ _=>none) 0
noncomputable def EExR (t:List TwigG) (m:Nat) (A:Ats) (e:StG) (r:RunG) (pos:Int) (R:List RunG) (M:List MtG):Env:=mkG Tryz.prog Pd.gN (tblOf [(87,cAs [treeA t,Pd.atsAV m A,runA r] (.int .i64 (ckE t m A r))),(82,cSound),(83,cAsIf (decide (ckE t m A r=0)) [treeA t,atmA m A,runA r,stA e,.int .i64 pos] (.tup [runsA R,mtcsA M]))]) (fun _ _=>none) 0
theorem startR_vc (t:List TwigG) (m:Nat) (A:Ats) (e:StG) (pos:Int) (R R':List RunG) (M M':List MtG) (f:Int):(vcFun (EStR t m A e pos R M) 20 30 [treeA t,atmA m A,stA e,.int .i64 pos] .nil 0 (retP 3 (.tup [runsA R',mtcsA M',.int .i64 f]))).sat=(let c1:=(fun j:Nat=> AV.agg [AV.int .i64 (A.K j),AV.bool (A.B j),AV.int .u64 (A.O j),AV.rof (A.N j) (fun i:Nat=> AV.agg [AV.int .i64 (A.P j i),AV.int .i64 (A.V j i)]) false,AV.str (A.M j)])
 let c0:=(NB (decide (fitE t m A=(0:Int))&&asB [AV.agg [AV.rof t.length (fun k:Nat=> twigA (t.getD k twigD)) false],AV.rof m c1 false,AV.agg [AV.int .i64 (0:Int),AV.nils,AV.int .u64 e.tk,AV.int .u64 (0:Int)],AV.agg [AV.int .u64 e.lb,AV.int .u64 e.no,AV.int .u64 e.od,AV.int .u64 e.tk,AV.int .i64 e.kd,AV.int .i64 e.vl],AV.int .i64 pos] [treeA t,atmA m A,runA (run0 e),stA e,AV.int .i64 pos]) ((R.length=R'.length/\(∀ i:Nat,i<R.length->(runA (R.getD i runD)).sub (runA (R'.getD i runD))/\(runA (R.getD i runD)).cells.length=(runA (R'.getD i runD)).cells.length)/\(false=true->false=true))/\(M.length=M'.length/\(∀ i:Nat,i<M.length->(mtcA (M.getD i [])).sub (mtcA (M'.getD i []))/\(mtcA (M.getD i [])).cells.length=(mtcA (M'.getD i [])).cells.length)/\(false=true->false=true))/\(0:Int)=f/\True))
 NB (asB [AV.agg [AV.rof t.length (fun k:Nat=> twigA (t.getD k twigD)) false],AV.rof m c1 false] [treeA t,Pd.atsAV m A]) (VB (fitE t m A==(0:Int)) (VB (soundS e.no e.od e.tk e.kd==(0:Int)&&decide (pos<(0:Int))) (R'.length=0/\M'.length=0/\(2:Int)=f/\True) (VB (soundS e.no e.od e.tk e.kd !=(0:Int)) (R'.length=0/\M'.length=0/\soundS e.no e.od e.tk e.kd=f/\True) c0)) (VB (fitE t m A==(0:Int)&&decide (pos<(0:Int))) (R'.length=0/\M'.length=0/\(2:Int)=f/\True) (VB (fitE t m A !=(0:Int)) (R'.length=0/\M'.length=0/\fitE t m A=f/\True) c0)))):=by
 kernel_rfl
theorem extR_vc (t:List TwigG) (m:Nat) (A:Ats) (e:StG) (r:RunG) (pos w:Int) (R R':List RunG) (M M':List MtG) (f:Int):(vcFun (EExR t m A e r pos R M) 20 34 [treeA t,atmA m A,runA r,stA e,.int .i64 pos,.int .u64 w] .nil 0 (retP 3 (.tup [runsA R',mtcsA M',.int .i64 f]))).sat=(let c1:=(fun j:Nat=> AV.agg [AV.int .i64 (A.K j),AV.bool (A.B j),AV.int .u64 (A.O j),AV.rof (A.N j) (fun i:Nat=> AV.agg [AV.int .i64 (A.P j i),AV.int .i64 (A.V j i)]) false,AV.str (A.M j)])
 let c0:=(VB (decide (IntKind.u64.wrap (e.tk - r.fs) > w)) (R'.length=0/\M'.length=0/\(0:Int)=f/\True) (NB (decide (ckE t m A r=(0:Int))&&asB [AV.agg [AV.rof t.length (fun k:Nat=> twigA (t.getD k twigD)) false],AV.rof m c1 false,AV.agg [AV.int .i64 r.nd,AV.rof r.ps.length (fun k:Nat=> AV.int .i64 (r.ps.getD k (0:Int))) false,AV.int .u64 r.fs,AV.int .u64 r.bl],AV.agg [AV.int .u64 e.lb,AV.int .u64 e.no,AV.int .u64 e.od,AV.int .u64 e.tk,AV.int .i64 e.kd,AV.int .i64 e.vl],AV.int .i64 pos] [treeA t,atmA m A,runA r,stA e,AV.int .i64 pos]) ((R.length=R'.length/\(∀ i:Nat,i<R.length->(runA (R.getD i runD)).sub (runA (R'.getD i runD))/\(runA (R.getD i runD)).cells.length=(runA (R'.getD i runD)).cells.length)/\(false=true->false=true))/\(M.length=M'.length/\(∀ i:Nat,i<M.length->(mtcA (M.getD i [])).sub (mtcA (M'.getD i []))/\(mtcA (M.getD i [])).cells.length=(mtcA (M'.getD i [])).cells.length)/\(false=true->false=true))/\(0:Int)=f/\True)))
 let c2:=((r.ps.length:Int) - (1:Int))
 let c3:=(decide (pos<=r.ps.getD (IntKind.i64.wrap c2).toNat (0:Int))||decide (e.tk<r.fs))
 let c4:=(decide ((0:Int)<=IntKind.i64.wrap c2/\IntKind.i64.wrap c2<(r.ps.length:Int)))
 NB (asB [AV.agg [AV.rof t.length (fun k:Nat=> twigA (t.getD k twigD)) false],AV.rof m c1 false,AV.agg [AV.int .i64 r.nd,AV.rof r.ps.length (fun k:Nat=> AV.int .i64 (r.ps.getD k (0:Int))) false,AV.int .u64 r.fs,AV.int .u64 r.bl]] [treeA t,Pd.atsAV m A,runA r]) (VB (ckE t m A r==(0:Int)) (NB (impB (isW true (soundS e.no e.od e.tk e.kd==(0:Int))) c4) (VB (soundS e.no e.od e.tk e.kd==(0:Int)&&c3) (R'.length=0/\M'.length=0/\(9:Int)=f/\True) (VB (soundS e.no e.od e.tk e.kd !=(0:Int)) (R'.length=0/\M'.length=0/\soundS e.no e.od e.tk e.kd=f/\True) c0))) (NB (impB (isW true (ckE t m A r==(0:Int))) c4) (VB (ckE t m A r==(0:Int)&&c3) (R'.length=0/\M'.length=0/\(9:Int)=f/\True) (VB (ckE t m A r !=(0:Int)) (R'.length=0/\M'.length=0/\ckE t m A r=f/\True) c0))))):=by
 kernel_rfl
abbrev OutG:=List RunG×List MtG×Int
noncomputable def startO (t:List TwigG) (m:Nat) (A:Ats) (e:StG) (pos:Int):OutG:=if stE t m A e pos≠0 then ([],[],stE t m A e pos) else (runsK t A e (run0 e) pos (kidsN t 0).length,mtsK t A e (run0 e) pos (kidsN t 0).length,0)
noncomputable def extO (t:List TwigG) (m:Nat) (A:Ats) (e:StG) (r:RunG) (pos w:Int):OutG:=if exE t m A e r pos≠0 then ([],[],exE t m A e r pos) else if w<e.tk - r.fs then ([],[],0) else (runsK t A e r pos (kidsN t r.nd).length,mtsK t A e r pos (kidsN t r.nd).length,0)
structure OKt (t:List TwigG) (m:Nat) (A:Ats) (e:StG):Prop where
 hs:shortT t=true
 hk:kids20 t
 hA:Pd.atsOK m A
 hl:Pd.u64B e.lb=true
 ht:Pd.u64B e.tk=true
structure OKn (r:RunG):Prop where
 hb:r.ps.length<=1000
 hbl:Pd.u64B r.bl=true
 hfs:Pd.u64B r.fs=true
theorem ck_run {t:List TwigG} {m:Nat} {A:Ats} {r:RunG} (h:ckE t m A r=0):fitE t m A=0/\1<=r.nd/\r.nd<t.length/\r.ps.length=(upL t r.nd).length/\1<=r.ps.length:=by
 unfold ckE at h;split at h
 ·rename_i h1;exact (h1 h).elim
 rename_i h1;have h1:fitE t m A=0:=by simpa using h1
 obtain ⟨hc,_⟩:=ck_all h1;split at h
 ·cases h
 rename_i h2;split at h
 ·cases h
 split at h
 ·cases h
 rename_i h4;have h4:r.ps.length=(pathE t r.nd).1.length:=by omega
 have h5:(pathE t r.nd).1.length=(upL t r.nd).length:=by
  unfold pathE;rw [if_neg (by simpa using hc),if_neg (by omega)]
  simp [atomsL]
 have h6:=upL_par (trie_of hc).1 (i:=r.nd.toNat) (by omega) (by omega)
 rw [show ((r.nd.toNat:Nat):Int)=r.nd by omega] at h6
 refine ⟨h1,by omega,by omega,by omega,?_⟩
 rw [h4,h5,h6,List.length_append];exact Nat.le_add_left _ _
theorem okr_start {t:List TwigG} {m:Nat} {A:Ats} {e:StG} (o:OKt t m A e) (h:fitE t m A=0):OKr t m A e (run0 e) :=
 ⟨o.hs,o.hk,h,o.hA,o.hl,Int.le_refl _,by have:=(trie_of (ck_all h).1).1.pos; show (0:Int)<_; omega,rfl,Nat.zero_le _⟩
theorem okr_ext {t:List TwigG} {m:Nat} {A:Ats} {e:StG} {r:RunG} (o:OKt t m A e) (n:OKn r) (h:ckE t m A r=0):OKr t m A e r:=by
 obtain ⟨h1,h2,h3,h4,_⟩:=ck_run h;exact ⟨o.hs,o.hk,h1,o.hA,o.hl,by omega,h3,h4,n.hb⟩
theorem nil3 {R:List RunG} {M:List MtG} {f f0:Int} (h:(([],[],f0):OutG)=(R,M,f)):R.length=0/\M.length=0/\f0=f/\True:=by
 cases h;exact ⟨rfl,rfl,rfl,trivial⟩
theorem out3 {R R':List RunG} {M M':List MtG} {f:Int} (h:(((R,M,0)):OutG)=(R',M',f)):(R.length=R'.length/\(∀ (i:Nat),i<R.length->(runA (R.getD i runD)).sub (runA (R'.getD i runD))/\(runA (R.getD i runD)).cells.length=(runA (R'.getD i runD)).cells.length)/\(false=true->false=true)) /\
  (M.length=M'.length/\(∀ (i:Nat),i<M.length->(mtcA (M.getD i [])).sub (mtcA (M'.getD i []))/\(mtcA (M.getD i [])).cells.length=(mtcA (M'.getD i [])).cells.length)/\(false=true->false=true))/\(0:Int)=f/\True:=by
 cases h;exact ⟨⟨rfl,fun _ _=>⟨sub_run _,rfl⟩,fun h=>h⟩,⟨rfl,fun _ _=>⟨sub_mtc _,rfl⟩,fun h=>h⟩,rfl,trivial⟩
theorem run0_sub (e:StG):(AV.agg [.int .i64 0,.nils,.int .u64 e.tk,.int .u64 0]).sub (runA (run0 e)):=⟨rfl,rfl,rfl,rfl,trivial⟩
theorem startR_pure {t:List TwigG} {m:Nat} {A:Ats} {e:StG} (pos:Int) (o:OKt t m A e) (R':List RunG) (M':List MtG) (f:Int) (hr:startO t m A e pos=(R',M',f)) :
  PureC Tryz.prog Pd.gN 30 [treeA t,atmA m A,stA e,.int .i64 pos] (.tup [runsA R',mtcsA M',.int .i64 f]):=by
 refine PureC.of_vc (E:=EStR t m A e pos (runsK t A e (run0 e) pos (kidsN t 0).length) (mtsK t A e (run0 e) pos (kidsN t 0).length)) (k:=20) (d:=3) mix
  (mkG_ctr (tblG_cons (cAsG_ok (fitR_pure t m A _ o.hs o.hA rfl)) (tblG_cons soundR_ok.up (tblG_cons (cAsIfG_ok fun h=>reach_pure pos (okr_start o (of_decide_eq_true h))) (tblG_nil _ _))))) ((startR_vc t m A e pos _ _ _ _ _).mpr ?_)
 unfold startO stE at hr;refine NB_intro (asB_t ⟨sub_tree t,sub_atm m A,trivial⟩) (VB_intro (fun h0=>?_) (fun h0=>VB_intro (fun h1=>?_) (fun h1=>VB_intro (fun h2=>?_) (fun h2=>?_))))
 ·have h0:fitE t m A=0:=by simpa using h0
  rw [if_neg (show ¬ fitE t m A≠0 by simpa using h0)] at hr
  refine VB_intro (fun h1=>?_) (fun h1=>VB_intro (fun h2=>?_) (fun h2=>?_))
  ·simp only [Bool.and_eq_true,beq_iff_eq,decide_eq_true_eq] at h1;rw [if_neg (show ¬ sndE e≠0 by simpa using h1.1),if_pos h1.2] at hr
   exact nil3 hr
  ·have h2:sndE e≠0:=by simpa using h2
   rw [if_pos h2,if_pos h2] at hr;exact nil3 hr
  ·have h2:sndE e=0:=by simpa using h2
   have h3:¬ pos<0:=fun h=>by rw [decide_eq_true h,Bool.and_true] at h1; simp at h1; exact h1 h2
   rw [if_neg (show ¬ sndE e≠0 by simpa using h2),if_neg h3] at hr
   exact NB_intro (by rw [decide_eq_true h0]; exact asB_t ⟨sub_tree t,sub_atm m A,run0_sub e,sub_st e,rfl,trivial⟩) (out3 hr)
 ·simp only [Bool.and_eq_true] at h1;rw [h0] at h1;cases h1.1
 ·have h2:fitE t m A≠0:=by simpa using h2
  rw [if_pos h2,if_pos h2] at hr;exact nil3 hr
 ·have h0:fitE t m A≠0:=by simpa using h0
  exact (h0 (by simpa using h2)).elim
theorem extR_pure {t:List TwigG} {m:Nat} {A:Ats} {e:StG} {r:RunG} (pos w:Int) (o:OKt t m A e) (n:OKn r) (R':List RunG) (M':List MtG) (f:Int) (hr:extO t m A e r pos w=(R',M',f)) :
  PureC Tryz.prog Pd.gN 34 [treeA t,atmA m A,runA r,stA e,.int .i64 pos,.int .u64 w] (.tup [runsA R',mtcsA M',.int .i64 f]):=by
 refine PureC.of_vc (E:=EExR t m A e r pos (runsK t A e r pos (kidsN t r.nd).length) (mtsK t A e r pos (kidsN t r.nd).length)) (k:=20) (d:=3) mix
  (mkG_ctr (tblG_cons (cAsG_ok (ckR_pure t m A r _ o.hs o.hA n.hb o.hk n.hbl rfl)) (tblG_cons soundR_ok.up (tblG_cons (cAsIfG_ok fun h=>reach_pure pos (okr_ext o n (of_decide_eq_true h))) (tblG_nil _ _))))) ((extR_vc t m A e r pos w _ _ _ _ _).mpr ?_)
 unfold extO exE at hr;have hn:=n.hb;have hu1:=Pd.u64B_iff.1 o.ht;have hu2:=Pd.u64B_iff.1 n.hfs;refine NB_intro (asB_t ⟨sub_tree t,sub_atm m A,sub_run r,trivial⟩) (VB_intro (fun h0=>?_) (fun h0=>?_))
 ·have h0:ckE t m A r=0:=by simpa using h0
  rw [if_neg (show ¬ ckE t m A r≠0 by simpa using h0)] at hr
  have hp:=(ck_run h0).2.2.2.2;have hw1:IntKind.i64.wrap ((r.ps.length:Int) - 1)=((r.ps.length - 1:Nat):Int):=by rw [wrap_i64_id (by omega) (by omega)]; omega
  rw [hw1,Int.toNat_natCast];refine NB_intro (impB_of fun _=>idx_ok (by omega)) (VB_intro (fun h1=>?_) (fun h1=>VB_intro (fun h2=>?_) (fun h2=>?_)))
  ·simp only [Bool.and_eq_true,beq_iff_eq,decide_eq_true_eq,Bool.or_eq_true] at h1;rw [if_neg (show ¬ sndE e≠0 by simpa using h1.1),if_pos h1.2] at hr
   exact nil3 hr
  ·have h2:sndE e≠0:=by simpa using h2
   rw [if_pos h2,if_pos h2] at hr;exact nil3 hr
  ·have h2:sndE e=0:=by simpa using h2
   have h3:¬ (pos<=r.ps.getD (r.ps.length - 1) 0\/e.tk<r.fs):=fun h=>by
    have:(decide (pos<=r.ps.getD (r.ps.length - 1) 0)||decide (e.tk<r.fs))=true:=by simpa using h
    rw [this,Bool.and_true] at h1;simp at h1;exact h1 h2
   rw [if_neg (show ¬ sndE e≠0 by simpa using h2),if_neg h3] at hr
   rw [wrap_u64_id (show 0<=e.tk - r.fs by omega) (by omega)]
   refine VB_intro (fun h4=>?_) (fun h4=>?_)
   ·rw [if_neg (by simp),if_pos (of_decide_eq_true h4)] at hr
    exact nil3 hr
   ·rw [if_neg (by simp),if_neg (of_decide_eq_false h4)] at hr
    exact NB_intro (by rw [decide_eq_true h0]; exact asB_t ⟨sub_tree t,sub_atm m A,sub_run r,sub_st e,rfl,trivial⟩) (out3 hr)
 ·have hne:ckE t m A r≠0:=by simpa using h0
  rw [h0];refine NB_intro (impB_of fun h=>by cases h) (VB_intro (fun h1=>by cases h1) (fun h1=>VB_intro (fun h2=>?_) (fun h2=>?_)))
  ·rw [if_pos hne,if_pos hne] at hr;exact nil3 hr
  ·exact (hne (by simpa using h2)).elim
end Go.Proofs.YtlnpgnipocbfhaaGreatDoor
