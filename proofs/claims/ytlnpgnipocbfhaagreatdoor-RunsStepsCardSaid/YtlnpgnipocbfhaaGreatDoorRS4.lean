/- RUNS 4: which runs are right: conditions of both codes. -/
import Derived.Test.YtlnpgnipocbfhaaGreatDoorRS3
namespace Go.Proofs.YtlnpgnipocbfhaaGreatDoor
open Pw Go
set_option maxRecDepth 100000
abbrev RunG:=Int×List Int×Int×Int×Unit
abbrev RunG.nd (r:RunG):Int:=r.1
abbrev RunG.ps (r:RunG):List Int:=r.2.1
abbrev RunG.fs (r:RunG):Int:=r.2.2.1
abbrev RunG.bl (r:RunG):Int:=r.2.2.2.1
def runA (r:RunG):AV:=.agg [.int .i64 r.nd,intsA r.ps,.int .u64 r.fs,.int .u64 r.bl]
def bitB (b:Int) (i:Nat):Bool:=Pd.bitS b i
def opN (b:Int) (k:Int):Nat->Nat
 | 0=>0
 | i+1=>if (i:Int)<k/\bitB b i=false then opN b k i+1 else opN b k i
def wrB (b:Int) (k:Int):Nat->Bool
 | 0=>false
 | i+1=>wrB b k i||(decide (k<=(i:Int))&&bitB b i)
def invBi (b k:Int):Inv:=⟨Nat,1,fun i=>⟨[(0,.int .u64 b),(1,.int .i64 k),(4,.int .i64 (opN b k i)),(5,.bool (wrB b k i)),(8,.int .i64 i)],[]⟩,fun i=>i<=64,fun i=>64 - i⟩
noncomputable def EBi (b k:Int):Env:=mkE Tryz.prog (tblOf []) (fun f l=>if f=89/\l=0 then some (invBi b k) else none)
def cBits:Ctr
 | [.int .u64 b,.int .i64 k]=>some (true,.tup [.int .i64 (opN b k 64),.bool (wrB b k 64)])
 | _=>none
def kidsN (t:List TwigG) (a:Int):List Int:=(t.getD a.toNat twigD).kids
def openS (b:Int) (n:Nat):Bool:=(List.range n).any fun i=>!bitB b i
def invOp (t:List TwigG) (r:RunG):Inv:=⟨Nat,5,fun i=>⟨[(2,.ptr 0 0 0 0),(3,.ptr 1 0 0 0),(5,.int .i64 i)],[(0,.row 0 1 true (.lst [treeA t])),(1,.row 0 4 true (.lst [runA r]))]⟩,fun i=>i<=(kidsN t r.nd).length/\∀ j,j<i->bitB r.bl j=true,fun i=>(kidsN t r.nd).length - i⟩
noncomputable def EOp (t:List TwigG) (r:RunG):Env:=mkE Tryz.prog (tblOf []) (fun f l=>if f=91/\l=0 then some (invOp t r) else none)
def prevP (P:List Int):Nat->Int
 | 0=>-1
 | j+1=>P.getD j 0
def posOK (P:List Int):Bool:=(List.range P.length).all fun j=>decide (prevP P j<P.getD j 0)
def invCk (r:RunG) (k:Nat):Inv:=⟨Nat,60,fun i=>⟨[(5,.ptr 1 0 0 0),(8,.int .i64 k),(11,.int .i64 (prevP r.ps i)),(58,intsA r.ps),(59,.int .i64 r.ps.length),(60,.int .i64 i)],[(1,.row 0 4 true (.lst [runA r]))]⟩,fun i=>i<=r.ps.length/\∀ j,j<i->prevP r.ps j<r.ps.getD j 0,fun i=>r.ps.length - i⟩
noncomputable def ECi (t:List TwigG) (m:Nat) (A:Ats) (r:RunG):Env:=mkG Tryz.prog Pd.gN (tblOf [(76,cAs [treeA t,Pd.atsAV m A] (.int .i64 (fitE t m A))),(62,cAs [treeA t,.int .i64 r.nd] (.tup [.int .i64 (pathE t r.nd).1.length,.int .i64 (pathE t r.nd).2])),(89,cBits)])
 (fun f l=>if f=85/\l=1 then some (invCk r (kidsN t r.nd).length) else none) 0
def invCr (t:List TwigG) (r:RunG) (k:Nat):Inv:=⟨Nat,60,fun i=>⟨[(3,.ptr 0 0 0 0),(5,.ptr 1 0 0 0),(8,.int .i64 k),(11,.int .i64 i)],[(0,.row 0 1 true (.lst [treeA t])),(1,.row 0 4 true (.lst [runA r]))]⟩,fun i=>i<=r.ps.length/\∀ j,j<i->prevP r.ps j<r.ps.getD j 0,fun i=>r.ps.length - i⟩
noncomputable def ECr (t:List TwigG) (m:Nat) (A:Ats) (r:RunG):Env:=mkG Tryz.prog Pd.gN (tblOf [(81,cAs [treeA t,Pd.atsAV m A] (.int .i64 (fitE t m A))),(127,cAs [treeA t,.int .i64 r.nd] (.tup [intsA (pathE t r.nd).1,.int .i64 (pathE t r.nd).2])),(91,cAsIf (decide (0<=r.nd)&&decide (r.nd<t.length)) [treeA t,runA r] (.bool (openS r.bl (kidsN t r.nd).length)))])
 (fun f l=>if f=87/\l=0 then some (invCr t r (kidsN t r.nd).length) else none) 0
theorem bits_vc (b k:Int):(vcFun (EBi b k) 20 89 [.int .u64 b,.int .i64 k] .nil 0 (retP 3 (.tup [.int .i64 (opN b k 64),.bool (wrB b k 64)]))).sat=((∃ i:Nat,i.le 64/\(b=b/\k=k/\(0:Int)=(↑(opN b k i):Int)/\false=wrB b k i/\(0:Int)=(i:Int)/\True)/\True)/\∀ i:Nat,i.le 64->VB (decide ((i:Int)<(64:Int))) (VB (decide ((i:Int)>=k)) (∃ i':Nat,i'.le 64/\(invBi b k).μ i'<(invBi b k).μ i/\(b=b/\k=k/\(↑(opN b k i):Int)=(↑(opN b k i'):Int)/\(wrB b k i||andI .u64 (shrI .u64 b (i:Int)) (1:Int)==(1:Int))=wrB b k i'/\IntKind.i64.wrap ((i:Int)+(1:Int))=(i':Int)/\True)/\True) (VB (!andI .u64 (shrI .u64 b (i:Int)) (1:Int)==(1:Int)) (∃ i':Nat,i'.le 64/\(invBi b k).μ i'<(invBi b k).μ i/\(b=b/\k=k/\IntKind.i64.wrap ((↑(opN b k i):Int)+(1:Int))=(↑(opN b k i'):Int)/\wrB b k i=wrB b k i'/\IntKind.i64.wrap ((i:Int)+(1:Int))=(i':Int)/\True)/\True) (∃ i':Nat,i'.le 64/\(invBi b k).μ i'<(invBi b k).μ i/\(b=b/\k=k/\(↑(opN b k i):Int)=(↑(opN b k i'):Int)/\wrB b k i=wrB b k i'/\IntKind.i64.wrap ((i:Int)+(1:Int))=(i':Int)/\True)/\True))) ((↑(opN b k i):Int)=(↑(opN b k 64):Int)/\wrB b k i=wrB b k 64/\True)):=by
 kernel_rfl
theorem open_vc (t:List TwigG) (r:RunG) (v:Bool):(vcFun (EOp t r) 20 91 [treeA t,runA r] .nil 0 (retP 3 (.bool v))).sat=(let c0:=(0=0/\(true=true->true=true)/\((r.nd=r.nd/\(r.ps.length=r.ps.length/\(∀ i:Nat,i<r.ps.length->r.ps.getD i (0:Int)=r.ps.getD i (0:Int)/\1=1)/\(false=true->false=true))/\r.fs=r.fs/\r.bl=r.bl/\True)/\4=4)/\True)
 let c1:=(0=0/\0=0/\0=0)
 let c2:=(0=0/\(true=true->true=true)/\((treeA t).sub (treeA t)/\(treeA t).cells.length=(treeA t).cells.length)/\True)
 let c3:=fun i:Nat=> (i<=(kidsN t r.nd).length/\∀ j:Nat,j<i->bitB r.bl j=true)
 (∃ i:Nat,(c3 i)/\(c1/\c1/\(0:Int)=(i:Int)/\True)/\c2/\c0/\True)/\∀ i:Nat,(c3 i)->NB (decide ((0:Int)<=r.nd/\r.nd<(t.length:Int))) (VB (decide ((i:Int)<(↑(t.getD r.nd.toNat twigD).kids.length:Int))) (VB (andI .u64 (shrI .u64 r.bl (IntKind.u64.wrap (i:Int))) (1:Int)==(0:Int)) (true=v) (∃ i':Nat,(c3 i')/\(invOp t r).μ i'<(invOp t r).μ i/\(c1/\c1/\IntKind.i64.wrap ((i:Int)+(1:Int))=(i':Int)/\True)/\c2/\c0/\True)) (false=v))):=by
 kernel_rfl
theorem ckI_vc (t:List TwigG) (m:Nat) (A:Ats) (r:RunG) (e:Int):(vcFun (ECi t m A r) 20 85 [treeA t,Pd.atsAV m A,runA r] .nil 0 (retP 3 (.int .i64 e))).sat=(let c0:=(0=0/\(true=true->true=true)/\((r.nd=r.nd/\(r.ps.length=r.ps.length/\(∀ i:Nat,i<r.ps.length->r.ps.getD i (0:Int)=r.ps.getD i (0:Int)/\1=1)/\(false=true->false=true))/\r.fs=r.fs/\r.bl=r.bl/\True)/\4=4)/\True)
 let c1:=fun i:Nat=> (i<=r.ps.length/\∀ j:Nat,j<i->prevP r.ps j<r.ps.getD j (0:Int))
 let c2:=(↑(kidsN t r.nd).length:Int)
 NB (asB [AV.agg [AV.rof t.length (fun k:Nat=> twigA (t.getD k twigD)) false],AV.rof m (fun j:Nat=> AV.agg [AV.int .i64 (A.K j),AV.bool (A.B j),AV.int .u64 (A.O j),AV.rof (A.N j) (fun i:Nat=> AV.agg [AV.int .i64 (A.P j i),AV.int .i64 (A.V j i)]) false,AV.str (A.M j)]) false] [treeA t,Pd.atsAV m A]) (VB (fitE t m A !=(0:Int)) (fitE t m A=e) (VB (decide (r.nd<(1:Int))||decide (r.nd>=(t.length:Int))) ((2:Int)=e) (NB (decide ((0:Int)<=r.nd/\r.nd<(t.length:Int))) (NB (asB [AV.agg [AV.rof t.length (fun k:Nat=> twigA (t.getD k twigD)) false],AV.int .i64 r.nd] [treeA t,AV.int .i64 r.nd]) (VB ((↑(t.getD r.nd.toNat twigD).kids.length:Int)==(0:Int)) ((10:Int)=e) (VB ((r.ps.length:Int) !=(↑(pathE t r.nd).fst.length:Int)) ((3:Int)=e) ((∃ i:Nat,(c1 i)/\((0=0/\0=0/\0=0)/\(↑(t.getD r.nd.toNat twigD).kids.length:Int)=c2/\(-1:Int)=prevP r.ps i/\(intsA r.ps).sub (intsA r.ps)/\(r.ps.length:Int)=(r.ps.length:Int)/\(0:Int)=(i:Int)/\True)/\c0/\True)/\∀ i:Nat,(c1 i)->VB (decide ((i:Int)<(r.ps.length:Int))) (NB (decide ((0:Int)<=(i:Int)/\(i:Int)<(r.ps.length:Int))) (VB (decide (r.ps.getD (i:Int).toNat (0:Int)<=prevP r.ps i)) ((9:Int)=e) (∃ i':Nat,(c1 i')/\(invCk r (kidsN t r.nd).length).μ i'<(invCk r (kidsN t r.nd).length).μ i/\((0=0/\0=0/\0=0)/\c2=c2/\r.ps.getD (i:Int).toNat (0:Int)=prevP r.ps i'/\(intsA r.ps).sub (intsA r.ps)/\(r.ps.length:Int)=(r.ps.length:Int)/\IntKind.i64.wrap ((i:Int)+(1:Int))=(i':Int)/\True)/\c0/\True))) (VB (decide (r.fs > (1099511627776:Int))) ((2:Int)=e) (VB (wrB r.bl c2 64) ((3:Int)=e) (VB ((↑(opN r.bl c2 64):Int)==(0:Int)) ((10:Int)=e) ((0:Int)=e)))))))))))):=by
 kernel_rfl
theorem ckR_vc (t:List TwigG) (m:Nat) (A:Ats) (r:RunG) (e:Int):(vcFun (ECr t m A r) 20 87 [treeA t,Pd.atsAV m A,runA r] .nil 0 (retP 3 (.int .i64 e))).sat=(let c0:=(0=0/\(true=true->true=true)/\((r.nd=r.nd/\(r.ps.length=r.ps.length/\(∀ i:Nat,i<r.ps.length->r.ps.getD i (0:Int)=r.ps.getD i (0:Int)/\1=1)/\(false=true->false=true))/\r.fs=r.fs/\r.bl=r.bl/\True)/\4=4)/\True)
 let c1:=(0=0/\0=0/\0=0)
 let c2:=(0=0/\(true=true->true=true)/\((treeA t).sub (treeA t)/\(treeA t).cells.length=(treeA t).cells.length)/\True)
 let c3:=fun i:Nat=> (i<=r.ps.length/\∀ j:Nat,j<i->prevP r.ps j<r.ps.getD j (0:Int))
 let c4:=(↑(kidsN t r.nd).length:Int)
 let c5:=fun i:Nat=> (isW false (decide (r.ps.getD (i:Int).toNat (0:Int)<(0:Int)))&&isW true (decide ((i:Int) > (0:Int))))
 NB (asB [AV.agg [AV.rof t.length (fun k:Nat=> twigA (t.getD k twigD)) false],AV.rof m (fun j:Nat=> AV.agg [AV.int .i64 (A.K j),AV.bool (A.B j),AV.int .u64 (A.O j),AV.rof (A.N j) (fun i:Nat=> AV.agg [AV.int .i64 (A.P j i),AV.int .i64 (A.V j i)]) false,AV.str (A.M j)]) false] [treeA t,Pd.atsAV m A]) (VB (fitE t m A !=(0:Int)) (fitE t m A=e) (VB (decide (r.nd<(1:Int))||decide (r.nd>=(t.length:Int))) ((2:Int)=e) (NB (decide ((0:Int)<=r.nd/\r.nd<(t.length:Int))) (VB ((↑(t.getD r.nd.toNat twigD).kids.length:Int)==(0:Int)) ((10:Int)=e) (NB (asB [AV.agg [AV.rof t.length (fun k:Nat=> twigA (t.getD k twigD)) false],AV.int .i64 r.nd] [treeA t,AV.int .i64 r.nd]) (VB ((↑(pathE t r.nd).fst.length:Int) !=(r.ps.length:Int)) ((3:Int)=e) ((∃ i:Nat,(c3 i)/\(c1/\c1/\(↑(t.getD r.nd.toNat twigD).kids.length:Int)=c4/\(0:Int)=(i:Int)/\True)/\c2/\c0/\True)/\∀ i:Nat,(c3 i)->VB (decide ((i:Int)<(r.ps.length:Int))) (NB (decide ((0:Int)<=(i:Int)/\(i:Int)<(r.ps.length:Int))) (NB (impB (c5 i) (decide ((0:Int)<=(i:Int)/\(i:Int)<(r.ps.length:Int)))) (NB (impB (c5 i) (decide ((0:Int)<=IntKind.i64.wrap ((i:Int) - (1:Int))/\IntKind.i64.wrap ((i:Int) - (1:Int))<(r.ps.length:Int)))) (VB (decide (r.ps.getD (i:Int).toNat (0:Int)<(0:Int))||decide ((i:Int) > (0:Int))&&decide (r.ps.getD (i:Int).toNat (0:Int)<=r.ps.getD (IntKind.i64.wrap ((i:Int) - (1:Int))).toNat (0:Int))) ((9:Int)=e) (∃ i':Nat,(c3 i')/\(invCr t r (kidsN t r.nd).length).μ i'<(invCr t r (kidsN t r.nd).length).μ i/\(c1/\c1/\c4=c4/\IntKind.i64.wrap ((i:Int)+(1:Int))=(i':Int)/\True)/\c2/\c0/\True))))) (VB (decide (r.fs > (1099511627776:Int))) ((2:Int)=e) (VB (decide (c4<(64:Int))&&shrI .u64 r.bl (IntKind.u64.wrap c4) !=(0:Int)) ((3:Int)=e) (NB (decide ((0:Int)<=r.nd)&&decide (r.nd<(t.length:Int))&&asB [AV.agg [AV.rof t.length (fun k:Nat=> twigA (t.getD k twigD)) false],AV.agg [AV.int .i64 r.nd,AV.rof r.ps.length (fun k:Nat=> AV.int .i64 (r.ps.getD k (0:Int))) false,AV.int .u64 r.fs,AV.int .u64 r.bl]] [treeA t,runA r]) (VB (!openS r.bl (kidsN t r.nd).length) ((10:Int)=e) ((0:Int)=e))))))))))))):=by
 kernel_rfl
theorem bit_01 (x:Int):andI .u64 x 1=0\/andI .u64 x 1=1:=by
 have e:(BitVec.ofInt IntKind.u64.bits x &&& BitVec.ofInt IntKind.u64.bits 1).toNat=(BitVec.ofInt IntKind.u64.bits x).toNat % 2:=by
  rw [BitVec.toNat_and];exact Nat.and_one_is_mod _
 simp only [andI];rw [e,wrap_u64];have:=Nat.mod_lt (BitVec.ofInt IntKind.u64.bits x).toNat (show 0<2 by decide)
 omega
theorem bit_zero (b:Int) (i:Nat):(andI .u64 (shrI .u64 b (i:Int)) 1==0)=!bitB b i:=by
 rcases bit_01 (shrI .u64 b (i:Int)) with h|h <;> simp [bitB,Pd.bitS,h]
theorem wr_iff {b k:Int}:∀ {n:Nat},wrB b k n=true ↔ ∃ i,i<n/\k<=(i:Int)/\bitB b i=true
 | 0=>by simp [wrB]
 | n+1=>by
  simp only [wrB,Bool.or_eq_true,Bool.and_eq_true,decide_eq_true_eq,wr_iff (n:=n)];constructor
  ·rintro (⟨i,h1,h2⟩|h)
   ·exact ⟨i,by omega,h2⟩
   ·exact ⟨n,by omega,h⟩
  ·rintro ⟨i,h1,h2⟩;rcases Nat.lt_or_ge i n with h|h
   ·exact .inl ⟨i,h,h2⟩
   ·obtain rfl:i=n:=by omega
    exact .inr h2
theorem op_zero {b k:Int}:∀ {n:Nat},opN b k n=0 ↔ ∀ i,i<n->(i:Int)<k->bitB b i=true
 | 0=>by simp [opN]
 | n+1=>by
  simp only [opN];by_cases h:(n:Int)<k/\bitB b n=false
  ·rw [if_pos h];refine ⟨fun e=>by omega,fun e=>?_⟩
   have:=e n (by omega) h.1
   rw [h.2] at this;cases this
  ·rw [if_neg h,op_zero (n:=n)];refine ⟨fun e i hi hk=>?_,fun e i hi=>e i (by omega)⟩
   rcases Nat.lt_or_ge i n with h1|h1
   ·exact e i h1 hk
   ·obtain rfl:i=n:=by omega
    cases hb:bitB b i with
    | true=>rfl
    | false=>exact (h ⟨hk,hb⟩).elim
theorem shr_bits {b:Int} {k:Nat} (hb:Pd.u64B b=true) (hk:k<64):(shrI .u64 b (k:Int) !=0)=wrB b (k:Int) 64:=by
 obtain ⟨h0,h1⟩:=Pd.u64B_iff.1 hb;obtain ⟨B,rfl⟩:=Int.eq_ofNat_of_zero_le h0;have hB:B<2 ^ 64:=by omega
 have e1:shrI .u64 (B:Int) (k:Int)=((B / 2 ^ k:Nat):Int):=by
  simp only [shrI,Int.toNat_natCast];rw [show min k IntKind.u64.bits=k by simp [IntKind.bits]; omega,Int.fdiv_eq_ediv_of_nonneg _ (Int.le_of_lt (Int.pow_pos (by decide)))]
  simp
 rw [e1,Bool.eq_iff_iff,wr_iff];have e2:(((B / 2 ^ k:Nat):Int) !=0)=true ↔ B / 2 ^ k≠0:=by
  rw [bne_iff_ne];omega
 rw [e2];constructor
 ·intro h;obtain ⟨j,hj⟩:=Nat.exists_testBit_of_ne_zero h;rw [Nat.testBit_div_two_pow] at hj;have h64:j+k<64:=by
   refine Classical.byContradiction fun hn=>?_
   rw [Nat.testBit_lt_two_pow (Nat.lt_of_lt_of_le hB (Nat.pow_le_pow_right (by decide) (by omega)))] at hj
   cases hj
  exact ⟨j+k,h64,by omega,by unfold bitB; rw [Pd.bitS_nat B _ hB h64]; exact hj⟩
 ·rintro ⟨i,h2,h3,h4⟩ hz;unfold bitB at h4;rw [Pd.bitS_nat B i hB h2] at h4;have:(B / 2 ^ k).testBit (i - k)=B.testBit (i - k+k):=Nat.testBit_div_two_pow _ _;rw [hz,Nat.zero_testBit,show i - k+k=i by omega,h4] at this
  cases this
theorem open_iff {b:Int} {n:Nat} (hn:n<=64):openS b n=false ↔ opN b (n:Int) 64=0:=by
 rw [op_zero,Bool.eq_false_iff];constructor
 ·intro h i _ hk;cases hb:bitB b i with
  | true=>rfl
  | false=>exact (h (List.any_eq_true.2 ⟨i,by rw [List.mem_range]; omega,by rw [hb]; rfl⟩)).elim
 ·intro h hc;obtain ⟨i,hi,e⟩:=List.any_eq_true.1 hc;rw [List.mem_range] at hi;rw [h i (by omega) (by omega)] at e
  cases e
theorem EBi_ok (b k:Int):CtrOK (EBi b k):=mkE_ctr (tbl_nil _)
theorem bits_ok:PureF Tryz.prog 89 cBits:=by
 intro args nd v he hnd;unfold cBits at he;split at he <;> cases he
 rename_i b k;refine PureC.of_vc (E:=EBi b k) (k:=20) (d:=3) mix (EBi_ok b k) ((bits_vc b k).mpr ⟨⟨0,Nat.zero_le _,⟨rfl,rfl,rfl,rfl,rfl,trivial⟩,trivial⟩,fun i hi=>?_⟩)
 have hi:i<=64:=hi;have hon:∀ n,opN b k n<=n:=by
  intro n;induction n with
  | zero=>exact Nat.le_refl _
  | succ n ih =>
   simp only [opN];split <;> omega
 have hb:(andI IntKind.u64 (shrI IntKind.u64 b (i:Int)) (1:Int)==(1:Int))=bitB b i:=rfl;refine VB_intro (fun h=>?_) (fun h=>?_)
 ·have h:=of_decide_eq_true h;rw [hb];refine VB_intro (fun h1=>?_) (fun h1=>VB_intro (fun h2=>?_) (fun h2=>?_))
  ·have h1:(i:Int)>=k:=of_decide_eq_true h1
   exact ⟨i+1,(show i+1<=64 by omega),(show 64 - (i+1)<64 - i by omega),⟨rfl,rfl,by simp only [opN]; rw [if_neg (by omega)],by simp only [wrB]; rw [decide_eq_true h1,Bool.true_and],wrapS (by omega),trivial⟩,trivial⟩
  ·have h1:¬ (i:Int)>=k:=of_decide_eq_false h1;have h2:bitB b i=false:=by simpa using h2
   exact ⟨i+1,(show i+1<=64 by omega),(show 64 - (i+1)<64 - i by omega),⟨rfl,rfl,by simp only [opN]; rw [if_pos ⟨by omega,h2⟩]; exact wrapS (by have:=hon i; omega),by simp only [wrB]; rw [h2,Bool.and_false,Bool.or_false],wrapS (by omega),trivial⟩,trivial⟩
  ·have h1:¬ (i:Int)>=k:=of_decide_eq_false h1;have h2:bitB b i=true:=by simpa using h2
   exact ⟨i+1,(show i+1<=64 by omega),(show 64 - (i+1)<64 - i by omega),⟨rfl,rfl,by simp only [opN]; rw [if_neg (by rw [h2]; simp)],by simp only [wrB]; rw [decide_eq_false (by omega),Bool.false_and,Bool.or_false],wrapS (by omega),trivial⟩,trivial⟩
 ·have h:=of_decide_eq_false h;obtain rfl:i=64:=by omega
  exact ⟨rfl,rfl,trivial⟩
theorem sub_run (r:RunG):(runA r).sub (runA r):=⟨rfl,sub_ints _,rfl,rfl,trivial⟩
theorem wrapU {i:Nat} (h:i<=1000000000):IntKind.u64.wrap (i:Int)=i:=wrap_u64_id (by omega) (by omega)
theorem EOp_ok (t:List TwigG) (r:RunG):CtrOK (EOp t r):=mkE_ctr (tbl_nil _)
theorem open_pure (t:List TwigG) (r:RunG) (h0:0<=r.nd) (h1:r.nd<t.length) (hk:(kidsN t r.nd).length<=20):PureC Tryz.prog gU 91 [treeA t,runA r] (.bool (openS r.bl (kidsN t r.nd).length)):=by
 refine PureC.of_vc (E:=EOp t r) (k:=20) (d:=3) mix (EOp_ok t r) ((open_vc t r _).mpr ⟨⟨0,⟨Nat.zero_le _,fun j hj=>absurd hj (Nat.not_lt_zero _)⟩,?_⟩,fun i hi=>NB_intro (decide_eq_true ⟨h0,h1⟩) ?_⟩)
 ·repeat' (first|exact sub_tree _|exact sub_run _|exact trivial|exact rfl|exact fun h=>h|refine And.intro ?_ ?_)
 obtain ⟨hi1,hi2⟩:=hi;refine VB_intro (fun h=>?_) (fun h=>?_)
 ·have h:i<(kidsN t r.nd).length:=by have:=of_decide_eq_true h; unfold kidsN; omega
  rw [wrapU (by omega),bit_zero]
  refine VB_intro (fun h2=>?_) (fun h2=>?_)
  ·exact (List.any_eq_true.2 ⟨i,by simpa using h,h2⟩).symm
  ·have h2:bitB r.bl i=true:=by simpa using h2
   have hW:=wrapS (i:=i) (by omega)
   refine ⟨i+1,⟨by omega,fun j hj=>?_⟩,(show (kidsN t r.nd).length - (i+1)<(kidsN t r.nd).length - i by omega),?_⟩
   ·rcases Nat.lt_or_ge j i with h5|h5
    ·exact hi2 j h5
    ·obtain rfl:j=i:=by omega
     exact h2
   ·repeat' (first|exact sub_tree _|exact sub_run _|exact trivial|exact rfl|exact hW|exact fun h=>h|refine And.intro ?_ ?_)
 ·have h:=of_decide_eq_false h;have hie:i=(kidsN t r.nd).length:=by unfold kidsN at hi1 ⊢; omega
  subst hie
  symm
  rw [openS,Bool.eq_false_iff];intro hc;obtain ⟨j,hj,e⟩:=List.any_eq_true.1 hc;rw [hi2 j (by simpa using hj)] at e
  cases e
noncomputable def ckE (t:List TwigG) (m:Nat) (A:Ats) (r:RunG):Int :=
 if fitE t m A≠0 then fitE t m A else if r.nd<1\/t.length<=r.nd then 2 else if (kidsN t r.nd).length=0 then 10
 else if r.ps.length≠(pathE t r.nd).1.length then 3 else if posOK r.ps=false then 9 else if 1099511627776<r.fs then 2
 else if wrB r.bl (kidsN t r.nd).length 64=true then 3 else if opN r.bl (kidsN t r.nd).length 64=0 then 10 else 0
theorem pos_no {P:List Int} {i:Nat} (hi:i<P.length) (h:P.getD i 0<=prevP P i):posOK P=false:=by
 rw [posOK,Bool.eq_false_iff];intro hc;have:=List.all_eq_true.1 hc i (by simpa using hi)
 have:=of_decide_eq_true this;omega
theorem pos_yes {P:List Int} (h:∀ j,j<P.length->prevP P j<P.getD j 0):posOK P=true :=
 List.all_eq_true.2 fun j hj=>decide_eq_true (h j (by simpa using hj))
theorem ck_all {t:List TwigG} {m:Nat} {A:Ats} (h:fitE t m A=0):checkE t=0/\m<=12/\(∀ j,1<=j->j<t.length->outA m t j=false)/\Pd.ckS A m=0:=by
 unfold fitE at h;split at h
 ·rename_i h1;exact (h1 h).elim
 rename_i h1;have h1:checkE t=0:=by simpa using h1
 split at h
 ·cases h
 split at h
 ·cases h
 rename_i h2 h3;refine ⟨h1,by omega,fun j hj1 hj=>?_,h⟩
 rw [Bool.eq_false_iff];intro hc;exact h3 (List.any_eq_true.2 ⟨j - 1,by rw [List.mem_range]; omega,by rwa [show j - 1+1=j by omega]⟩)
theorem ECi_ok (t:List TwigG) (m:Nat) (A:Ats) (r:RunG) (hs:shortT t=true) (hA:Pd.atsOK m A):CtrOK (ECi t m A r) :=
 mkG_ctr (tblG_cons (cAsG_ok (fitI_pure t m A _ hs hA rfl)) (tblG_cons (cAsG_ok (depth_pure t r.nd hs).up) (tblG_cons bits_ok.up (tblG_nil _ _))))
theorem ckI_pure (t:List TwigG) (m:Nat) (A:Ats) (r:RunG) (e:Int) (hs:shortT t=true) (hA:Pd.atsOK m A) (hl:r.ps.length<=1000) (hr:ckE t m A r=e):PureC Tryz.prog Pd.gN 85 [treeA t,Pd.atsAV m A,runA r] (.int .i64 e):=by
 subst hr;refine PureC.of_vc (E:=ECi t m A r) (k:=20) (d:=3) mix (ECi_ok t m A r hs hA) ((ckI_vc t m A r _).mpr ?_);unfold ckE;refine NB_intro (asB_t ⟨sub_tree t,sub_atm m A,trivial⟩) (VB_intro (fun h0=>?_) (fun h0=>?_))
 ·rw [if_pos (by simpa using h0)]
 have h0:fitE t m A=0:=by simpa using h0
 rw [if_neg (by simpa using h0)]
 refine VB_intro (fun h1=>?_) (fun h1=>?_)
 ·simp only [Bool.or_eq_true,decide_eq_true_eq] at h1;rw [if_pos (by omega)]
 simp only [Bool.or_eq_false_iff,decide_eq_false_iff_not] at h1;rw [if_neg (by omega)]
 refine NB_intro (decide_eq_true ⟨by omega,by omega⟩) (NB_intro (asB_t ⟨sub_tree t,rfl,trivial⟩) (VB_intro (fun h2=>?_) (fun h2=>?_)))
 ·rw [if_pos (by unfold kidsN; simpa using h2)]
 rw [if_neg (by unfold kidsN; simpa using h2)]
 refine VB_intro (fun h3=>?_) (fun h3=>?_)
 ·rw [if_pos (by simp at h3; omega)]
 rw [if_neg (by simp at h3; omega)]
 refine ⟨⟨0,⟨Nat.zero_le _,fun j hj=>absurd hj (Nat.not_lt_zero _)⟩,?_⟩,fun i hi=>?_⟩
 ·repeat' (first|exact sub_ints _|exact sub_run _|exact trivial|exact rfl|exact fun h=>h|refine And.intro ?_ ?_)
 obtain ⟨hi1,hi2⟩:=hi;refine VB_intro (fun h4=>?_) (fun h4=>?_)
 ·have h4:i<r.ps.length:=by have:=of_decide_eq_true h4; omega
  refine NB_intro (idx_ok h4) (VB_intro (fun h5=>?_) (fun h5=>?_))
  ·rw [if_pos (pos_no h4 (of_decide_eq_true h5))]
  ·have h5:¬ r.ps.getD i 0<=prevP r.ps i:=of_decide_eq_false h5;have hW:=wrapS (i:=i) (by omega)
   refine ⟨i+1,⟨by omega,fun j hj=>?_⟩,(show r.ps.length - (i+1)<r.ps.length - i by omega),?_⟩
   ·rcases Nat.lt_or_ge j i with h6|h6
    ·exact hi2 j h6
    ·obtain rfl:j=i:=by omega
     omega
   ·repeat' (first|exact sub_ints _|exact sub_run _|exact trivial|exact rfl|exact hW|exact fun h=>h|refine And.intro ?_ ?_)
 ·have h4:=of_decide_eq_false h4;rw [if_neg (by rw [pos_yes fun j hj=>hi2 j (by omega)]; simp)]
  refine VB_intro (fun h5=>?_) (fun h5=>?_)
  ·rw [if_pos (of_decide_eq_true h5)]
  rw [if_neg (of_decide_eq_false h5)];refine VB_intro (fun h6=>?_) (fun h6=>?_)
  ·rw [if_pos h6]
  rw [if_neg (by rw [h6]; simp)]
  refine VB_intro (fun h7=>?_) (fun h7=>?_)
  ·rw [if_pos (by simpa using h7)]
  ·rw [if_neg (by simpa using h7)]
theorem cAsIfG_ok {g:Nat} {ok:Bool} {canon:List AV} {v:AV} (h:ok=true->PureC Tryz.prog Pd.gN g canon v):PureG Tryz.prog Pd.gN g (cAsIf ok canon v):=by
 intro args nd u he hnd;simp only [cAsIf,Option.some.injEq,Prod.mk.injEq] at he;obtain ⟨rfl,rfl⟩:=he;simp only [Bool.and_eq_true] at hnd;obtain ⟨h1,h2⟩:=subL_at _ _ (asB_i.1 hnd.2);exact PureC.args h1 (fun i hi=>h2 i (by omega)) (h hnd.1)
theorem ECr_ok (t:List TwigG) (m:Nat) (A:Ats) (r:RunG) (hs:shortT t=true) (hA:Pd.atsOK m A) (hk:(kidsN t r.nd).length<=20):CtrOK (ECr t m A r) :=
 mkG_ctr (tblG_cons (cAsG_ok (fitR_pure t m A _ hs hA rfl)) (tblG_cons (cAsG_ok (dpath_pure t r.nd _ _ hs rfl).up) (tblG_cons (cAsIfG_ok fun h=>(open_pure t r (by simp only [Bool.and_eq_true,decide_eq_true_eq] at h; exact h.1) (by simp only [Bool.and_eq_true,decide_eq_true_eq] at h; exact h.2) hk).up) (tblG_nil _ _))))
def kids20 (t:List TwigG):Prop:=∀ a,(kidsN t a).length<=20
theorem ckR_pure (t:List TwigG) (m:Nat) (A:Ats) (r:RunG) (e:Int) (hs:shortT t=true) (hA:Pd.atsOK m A) (hl:r.ps.length<=1000) (hk:kids20 t) (hb:Pd.u64B r.bl=true) (hr:ckE t m A r=e):PureC Tryz.prog Pd.gN 87 [treeA t,Pd.atsAV m A,runA r] (.int .i64 e):=by
 subst hr;have hk:=hk r.nd;refine PureC.of_vc (E:=ECr t m A r) (k:=20) (d:=3) mix (ECr_ok t m A r hs hA hk) ((ckR_vc t m A r _).mpr ?_);unfold ckE;refine NB_intro (asB_t ⟨sub_tree t,sub_atm m A,trivial⟩) (VB_intro (fun h0=>?_) (fun h0=>?_))
 ·rw [if_pos (by simpa using h0)]
 have h0:fitE t m A=0:=by simpa using h0
 rw [if_neg (by simpa using h0)]
 refine VB_intro (fun h1=>?_) (fun h1=>?_)
 ·simp only [Bool.or_eq_true,decide_eq_true_eq] at h1;rw [if_pos (by omega)]
 simp only [Bool.or_eq_false_iff,decide_eq_false_iff_not] at h1;rw [if_neg (by omega)]
 refine NB_intro (decide_eq_true ⟨by omega,by omega⟩) (VB_intro (fun h2=>?_) (fun h2=>NB_intro (asB_t ⟨sub_tree t,rfl,trivial⟩) (VB_intro (fun h3=>?_) (fun h3=>?_))))
 ·rw [if_pos (by unfold kidsN; simpa using h2)]
 ·rw [if_neg (by unfold kidsN; simpa using h2),if_pos (by simp at h3; omega)]
 rw [if_neg (by unfold kidsN; simpa using h2),if_neg (by simp at h3; omega)]
 refine ⟨⟨0,⟨Nat.zero_le _,fun j hj=>absurd hj (Nat.not_lt_zero _)⟩,?_⟩,fun i hi=>?_⟩
 ·repeat' (first|exact sub_tree _|exact sub_run _|exact trivial|exact rfl|exact fun h=>h|refine And.intro ?_ ?_)
 obtain ⟨hi1,hi2⟩:=hi;refine VB_intro (fun h4=>?_) (fun h4=>?_)
 ·have h4:i<r.ps.length:=by have:=of_decide_eq_true h4; omega
  rw [show (Int.toNat (i:Int))=i from rfl]
  have hp:(decide (r.ps.getD i (0:Int)<(0:Int))||decide ((i:Int) > (0:Int))&&decide (r.ps.getD i (0:Int)<=r.ps.getD (IntKind.i64.wrap ((i:Int) - (1:Int))).toNat (0:Int)))=decide (r.ps.getD i 0<=prevP r.ps i):=by
   have hge:∀ j,j<i->0<=r.ps.getD j 0:=by
    intro j;induction j with
    | zero =>
     intro hj;have:=hi2 0 hj;simp only [prevP] at this;omega
    | succ j ih =>
     intro hj;have:=hi2 (j+1) hj;have:=ih (by omega)
     simp only [prevP] at *;omega
   rw [Bool.eq_iff_iff];simp only [Bool.or_eq_true,Bool.and_eq_true,decide_eq_true_eq];cases i with
   | zero =>
    simp only [prevP];omega
   | succ i =>
    have e:(IntKind.i64.wrap (((i+1:Nat):Int) - 1)).toNat=i:=by rw [wrap_i64_id (by omega) (by omega)]; omega
    have:=hge i (by omega)
    rw [e];simp only [prevP];omega
  rw [hp];refine NB_intro (idx_ok h4) (NB_intro (impB_of fun _=>idx_ok h4) (NB_intro (impB_of fun h=>?_) (VB_intro (fun h5=>?_) (fun h5=>?_))))
  ·simp only [Bool.and_eq_true,isW_t,isW_f] at h;have h:(i:Int) > 0:=by simpa using h.2
   rw [wrap_i64_id (by omega) (by omega)]
   exact decide_eq_true ⟨by omega,by omega⟩
  ·rw [if_pos (pos_no h4 (of_decide_eq_true h5))]
  ·have h5:¬ r.ps.getD i 0<=prevP r.ps i:=of_decide_eq_false h5;have hW:=wrapS (i:=i) (by omega)
   refine ⟨i+1,⟨by omega,fun j hj=>?_⟩,(show r.ps.length - (i+1)<r.ps.length - i by omega),?_⟩
   ·rcases Nat.lt_or_ge j i with h6|h6
    ·exact hi2 j h6
    ·obtain rfl:j=i:=by omega
     omega
   ·repeat' (first|exact sub_tree _|exact sub_run _|exact trivial|exact rfl|exact hW|exact fun h=>h|refine And.intro ?_ ?_)
 ·have h4:=of_decide_eq_false h4;rw [if_neg (by rw [pos_yes fun j hj=>hi2 j (by omega)]; simp)]
  refine VB_intro (fun h5=>?_) (fun h5=>?_)
  ·rw [if_pos (of_decide_eq_true h5)]
  rw [if_neg (of_decide_eq_false h5),wrapU (by omega),shr_bits hb (by omega),decide_eq_true (by omega),Bool.true_and]
  refine VB_intro (fun h6=>?_) (fun h6=>?_)
  ·rw [if_pos h6]
  rw [if_neg (by rw [h6]; simp)]
  refine NB_intro (by rw [decide_eq_true (show 0<=r.nd by omega),decide_eq_true (show r.nd<t.length by omega)]; exact asB_t ⟨sub_tree t,sub_run r,trivial⟩) (VB_intro (fun h7=>?_) (fun h7=>?_))
  ·rw [if_pos ((open_iff (by omega)).1 (by simpa using h7))]
  ·rw [if_neg (fun hx=>by rw [(open_iff (by omega)).2 hx] at h7; cases h7)]
end Go.Proofs.YtlnpgnipocbfhaaGreatDoor
