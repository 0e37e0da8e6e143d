/- TREES P: the document's check of a line: conditions. -/
import Derived.Test.YtlnpgnipocbfhaaNLN
namespace Go.Proofs.Ytlnpgnipocbfhaa
open Pw Go
set_option maxRecDepth 100000
set_option linter.unusedSimpArgs false
def invR0 (l:List SlotG) (a:Int):Inv:=⟨Nat,20,fun i=>⟨[(1,.int .i64 a),(2,.ptr 0 0 0 0),(5,.int .i64 i)],[(0,.row 0 1 true (.lst [lineA l]))]⟩,fun i=>i≤l.length∧∀ j,j<i→outS a (l.getD j slotD')=false,fun i=>l.length - i⟩
def invR2 (l:List SlotG) (a:Int) (i:Int):Inv:=⟨Nat,30,fun k=>⟨[(1,.int .i64 a),(2,.ptr 0 0 0 0),(5,.int .i64 i),(6,.ptr 20 0 0 0),(7,.int .i64 k)],[(0,.row 0 1 true (.lst [lineA l])),(20,.row 0 2 true (.lst [slotA (l.getD i.toNat slotD')]))]⟩,
 fun k=>k≤(l.getD i.toNat slotD').gds.length∧∀ j,j<k→outN a ((l.getD i.toNat slotD').gds.getD j 0)=false,fun k=>(l.getD i.toNat slotD').gds.length - k⟩
def invR4 (l:List SlotG):Inv:=⟨Nat,40,fun i=>⟨[(2,.ptr 0 0 0 0),(8,.int .i64 i)],[(0,.row 0 1 true (.lst [lineA l]))]⟩,fun i=>i≤l.length∧∀ j,j<i→ascB (l.getD j slotD').gds=true,fun i=>l.length - i⟩
def invR6 (l:List SlotG) (i:Int):Inv:=⟨Nat,50,fun k=>⟨[(2,.ptr 0 0 0 0),(8,.int .i64 i),(9,intsA (l.getD i.toNat slotD').gds),(10,.int .i64 (k+1:Nat))],[(0,.row 0 1 true (.lst [lineA l]))]⟩,
 fun k=>k≤(l.getD i.toNat slotD').gds.length - 1∧∀ j,j<k→(l.getD i.toNat slotD').gds.getD j 0<(l.getD i.toNat slotD').gds.getD (j+1) 0,fun k=>(l.getD i.toNat slotD').gds.length - k⟩
noncomputable def ERc (l:List SlotG) (a:Int):Env:={ mkE Try.prog (tblOf []) (fun f b=>if f=70 then (if b=0 then some (invR0 l a) else if b=4 then some (invR4 l) else none) else none) with
 invS:=fun f c s=>if f=70 then (if c=2 then (match s.tmf 5 with|.int _ i=>some (invR2 l a i)|_=>none) else if c=6 then (match s.tmf 8 with|.int _ i=>some (invR6 l i)|_=>none) else none) else none }
theorem rchk_vc (l:List SlotG) (a:Int) (r:Int):(vcFun (ERc l a) 20 70 [lineA l,.int .i64 a] .nil 0 (retP 3 (.int .i64 r))).sat=( NB (impB (isW false ((↑l.length:Int)==(0:Int))) (decide ((0:Int)≤(0:Int)∧(0:Int)<(↑l.length:Int)))) (VB ((↑l.length:Int)==(0:Int)||decide ((↑(l.getD (Int.toNat (0:Int)) slotD').gds.length:Int) > (0:Int))) ((3:Int)=r) (VB (decide (a<(0:Int))||decide (a > (12:Int))) ((2:Int)=r) ((∃ (i:Nat),(i≤l.length∧∀ (j:Nat),j<i→outS a (l.getD j slotD')=false)∧(a=a∧((0:Nat)=(0:Nat)∧(0:Nat)=(0:Nat)∧(0:Nat)=(0:Nat))∧(0:Int)=(↑i:Int)∧True)∧((0:Nat)=(0:Nat)∧(true=true→true=true)∧((lineA l).sub (lineA l)∧(lineA l).cells.length=(lineA l).cells.length)∧True)∧True)∧∀ (i:Nat),(i≤l.length∧∀ (j:Nat),j<i→outS a (l.getD j slotD')=false)→VB (decide ((↑i:Int)<(↑l.length:Int))) (NB (decide ((0:Int)≤(↑i:Int)∧(↑i:Int)<(↑l.length:Int))) (VB (decide ((l.getD (↑i:Int).toNat slotD').fst<(0:Int))||decide ((l.getD (↑i:Int).toNat slotD').fst≥a)) ((2:Int)=r) ((∃ (i_1:Nat),(i_1≤(l.getD (↑i:Int).toNat slotD').gds.length∧∀ (j:Nat),j<i_1→outN a ((l.getD (↑i:Int).toNat slotD').gds.getD j (0:Int))=false)∧(a=a∧((0:Nat)=(0:Nat)∧(0:Nat)=(0:Nat)∧(0:Nat)=(0:Nat))∧(↑i:Int)=(↑i:Int)∧((0:Nat)=(0:Nat)∧(0:Nat)=(0:Nat)∧(0:Nat)=(0:Nat))∧(0:Int)=(↑i_1:Int)∧True)∧((0:Nat)=(0:Nat)∧(true=true→true=true)∧((lineA l).sub (lineA l)∧(lineA l).cells.length=(lineA l).cells.length)∧True)∧((0:Nat)=(0:Nat)∧(true=true→true=true)∧((slotA (l.getD (↑i:Int).toNat slotD')).sub (slotA (l.getD (↑i:Int).toNat slotD'))∧(slotA (l.getD (↑i:Int).toNat slotD')).cells.length=(slotA (l.getD (↑i:Int).toNat slotD')).cells.length)∧True)∧True)∧∀ (i_1:Nat),(i_1≤(l.getD (↑i:Int).toNat slotD').gds.length∧∀ (j:Nat),j<i_1→outN a ((l.getD (↑i:Int).toNat slotD').gds.getD j (0:Int))=false)→VB (decide ((↑i_1:Int)<(↑(l.getD (↑i:Int).toNat slotD').gds.length:Int))) (NB (decide ((0:Int)≤(↑i_1:Int)∧(↑i_1:Int)<(↑(l.getD (↑i:Int).toNat slotD').gds.length:Int))) (NB (impB (isW false (decide ((l.getD (↑i:Int).toNat slotD').gds.getD (↑i_1:Int).toNat (0:Int)<(0:Int)))) (decide ((0:Int)≤(↑i_1:Int)∧(↑i_1:Int)<(↑(l.getD (↑i:Int).toNat slotD').gds.length:Int)))) (VB (decide ((l.getD (↑i:Int).toNat slotD').gds.getD (↑i_1:Int).toNat (0:Int)<(0:Int))||decide ((l.getD (↑i:Int).toNat slotD').gds.getD (↑i_1:Int).toNat (0:Int)≥a)) ((2:Int)=r) (∃ (i':Nat),(i'≤(l.getD (↑i:Int).toNat slotD').gds.length∧∀ (j:Nat),j<i'→outN a ((l.getD (↑i:Int).toNat slotD').gds.getD j (0:Int))=false)∧(invR2 l a (↑i:Int)).μ i'<(invR2 l a (↑i:Int)).μ i_1∧(a=a∧((0:Nat)=(0:Nat)∧(0:Nat)=(0:Nat)∧(0:Nat)=(0:Nat))∧(↑i:Int)=(↑i:Int)∧((0:Nat)=(0:Nat)∧(0:Nat)=(0:Nat)∧(0:Nat)=(0:Nat))∧IntKind.i64.wrap ((↑i_1:Int)+(1:Int))=(↑i':Int)∧True)∧((0:Nat)=(0:Nat)∧(true=true→true=true)∧((lineA l).sub (lineA l)∧(lineA l).cells.length=(lineA l).cells.length)∧True)∧((0:Nat)=(0:Nat)∧(true=true→true=true)∧((slotA (l.getD (↑i:Int).toNat slotD')).sub (slotA (l.getD (↑i:Int).toNat slotD'))∧(slotA (l.getD (↑i:Int).toNat slotD')).cells.length=(slotA (l.getD (↑i:Int).toNat slotD')).cells.length)∧True)∧True)))) (∃ (i':Nat),(i'≤l.length∧∀ (j:Nat),j<i'→outS a (l.getD j slotD')=false)∧(invR0 l a).μ i'<(invR0 l a).μ i∧(a=a∧((0:Nat)=(0:Nat)∧(0:Nat)=(0:Nat)∧(0:Nat)=(0:Nat))∧IntKind.i64.wrap ((↑i:Int)+(1:Int))=(↑i':Int)∧True)∧((0:Nat)=(0:Nat)∧(true=true→true=true)∧((lineA l).sub (lineA l)∧(lineA l).cells.length=(lineA l).cells.length)∧True)∧True)))) ((∃ (i:Nat),(i≤l.length∧∀ (j:Nat),j<i→ascB (l.getD j slotD').gds=true)∧(((0:Nat)=(0:Nat)∧(0:Nat)=(0:Nat)∧(0:Nat)=(0:Nat))∧(0:Int)=(↑i:Int)∧True)∧((0:Nat)=(0:Nat)∧(true=true→true=true)∧((lineA l).sub (lineA l)∧(lineA l).cells.length=(lineA l).cells.length)∧True)∧True)∧∀ (i:Nat),(i≤l.length∧∀ (j:Nat),j<i→ascB (l.getD j slotD').gds=true)→VB (decide ((↑i:Int)<(↑l.length:Int))) (NB (decide ((0:Int)≤(↑i:Int)∧(↑i:Int)<(↑l.length:Int))) ((∃ (i_1:Nat),(i_1≤(l.getD (↑i:Int).toNat slotD').gds.length - (1:Nat)∧∀ (j:Nat),j<i_1→(l.getD (↑i:Int).toNat slotD').gds.getD j (0:Int)<(l.getD (↑i:Int).toNat slotD').gds.getD (j+(1:Nat)) (0:Int))∧(((0:Nat)=(0:Nat)∧(0:Nat)=(0:Nat)∧(0:Nat)=(0:Nat))∧(↑i:Int)=(↑i:Int)∧(intsA (l.getD (↑i:Int).toNat slotD').gds).sub (intsA (l.getD (↑i:Int).toNat slotD').gds)∧(1:Int)=(↑(i_1+(1:Nat)):Int)∧True)∧((0:Nat)=(0:Nat)∧(true=true→true=true)∧((lineA l).sub (lineA l)∧(lineA l).cells.length=(lineA l).cells.length)∧True)∧True)∧∀ (i_1:Nat),(i_1≤(l.getD (↑i:Int).toNat slotD').gds.length - (1:Nat)∧∀ (j:Nat),j<i_1→(l.getD (↑i:Int).toNat slotD').gds.getD j (0:Int)<(l.getD (↑i:Int).toNat slotD').gds.getD (j+(1:Nat)) (0:Int))→VB (decide ((↑(i_1+(1:Nat)):Int)<(↑(l.getD (↑i:Int).toNat slotD').gds.length:Int))) (NB (decide ((0:Int)≤(↑(i_1+(1:Nat)):Int)∧(↑(i_1+(1:Nat)):Int)<(↑(l.getD (↑i:Int).toNat slotD').gds.length:Int))) (NB (decide ((0:Int)≤IntKind.i64.wrap ((↑(i_1+(1:Nat)):Int) - (1:Int))∧IntKind.i64.wrap ((↑(i_1+(1:Nat)):Int) - (1:Int))<(↑(l.getD (↑i:Int).toNat slotD').gds.length:Int))) (VB (decide ((l.getD (↑i:Int).toNat slotD').gds.getD (↑(i_1+(1:Nat)):Int).toNat (0:Int)≤(l.getD (↑i:Int).toNat slotD').gds.getD (IntKind.i64.wrap ((↑(i_1+(1:Nat)):Int) - (1:Int))).toNat (0:Int))) ((3:Int)=r) (∃ (i':Nat),(i'≤(l.getD (↑i:Int).toNat slotD').gds.length - (1:Nat)∧∀ (j:Nat),j<i'→(l.getD (↑i:Int).toNat slotD').gds.getD j (0:Int)<(l.getD (↑i:Int).toNat slotD').gds.getD (j+(1:Nat)) (0:Int))∧(invR6 l (↑i:Int)).μ i'<(invR6 l (↑i:Int)).μ i_1∧(((0:Nat)=(0:Nat)∧(0:Nat)=(0:Nat)∧(0:Nat)=(0:Nat))∧(↑i:Int)=(↑i:Int)∧(intsA (l.getD (↑i:Int).toNat slotD').gds).sub (intsA (l.getD (↑i:Int).toNat slotD').gds)∧IntKind.i64.wrap ((↑(i_1+(1:Nat)):Int)+(1:Int))=(↑(i'+(1:Nat)):Int)∧True)∧((0:Nat)=(0:Nat)∧(true=true→true=true)∧((lineA l).sub (lineA l)∧(lineA l).cells.length=(lineA l).cells.length)∧True)∧True)))) (∃ (i':Nat),(i'≤l.length∧∀ (j:Nat),j<i'→ascB (l.getD j slotD').gds=true)∧(invR4 l).μ i'<(invR4 l).μ i∧(((0:Nat)=(0:Nat)∧(0:Nat)=(0:Nat)∧(0:Nat)=(0:Nat))∧IntKind.i64.wrap ((↑i:Int)+(1:Int))=(↑i':Int)∧True)∧((0:Nat)=(0:Nat)∧(true=true→true=true)∧((lineA l).sub (lineA l)∧(lineA l).cells.length=(lineA l).cells.length)∧True)∧True))) ((0:Int)=r)))))):=by
 kernel_rfl
end Go.Proofs.Ytlnpgnipocbfhaa
namespace Go.Proofs.Ytlnpgnipocbfhaa
open Pw Go
set_option maxRecDepth 100000
set_option linter.unusedSimpArgs false
theorem ERc_ok (l:List SlotG) (a:Int):CtrOK (ERc l a):=⟨(mkE_ctr (P:=Try.prog) (inv:=fun _ _=>none) (tbl_nil _)).1,itr_none rfl⟩
theorem rchk_pure (l:List SlotG) (a:Int) (hf:fewS l=true):PureC Try.prog gU 70 [lineA l,.int .i64 a] (.int .i64 (chkL a l)):=by
 have hl:l.length≤1000:=by simp only [fewS,Bool.and_eq_true,decide_eq_true_eq] at hf; exact hf.1
 refine PureC.of_vc (E:=ERc l a) (k:=20) (d:=3) mix (ERc_ok l a) ?_
 refine (rchk_vc l a _).mpr ?_
 refine NB_intro (by rcases Nat.eq_zero_or_pos l.length with h|h <;> simp [impB,isW,h]) (VB_intro (fun h=>?_) (fun h=>?_))
 ·have:l.length=0∨0<(l.getD 0 slotD').gds.length:=by simpa using h
  rw [chkL,if_pos this]
 have h0:¬ (l.length=0∨0<(l.getD 0 slotD').gds.length):=by simpa using h
 refine VB_intro (fun h1=>?_) (fun h1=>?_)
 ·have:a<0∨12<a:=by simpa using h1
  rw [chkL,if_neg h0,if_pos this]
 have h2:¬ (a<0∨12<a):=by simpa using h1
 refine ⟨⟨0,⟨Nat.zero_le _,fun j hj=>by omega⟩,?_⟩,fun i hpre=>?_⟩
 ·repeat' (first|exact sub_slot _|exact sub_line _|exact sub_ints _|exact trivial|exact rfl|exact Or.inr rfl|exact fun h=>h|exact fun _ _=>rfl|refine And.intro ?_ ?_)
 obtain ⟨hi,hpre⟩:=hpre
 refine VB_intro (fun h3=>?_) (fun h3=>?_)
 ·have h4:i<l.length:=by simpa using h3
  have hg:=fewS_at hf h4
  rw [show (Int.toNat (i:Int))=i from rfl]
  have hbad:outS a (l.getD i slotD')=true→chkL a l=2:=fun h5=>by
   rw [chkL,if_neg h0,if_neg h2,if_pos (any_at (d:=slotD') h4 h5)]
  have hW:IntKind.i64.wrap ((i:Int)+1)=((i+1:Nat):Int):=by rw [wrap_i64_id (by omega) (by omega)]; omega
  generalize hs:l.getD i slotD'=s at hg hbad ⊢
  refine NB_intro (by simp; omega) (VB_intro (fun h5=>?_) (fun h5=>?_))
  ·have h6:outN a s.1=true:=by simpa [outN] using h5
   rw [hbad (by rw [outS,h6]; rfl)]
  have h6:outN a s.1=false:=by simpa [outN] using h5
  refine ⟨⟨0,⟨Nat.zero_le _,fun j hj=>by omega⟩,?_⟩,fun k hk=>?_⟩
  ·repeat' (first|exact sub_slot _|exact sub_line _|exact sub_ints _|exact trivial|exact rfl|exact Or.inr rfl|exact fun h=>h|exact fun _ _=>rfl|refine And.intro ?_ ?_)
  obtain ⟨hk1,hk2⟩:=hk
  refine VB_intro (fun h7=>?_) (fun h7=>?_)
  ·have h8:k<s.gds.length:=by simpa using h7
   rw [show (Int.toNat (k:Int))=k from rfl]
   refine NB_intro (by simp; omega) (NB_intro (impB_of' (by simp; omega)) (VB_intro (fun h9=>?_) (fun h9=>?_)))
   ·have h10:outN a (s.gds.getD k 0)=true:=h9
    rw [hbad (by rw [outS,any_at (d:=0) h8 h10]; simp)]
   ·have h10:outN a (s.gds.getD k 0)=false:=h9
    refine ⟨k+1,⟨by omega,fun j hj=>?_⟩,?_,?_⟩
    ·rcases Nat.lt_or_ge j k with h11|h11
     ·exact hk2 j h11
     ·obtain rfl:j=k:=by omega
      exact h10
    ·simp only [invR2,Int.toNat_natCast,hs]
     omega
    have hWk:IntKind.i64.wrap ((k:Int)+1)=((k+1:Nat):Int):=by rw [wrap_i64_id (by omega) (by omega)]; omega
    repeat' (first|exact sub_slot _|exact sub_line _|exact sub_ints _|exact trivial|exact rfl|exact Or.inr rfl|exact fun h=>h|exact fun _ _=>rfl|refine And.intro ?_ ?_)
    all_goals exact hWk
  ·have h8:¬ k<s.gds.length:=by simpa using h7
   have h9:outS a s=false:=by
    rw [outS,h6,any_none (d:=0) (fun j hj=>hk2 j (by omega))]
    rfl
   refine ⟨i+1,⟨by omega,fun j hj=>?_⟩,by simp only [invR0]; omega,?_⟩
   ·rcases Nat.lt_or_ge j i with h11|h11
    ·exact hpre j h11
    ·obtain rfl:j=i:=by omega
     rw [hs]
     exact h9
   repeat' (first|exact sub_slot _|exact sub_line _|exact sub_ints _|exact trivial|exact rfl|exact Or.inr rfl|exact fun h=>h|exact fun _ _=>rfl|refine And.intro ?_ ?_)
   all_goals exact hW
 have h4:¬ i<l.length:=by simpa using h3
 have hany:¬ (l.any (outS a)=true):=by rw [any_none (d:=slotD') (fun j hj=>hpre j (by omega))]; simp
 refine ⟨⟨0,⟨Nat.zero_le _,fun j hj=>by omega⟩,?_⟩,fun i hpre=>?_⟩
 ·repeat' (first|exact sub_slot _|exact sub_line _|exact sub_ints _|exact trivial|exact rfl|exact Or.inr rfl|exact fun h=>h|exact fun _ _=>rfl|refine And.intro ?_ ?_)
 obtain ⟨hi,hpre⟩:=hpre
 refine VB_intro (fun h3=>?_) (fun h3=>?_)
 ·have h4:i<l.length:=by simpa using h3
  have hg:=fewS_at hf h4
  rw [show (Int.toNat (i:Int))=i from rfl]
  have hW:IntKind.i64.wrap ((i:Int)+1)=((i+1:Nat):Int):=by rw [wrap_i64_id (by omega) (by omega)]; omega
  generalize hs:l.getD i slotD'=s at hg ⊢
  refine NB_intro (by simp; omega) ⟨⟨0,⟨Nat.zero_le _,fun j hj=>by omega⟩,?_⟩,fun k hk=>?_⟩
  ·repeat' (first|exact sub_slot _|exact sub_line _|exact sub_ints _|exact trivial|exact rfl|exact Or.inr rfl|exact fun h=>h|exact fun _ _=>rfl|refine And.intro ?_ ?_)
  obtain ⟨hk1,hk2⟩:=hk
  have hsub:IntKind.i64.wrap (((k+1:Nat):Int) - 1)=k:=by rw [wrap_i64_id (by omega) (by omega)]; omega
  rw [hsub]
  refine VB_intro (fun h5=>?_) (fun h5=>?_)
  ·have h6:k+1<s.gds.length:=by simp at h5; omega
   refine NB_intro (by simp; omega) (NB_intro (by simp; omega) (VB_intro (fun h7=>?_) (fun h7=>?_)))
   ·have h8:¬ s.gds.getD k 0<s.gds.getD (k+1) 0:=by
     have h9:s.gds.getD (k+1) 0≤s.gds.getD k 0:=by simpa only [decide_eq_true_eq,Int.toNat_natCast] using h7
     omega
    have h10:ascB s.gds=false:=by
     unfold ascB
     rw [List.all_eq_false]
     exact ⟨k,by simp; omega,by simpa using h8⟩
    rw [chkL,if_neg h0,if_neg h2,if_neg hany,if_neg (by rw [all_not (d:=slotD') h4 (by simp only [hs]; exact h10)]; simp)]
   ·have h8:s.gds.getD k 0<s.gds.getD (k+1) 0:=by
     have h9:¬ s.gds.getD (k+1) 0≤s.gds.getD k 0:=by simpa only [decide_eq_false_iff_not,Int.toNat_natCast] using h7
     omega
    refine ⟨k+1,⟨by omega,fun j hj=>?_⟩,by simp only [invR6,Int.toNat_natCast,hs]; omega,?_⟩
    ·rcases Nat.lt_or_ge j k with h11|h11
     ·exact hk2 j h11
     ·obtain rfl:j=k:=by omega
      exact h8
    have hWk:IntKind.i64.wrap (((k+1:Nat):Int)+1)=((k+1+1:Nat):Int):=by rw [wrap_i64_id (by omega) (by omega)]; omega
    repeat' (first|exact sub_slot _|exact sub_line _|exact sub_ints _|exact trivial|exact rfl|exact Or.inr rfl|exact fun h=>h|exact fun _ _=>rfl|refine And.intro ?_ ?_)
    all_goals exact hWk
  ·have h6:¬ k+1<s.gds.length:=by simp at h5; omega
   refine ⟨i+1,⟨by omega,fun j hj=>?_⟩,by simp only [invR4]; omega,?_⟩
   ·rcases Nat.lt_or_ge j i with h7|h7
    ·exact hpre j h7
    ·obtain rfl:j=i:=by omega
     rw [hs]
     simp only [ascB,List.all_eq_true,List.mem_range,decide_eq_true_eq]
     exact fun q hq=>hk2 q (by omega)
   repeat' (first|exact sub_slot _|exact sub_line _|exact sub_ints _|exact trivial|exact rfl|exact Or.inr rfl|exact fun h=>h|exact fun _ _=>rfl|refine And.intro ?_ ?_)
   all_goals exact hW
 ·have h4:¬ i<l.length:=by simpa using h3
  rw [chkL,if_neg h0,if_neg h2,if_neg hany,if_pos (all_at (d:=slotD') (fun j hj=>hpre j (by omega)))]
theorem rchk_ok:PureF Try.prog 70 cChk:=by
 intro args nd v he hnd
 unfold cChk at he
 split at he <;> cases he
 rename_i n f ex a
 simp only [Bool.and_eq_true] at hnd
 refine PureC.args (args':=[lineA (slotsOf' n f),.int .i64 a]) rfl (fun i hi=>?_) (rchk_pure _ a hnd.2)
 match i,hi with
 | 0,_=>exact ⟨slots_sub hnd.1,trivial⟩
 | 1,_=>exact rfl
end Go.Proofs.Ytlnpgnipocbfhaa
