/- TREES R: the document's check of lines: conditions. -/
import Derived.Test.YtlnpgnipocbfhaaGreatDoorNLN
namespace Go.Proofs.YtlnpgnipocbfhaaGreatDoor
open Pw Go
set_option maxRecDepth 100000
def newL (ls:List (List SlotG)) (i:Nat):Bool:=(List.range i).all fun k=>decide (ls.getD i []≠ls.getD k [])
def rcheckE (ls:List (List SlotG)):Int :=
 if ls.length<1\/64<ls.length\/longB ls=true then 23
 else match ls.find? fun l=>decide (chkL 12 l≠0) with
  | some l=>chkL 12 l
  | none=>if (List.range ls.length).all (newL ls) then 0 else 8
def invK0 (ls:List (List SlotG)):Inv:=⟨Nat,10,fun i=>⟨[(0,linesA ls),(3,.int .i64 i)],[]⟩,fun i=>i<=ls.length/\∀ j,j<i->(ls.getD j []).length<=12,fun i=>ls.length - i⟩
def invK2 (ls:List (List SlotG)):Inv:=⟨Nat,20,fun i=>⟨[(0,linesA ls),(4,.int .i64 i)],[]⟩,fun i=>i<=ls.length/\∀ j,j<i->chkL 12 (ls.getD j [])=0,fun i=>ls.length - i⟩
def invK4 (ls:List (List SlotG)):Inv:=⟨Nat,30,fun i=>⟨[(0,linesA ls),(6,.int .i64 i)],[]⟩,fun i=>i<=ls.length/\∀ j,j<i->newL ls j=true,fun i=>ls.length - i⟩
def invK6 (ls:List (List SlotG)) (i:Int):Inv:=⟨Nat,40,fun k=>⟨[(0,linesA ls),(6,.int .i64 i),(7,.int .i64 k)],[]⟩,fun k=>k<=i.toNat/\∀ j,j<k->ls.getD i.toNat []≠ls.getD j [],fun k=>i.toNat - k⟩
noncomputable def ERk (ls:List (List SlotG)):Env:={ mkE Tryz.prog (tblOf [(100,cChk),(101,cEqL)]) (fun f b=>if f=53 then (if b=0 then some (invK0 ls) else if b=2 then some (invK2 ls) else if b=4 then some (invK4 ls) else none) else none) with
 invS:=fun f c s=>if f=53/\c=6 then (match s.tmf 6 with|.int _ i=>some (invK6 ls i)|_=>none) else none }
theorem rcheck_vc (ls:List (List SlotG)) (r:Int):(vcFun (ERk ls) 20 53 [linesA ls] .nil 0 (retP 3 (.int .i64 r))).sat=(let c1:=fun i:Nat=> (ls.getD (i:Int).toNat [])
 let c0:=fun i:Nat=> (slotsOf' (c1 i).length fun k:Nat=> slotA ((c1 i).getD k slotD'))
 let c2:=fun i:Nat=> (decide ((0:Int)<=(i:Int)/\(i:Int)<(ls.length:Int)))
 let c3:=fun (i:Nat) (i':Nat)=>((linesA ls).sub (linesA ls)/\IntKind.i64.wrap ((i:Int)+(1:Int))=(i':Int)/\True)
 let c4:=fun i:Nat=> (i<=ls.length/\∀ j:Nat,j<i->chkL (12:Int) (ls.getD j [])=(0:Int))
 let c5:=fun (i_1:Nat) (i:Nat)=>(i_1<=(i:Int).toNat/\∀ j:Nat,j<i_1->ls.getD (i:Int).toNat []≠ls.getD j [])
 let c6:=fun i:Nat=> (i<=ls.length/\∀ j:Nat,j<i->(ls.getD j []).length<=12)
 let c7:=fun i:Nat=> ((linesA ls).sub (linesA ls)/\(0:Int)=(i:Int)/\True)
 let c8:=fun i:Nat=> (i<=ls.length/\∀ j:Nat,j<i->newL ls j=true)
 VB (decide ((ls.length:Int)<(1:Int))||decide ((ls.length:Int) > (64:Int))) ((23:Int)=r) ((∃ i:Nat,(c6 i)/\(c7 i)/\True)/\∀ i:Nat,(c6 i)->VB (decide ((i:Int)<(ls.length:Int))) (NB (c2 i) (VB (decide ((↑(c1 i).length:Int) > (12:Int))) ((23:Int)=r) (∃ i':Nat,(c6 i')/\(invK0 ls).μ i'<(invK0 ls).μ i/\(c3 i i')/\True))) ((∃ i:Nat,(c4 i)/\(c7 i)/\True)/\∀ i:Nat,(c4 i)->VB (decide ((i:Int)<(ls.length:Int))) (NB (c2 i) (NB ((slotsB (c1 i).length fun k:Nat=> slotA ((c1 i).getD k slotD'))&&fewS (c0 i)) (VB (chkL (12:Int) (c0 i) !=(0:Int)) (chkL (12:Int) (c0 i)=r) (∃ i':Nat,(c4 i')/\(invK2 ls).μ i'<(invK2 ls).μ i/\(c3 i i')/\True)))) ((∃ i:Nat,(c8 i)/\(c7 i)/\True)/\∀ i:Nat,(c8 i)->VB (decide ((i:Int)<(ls.length:Int))) ((∃ i_1:Nat,(c5 i_1 i)/\((linesA ls).sub (linesA ls)/\(i:Int)=(i:Int)/\(0:Int)=(i_1:Int)/\True)/\True)/\∀ i_1:Nat,(c5 i_1 i)->VB (decide ((i_1:Int)<(i:Int))) (NB (c2 i) (NB (c2 i_1) (NB (((slotsB (c1 i).length fun k:Nat=> slotA ((c1 i).getD k slotD'))&&slotsB (c1 i_1).length fun k:Nat=> slotA ((c1 i_1).getD k slotD'))&&fewS (c0 i)&&fewS (c0 i_1)) (VB (decide ((c0 i)=slotsOf' (c1 i_1).length fun k:Nat=> slotA ((c1 i_1).getD k slotD'))) ((8:Int)=r) (∃ i':Nat,(c5 i' i)/\(invK6 ls (i:Int)).μ i'<(invK6 ls (i:Int)).μ i_1/\((linesA ls).sub (linesA ls)/\(i:Int)=(i:Int)/\IntKind.i64.wrap ((i_1:Int)+(1:Int))=(i':Int)/\True)/\True))))) (∃ i':Nat,(c8 i')/\(invK4 ls).μ i'<(invK4 ls).μ i/\(c3 i i')/\True)) ((0:Int)=r))))):=by
 kernel_rfl
theorem ERk_ok (ls:List (List SlotG)):CtrOK (ERk ls):=⟨(mkE_ctr (P:=Tryz.prog) (inv:=fun _ _=>none) (tbl_cons rchk_ok (tbl_cons eqL_ok (tbl_nil _)))).1,itr_none rfl⟩
theorem rcheck_pure (ls:List (List SlotG)) (r:Int) (hf:∀ l∈ls,fewS l=true) (hr:rcheckE ls=r):PureC Tryz.prog gU 53 [linesA ls] (.int .i64 r):=by
 refine PureC.of_vc (E:=ERk ls) (k:=20) (d:=3) mix (ERk_ok ls) ?_;refine (rcheck_vc ls r).mpr ?_
 conv=>zeta
 refine VB_intro (fun h=>?_) (fun h=>?_)
 ·have h1:ls.length<1\/64<ls.length:=by
   simp only [Bool.or_eq_true,decide_eq_true_eq] at h;omega
  rw [rcheckE,if_pos (by omega)] at hr
  exact hr
 simp only [Bool.or_eq_false_iff,decide_eq_false_iff_not] at h;have hl:ls.length<=64:=by omega
 refine ⟨?_,fun i hpre=>?_⟩
 ·refine ⟨0,⟨Nat.zero_le _,fun j hj=>absurd hj (Nat.not_lt_zero _)⟩,?_⟩
  repeat' (first|exact sub_lines _|exact trivial|exact rfl|exact fun h=>h|refine And.intro ?_ ?_)
 obtain ⟨hi,hpre⟩:=hpre;refine VB_intro (fun h2=>?_) (fun h2=>?_)
 ·have h3:i<ls.length:=by simpa using h2
  rw [show (Int.toNat (i:Int))=i from rfl];have hW:IntKind.i64.wrap ((i:Int)+1)=((i+1:Nat):Int):=by rw [wrap_i64_id (by omega) (by omega)]; omega
  refine NB_intro (by simp; omega) (VB_intro (fun h4=>?_) (fun h4=>?_))
  ·have h5:12<(ls.getD i []).length:=by
    have:=of_decide_eq_true h4;omega
   rw [rcheckE,if_pos (.inr (.inr (any_at (d:=[]) h3 (decide_eq_true h5))))] at hr;exact hr
  ·have h5:(ls.getD i []).length<=12:=by
    have:=of_decide_eq_false h4;omega
   refine ⟨i+1,⟨by omega,fun j hj=>?_⟩,(show ls.length - (i+1)<ls.length - i by omega),?_⟩
   ·rcases Nat.lt_or_ge j i with h6|h6
    ·exact hpre j h6
    ·obtain rfl:j=i:=by omega
     exact h5
   repeat' (first|exact sub_lines _|exact trivial|exact rfl|exact fun h=>h|refine And.intro ?_ ?_)
   all_goals exact hW
 have h3:¬ i<ls.length:=by simpa using h2
 have hlong:longB ls=false:=any_none (d:=[]) (fun j hj=>decide_eq_false (by have:=hpre j (by omega); omega))
 have hno:¬ (ls.length<1\/64<ls.length\/longB ls=true):=by
  rintro (h1|h1|h1)
  ·omega
  ·omega
  ·rw [hlong] at h1;cases h1
 rw [rcheckE,if_neg hno] at hr;clear hpre h2 h3 hi i;refine ⟨?_,fun i hpre=>?_⟩
 ·refine ⟨0,⟨Nat.zero_le _,fun j hj=>absurd hj (Nat.not_lt_zero _)⟩,?_⟩
  repeat' (first|exact sub_lines _|exact trivial|exact rfl|exact fun h=>h|refine And.intro ?_ ?_)
 obtain ⟨hi,hpre⟩:=hpre;refine VB_intro (fun h2=>?_) (fun h2=>?_)
 ·have h3:i<ls.length:=by simpa using h2
  rw [show (Int.toNat (i:Int))=i from rfl,slotsOf_self,slotsB_self];have hW:IntKind.i64.wrap ((i:Int)+1)=((i+1:Nat):Int):=by rw [wrap_i64_id (by omega) (by omega)]; omega
  refine NB_intro (by simp; omega) (NB_intro (by rw [hf _ (getD_mem (d:=[]) h3)]; rfl) (VB_intro (fun h4=>?_) (fun h4=>?_)))
  ·have h5:decide (chkL 12 (ls.getD i [])≠0)=true:=by simpa using h4
   rw [find_first (d:=[]) h3 (fun j hj=>by simpa using hpre j hj) h5] at hr
   exact hr
  ·have h5:chkL 12 (ls.getD i [])=0:=by simpa using h4
   refine ⟨i+1,⟨by omega,fun j hj=>?_⟩,(show ls.length - (i+1)<ls.length - i by omega),?_⟩
   ·rcases Nat.lt_or_ge j i with h6|h6
    ·exact hpre j h6
    ·obtain rfl:j=i:=by omega
     exact h5
   repeat' (first|exact sub_lines _|exact trivial|exact rfl|exact fun h=>h|refine And.intro ?_ ?_)
   all_goals exact hW
 have h3:¬ i<ls.length:=by simpa using h2
 rw [find_none' (d:=[]) (fun j hj=>by simpa using hpre j (by omega))] at hr
 clear hpre h2 h3 hi i;refine ⟨?_,fun i hpre=>?_⟩
 ·refine ⟨0,⟨Nat.zero_le _,fun j hj=>absurd hj (Nat.not_lt_zero _)⟩,?_⟩
  repeat' (first|exact sub_lines _|exact trivial|exact rfl|exact fun h=>h|refine And.intro ?_ ?_)
 obtain ⟨hi,hpre⟩:=hpre;refine VB_intro (fun h2=>?_) (fun h2=>?_)
 ·have h3:i<ls.length:=by simpa using h2
  rw [show (Int.toNat (i:Int))=i from rfl];have hW:IntKind.i64.wrap ((i:Int)+1)=((i+1:Nat):Int):=by rw [wrap_i64_id (by omega) (by omega)]; omega
  refine ⟨?_,fun k hk=>?_⟩
  ·refine ⟨0,⟨Nat.zero_le _,fun j hj=>absurd hj (Nat.not_lt_zero _)⟩,?_⟩
   repeat' (first|exact sub_lines _|exact trivial|exact rfl|exact fun h=>h|refine And.intro ?_ ?_)
  obtain ⟨hk1,hk2⟩:=hk;refine VB_intro (fun h4=>?_) (fun h4=>?_)
  ·have h5:k<i:=by simpa using h4
   rw [show (Int.toNat (k:Int))=k from rfl,slotsOf_self,slotsOf_self,slotsB_self,slotsB_self];have hWk:IntKind.i64.wrap ((k:Int)+1)=((k+1:Nat):Int):=by rw [wrap_i64_id (by omega) (by omega)]; omega
   refine NB_intro (by simp; omega) (NB_intro (by simp; omega) (NB_intro (by rw [hf _ (getD_mem (d:=[]) h3),hf _ (getD_mem (d:=[]) (show k<ls.length by omega))]; rfl) (VB_intro (fun h6=>?_) (fun h6=>?_))))
   ·have h7:ls.getD i []=ls.getD k []:=of_decide_eq_true h6;have h8:newL ls i=false:=by
     rw [newL,List.all_eq_false];exact ⟨k,by simpa using h5,by simpa using h7⟩
    have h9:(List.range ls.length).all (newL ls)=false:=by
     rw [List.all_eq_false];exact ⟨i,by simpa using h3,by rw [h8]; simp⟩
    rw [h9] at hr;exact hr
   ·have h7:ls.getD i []≠ls.getD k []:=of_decide_eq_false h6;refine ⟨k+1,⟨by omega,fun j hj=>?_⟩,(show i - (k+1)<i - k by omega),?_⟩
    ·rcases Nat.lt_or_ge j k with h8|h8
     ·exact hk2 j h8
     ·obtain rfl:j=k:=by omega
      exact h7
    repeat' (first|exact sub_lines _|exact trivial|exact rfl|exact fun h=>h|refine And.intro ?_ ?_)
    all_goals exact hWk
  ·have h5:¬ k<i:=by simpa using h4
   refine ⟨i+1,⟨by omega,fun j hj=>?_⟩,(show ls.length - (i+1)<ls.length - i by omega),?_⟩
   ·rcases Nat.lt_or_ge j i with h8|h8
    ·exact hpre j h8
    ·obtain rfl:j=i:=by omega
     rw [newL,List.all_eq_true];exact fun q hq=>decide_eq_true (hk2 q (Nat.lt_of_lt_of_le (List.mem_range.1 hq) (Nat.le_of_not_lt h5)))
   repeat' (first|exact sub_lines _|exact trivial|exact rfl|exact fun h=>h|refine And.intro ?_ ?_)
   all_goals exact hW
 ·have h3:¬ i<ls.length:=by simpa using h2
  have h9:(List.range ls.length).all (newL ls)=true:=by
   rw [List.all_eq_true];exact fun j hj=>hpre j (Nat.lt_of_lt_of_le (List.mem_range.1 hj) (Nat.le_of_not_lt h3))
  rw [h9] at hr;exact hr
end Go.Proofs.YtlnpgnipocbfhaaGreatDoor
