/- RUNS, atoms: sound atoms. -/
import Derived.Test.YtlnpgnipocbfhaaGreatDoorPD4
namespace Go.Proofs.YtlnpgnipocbfhaaGreatDoor.Pd
open Pw Go
set_option maxRecDepth 100000
theorem atomI_pure (k:Int) (bd:Bool) (bo:Int) (n:Nat) (o v:Nat->Int) (nm:List UInt8) (hn:n<=1000000) (hm:nm.length<=9223372036854775807) :
  PureC Tryz.prog gN 221 [.agg (atomL k bd bo n o v nm)] (.bool (atomS k bd bo n o nm)):=by
 refine pure_vcG mix tblN_ok ((atomI_vc k bd bo n o v nm _).mpr ?_);simp only [EqI,imp_self,true_and,and_true,implies_true,Int.toNat_natCast,List.length_cons,List.length_nil,hm,decide_true,isW_t]
 refine NB_intro (by cases (decide (k>=0)&&decide (k<=25)&&(bd||bo==0)&&isW false (nm==[])) <;> rfl) ?_
 have hS:atomS k bd bo n o nm=(decide (k>=0)&&decide (k<=25)&&(bd||bo==0)&&(nm==[]||nameS nm)&&okAll n o):=rfl;generalize (decide (k>=0)&&decide (k<=25)&&(bd||bo==0)&&(nm==[]||nameS nm))=q at hS ⊢
 refine VB_intro (fun h=>?_) (fun h=>by rw [hS,h]; rfl)
 subst h;refine ⟨⟨0,⟨by omega,fun j hj=>by omega⟩,by simp⟩,fun i hi=>?_⟩
 obtain ⟨hi1,hi2⟩:=hi;refine VB_intro (fun hlt=>?_) (fun hlt=>?_)
 ·have hlt':i<n:=by have:=of_decide_eq_true hlt; omega
  refine NB_intro (decide_eq_true (by omega)) (VB_intro (fun hb=>?_) (fun hb=>?_))
  ·have hb':okOp (o i)=false:=(Bool.not_eq_true' _).mp hb;rw [hS,okAll_no hlt' hb',decide_eq_true (show (i:Int)>=0 by omega)]
   rfl
  ·have hb':okOp (o i)=true:=(Bool.not_eq_false' _).mp hb;refine ⟨i+1,⟨by omega,fun j hj=>?_⟩,by simp only [invCF]; omega,by rw [wrap_i64_id (by omega) (by omega)]; omega⟩
   rcases Nat.lt_or_ge j i with h'|h'
   ·exact hi2 j h'
   ·obtain rfl:j=i:=by omega
    exact hb'
 ·have hie:i=n:=by have:=of_decide_eq_false hlt; omega
  subst hie;rw [hS,okAll_iff.2 hi2]
theorem atomR_pure (k:Int) (bd:Bool) (bo:Int) (n:Nat) (o v:Nat->Int) (nm:List UInt8) (hn:n<=1000000) (hm:nm.length<=9223372036854775807) :
  PureC Tryz.prog gN 225 [.agg (atomL k bd bo n o v nm)] (.bool (atomS k bd bo n o nm)):=by
 refine pure_vcG mix tblN_ok ((atomR_vc k bd bo n o v nm _).mpr ?_);simp only [EqI,imp_self,true_and,and_true,implies_true,Int.toNat_natCast,List.length_cons,List.length_nil,hm,decide_true,isW_t]
 have hS:atomS k bd bo n o nm=(decide (k>=0)&&decide (k<=25)&&(bd||bo==0)&&(nm==[]||nameS nm)&&okAll n o):=rfl;refine ⟨⟨0,⟨by omega,fun j hj=>by omega⟩,by simp⟩,fun i hi=>?_⟩
 obtain ⟨hi1,hi2⟩:=hi;refine VB_intro (fun hlt=>?_) (fun hlt=>?_)
 ·have hlt':i<n:=by have:=of_decide_eq_true hlt; omega
  refine NB_intro (decide_eq_true (by omega)) (VB_intro (fun hb=>?_) (fun hb=>?_))
  ·have hb':okOp (o i)=false:=(Bool.not_eq_true' _).mp hb;rw [hS,okAll_no hlt' hb',Bool.and_false]
  ·have hb':okOp (o i)=true:=(Bool.not_eq_false' _).mp hb;refine ⟨i+1,⟨by omega,fun j hj=>?_⟩,by simp only [invAR]; omega,by rw [wrap_i64_id (by omega) (by omega)]; omega⟩
   rcases Nat.lt_or_ge j i with h'|h'
   ·exact hi2 j h'
   ·obtain rfl:j=i:=by omega
    exact hb'
 ·have hie:i=n:=by have:=of_decide_eq_false hlt; omega
  subst hie;refine NB_intro (by cases (decide (k>=0)&&decide (k<=25)&&(bd||bo==0)&&isW false (nm==[])) <;> rfl) ?_
  rw [hS,okAll_iff.2 hi2,Bool.and_true]
def cAtom:Ctr
 | [.agg [.int .i64 k,.bool bd,.int .u64 bo,.rof n f _,.str nm]]=>some (decide (n<=1000000)&&condsB n f&&decide (nm.length<=9223372036854775807),.bool (atomS k bd bo n (fun i=>opOf (f i)) nm))
 | _=>none
theorem atom_sub {k:Int} {bd:Bool} {bo:Int} {n:Nat} {f:Nat->AV} {ex:Bool} {nm:List UInt8} (h:condsB n f=true) :
  (AV.agg [.int .i64 k,.bool bd,.int .u64 bo,.rof n f ex,.str nm]).sub (.agg (atomL k bd bo n (fun i=>opOf (f i)) (fun i=>valOf (f i)) nm)):=⟨rfl,rfl,rfl,rof_cond_sub h,rfl,trivial⟩
theorem atom_of {g:Nat} (h:∀ (k:Int) (bd:Bool) (bo:Int) (n:Nat) (o v:Nat->Int) (nm:List UInt8),n<=1000000->nm.length<=9223372036854775807->PureC Tryz.prog gN g [.agg (atomL k bd bo n o v nm)] (.bool (atomS k bd bo n o nm))):PureG Tryz.prog gN g cAtom:=by
 intro args nd v he hnd;unfold cAtom at he;split at he <;> cases he
 simp only [Bool.and_eq_true,decide_eq_true_eq] at hnd;rename_i k bd bo n f ex nm;refine PureC.args (args':=[.agg (atomL k bd bo n (fun i=>opOf (f i)) (fun i=>valOf (f i)) nm)]) rfl ?_ (h _ _ _ _ _ _ _ hnd.1.1 hnd.2)
 intro i hi
 match i,hi with
 | 0,_=>exact atom_sub hnd.1.2
def tblA:List (Nat×Ctr):=[(221,cAtom),(225,cAtom)]
theorem tblA_ok:TblOK Tryz.prog gN (tblOf tblA):=tblG_cons (atom_of atomI_pure) (tblG_cons (atom_of atomR_pure) (tblG_nil _ _))
theorem checkI_vc (k:Int) (bd:Bool) (bo:Int) (n:Nat) (o v:Nat->Int) (nm:List UInt8) (e:Int):(vcFun (mkG Tryz.prog gN (tblOf tblA) (fun _ _=>none) 0) 20 117 [.agg [.int .i64 k,.bool bd,.int .u64 bo,.rof n (fun i=>.agg [.int .i64 (o i),.int .i64 (v i)]) false,.str nm]] .nil 0 (retP 3 (.int .i64 e))).sat=( VB (decide ((n:Int) > (8:Int))) ((6:Int)=e) (NB ((decide (n<=1000000)&&condsB n fun i:Nat=> AV.agg [AV.int .i64 (o i),AV.int .i64 (v i)])&&decide (nm.length<=9223372036854775807)) (VB (!(atomS k bd bo n (fun i:Nat=> o i) nm&&true&&true&&true&&true&&true)) ((3:Int)=e) ((0:Int)=e)))):=by
 kernel_rfl
theorem checkR_vc (k:Int) (bd:Bool) (bo:Int) (n:Nat) (o v:Nat->Int) (nm:List UInt8) (e:Int):(vcFun (mkG Tryz.prog gN (tblOf tblA) (fun _ _=>none) 0) 20 123 [.agg [.int .i64 k,.bool bd,.int .u64 bo,.rof n (fun i=>.agg [.int .i64 (o i),.int .i64 (v i)]) false,.str nm]] .nil 0 (retP 3 (.int .i64 e))).sat=( VB (decide ((n:Int) > (8:Int))) ((6:Int)=e) (NB ((decide (n<=1000000)&&condsB n fun i:Nat=> AV.agg [AV.int .i64 (o i),AV.int .i64 (v i)])&&decide (nm.length<=9223372036854775807)) (VB (!(atomS k bd bo n (fun i:Nat=> o i) nm&&true&&true&&true&&true&&true)) ((3:Int)=e) ((0:Int)=e)))):=by
 kernel_rfl
theorem eventI_vc (l k x e:Int):(vcFun (mkG Tryz.prog gN (tblOf tblA) (fun _ _=>none) 0) 20 154 [.agg [.int .u64 l,.int .i64 k,.int .i64 x]] .nil 0 (retP 3 (.int .i64 e))).sat=( VB (decide (k<(0:Int))||decide (k > (25:Int))) ((11:Int)=e) ((0:Int)=e)):=by
 kernel_rfl
theorem eventR_vc (l k x e:Int):(vcFun (mkG Tryz.prog gN (tblOf tblA) (fun _ _=>none) 0) 20 161 [.agg [.int .u64 l,.int .i64 k,.int .i64 x]] .nil 0 (retP 3 (.int .i64 e))).sat=( VB (decide (k<(0:Int))||decide (k > (25:Int))) ((11:Int)=e) ((0:Int)=e)):=by
 kernel_rfl
def checkE (k:Int) (bd:Bool) (bo:Int) (n:Nat) (o:Nat->Int) (nm:List UInt8):Int:=if 8<n then 6 else if atomS k bd bo n o nm=true then 0 else 3
def eventE (k:Int):Int:=if k<0\/k > 25 then 11 else 0
theorem check_zero {k:Int} {bd:Bool} {bo:Int} {n:Nat} {o:Nat->Int} {nm:List UInt8} (h:checkE k bd bo n o nm=0):n<=8/\okAll n o=true/\0<=k/\k<=25/\(bd=true\/bo=0):=by
 simp only [checkE] at h;split at h
 ·cases h
 ·split at h
  ·rename_i ha;simp only [atomS,Bool.and_eq_true,decide_eq_true_eq,Bool.or_eq_true,beq_iff_eq] at ha;exact ⟨by omega,ha.2,ha.1.1.1.1,ha.1.1.1.2,ha.1.1.2⟩
  ·cases h
theorem check_fin {k:Int} {bd:Bool} {bo:Int} {n:Nat} {o:Nat->Int} {nm:List UInt8} (h:¬ 8<n):VB (!atomS k bd bo n o nm) ((3:Int)=checkE k bd bo n o nm) ((0:Int)=checkE k bd bo n o nm):=by
 simp only [checkE,if_neg h];cases atomS k bd bo n o nm <;> rfl
theorem checkI_pure (k:Int) (bd:Bool) (bo:Int) (n:Nat) (o v:Nat->Int) (nm:List UInt8) (hm:nm.length<=9223372036854775807):PureC Tryz.prog gN 117 [.agg (atomL k bd bo n o v nm)] (.int .i64 (checkE k bd bo n o nm)):=by
 refine pure_vcG mix tblA_ok ((checkI_vc k bd bo n o v nm _).mpr ?_);refine VB_intro (fun h=>?_) (fun h=>?_)
 ·have:8<n:=by have:=of_decide_eq_true h; omega
  simp [checkE,this]
 ·have h8:¬ 8<n:=by have:=of_decide_eq_false h; omega
  have hn:n<=1000000:=by omega
  simp only [EqI,opOf_agg,condsB_agg,hn,hm,decide_true,Bool.and_self,Bool.and_true,NB_t];exact check_fin h8
theorem checkR_pure (k:Int) (bd:Bool) (bo:Int) (n:Nat) (o v:Nat->Int) (nm:List UInt8) (hm:nm.length<=9223372036854775807):PureC Tryz.prog gN 123 [.agg (atomL k bd bo n o v nm)] (.int .i64 (checkE k bd bo n o nm)):=by
 refine pure_vcG mix tblA_ok ((checkR_vc k bd bo n o v nm _).mpr ?_);refine VB_intro (fun h=>?_) (fun h=>?_)
 ·have:8<n:=by have:=of_decide_eq_true h; omega
  simp [checkE,this]
 ·have h8:¬ 8<n:=by have:=of_decide_eq_false h; omega
  have hn:n<=1000000:=by omega
  simp only [EqI,opOf_agg,condsB_agg,hn,hm,decide_true,Bool.and_self,Bool.and_true,NB_t];exact check_fin h8
theorem event_fin {k:Int}:VB (decide (k<(0:Int))||decide (k > (25:Int))) ((11:Int)=eventE k) ((0:Int)=eventE k):=by
 refine VB_intro (fun h=>?_) (fun h=>?_)
 ·simp only [Bool.or_eq_true,decide_eq_true_eq] at h;simp [eventE,h]
 ·simp only [Bool.or_eq_false_iff,decide_eq_false_iff_not] at h;rw [eventE,if_neg (by omega)]
def cCheck:Ctr
 | [.agg [.int .i64 k,.bool bd,.int .u64 bo,.rof n f _,.str nm]]=>some (condsB n f&&decide (nm.length<=9223372036854775807),.int .i64 (checkE k bd bo n (fun i=>opOf (f i)) nm))
 | _=>none
def cEvent:Ctr
 | [.agg [.int .u64 _,.int .i64 k,.int .i64 _]]=>some (true,.int .i64 (eventE k))
 | _=>none
theorem check_of {g:Nat} (h:∀ (k:Int) (bd:Bool) (bo:Int) (n:Nat) (o v:Nat->Int) (nm:List UInt8),nm.length<=9223372036854775807->PureC Tryz.prog gN g [.agg (atomL k bd bo n o v nm)] (.int .i64 (checkE k bd bo n o nm))):PureG Tryz.prog gN g cCheck:=by
 intro args nd v he hnd;unfold cCheck at he;split at he <;> cases he
 simp only [Bool.and_eq_true,decide_eq_true_eq] at hnd;rename_i k bd bo n f ex nm;refine PureC.args (args':=[.agg (atomL k bd bo n (fun i=>opOf (f i)) (fun i=>valOf (f i)) nm)]) rfl ?_ (h _ _ _ _ _ _ _ hnd.2)
 intro i hi
 match i,hi with
 | 0,_=>exact atom_sub hnd.1
theorem eventI_ok:PureG Tryz.prog gN 154 cEvent:=by
 intro args nd v he hnd;unfold cEvent at he;split at he <;> cases he
 exact pure_vcG mix tblA_ok ((eventI_vc _ _ _ _).mpr event_fin)
theorem eventR_ok:PureG Tryz.prog gN 161 cEvent:=by
 intro args nd v he hnd;unfold cEvent at he;split at he <;> cases he
 exact pure_vcG mix tblA_ok ((eventR_vc _ _ _ _).mpr event_fin)
noncomputable def tblB:List (Nat×Ctr):=[(117,cCheck),(123,cCheck),(154,cEvent),(161,cEvent),(160,cAll),(193,cAll),(192,cBelow)]
theorem tblB_ok:TblOK Tryz.prog gN (tblOf tblB) :=
 tblG_cons (check_of checkI_pure) (tblG_cons (check_of checkR_pure) (tblG_cons eventI_ok (tblG_cons eventR_ok (tblG_cons (all_of allI_pure).up (tblG_cons (all_of allR_pure).up (tblG_cons below_ok (tblG_nil _ _)))))))
theorem matchI_vc (k:Int) (bd:Bool) (bo:Int) (n:Nat) (o v:Nat->Int) (nm:List UInt8) (l ek x:Int) (r:Bool):(vcFun (mkG Tryz.prog gN (tblOf tblB) (fun _ _=>none) 0) 20 129 [.agg [.int .i64 k,.bool bd,.int .u64 bo,.rof n (fun i=>.agg [.int .i64 (o i),.int .i64 (v i)]) false,.str nm],.agg [.int .u64 l,.int .i64 ek,.int .i64 x]] .nil 0 (retP 3 (.bool r))).sat=( NB (impB (isW true (k==ek&&(!bd||andNotI .u64 l bo==(0:Int)))) ((decide (n<=1000000)&&condsB n fun i:Nat=> AV.agg [AV.int .i64 (o i),AV.int .i64 (v i)])&&okAll n fun i:Nat=> o i)) ((k==ek&&(!bd||andNotI .u64 l bo==(0:Int))&&allS n (fun i:Nat=> o i) (fun i:Nat=> v i) x)=r)):=by
 kernel_rfl
theorem matchR_vc (k:Int) (bd:Bool) (bo:Int) (n:Nat) (o v:Nat->Int) (nm:List UInt8) (l ek x:Int) (r:Bool):(vcFun (mkG Tryz.prog gN (tblOf tblB) (fun _ _=>none) 0) 20 162 [.agg [.int .i64 k,.bool bd,.int .u64 bo,.rof n (fun i=>.agg [.int .i64 (o i),.int .i64 (v i)]) false,.str nm],.agg [.int .u64 l,.int .i64 ek,.int .i64 x]] .nil 0 (retP 3 (.bool r))).sat=( VB (k !=ek||bd&&!belowS l bo) (false=r) (NB ((decide (n<=1000000)&&condsB n fun i:Nat=> AV.agg [AV.int .i64 (o i),AV.int .i64 (v i)])&&okAll n fun i:Nat=> o i) (allS n (fun i:Nat=> o i) (fun i:Nat=> v i) x=r))):=by
 kernel_rfl
def u64B (x:Int):Bool:=decide (0<=x)&&decide (x<=18446744073709551615)
def matchS (k:Int) (bd:Bool) (bo:Int) (n:Nat) (o v:Nat->Int) (l ek x:Int):Bool:=k==ek&&(!bd||belowS l bo)&&allS n o v x
theorem u64B_iff {x:Int}:u64B x=true ↔ 0<=x/\x<=18446744073709551615:=by simp [u64B]
def evL (l ek x:Int):List AV:=[.int .u64 l,.int .i64 ek,.int .i64 x]
theorem matchI_pure (k:Int) (bd:Bool) (bo:Int) (n:Nat) (o v:Nat->Int) (nm:List UInt8) (l ek x:Int) (hn:n<=1000000) (hok:okAll n o=true) (hl:u64B l=true) (hb:u64B bo=true) :
  PureC Tryz.prog gN 129 [.agg (atomL k bd bo n o v nm),.agg (evL l ek x)] (.bool (matchS k bd bo n o v l ek x)):=by
 refine pure_vcG mix tblB_ok ((matchI_vc k bd bo n o v nm l ek x _).mpr ?_);simp only [EqI,opOf_agg,valOf_agg,condsB_agg,hn,hok,decide_true,Bool.and_self,Bool.and_true,isW_t,below_bits (u64B_iff.1 hl) (u64B_iff.1 hb)]
 exact NB_intro (by simp [impB_t]) rfl
theorem matchR_pure (k:Int) (bd:Bool) (bo:Int) (n:Nat) (o v:Nat->Int) (nm:List UInt8) (l ek x:Int) (hn:n<=1000000) (hok:okAll n o=true) :
  PureC Tryz.prog gN 162 [.agg (atomL k bd bo n o v nm),.agg (evL l ek x)] (.bool (matchS k bd bo n o v l ek x)):=by
 refine pure_vcG mix tblB_ok ((matchR_vc k bd bo n o v nm l ek x _).mpr ?_);simp only [EqI,opOf_agg,valOf_agg,condsB_agg,hn,hok,decide_true,Bool.and_self,Bool.and_true,isW_t];simp only [matchS];refine VB_intro (fun h=>?_) (fun h=>?_)
 ·cases h1:k==ek
  ·rfl
  ·have:(k !=ek)=false:=by simp only [bne,h1,Bool.not_true]
   rw [this,Bool.false_or] at h;cases bd <;> cases h2:belowS l bo <;> simp_all
 ·cases h1:k==ek
  ·have:(k !=ek)=true:=by simp only [bne,h1,Bool.not_false]
   rw [this] at h; simp at h
  ·have:(k !=ek)=false:=by simp only [bne,h1,Bool.not_true]
   rw [this,Bool.false_or] at h;refine NB_intro rfl ?_;cases bd <;> cases h2:belowS l bo <;> simp_all
def cMatch:Ctr
 | [.agg [.int .i64 k,.bool bd,.int .u64 bo,.rof n f _,.str _],.agg [.int .u64 l,.int .i64 ek,.int .i64 x]] =>
  some (decide (n<=1000000)&&condsB n f&&okAll n (fun i=>opOf (f i))&&u64B l&&u64B bo,.bool (matchS k bd bo n (fun i=>opOf (f i)) (fun i=>valOf (f i)) l ek x))
 | _=>none
theorem match_of {g:Nat} (h:∀ (k:Int) (bd:Bool) (bo:Int) (n:Nat) (o v:Nat->Int) (nm:List UInt8) (l ek x:Int),n<=1000000->okAll n o=true->u64B l=true->u64B bo=true->PureC Tryz.prog gN g [.agg (atomL k bd bo n o v nm),.agg (evL l ek x)] (.bool (matchS k bd bo n o v l ek x))):PureG Tryz.prog gN g cMatch:=by
 intro args nd v he hnd;unfold cMatch at he;split at he <;> cases he
 simp only [Bool.and_eq_true,decide_eq_true_eq] at hnd;rename_i k bd bo n f ex nm l ek x
 refine PureC.args (args':=[.agg (atomL k bd bo n (fun i=>opOf (f i)) (fun i=>valOf (f i)) nm),.agg (evL l ek x)]) rfl ?_ (h _ _ _ _ _ _ _ _ _ _ hnd.1.1.1.1 hnd.1.1.2 hnd.1.2 hnd.2)
 intro i hi
 match i,hi with
 | 0,_=>exact atom_sub hnd.1.1.1.2
 | 1,_=>exact (show (AV.agg (evL l ek x)).sub (.agg (evL l ek x)) from ⟨rfl,rfl,rfl,trivial⟩)
noncomputable def tblC:List (Nat×Ctr):=(129,cMatch)::(162,cMatch)::tblB
theorem tblC_ok:TblOK Tryz.prog gN (tblOf tblC):=tblG_cons (match_of matchI_pure) (tblG_cons (match_of fun k bd bo n o v nm l ek x h1 h2 _ _=>matchR_pure k bd bo n o v nm l ek x h1 h2) tblB_ok)
def nmB (nm:List UInt8):Bool:=decide (nm.length<=9223372036854775807)
theorem matchesI_vc (k:Int) (bd:Bool) (bo:Int) (n:Nat) (o v:Nat->Int) (nm:List UInt8) (l ek x:Int) (r:Bool) (e:Int):(vcFun (mkG Tryz.prog gN (tblOf tblC) (fun _ _=>none) 0) 20 121 [.agg [.int .i64 k,.bool bd,.int .u64 bo,.rof n (fun i=>.agg [.int .i64 (o i),.int .i64 (v i)]) false,.str nm],.agg [.int .u64 l,.int .i64 ek,.int .i64 x]] .nil 0 (retP 3 (.tup [.bool r,.int .i64 e]))).sat=(NB ((condsB n fun i:Nat=> AV.agg [AV.int .i64 (o i),AV.int .i64 (v i)])&&decide (nm.length<=9223372036854775807)) (VB (checkE k bd bo n (fun i:Nat=> o i) nm !=(0:Int)) (false=r/\checkE k bd bo n (fun i:Nat=> o i) nm=e/\True) (VB (eventE ek !=(0:Int)) (false=r/\eventE ek=e/\True) (NB (((decide (n<=1000000)&&condsB n fun i:Nat=> AV.agg [AV.int .i64 (o i),AV.int .i64 (v i)])&&okAll n fun i:Nat=> o i)&&u64B l&&u64B bo) (matchS k bd bo n (fun i:Nat=> o i) (fun i:Nat=> v i) l ek x=r/\(0:Int)=e/\True))))):=by
 kernel_rfl
theorem matchesR_vc (k:Int) (bd:Bool) (bo:Int) (n:Nat) (o v:Nat->Int) (nm:List UInt8) (l ek x:Int) (r:Bool) (e:Int):(vcFun (mkG Tryz.prog gN (tblOf tblC) (fun _ _=>none) 0) 20 130 [.agg [.int .i64 k,.bool bd,.int .u64 bo,.rof n (fun i=>.agg [.int .i64 (o i),.int .i64 (v i)]) false,.str nm],.agg [.int .u64 l,.int .i64 ek,.int .i64 x]] .nil 0 (retP 3 (.tup [.bool r,.int .i64 e]))).sat=(let c0:=(NB (((decide (n<=1000000)&&condsB n fun i:Nat=> AV.agg [AV.int .i64 (o i),AV.int .i64 (v i)])&&okAll n fun i:Nat=> o i)&&u64B l&&u64B bo) (matchS k bd bo n (fun i:Nat=> o i) (fun i:Nat=> v i) l ek x=r/\(0:Int)=e/\True))
 NB ((condsB n fun i:Nat=> AV.agg [AV.int .i64 (o i),AV.int .i64 (v i)])&&decide (nm.length<=9223372036854775807)) (VB (checkE k bd bo n (fun i:Nat=> o i) nm==(0:Int)) (VB (eventE ek !=(0:Int)) (false=r/\eventE ek=e/\True) c0) (VB (checkE k bd bo n (fun i:Nat=> o i) nm !=(0:Int)) (false=r/\checkE k bd bo n (fun i:Nat=> o i) nm=e/\True) c0))):=by
 kernel_rfl
def MatB (k:Int) (bd:Bool) (bo:Int) (n:Nat) (o v:Nat->Int) (nm:List UInt8) (l ek x:Int):Bool:=decide (checkE k bd bo n o nm=0)&&decide (eventE ek=0)&&matchS k bd bo n o v l ek x
def MatE (k:Int) (bd:Bool) (bo:Int) (n:Nat) (o:Nat->Int) (nm:List UInt8) (ek:Int):Int:=if checkE k bd bo n o nm=0 then eventE ek else checkE k bd bo n o nm
section
variable (k:Int) (bd:Bool) (bo:Int) (n:Nat) (o v:Nat->Int) (nm:List UInt8) (l ek x:Int)
theorem mat_fin (hc:checkE k bd bo n o nm=0) (hl:u64B l=true) (hb:u64B bo=true) :
  VB (eventE ek !=0) (false=MatB k bd bo n o v nm l ek x/\eventE ek=MatE k bd bo n o nm ek/\True)
   (NB (((decide (n<=1000000)&&true)&&okAll n (fun i=>o i))&&u64B l&&u64B bo) (matchS k bd bo n (fun i=>o i) (fun i=>v i) l ek x=MatB k bd bo n o v nm l ek x/\(0:Int)=MatE k bd bo n o nm ek/\True)):=by
 refine VB_intro (fun h=>?_) (fun h=>?_)
 ·have h':eventE ek≠0:=by simpa using h
  simp [MatB,MatE,hc,h']
 ·have h':eventE ek=0:=by simpa using h
  obtain ⟨c1,c2,_⟩:=check_zero hc;refine NB_intro ?_ ?_
  ·have e1:okAll n (fun i=>o i)=true:=c2
   rw [decide_eq_true (show n<=1000000 by omega),e1,hl,hb]; rfl
  ·simp [MatB,MatE,hc,h']
theorem matchesI_pure (hm:nm.length<=9223372036854775807) (hl:u64B l=true) (hb:u64B bo=true):PureC Tryz.prog gN 121 [.agg (atomL k bd bo n o v nm),.agg (evL l ek x)] (.tup [.bool (MatB k bd bo n o v nm l ek x),.int .i64 (MatE k bd bo n o nm ek)]):=by
 refine pure_vcG mix tblC_ok ((matchesI_vc k bd bo n o v nm l ek x _ _).mpr ?_);simp only [EqI,opOf_agg,valOf_agg,condsB_agg,hm,decide_true,Bool.and_self,NB_t];refine VB_intro (fun h=>?_) (fun h=>?_)
 ·have h':checkE k bd bo n o nm≠0:=by simpa using h
  simp [MatB,MatE,h']
 ·exact mat_fin k bd bo n o v nm l ek x (by simpa using h) hl hb
theorem matchesR_pure (hm:nm.length<=9223372036854775807) (hl:u64B l=true) (hb:u64B bo=true):PureC Tryz.prog gN 130 [.agg (atomL k bd bo n o v nm),.agg (evL l ek x)] (.tup [.bool (MatB k bd bo n o v nm l ek x),.int .i64 (MatE k bd bo n o nm ek)]):=by
 refine pure_vcG mix tblC_ok ((matchesR_vc k bd bo n o v nm l ek x _ _).mpr ?_);simp only [EqI,opOf_agg,valOf_agg,condsB_agg,hm,decide_true,Bool.and_self,NB_t];refine VB_intro (fun h=>?_) (fun h=>?_)
 ·exact mat_fin k bd bo n o v nm l ek x (by simpa using h) hl hb
 ·have h':checkE k bd bo n o nm≠0:=by simpa using h
  refine VB_intro (fun _=>?_) (fun h2=>?_)
  ·simp [MatB,MatE,h']
  ·exact absurd (by simpa using h2) h'
end
def cMatches:Ctr
 | [.agg [.int .i64 k,.bool bd,.int .u64 bo,.rof n f _,.str nm],.agg [.int .u64 l,.int .i64 ek,.int .i64 x]] =>
  some (condsB n f&&nmB nm&&u64B l&&u64B bo,.tup [.bool (MatB k bd bo n (fun i=>opOf (f i)) (fun i=>valOf (f i)) nm l ek x),.int .i64 (MatE k bd bo n (fun i=>opOf (f i)) nm ek)])
 | _=>none
theorem args2 {g:Nat} {gl:Nat->AV} {x y x' y' v:AV} (hs:x.sub y) (hs':x'.sub y') (h:PureC Tryz.prog gl g [y,y'] v):PureC Tryz.prog gl g [x,x'] v:=by
 refine PureC.args (args':=[y,y']) rfl ?_ h;intro i hi
 match i,hi with
 | 0,_=>exact hs
 | 1,_=>exact hs'
theorem ev_sub (l ek x:Int):(AV.agg [.int .u64 l,.int .i64 ek,.int .i64 x]).sub (.agg (evL l ek x)):=⟨rfl,rfl,rfl,trivial⟩
theorem matches_of {g:Nat} (h:∀ (k:Int) (bd:Bool) (bo:Int) (n:Nat) (o v:Nat->Int) (nm:List UInt8) (l ek x:Int),nm.length<=9223372036854775807->u64B l=true->u64B bo=true->PureC Tryz.prog gN g [.agg (atomL k bd bo n o v nm),.agg (evL l ek x)] (.tup [.bool (MatB k bd bo n o v nm l ek x),.int .i64 (MatE k bd bo n o nm ek)])):PureG Tryz.prog gN g cMatches:=by
 intro args nd v he hnd;unfold cMatches at he;split at he <;> cases he
 simp only [Bool.and_eq_true,nmB,decide_eq_true_eq] at hnd;exact args2 (atom_sub hnd.1.1.1) (ev_sub _ _ _) (h _ _ _ _ _ _ _ _ _ _ hnd.1.1.2 hnd.1.2 hnd.2)
end Go.Proofs.YtlnpgnipocbfhaaGreatDoor.Pd
