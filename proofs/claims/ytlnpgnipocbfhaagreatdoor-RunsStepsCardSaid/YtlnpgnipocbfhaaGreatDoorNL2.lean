/- TREES 2: keys of slots, copies: conditions. -/
import Derived.Test.YtlnpgnipocbfhaaGreatDoorNL1
namespace Go.Proofs.YtlnpgnipocbfhaaGreatDoor
open Pw Go
set_option maxRecDepth 100000
theorem of_vc (s:SlotG) (r:AV):(vcFun (mkF Tryz.prog (tblOf []) (fun _ _=>none) 15) 20 51 [slotA s] .nil 0 (retP 3 r)).sat=(let c0:=(IntKind.i8.wrap (IntKind.i64.wrap (s.gds.getD (Int.toNat (0:Int)) (0:Int)+(1:Int))))
 let c1:=(IntKind.i8.wrap (IntKind.i64.wrap (s.gds.getD (Int.toNat (1:Int)) (0:Int)+(1:Int))))
 let c2:=(IntKind.i8.wrap (IntKind.i64.wrap (s.gds.getD (Int.toNat (2:Int)) (0:Int)+(1:Int))))
 let c3:=(IntKind.i8.wrap (IntKind.i64.wrap (s.gds.getD (Int.toNat (3:Int)) (0:Int)+(1:Int))))
 let c4:=(IntKind.i8.wrap (IntKind.i64.wrap (s.gds.getD (Int.toNat (4:Int)) (0:Int)+(1:Int))))
 let c5:=(IntKind.i8.wrap (IntKind.i64.wrap (s.gds.getD (Int.toNat (5:Int)) (0:Int)+(1:Int))))
 let c6:=(IntKind.i8.wrap (IntKind.i64.wrap (s.gds.getD (Int.toNat (6:Int)) (0:Int)+(1:Int))))
 let c7:=(IntKind.i8.wrap (IntKind.i64.wrap (s.gds.getD (Int.toNat (7:Int)) (0:Int)+(1:Int))))
 let c8:=(IntKind.i8.wrap (IntKind.i64.wrap (s.gds.getD (Int.toNat (8:Int)) (0:Int)+(1:Int))))
 let c9:=(IntKind.i8.wrap (IntKind.i64.wrap (s.gds.getD (Int.toNat (9:Int)) (0:Int)+(1:Int))))
 let c10:=(IntKind.i8.wrap (IntKind.i64.wrap (s.gds.getD (Int.toNat (10:Int)) (0:Int)+(1:Int))))
 let c11:=(IntKind.i8.wrap (IntKind.i64.wrap (s.gds.getD (Int.toNat (11:Int)) (0:Int)+(1:Int))))
 VB (decide ((0:Int)<(s.gds.length:Int))) (NB (decide ((0:Int)<=(0:Int)/\(0:Int)<(s.gds.length:Int))) (VB (decide ((1:Int)<(s.gds.length:Int))) (NB (decide ((0:Int)<=(1:Int)/\(1:Int)<(s.gds.length:Int))) (VB (decide ((2:Int)<(s.gds.length:Int))) (NB (decide ((0:Int)<=(2:Int)/\(2:Int)<(s.gds.length:Int))) (VB (decide ((3:Int)<(s.gds.length:Int))) (NB (decide ((0:Int)<=(3:Int)/\(3:Int)<(s.gds.length:Int))) (VB (decide ((4:Int)<(s.gds.length:Int))) (NB (decide ((0:Int)<=(4:Int)/\(4:Int)<(s.gds.length:Int))) (VB (decide ((5:Int)<(s.gds.length:Int))) (NB (decide ((0:Int)<=(5:Int)/\(5:Int)<(s.gds.length:Int))) (VB (decide ((6:Int)<(s.gds.length:Int))) (NB (decide ((0:Int)<=(6:Int)/\(6:Int)<(s.gds.length:Int))) (VB (decide ((7:Int)<(s.gds.length:Int))) (NB (decide ((0:Int)<=(7:Int)/\(7:Int)<(s.gds.length:Int))) (VB (decide ((8:Int)<(s.gds.length:Int))) (NB (decide ((0:Int)<=(8:Int)/\(8:Int)<(s.gds.length:Int))) (VB (decide ((9:Int)<(s.gds.length:Int))) (NB (decide ((0:Int)<=(9:Int)/\(9:Int)<(s.gds.length:Int))) (VB (decide ((10:Int)<(s.gds.length:Int))) (NB (decide ((0:Int)<=(10:Int)/\(10:Int)<(s.gds.length:Int))) (VB (decide ((11:Int)<(s.gds.length:Int))) (NB (decide ((0:Int)<=(11:Int)/\(11:Int)<(s.gds.length:Int))) (VB (decide ((12:Int)<(s.gds.length:Int))) (NB (decide ((0:Int)<=(12:Int)/\(12:Int)<(s.gds.length:Int))) (VB (decide ((13:Int)<(s.gds.length:Int))) (NB (decide ((0:Int)<=(13:Int)/\(13:Int)<(s.gds.length:Int))) False) ((AV.agg [AV.int .i64 s.fst,AV.int .i8 c0,AV.int .i8 c1,AV.int .i8 c2,AV.int .i8 c3,AV.int .i8 c4,AV.int .i8 c5,AV.int .i8 c6,AV.int .i8 c7,AV.int .i8 c8,AV.int .i8 c9,AV.int .i8 c10,AV.int .i8 c11,AV.int .i8 (IntKind.i8.wrap (IntKind.i64.wrap (s.gds.getD (Int.toNat (12:Int)) (0:Int)+(1:Int))))]).sub r))) ((AV.agg [AV.int .i64 s.fst,AV.int .i8 c0,AV.int .i8 c1,AV.int .i8 c2,AV.int .i8 c3,AV.int .i8 c4,AV.int .i8 c5,AV.int .i8 c6,AV.int .i8 c7,AV.int .i8 c8,AV.int .i8 c9,AV.int .i8 c10,AV.int .i8 c11,AV.int .i8 (0:Int)]).sub r))) ((AV.agg [AV.int .i64 s.fst,AV.int .i8 c0,AV.int .i8 c1,AV.int .i8 c2,AV.int .i8 c3,AV.int .i8 c4,AV.int .i8 c5,AV.int .i8 c6,AV.int .i8 c7,AV.int .i8 c8,AV.int .i8 c9,AV.int .i8 c10,AV.int .i8 (0:Int),AV.int .i8 (0:Int)]).sub r))) ((AV.agg [AV.int .i64 s.fst,AV.int .i8 c0,AV.int .i8 c1,AV.int .i8 c2,AV.int .i8 c3,AV.int .i8 c4,AV.int .i8 c5,AV.int .i8 c6,AV.int .i8 c7,AV.int .i8 c8,AV.int .i8 c9,AV.int .i8 (0:Int),AV.int .i8 (0:Int),AV.int .i8 (0:Int)]).sub r))) ((AV.agg [AV.int .i64 s.fst,AV.int .i8 c0,AV.int .i8 c1,AV.int .i8 c2,AV.int .i8 c3,AV.int .i8 c4,AV.int .i8 c5,AV.int .i8 c6,AV.int .i8 c7,AV.int .i8 c8,AV.int .i8 (0:Int),AV.int .i8 (0:Int),AV.int .i8 (0:Int),AV.int .i8 (0:Int)]).sub r))) ((AV.agg [AV.int .i64 s.fst,AV.int .i8 c0,AV.int .i8 c1,AV.int .i8 c2,AV.int .i8 c3,AV.int .i8 c4,AV.int .i8 c5,AV.int .i8 c6,AV.int .i8 c7,AV.int .i8 (0:Int),AV.int .i8 (0:Int),AV.int .i8 (0:Int),AV.int .i8 (0:Int),AV.int .i8 (0:Int)]).sub r))) ((AV.agg [AV.int .i64 s.fst,AV.int .i8 c0,AV.int .i8 c1,AV.int .i8 c2,AV.int .i8 c3,AV.int .i8 c4,AV.int .i8 c5,AV.int .i8 c6,AV.int .i8 (0:Int),AV.int .i8 (0:Int),AV.int .i8 (0:Int),AV.int .i8 (0:Int),AV.int .i8 (0:Int),AV.int .i8 (0:Int)]).sub r))) ((AV.agg [AV.int .i64 s.fst,AV.int .i8 c0,AV.int .i8 c1,AV.int .i8 c2,AV.int .i8 c3,AV.int .i8 c4,AV.int .i8 c5,AV.int .i8 (0:Int),AV.int .i8 (0:Int),AV.int .i8 (0:Int),AV.int .i8 (0:Int),AV.int .i8 (0:Int),AV.int .i8 (0:Int),AV.int .i8 (0:Int)]).sub r))) ((AV.agg [AV.int .i64 s.fst,AV.int .i8 c0,AV.int .i8 c1,AV.int .i8 c2,AV.int .i8 c3,AV.int .i8 c4,AV.int .i8 (0:Int),AV.int .i8 (0:Int),AV.int .i8 (0:Int),AV.int .i8 (0:Int),AV.int .i8 (0:Int),AV.int .i8 (0:Int),AV.int .i8 (0:Int),AV.int .i8 (0:Int)]).sub r))) ((AV.agg [AV.int .i64 s.fst,AV.int .i8 c0,AV.int .i8 c1,AV.int .i8 c2,AV.int .i8 c3,AV.int .i8 (0:Int),AV.int .i8 (0:Int),AV.int .i8 (0:Int),AV.int .i8 (0:Int),AV.int .i8 (0:Int),AV.int .i8 (0:Int),AV.int .i8 (0:Int),AV.int .i8 (0:Int),AV.int .i8 (0:Int)]).sub r))) ((AV.agg [AV.int .i64 s.fst,AV.int .i8 c0,AV.int .i8 c1,AV.int .i8 c2,AV.int .i8 (0:Int),AV.int .i8 (0:Int),AV.int .i8 (0:Int),AV.int .i8 (0:Int),AV.int .i8 (0:Int),AV.int .i8 (0:Int),AV.int .i8 (0:Int),AV.int .i8 (0:Int),AV.int .i8 (0:Int),AV.int .i8 (0:Int)]).sub r))) ((AV.agg [AV.int .i64 s.fst,AV.int .i8 c0,AV.int .i8 c1,AV.int .i8 (0:Int),AV.int .i8 (0:Int),AV.int .i8 (0:Int),AV.int .i8 (0:Int),AV.int .i8 (0:Int),AV.int .i8 (0:Int),AV.int .i8 (0:Int),AV.int .i8 (0:Int),AV.int .i8 (0:Int),AV.int .i8 (0:Int),AV.int .i8 (0:Int)]).sub r))) ((AV.agg [AV.int .i64 s.fst,AV.int .i8 c0,AV.int .i8 (0:Int),AV.int .i8 (0:Int),AV.int .i8 (0:Int),AV.int .i8 (0:Int),AV.int .i8 (0:Int),AV.int .i8 (0:Int),AV.int .i8 (0:Int),AV.int .i8 (0:Int),AV.int .i8 (0:Int),AV.int .i8 (0:Int),AV.int .i8 (0:Int),AV.int .i8 (0:Int)]).sub r))) ((AV.agg [AV.int .i64 s.fst,AV.int .i8 (0:Int),AV.int .i8 (0:Int),AV.int .i8 (0:Int),AV.int .i8 (0:Int),AV.int .i8 (0:Int),AV.int .i8 (0:Int),AV.int .i8 (0:Int),AV.int .i8 (0:Int),AV.int .i8 (0:Int),AV.int .i8 (0:Int),AV.int .i8 (0:Int),AV.int .i8 (0:Int),AV.int .i8 (0:Int)]).sub r)):=by
 kernel_rfl
theorem cloneI_vc (l:List Int):(vcFun { mkE Tryz.prog (tblOf []) (fun _ _=>none) with nq:=true } 20 52 [intsA l] .nil 0 (retP 3 (intsA l))).sat=( ∀ i:Bool,(i=true->l.length=0)->VB (false ^^ i) (l.length=0) (NB (true&&room (0+l.length) 8&&true&&(l.length !=0||true)) (0+l.length=l.length/\(∀ i:Nat,i<0+l.length->l.getD (0+i) (0:Int)=l.getD i (0:Int)/\[AV.int .i64 (l.getD (0+i) (0:Int))].length=[AV.int .i64 (l.getD i (0:Int))].length)/\(false=true->decide (none=some (0+l.length))=true)))):=by
 kernel_rfl
theorem keyF_ints (a:Int) (n:Nat) (f:Nat->AV):keyA (a,intsOf' n f,())=keyF a n f:=by
 have h:∀ j,kg (a,intsOf' n f,()) j=kgF n f j:=fun j=>kgF_ints j
 simp only [keyA,keyF,h]
theorem of_pure (s : SlotG) (h : s.gds.length <= 13) : PureC Tryz.prog gU 51 [slotA s] (keyA s) := by
  refine pure_vcF mix (tbl_nil _) ((of_vc s _).mpr ?_)
  conv => zeta
  have kgp : ∀ j, j < s.gds.length -> IntKind.i8.wrap (IntKind.i64.wrap (s.gds.getD j 0 + 1)) = kg s j := fun j hj => by rw [kg, if_pos hj]
  have kgn : ∀ j, ¬ j < s.gds.length -> (0 : Int) = kg s j := fun j hj => by rw [kg, if_neg hj]
  repeat' (first
    | (with_reducible refine VB_intro (fun h => ?_) (fun h => ?_))
    | (with_reducible refine NB_intro ?_ ?_))
  all_goals simp only [decide_eq_true_eq, decide_eq_false_iff_not, NB_t] at *
  all_goals first
    | omega
    | (simp only [keyA, AV.sub, AV.subL, if_true, and_true, true_and]
       refine ⟨?_, ?_, ?_, ?_, ?_, ?_, ?_, ?_, ?_, ?_, ?_, ?_, ?_⟩ <;> first | exact kgp _ (by omega) | exact kgn _ (by omega))
theorem of_ok:PureF Tryz.prog 51 cOf:=by
 intro args nd v he hnd;unfold cOf at he;split at he <;> cases he
 rename_i a n f ex;simp only [Bool.and_eq_true,decide_eq_true_eq] at hnd;rw [<- keyF_ints];refine PureC.args (args':=[slotA (a,intsOf' n f,())]) rfl (fun i hi=>?_) (of_pure _ (by show (intsOf' n f).length<=13; rw [intsOf_len]; exact hnd.1))
 cases i with
 | zero=>exact ⟨by simp [AV.sub],ints_sub hnd.2,trivial⟩
 | succ i=>simp at hi
theorem nqE_ok:CtrOK { mkE Tryz.prog (tblOf []) (fun _ _=>none) with nq:=true }:=⟨(mkE_ctr (P:=Tryz.prog) (inv:=fun _ _=>none) (tbl_nil _)).1,itr_none rfl⟩
theorem cloneI_pure (l:List Int) (h:l.length<=1000000):PureC Tryz.prog gU 52 [intsA l] (intsA l):=by
 refine PureC.of_vc (E:={ mkE Tryz.prog (tblOf []) (fun _ _=>none) with nq:=true }) (k:=20) (d:=3) mix nqE_ok ((cloneI_vc l).mpr ?_)
 intro b hb;cases b with
 | true=>exact VB_intro (fun _=>hb rfl) (fun h=>by cases h)
 | false =>
  refine VB_intro (fun h=>by cases h) (fun _=>NB_intro (by simp [room]; omega) ⟨by omega,fun i hi=>⟨by rw [Nat.zero_add],rfl⟩,fun h=>by cases h⟩)
theorem cloneI_ok:PureF Tryz.prog 52 cCloneI:=by
 intro args nd v he hnd;unfold cCloneI at he;split at he <;> cases he
 rename_i n f ex;simp only [Bool.and_eq_true,decide_eq_true_eq] at hnd;refine PureC.result (v:=intsA (intsOf' n f)) (PureC.args (args':=[intsA (intsOf' n f)]) rfl (fun i hi=>?_) (cloneI_pure _ (by rw [intsOf_len]; exact hnd.1))) ?_
 ·cases i with
  | zero=>exact ints_sub hnd.2
  | succ i=>simp at hi
 ·refine ⟨intsOf_len n f,fun i hi=>?_,fun h=>h⟩
  rw [intsOf_len] at hi;show (AV.int .i64 ((intsOf' n f).getD i 0)).sub (.int .i64 (i64Of (f i)))/\_;rw [intsOf_get hi];simp [AV.sub,AV.cells]
def invIdx (l:List Int) (a:Int):Inv:=⟨Nat,20,fun i=>⟨[(0,intsA l),(1,.fn (.func 98) [] [.rptr (.int .i64 a) 0]),(7,.int .i64 l.length),(8,.int .i64 i)],[]⟩,fun i=>i<=l.length/\∀ j,j<i->outN a (l.getD j 0)=false,fun i=>l.length - i⟩
def invCk1 (l:List SlotG) (a:Int):Inv:=⟨Nat,20,fun i=>⟨[(2,.ptr 0 0 0 0),(5,.fn (.func 98) [] [.ptr 1 0 0 0]),(32,slotsA l),(33,.int .i64 l.length),(34,.int .i64 i)],[(0,.row 0 1 true (.lst [lineA l])),(1,.row 0 1 true (.lst [.int .i64 a]))]⟩,fun i=>i<=l.length/\∀ j,j<i->outS a (l.getD j slotD')=false,fun i=>l.length - i⟩
def invCk2 (l:List SlotG):Inv:=⟨Nat,30,fun i=>⟨[(50,slotsA l),(51,.int .i64 l.length),(52,.int .i64 i)],[]⟩,fun i=>i<=l.length/\∀ j,j<i->ascB (l.getD j slotD').gds=true,fun i=>l.length - i⟩
def invCk3 (l:List SlotG) (i:Int):Inv:=⟨Nat,40,fun k=>⟨[(9,.ptr 30 0 0 0),(50,slotsA l),(51,.int .i64 l.length),(52,.int .i64 i),(10,.int .i64 (k+1:Nat))],[(30,.row 0 2 true (.lst [slotA (l.getD i.toNat slotD')]))]⟩,fun k=>k<=(l.getD i.toNat slotD').gds.length - 1/\∀ j,j<k->(l.getD i.toNat slotD').gds.getD j 0<(l.getD i.toNat slotD').gds.getD (j+1) 0,fun k=>(l.getD i.toNat slotD').gds.length - k⟩
noncomputable def EIdx (l:List Int) (a:Int):Env:=mkE Tryz.prog (tblOf []) (fun f b=>if f=139/\b=0 then some (invIdx l a) else none)
noncomputable def ECk (l:List SlotG) (a:Int):Env:={ mkE Tryz.prog (tblOf [(99,cAnyOut)]) (fun f b=>if f=50 then (if b=0 then some (invCk1 l a) else if b=2 then some (invCk2 l) else none) else none) with invS:=fun f c s=>if f=50/\c=4 then (match s.tmf 52 with|.int _ i=>some (invCk3 l i)|_=>none) else none }
theorem anyOut_vc (l:List Int) (a:Int) (r:Bool):(vcFun (EIdx l a) 20 99 [intsA l,.fn (.func 98) [] [.rptr (.int .i64 a) 0]] .nil 0 (retP 3 (.bool r))).sat=(let c0:=(Fn.func (98:FuncId)=Fn.func (98:FuncId)/\True/\((a=a/\[AV.int .i64 a].length=[AV.int .i64 a].length)/\0=0)/\True)
 let c1:=fun i:Nat=> (i<=l.length/\∀ j:Nat,j<i->outN a (l.getD j (0:Int))=false)
 (∃ i:Nat,(c1 i)/\((intsA l).sub (intsA l)/\c0/\(l.length:Int)=(l.length:Int)/\(0:Int)=(i:Int)/\True)/\True)/\∀ i:Nat,(c1 i)->VB (decide ((i:Int)<(l.length:Int))) (NB (decide ((0:Int)<=(i:Int)/\(i:Int)<(l.length:Int))) (VB (decide (l.getD (i:Int).toNat (0:Int)<(0:Int))||decide (l.getD (i:Int).toNat (0:Int)>=a)) (decide ((i:Int)>=(0:Int))=r) (∃ i':Nat,(c1 i')/\(invIdx l a).μ i'<(invIdx l a).μ i/\((intsA l).sub (intsA l)/\c0/\(l.length:Int)=(l.length:Int)/\IntKind.i64.wrap ((i:Int)+(1:Int))=(i':Int)/\True)/\True))) (false=r)):=by
 kernel_rfl
theorem check_vc (l:List SlotG) (a:Int) (r:Int):(vcFun (ECk l a) 20 50 [lineA l,.int .i64 a] .nil 0 (retP 3 (.int .i64 r))).sat=(let c0:=fun i:Nat=> (l.getD (i:Int).toNat slotD')
 let c1:=(0=0/\0=0/\0=0)
 let c2:=fun (i_1:Nat) (i:Nat)=>(i_1<=(c0 i).gds.length - 1/\∀ j:Nat,j<i_1->(c0 i).gds.getD j (0:Int)<(c0 i).gds.getD (j+1) (0:Int))
 let c3:=fun i_1:Nat=> (↑(i_1+1):Int)
 let c4:=fun i:Nat=> (0=0/\(true=true->true=true)/\((slotA (c0 i)).sub (slotA (c0 i))/\(slotA (c0 i)).cells.length=(slotA (c0 i)).cells.length)/\True)
 let c5:=(0=0/\(true=true->true=true)/\((lineA l).sub (lineA l)/\(lineA l).cells.length=(lineA l).cells.length)/\True)
 let c6:=(0=0/\(true=true->true=true)/\(a=a/\[AV.int .i64 a].length=[AV.int .i64 a].length)/\True)
 let c7:=fun i:Nat=> (i<=l.length/\∀ j:Nat,j<i->ascB (l.getD j slotD').gds=true)
 let c8:=fun i:Nat=> (i<=l.length/\∀ j:Nat,j<i->outS a (l.getD j slotD')=false)
 NB (impB (isW false ((l.length:Int)==(0:Int))) (decide ((0:Int)<=(0:Int)/\(0:Int)<(l.length:Int)))) (VB ((l.length:Int)==(0:Int)||decide ((↑(l.getD (Int.toNat (0:Int)) slotD').gds.length:Int) > (0:Int))) ((3:Int)=r) (VB (decide (a<(0:Int))||decide (a > (12:Int))) ((2:Int)=r) ((∃ i:Nat,(c8 i)/\(c1/\(Fn.func 98=Fn.func (98:FuncId)/\True/\c1/\True)/\(slotsA l).sub (slotsA l)/\(l.length:Int)=(l.length:Int)/\(0:Int)=(i:Int)/\True)/\c5/\c6/\True)/\∀ i:Nat,(c8 i)->VB (decide ((i:Int)<(l.length:Int))) (NB (decide ((0:Int)<=(i:Int)/\(i:Int)<(l.length:Int))) (NB (impB (isW false (decide ((c0 i).fst<(0:Int))||decide ((c0 i).fst>=a))) ((decide ((c0 i).gds.length<=1000000)&&true&&intsB (c0 i).gds.length fun k:Nat=> AV.int .i64 ((c0 i).gds.getD k (0:Int)))&&true)) (VB (decide ((c0 i).fst<(0:Int))||decide ((c0 i).fst>=a)||(List.map (fun i_1:Nat=> i64Of (AV.int .i64 ((c0 i).gds.getD i_1 (0:Int)))) (List.range (c0 i).gds.length)).any (outN a)) ((2:Int)=r) (∃ i':Nat,(c8 i')/\(invCk1 l a).μ i'<(invCk1 l a).μ i/\(c1/\(Fn.func (98:FuncId)=Fn.func (98:FuncId)/\True/\c1/\True)/\(slotsA l).sub (slotsA l)/\(l.length:Int)=(l.length:Int)/\IntKind.i64.wrap ((i:Int)+(1:Int))=(i':Int)/\True)/\c5/\c6/\True)))) ((∃ i:Nat,(c7 i)/\((slotsA l).sub (slotsA l)/\(l.length:Int)=(l.length:Int)/\(0:Int)=(i:Int)/\True)/\True)/\∀ i:Nat,(c7 i)->VB (decide ((i:Int)<(l.length:Int))) (NB (decide ((0:Int)<=(i:Int)/\(i:Int)<(l.length:Int))) ((∃ i_1:Nat,(c2 i_1 i)/\(c1/\(slotsA l).sub (slotsA l)/\(l.length:Int)=(l.length:Int)/\(i:Int)=(i:Int)/\(1:Int)=(c3 i_1)/\True)/\(c4 i)/\True)/\∀ i_1:Nat,(c2 i_1 i)->VB (decide ((c3 i_1)<(↑(c0 i).gds.length:Int))) (NB (decide ((0:Int)<=(c3 i_1)/\(c3 i_1)<(↑(c0 i).gds.length:Int))) (NB (decide ((0:Int)<=IntKind.i64.wrap ((c3 i_1) - (1:Int))/\IntKind.i64.wrap ((c3 i_1) - (1:Int))<(↑(c0 i).gds.length:Int))) (VB (decide ((c0 i).gds.getD (c3 i_1).toNat (0:Int)<=(c0 i).gds.getD (IntKind.i64.wrap ((c3 i_1) - (1:Int))).toNat (0:Int))) ((3:Int)=r) (∃ i':Nat,(c2 i' i)/\(invCk3 l (i:Int)).μ i'<(invCk3 l (i:Int)).μ i_1/\(c1/\(slotsA l).sub (slotsA l)/\(l.length:Int)=(l.length:Int)/\(i:Int)=(i:Int)/\IntKind.i64.wrap ((c3 i_1)+(1:Int))=(c3 i')/\True)/\(c4 i)/\True)))) (∃ i':Nat,(c7 i')/\(invCk2 l).μ i'<(invCk2 l).μ i/\((slotsA l).sub (slotsA l)/\(l.length:Int)=(l.length:Int)/\IntKind.i64.wrap ((i:Int)+(1:Int))=(i':Int)/\True)/\True))) ((0:Int)=r)))))):=by
 kernel_rfl
theorem sub_slot (s:SlotG):(slotA s).sub (slotA s):=⟨by simp [AV.sub],sub_ints _,trivial⟩
theorem sub_slots (l:List SlotG):(slotsA l).sub (slotsA l):=⟨rfl,fun _ _=>⟨sub_slot _,rfl⟩,fun h=>h⟩
theorem sub_line (l:List SlotG):(lineA l).sub (lineA l):=⟨sub_slots l,trivial⟩
theorem sub_lines (l:List (List SlotG)):(linesA l).sub (linesA l):=⟨rfl,fun _ _=>⟨sub_line _,rfl⟩,fun h=>h⟩
theorem any_at {α:Type} {l:List α} {d:α} {p:α->Bool} {i:Nat} (hi:i<l.length) (h:p (l.getD i d)=true):l.any p=true:=by
 rw [List.any_eq_true];exact ⟨l[i],List.getElem_mem hi,by simpa [List.getD,hi] using h⟩
theorem any_none {α:Type} {l:List α} {d:α} {p:α->Bool} (h:∀ i,i<l.length->p (l.getD i d)=false):l.any p=false:=by
 rw [List.any_eq_false];intro x hx;obtain ⟨i,hi,rfl⟩:=List.getElem_of_mem hx;have:=h i hi;simpa [List.getD,hi] using this
theorem all_at {α:Type} {l:List α} {d:α} {p:α->Bool} (h:∀ i,i<l.length->p (l.getD i d)=true):l.all p=true:=by
 rw [List.all_eq_true];intro x hx;obtain ⟨i,hi,rfl⟩:=List.getElem_of_mem hx;have:=h i hi;simpa [List.getD,hi] using this
theorem all_not {α:Type} {l:List α} {d:α} {p:α->Bool} {i:Nat} (hi:i<l.length) (h:p (l.getD i d)=false):l.all p=false:=by
 rw [List.all_eq_false];exact ⟨l[i],List.getElem_mem hi,by simpa [List.getD,hi] using h⟩
theorem EIdx_ok (l:List Int) (a:Int):CtrOK (EIdx l a):=mkE_ctr (tbl_nil _)
theorem anyOut_pure (l:List Int) (a:Int) (hl:l.length<=1000000):PureC Tryz.prog gU 99 [intsA l,.fn (.func 98) [] [.rptr (.int .i64 a) 0]] (.bool (l.any (outN a))):=by
 refine PureC.of_vc (E:=EIdx l a) (k:=20) (d:=3) mix (EIdx_ok l a) ((anyOut_vc l a _).mpr ⟨⟨0,⟨Nat.zero_le _,fun j hj=>by omega⟩,⟨sub_ints l,⟨rfl,trivial,⟨⟨rfl,rfl⟩,rfl⟩,trivial⟩,rfl,rfl,trivial⟩,trivial⟩,fun i hpre=>?_⟩)
 obtain ⟨hi,hpre⟩:=hpre;refine VB_intro (fun h=>?_) (fun h=>?_)
 ·have h1:i<l.length:=by simpa using h
  refine NB_intro (by simp; omega) (VB_intro (fun h2=>?_) (fun h2=>?_))
  ·rw [any_at (d:=0) h1 (by simpa [outN] using h2)]
   simp
  ·have h3:outN a (l.getD i 0)=false:=by simpa [outN] using h2
   refine ⟨i+1,⟨by omega,fun j hj=>?_⟩,by simp only [invIdx]; omega,⟨sub_ints l,⟨rfl,trivial,⟨⟨rfl,rfl⟩,rfl⟩,trivial⟩,rfl,by rw [wrap_i64_id (by omega) (by omega)]; omega,trivial⟩,trivial⟩
   rcases Nat.lt_or_ge j i with h4|h4
   ·exact hpre j h4
   ·obtain rfl:j=i:=by omega
    exact h3
 ·have h1:¬ i<l.length:=by simpa using h
  exact (any_none (d:=0) (fun j hj=>hpre j (by omega))).symm
theorem anyOut_ok:PureF Tryz.prog 99 cAnyOut:=by
 intro args nd v he hnd;unfold cAnyOut at he;split at he <;> cases he
 rename_i n f ex g a;simp only [Bool.and_eq_true,decide_eq_true_eq] at hnd;obtain ⟨⟨h1,rfl⟩,h2⟩:=hnd
 refine PureC.args (args':=[intsA (intsOf' n f),.fn (.func 98) [] [.rptr (.int .i64 a) 0]]) rfl (fun i hi=>?_) (anyOut_pure _ a (by rw [intsOf_len]; exact h1))
 match i,hi with
 | 0,_=>exact ints_sub h2
 | 1,_=>exact ⟨rfl,trivial,⟨⟨by simp [AV.sub],rfl⟩,rfl⟩,trivial⟩
theorem ECk_ok (l:List SlotG) (a:Int):CtrOK (ECk l a):=⟨(mkE_ctr (P:=Tryz.prog) (inv:=fun _ _=>none) (tbl_cons anyOut_ok (tbl_nil _))).1,itr_none rfl⟩
def fewS (l:List SlotG):Bool:=decide (l.length<=1000)&&l.all fun s=>decide (s.gds.length<=1000)
theorem fewS_at {l:List SlotG} (h:fewS l=true) {i:Nat} (hi:i<l.length):(l.getD i slotD').gds.length<=1000:=by
 simp only [fewS,Bool.and_eq_true,List.all_eq_true,decide_eq_true_eq] at h;have:l.getD i slotD'=l[i]:=by simp [List.getD,hi]
 rw [this];exact h.2 _ (List.getElem_mem hi)
theorem map_i64 (l:List Int):(List.range l.length).map (fun i=>i64Of (.int .i64 (l.getD i 0)))=l:=intsOf_self l
theorem chk_pure (l:List SlotG) (a:Int) (hf:fewS l=true):PureC Tryz.prog gU 50 [lineA l,.int .i64 a] (.int .i64 (chkL a l)):=by
 have hl:l.length<=1000:=by simp only [fewS,Bool.and_eq_true,decide_eq_true_eq] at hf; exact hf.1
 refine PureC.of_vc (E:=ECk l a) (k:=20) (d:=3) mix (ECk_ok l a) ((check_vc l a _).mpr ?_)
 conv=>zeta
 refine NB_intro (by rcases Nat.eq_zero_or_pos l.length with h|h <;> simp [impB,isW,h]) (VB_intro (fun h=>?_) (fun h=>?_))
 ·have:l.length=0\/0<(l.getD 0 slotD').gds.length:=by simpa using h
  rw [chkL,if_pos this]
 have h0:¬ (l.length=0\/0<(l.getD 0 slotD').gds.length):=by simpa using h
 refine VB_intro (fun h1=>?_) (fun h1=>?_)
 ·have:a<0\/12<a:=by simpa using h1
  rw [chkL,if_neg h0,if_pos this]
 have h2:¬ (a<0\/12<a):=by simpa using h1
 refine ⟨⟨0,⟨Nat.zero_le _,fun j hj=>by omega⟩,⟨⟨rfl,rfl,rfl⟩,⟨rfl,trivial,⟨rfl,rfl,rfl⟩,trivial⟩,sub_slots l,rfl,rfl,trivial⟩,⟨rfl,fun h=>h,⟨sub_line l,rfl⟩,trivial⟩,⟨rfl,fun h=>h,⟨rfl,rfl⟩,trivial⟩,trivial⟩,fun i hpre=>?_⟩
 obtain ⟨hi,hpre⟩:=hpre;refine VB_intro (fun h3=>?_) (fun h3=>?_)
 ·have h4:i<l.length:=by simpa using h3
  have hg:=fewS_at hf h4;refine NB_intro (by simp; omega) (NB_intro ?_ (VB_intro (fun h5=>?_) (fun h5=>?_)))
  ·simp only [Int.toNat_natCast,intsB_self];have:decide ((l.getD i slotD').gds.length<=1000000)=true:=decide_eq_true (by omega)
   rw [this];simp [impB]
  ·have:l.any (outS a)=true:=any_at (d:=slotD') h4 (by rw [map_i64] at h5; simpa [outS,outN,or_assoc] using h5)
   rw [chkL,if_neg h0,if_neg h2,if_pos this]
  ·have h6:outS a (l.getD i slotD')=false:=by
    rw [map_i64] at h5;simpa [outS,outN,and_assoc] using h5
   refine ⟨i+1,⟨by omega,fun j hj=>?_⟩,by simp only [invCk1]; omega,⟨⟨rfl,rfl,rfl⟩,⟨rfl,trivial,⟨rfl,rfl,rfl⟩,trivial⟩,sub_slots l,rfl,by rw [wrap_i64_id (by omega) (by omega)]; omega,trivial⟩,⟨rfl,fun h=>h,⟨sub_line l,rfl⟩,trivial⟩,⟨rfl,fun h=>h,⟨rfl,rfl⟩,trivial⟩,trivial⟩
   rcases Nat.lt_or_ge j i with h7|h7
   ·exact hpre j h7
   ·obtain rfl:j=i:=by omega
    exact h6
 have h4:¬ i<l.length:=by simpa using h3
 have hany:¬ (l.any (outS a)=true):=by rw [any_none (d:=slotD') (fun j hj=>hpre j (by omega))]; simp
 refine ⟨⟨0,⟨Nat.zero_le _,fun j hj=>by omega⟩,⟨sub_slots l,rfl,rfl,trivial⟩,trivial⟩,fun i hpre=>?_⟩
 obtain ⟨hi,hpre⟩:=hpre;refine VB_intro (fun h3=>?_) (fun h3=>?_)
 ·have h4:i<l.length:=by simpa using h3
  have hg:=fewS_at hf h4;rw [show (Int.toNat (i:Int))=i from rfl];generalize hs:l.getD i slotD'=s at hg ⊢
  refine NB_intro (by simp; omega) ⟨⟨0,⟨Nat.zero_le _,fun j hj=>by omega⟩,⟨⟨rfl,rfl,rfl⟩,sub_slots l,rfl,rfl,rfl,trivial⟩,⟨rfl,fun h=>h,⟨sub_slot _,rfl⟩,trivial⟩,trivial⟩,fun k hk=>?_⟩
  obtain ⟨hk1,hk2⟩:=hk;have hsub:IntKind.i64.wrap (((k+1:Nat):Int) - 1)=k:=by rw [wrap_i64_id (by omega) (by omega)]; omega
  rw [hsub];refine VB_intro (fun h5=>?_) (fun h5=>?_)
  ·have h6:k+1<s.gds.length:=by simp at h5; omega
   refine NB_intro (by simp; omega) (NB_intro (by simp; omega) (VB_intro (fun h7=>?_) (fun h7=>?_)))
   ·have h8:¬ s.gds.getD k 0<s.gds.getD (k+1) 0:=by
     have h9:s.gds.getD (k+1) 0<=s.gds.getD k 0:=by simpa only [decide_eq_true_eq,Int.toNat_natCast] using h7
     omega
    have h10:ascB s.gds=false:=by
     unfold ascB;rw [List.all_eq_false];exact ⟨k,by simp; omega,by simpa using h8⟩
    rw [chkL,if_neg h0,if_neg h2,if_neg hany,if_neg (by rw [all_not (d:=slotD') h4 (by simp only [hs]; exact h10)]; simp)]
   ·have h8:s.gds.getD k 0<s.gds.getD (k+1) 0:=by
     have h9:¬ s.gds.getD (k+1) 0<=s.gds.getD k 0:=by simpa only [decide_eq_false_iff_not,Int.toNat_natCast] using h7
     omega
    refine ⟨k+1,⟨by omega,fun j hj=>?_⟩,by simp only [invCk3,Int.toNat_natCast,hs]; omega,⟨⟨rfl,rfl,rfl⟩,sub_slots l,rfl,rfl,by rw [wrap_i64_id (by omega) (by omega)]; omega,trivial⟩,⟨rfl,fun h=>h,⟨sub_slot _,rfl⟩,trivial⟩,trivial⟩
    rcases Nat.lt_or_ge j k with h11|h11
    ·exact hk2 j h11
    ·obtain rfl:j=k:=by omega
     exact h8
  ·have h6:¬ k+1<s.gds.length:=by simp at h5; omega
   refine ⟨i+1,⟨by omega,fun j hj=>?_⟩,by simp only [invCk2]; omega,⟨sub_slots l,rfl,by rw [wrap_i64_id (by omega) (by omega)]; omega,trivial⟩,trivial⟩
   rcases Nat.lt_or_ge j i with h7|h7
   ·exact hpre j h7
   ·obtain rfl:j=i:=by omega
    rw [hs];simp only [ascB,List.all_eq_true,List.mem_range,decide_eq_true_eq];exact fun q hq=>hk2 q (by omega)
 ·have h4:¬ i<l.length:=by simpa using h3
  rw [chkL,if_neg h0,if_neg h2,if_neg hany,if_pos (all_at (d:=slotD') (fun j hj=>hpre j (by omega)))]
end Go.Proofs.YtlnpgnipocbfhaaGreatDoor
