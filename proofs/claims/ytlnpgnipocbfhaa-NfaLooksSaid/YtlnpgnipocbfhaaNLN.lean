/- TREES N: the document's slots and lines: conditions. -/
import Derived.Test.YtlnpgnipocbfhaaNLL
namespace Go.Proofs.Ytlnpgnipocbfhaa
open Pw Go
set_option maxRecDepth 100000
set_option linter.unusedSimpArgs false
def fewG (s:SlotG):Bool:=decide (s.gds.length≤1000000)
def cSameS:Ctr
 | [.agg x,.agg y]=>some (isSlot (.agg x)&&isSlot (.agg y)&&fewG (slotOf (.agg x))&&fewG (slotOf (.agg y)),.bool (decide (slotOf (.agg x)=slotOf (.agg y))))
 | _=>none
def cOwnS:Ctr
 | [.agg x]=>some (isSlot (.agg x)&&fewG (slotOf (.agg x)),slotA (slotOf (.agg x)))
 | _=>none
def invSS (x y:SlotG):Inv:=⟨Nat,20,fun i=>⟨[(2,.ptr 0 0 0 0),(3,.ptr 1 0 0 0),(5,.int .i64 i)],[(0,.row 0 2 true (.lst [slotA x])),(1,.row 0 2 true (.lst [slotA y]))]⟩,
 fun i=>i≤x.gds.length∧∀ j,j<i→x.gds.getD j 0=y.gds.getD j 0,fun i=>x.gds.length - i⟩
def invEL (l m:List SlotG):Inv:=⟨Nat,20,fun i=>⟨[(2,.ptr 0 0 0 0),(3,.ptr 1 0 0 0),(5,.int .i64 i)],[(0,.row 0 1 true (.lst [lineA l])),(1,.row 0 1 true (.lst [lineA m]))]⟩,
 fun i=>i≤l.length∧∀ j,j<i→l.getD j slotD'=m.getD j slotD',fun i=>l.length - i⟩
noncomputable def ESS (x y:SlotG):Env:=mkE Try.prog (tblOf []) (fun f b=>if f=57∧b=0 then some (invSS x y) else none)
noncomputable def EEL (l m:List SlotG):Env:=mkE Try.prog (tblOf [(57,cSameS)]) (fun f b=>if f=71∧b=0 then some (invEL l m) else none)
theorem sameS_vc (x y : SlotG) (v : Bool) : (vcFun (ESS x y) 20 57 [slotA x, slotA y] .nil 0 (retP 3 (.bool v))).sat = ( VB (x.fst != y.fst || (↑x.gds.length : Int) != (↑y.gds.length : Int)) (false = v) ((∃ (i : Nat), (i ≤ x.gds.length ∧ ∀ (j : Nat), j < i → x.gds.getD j (0 : Int) = y.gds.getD j (0 : Int)) ∧ (((0 : Nat) = (0 : Nat) ∧ (0 : Nat) = (0 : Nat) ∧ (0 : Nat) = (0 : Nat)) ∧ ((0 : Nat) = (0 : Nat) ∧ (0 : Nat) = (0 : Nat) ∧ (0 : Nat) = (0 : Nat)) ∧ (0 : Int) = (↑i : Int) ∧ True) ∧ ((0 : Nat) = (0 : Nat) ∧ (true = true → true = true) ∧ ((slotA x).sub (slotA x) ∧ (slotA x).cells.length = (slotA x).cells.length) ∧ True) ∧ ((0 : Nat) = (0 : Nat) ∧ (true = true → true = true) ∧ ((slotA y).sub (slotA y) ∧ (slotA y).cells.length = (slotA y).cells.length) ∧ True) ∧ True) ∧ ∀ (i : Nat), (i ≤ x.gds.length ∧ ∀ (j : Nat), j < i → x.gds.getD j (0 : Int) = y.gds.getD j (0 : Int)) → VB (decide ((↑i : Int) < (↑x.gds.length : Int))) (NB (decide ((0 : Int) ≤ (↑i : Int) ∧ (↑i : Int) < (↑x.gds.length : Int))) (NB (decide ((0 : Int) ≤ (↑i : Int) ∧ (↑i : Int) < (↑y.gds.length : Int))) (VB (x.gds.getD (↑i : Int).toNat (0 : Int) != y.gds.getD (↑i : Int).toNat (0 : Int)) (false = v) (∃ (i' : Nat), (i' ≤ x.gds.length ∧ ∀ (j : Nat), j < i' → x.gds.getD j (0 : Int) = y.gds.getD j (0 : Int)) ∧ (invSS x y).μ i' < (invSS x y).μ i ∧ (((0 : Nat) = (0 : Nat) ∧ (0 : Nat) = (0 : Nat) ∧ (0 : Nat) = (0 : Nat)) ∧ ((0 : Nat) = (0 : Nat) ∧ (0 : Nat) = (0 : Nat) ∧ (0 : Nat) = (0 : Nat)) ∧ IntKind.i64.wrap ((↑i : Int) + (1 : Int)) = (↑i' : Int) ∧ True) ∧ ((0 : Nat) = (0 : Nat) ∧ (true = true → true = true) ∧ ((slotA x).sub (slotA x) ∧ (slotA x).cells.length = (slotA x).cells.length) ∧ True) ∧ ((0 : Nat) = (0 : Nat) ∧ (true = true → true = true) ∧ ((slotA y).sub (slotA y) ∧ (slotA y).cells.length = (slotA y).cells.length) ∧ True) ∧ True)))) (true = v))) := by
  kernel_rfl
theorem ownS_vc (x : SlotG) : (vcFun (ESS x x) 20 58 [slotA x] .nil 0 (retP 3 (slotA x))).sat = ( NB (true && room ((0 : Nat) + x.gds.length) (8 : Nat) && true && (x.gds.length != (0 : Nat) || true)) (x.fst = x.fst ∧ ((0 : Nat) + x.gds.length = x.gds.length ∧ (∀ (i : Nat), i < (0 : Nat) + x.gds.length → x.gds.getD ((0 : Nat) + i) (0 : Int) = x.gds.getD i (0 : Int) ∧ (1 : Nat) = (1 : Nat)) ∧ (false = true → decide (none = some ((0 : Nat) + x.gds.length)) = true)) ∧ True)) := by
  kernel_rfl
theorem eqL_vc (l m:List SlotG) (v:Bool):(vcFun (EEL l m) 20 71 [lineA l,lineA m] .nil 0 (retP 3 (.bool v))).sat=( VB ((↑l.length:Int)!=(↑m.length:Int)) (false=v) ((∃ (i:Nat),(i≤l.length∧∀ (j:Nat),j<i→l.getD j slotD'=m.getD j slotD')∧(((0:Nat)=(0:Nat)∧(0:Nat)=(0:Nat)∧(0:Nat)=(0:Nat))∧((0:Nat)=(0:Nat)∧(0:Nat)=(0:Nat)∧(0:Nat)=(0:Nat))∧(0:Int)=(↑i:Int)∧True)∧((0:Nat)=(0:Nat)∧(true=true→true=true)∧((lineA l).sub (lineA l)∧(lineA l).cells.length=(lineA l).cells.length)∧True)∧((0:Nat)=(0:Nat)∧(true=true→true=true)∧((lineA m).sub (lineA m)∧(lineA m).cells.length=(lineA m).cells.length)∧True)∧True)∧∀ (i:Nat),(i≤l.length∧∀ (j:Nat),j<i→l.getD j slotD'=m.getD j slotD')→VB (decide ((↑i:Int)<(↑l.length:Int))) (NB (decide ((0:Int)≤(↑i:Int)∧(↑i:Int)<(↑l.length:Int))) (NB (decide ((0:Int)≤(↑i:Int)∧(↑i:Int)<(↑m.length:Int))) (NB (isSlot (AV.agg [AV.int IntKind.i64 (l.getD (↑i:Int).toNat slotD').fst,AV.rof (l.getD (↑i:Int).toNat slotD').gds.length (fun (k:Nat)=>AV.int IntKind.i64 ((l.getD (↑i:Int).toNat slotD').gds.getD k (0:Int))) false])&&isSlot (AV.agg [AV.int IntKind.i64 (m.getD (↑i:Int).toNat slotD').fst,AV.rof (m.getD (↑i:Int).toNat slotD').gds.length (fun (k:Nat)=>AV.int IntKind.i64 ((m.getD (↑i:Int).toNat slotD').gds.getD k (0:Int))) false])&&fewG (slotOf (AV.agg [AV.int IntKind.i64 (l.getD (↑i:Int).toNat slotD').fst,AV.rof (l.getD (↑i:Int).toNat slotD').gds.length (fun (k:Nat)=>AV.int IntKind.i64 ((l.getD (↑i:Int).toNat slotD').gds.getD k (0:Int))) false]))&&fewG (slotOf (AV.agg [AV.int IntKind.i64 (m.getD (↑i:Int).toNat slotD').fst,AV.rof (m.getD (↑i:Int).toNat slotD').gds.length (fun (k:Nat)=>AV.int IntKind.i64 ((m.getD (↑i:Int).toNat slotD').gds.getD k (0:Int))) false]))) (VB (!decide (slotOf (AV.agg [AV.int IntKind.i64 (l.getD (↑i:Int).toNat slotD').fst,AV.rof (l.getD (↑i:Int).toNat slotD').gds.length (fun (k:Nat)=>AV.int IntKind.i64 ((l.getD (↑i:Int).toNat slotD').gds.getD k (0:Int))) false])=slotOf (AV.agg [AV.int IntKind.i64 (m.getD (↑i:Int).toNat slotD').fst,AV.rof (m.getD (↑i:Int).toNat slotD').gds.length (fun (k:Nat)=>AV.int IntKind.i64 ((m.getD (↑i:Int).toNat slotD').gds.getD k (0:Int))) false]))) (false=v) (∃ (i':Nat),(i'≤l.length∧∀ (j:Nat),j<i'→l.getD j slotD'=m.getD j slotD')∧(invEL l m).μ i'<(invEL l m).μ i∧(((0:Nat)=(0:Nat)∧(0:Nat)=(0:Nat)∧(0:Nat)=(0:Nat))∧((0:Nat)=(0:Nat)∧(0:Nat)=(0:Nat)∧(0:Nat)=(0:Nat))∧IntKind.i64.wrap ((↑i:Int)+(1:Int))=(↑i':Int)∧True)∧((0:Nat)=(0:Nat)∧(true=true→true=true)∧((lineA l).sub (lineA l)∧(lineA l).cells.length=(lineA l).cells.length)∧True)∧((0:Nat)=(0:Nat)∧(true=true→true=true)∧((lineA m).sub (lineA m)∧(lineA m).cells.length=(lineA m).cells.length)∧True)∧True))))) (true=v))):=by
 kernel_rfl
end Go.Proofs.Ytlnpgnipocbfhaa
namespace Go.Proofs.Ytlnpgnipocbfhaa
open Pw Go
set_option maxRecDepth 100000
set_option linter.unusedSimpArgs false
theorem ESS_ok (x y:SlotG):CtrOK (ESS x y):=mkE_ctr (tbl_nil _)
theorem sameS_pure (x y : SlotG) (hx : x.gds.length ≤ 1000000) : PureC Try.prog gU 57 [slotA x, slotA y] (.bool (decide (x = y))) := by
  refine PureC.of_vc (E := ESS x y) (k := 20) (d := 3) mix (ESS_ok x y) ?_
  refine (sameS_vc x y _).mpr ?_
  refine VB_intro (fun h => ?_) (fun h => ?_)
  · refine (decide_eq_false fun e => ?_).symm
    rw [e] at h
    simp at h
  simp only [Bool.or_eq_false_iff, bne_eq_false_iff_eq] at h
  have hlen : x.gds.length = y.gds.length := by omega
  refine ⟨⟨0, ⟨Nat.zero_le _, fun j hj => absurd hj (Nat.not_lt_zero _)⟩, ?_⟩, fun i hpre => ?_⟩
  · repeat' (first | exact sub_slot _ | exact sub_line _ | exact trivial | exact rfl | exact Or.inr rfl | exact fun h => h | exact fun _ _ => rfl | refine And.intro ?_ ?_)
  obtain ⟨hi, hpre⟩ := hpre
  refine VB_intro (fun h1 => ?_) (fun h1 => ?_)
  · have h2 : i < x.gds.length := by
      have := of_decide_eq_true h1
      omega
    refine NB_intro (by simp; omega) (NB_intro (by simp; omega) (VB_intro (fun h3 => ?_) (fun h3 => ?_)))
    · refine (decide_eq_false fun e => ?_).symm
      rw [e] at h3
      simp at h3
    · have h4 : x.gds.getD i 0 = y.gds.getD i 0 := by
        have h5 : (x.gds.getD i 0 != y.gds.getD i 0) = false := h3
        simpa only [bne_eq_false_iff_eq] using h5
      refine ⟨i + 1, ⟨by omega, fun j hj => ?_⟩, (show x.gds.length - (i + 1) < x.gds.length - i by omega), ?_⟩
      · rcases Nat.lt_or_ge j i with h5 | h5
        · exact hpre j h5
        · obtain rfl : j = i := by omega
          exact h4
      have hW : IntKind.i64.wrap ((i : Int) + 1) = ((i + 1 : Nat) : Int) := by rw [wrap_i64_id (by omega) (by omega)]; omega
      repeat' (first | exact sub_slot _ | exact sub_line _ | exact trivial | exact rfl | exact Or.inr rfl | exact fun h => h | exact fun _ _ => rfl | refine And.intro ?_ ?_)
      all_goals exact hW
  · have h2 : i = x.gds.length := by
      have := of_decide_eq_false h1
      omega
    have h3 : x.gds = y.gds := list_ext 0 hlen fun j hj => hpre j (by omega)
    refine (decide_eq_true ?_).symm
    obtain ⟨a, g, u⟩ := x
    obtain ⟨a', g', u'⟩ := y
    have h4 : a = a' := h.1
    have h5 : g = g' := h3
    rw [h4, h5]
theorem sameS_ok:PureF Try.prog 57 cSameS:=by
 intro args nd v he hnd
 unfold cSameS at he
 split at he <;> cases he
 rename_i x y
 simp only [Bool.and_eq_true,fewG,decide_eq_true_eq] at hnd
 obtain ⟨⟨⟨h1,h2⟩,h3⟩,h4⟩:=hnd
 refine PureC.args (args':=[slotA (slotOf (.agg x)),slotA (slotOf (.agg y))]) rfl (fun i hi=>?_) (sameS_pure _ _ h3)
 match i,hi with
 | 0,_=>exact (slot_sub h1).1
 | 1,_=>exact (slot_sub h2).1
theorem ownS_pure (x:SlotG) (hx:x.gds.length≤1000000):PureC Try.prog gU 58 [slotA x] (slotA x):=by
 refine PureC.of_vc (E:=ESS x x) (k:=20) (d:=3) mix (ESS_ok x x) ?_
 refine (ownS_vc x).mpr ?_
 have hroom:room (0+x.gds.length) 8=true:=decide_eq_true ⟨by omega,by omega⟩
 refine NB_intro (by rw [hroom]; simp) ⟨rfl,⟨Nat.zero_add _,fun k hk=>?_,fun h=>by cases h⟩,trivial⟩
 rw [Nat.zero_add]
 exact ⟨rfl,rfl⟩
theorem ownS_ok:PureF Try.prog 58 cOwnS:=by
 intro args nd v he hnd
 unfold cOwnS at he
 split at he <;> cases he
 rename_i x
 simp only [Bool.and_eq_true,fewG,decide_eq_true_eq] at hnd
 refine PureC.args (args':=[slotA (slotOf (.agg x))]) rfl (fun i hi=>?_) (ownS_pure _ hnd.2)
 match i,hi with
 | 0,_=>exact (slot_sub hnd.1).1
theorem EEL_ok (l m:List SlotG):CtrOK (EEL l m):=mkE_ctr (tbl_cons sameS_ok (tbl_nil _))
theorem eqL_pure (l m:List SlotG) (hl:fewS l=true) (hm:fewS m=true):PureC Try.prog gU 71 [lineA l,lineA m] (.bool (decide (l=m))):=by
 have hll:l.length≤1000:=by simp only [fewS,Bool.and_eq_true,decide_eq_true_eq] at hl; exact hl.1
 refine PureC.of_vc (E:=EEL l m) (k:=20) (d:=3) mix (EEL_ok l m) ?_
 refine (eqL_vc l m _).mpr ?_
 refine VB_intro (fun h=>?_) (fun h=>?_)
 ·refine (decide_eq_false fun e=>?_).symm
  rw [e] at h
  simp at h
 have hlen:l.length=m.length:=by
  simp only [bne_eq_false_iff_eq] at h
  omega
 refine ⟨⟨0,⟨Nat.zero_le _,fun j hj=>absurd hj (Nat.not_lt_zero _)⟩,?_⟩,fun i hpre=>?_⟩
 ·repeat' (first|exact sub_slot _|exact sub_line _|exact trivial|exact rfl|exact Or.inr rfl|exact fun h=>h|exact fun _ _=>rfl|refine And.intro ?_ ?_)
 obtain ⟨hi,hpre⟩:=hpre
 refine VB_intro (fun h1=>?_) (fun h1=>?_)
 ·have h2:i<l.length:=by
   have:=of_decide_eq_true h1
   omega
  have k1:=fewS_at hl h2
  have k2:=fewS_at hm (i:=i) (by omega)
  have hnb:(isSlot (slotA (l.getD i slotD'))&&isSlot (slotA (m.getD i slotD'))&&fewG (slotOf (slotA (l.getD i slotD')))&&fewG (slotOf (slotA (m.getD i slotD'))))=true:=by
   rw [isSlot_self,isSlot_self,slot_self,slot_self,fewG,fewG,decide_eq_true (by omega),decide_eq_true (by omega)]
   rfl
  refine NB_intro (by simp; omega) (NB_intro (by simp; omega) (NB_intro hnb (VB_intro (fun h3=>?_) (fun h3=>?_))))
  ·have h4:(!decide (slotOf (slotA (l.getD i slotD'))=slotOf (slotA (m.getD i slotD'))))=true:=h3
   refine (decide_eq_false fun e=>?_).symm
   rw [e] at h4
   simp at h4
  ·have h4:(!decide (slotOf (slotA (l.getD i slotD'))=slotOf (slotA (m.getD i slotD'))))=false:=h3
   rw [slot_self,slot_self] at h4
   have h5:l.getD i slotD'=m.getD i slotD':=by
    simp only [Bool.not_eq_false'] at h4
    exact of_decide_eq_true h4
   refine ⟨i+1,⟨by omega,fun j hj=>?_⟩,(show l.length - (i+1)<l.length - i by omega),?_⟩
   ·rcases Nat.lt_or_ge j i with h6|h6
    ·exact hpre j h6
    ·obtain rfl:j=i:=by omega
     exact h5
   have hW:IntKind.i64.wrap ((i:Int)+1)=((i+1:Nat):Int):=by rw [wrap_i64_id (by omega) (by omega)]; omega
   repeat' (first|exact sub_slot _|exact sub_line _|exact trivial|exact rfl|exact Or.inr rfl|exact fun h=>h|exact fun _ _=>rfl|refine And.intro ?_ ?_)
   all_goals exact hW
 ·have h2:i=l.length:=by
   have:=of_decide_eq_false h1
   omega
  exact (decide_eq_true (list_ext slotD' hlen fun j hj=>hpre j (by omega))).symm
def cEqL:Ctr
 | [.agg [.rof n f _],.agg [.rof m g _]]=>some (slotsB n f&&slotsB m g&&fewS (slotsOf' n f)&&fewS (slotsOf' m g),.bool (decide (slotsOf' n f=slotsOf' m g)))
 | _=>none
theorem eqL_ok:PureF Try.prog 71 cEqL:=by
 intro args nd v he hnd
 unfold cEqL at he
 split at he <;> cases he
 rename_i n f ex m g ex'
 simp only [Bool.and_eq_true] at hnd
 obtain ⟨⟨⟨h1,h2⟩,h3⟩,h4⟩:=hnd
 refine PureC.args (args':=[lineA (slotsOf' n f),lineA (slotsOf' m g)]) rfl (fun i hi=>?_) (eqL_pure _ _ h3 h4)
 match i,hi with
 | 0,_=>exact ⟨slots_sub h1,trivial⟩
 | 1,_=>exact ⟨slots_sub h2,trivial⟩
end Go.Proofs.Ytlnpgnipocbfhaa
