/- TREES Y: the document's up and alike: contracts. -/
import Derived.Test.YtlnpgnipocbfhaaNLW
import Derived.Test.YtlnpgnipocbfhaaNBA
namespace Go.Proofs.Ytlnpgnipocbfhaa
open Pw Go
set_option maxRecDepth 100000
set_option linter.unusedSimpArgs false
theorem ERu_ok (t:List TwigG) (m:Nat):CtrOK (ERu t m):=⟨(mkE_ctr (P:=Try.prog) (inv:=fun _ _=>none) (tbl_cons ownS_ok (tbl_nil _))).1,itr_none rfl⟩
theorem rup_pure (t:List TwigG) (m:Nat) (hp:parOK t=true) (hg:gdsOK t=true) (ht:t.length≤1000000) (hm:m=0∨m<t.length):PureC Try.prog gU 42 [treeA t,.int .i64 m] (lineA (upR t m m).reverse):=by
 refine PureC.of_vc (E:=ERu t m) (k:=20) (d:=3) mix (ERu_ok t m) ((rup_vc t m _).mpr ⟨?_,fun p hpre=>?_⟩)
 ·refine ⟨(m,0,[]),⟨hm,rfl,by simp⟩,?_⟩
  repeat' (first|exact sub_tree _|exact trivial|exact rfl|exact fun h=>h|exact fun _=>rfl|refine And.intro ?_ ?_)
 obtain ⟨i,z,acc⟩:=p
 obtain ⟨h1,h2,h3⟩:=hpre
 have h1:i=0∨i<t.length:=h1
 have h2:acc.reverse++upR t (m - acc.length) i=upR t m m:=h2
 have h3:acc.length+i≤m:=h3
 dsimp only
 rw [show (Int.toNat (i:Int))=i from rfl]
 refine VB_intro (fun h=>?_) (fun h=>?_)
 ·have h0:0<i:=by
   have:=of_decide_eq_true h
   omega
  have hi:i<t.length:=by omega
  obtain ⟨p1,p2⟩:=parOK_at hp h0 hi
  have hgi:=gdsOK_at hg hi
  have hroom:room (1+acc.length) 32=true:=decide_eq_true ⟨by omega,by omega⟩
  have hst:upR t (m - acc.length) i=(t.getD i twigD).slot::upR t (m - (acc.length+1)) (t.getD i twigD).par.toNat:=by
   rw [show m - acc.length=(m - (acc.length+1))+1 by omega]
   conv=>lhs; unfold upR
   rw [if_neg (by omega)]
  have hnb:(isSlot (slotA (t.getD i twigD).slot)&&fewG (slotOf (slotA (t.getD i twigD).slot)))=true:=by
   rw [isSlot_self,slot_self,fewG,decide_eq_true hgi]
   rfl
  refine NB_intro (by simp; omega) (NB_intro hnb (NB_intro (by rw [hroom]; cases acc <;> simp) (NB_intro (by simp; omega) ⟨((t.getD i twigD).par.toNat,z,(t.getD i twigD).slot::acc),⟨?_,?_,?_⟩,?_,?_⟩)))
  ·show (t.getD i twigD).par.toNat=0∨(t.getD i twigD).par.toNat<t.length
   omega
  ·show ((t.getD i twigD).slot::acc).reverse++upR t (m - (acc.length+1)) (t.getD i twigD).par.toNat=_
   rw [← h2,hst,List.reverse_cons,List.append_assoc]
   rfl
  ·show acc.length+1+(t.getD i twigD).par.toNat≤m
   omega
  ·show (t.getD i twigD).par.toNat<i
   omega
  have hpar:(t.getD i twigD).par=(((t.getD i twigD).par.toNat:Nat):Int):=by omega
  have hlen:1+acc.length=((t.getD i twigD).slot::acc).length:=by rw [List.length_cons]; omega
  repeat' (first|exact sub_tree _|exact trivial|exact rfl|exact hpar|exact hlen|exact fun h=>h|refine And.intro ?_ ?_)
  intro k hk
  by_cases hin:k<1
  ·obtain rfl:k=0:=by omega
   repeat rw [if_pos hin]
   have e:=slot_self (t.getD i twigD).slot
   show (AV.agg [.int .i64 (t.getD i twigD).slot.1,intsA (slotOf (slotA (t.getD i twigD).slot)).gds]).sub (slotA (t.getD i twigD).slot)∧_
   rw [e]
   exact ⟨sub_slot _,rfl⟩
  ·obtain ⟨j,rfl⟩:∃ j,k=j+1:=⟨k - 1,by omega⟩
   repeat rw [if_neg hin]
   exact ⟨sub_slot (acc.getD j slotD'),rfl⟩
 ·have h0:i=0:=by
   have:=of_decide_eq_false h
   omega
  subst h0
  rw [upR_zero,List.append_nil] at h2
  rw [← h2,List.reverse_reverse]
  exact ⟨⟨rfl,fun _ _=>⟨⟨rfl,⟨rfl,fun _ _=>⟨rfl,rfl⟩,fun h=>h⟩,trivial⟩,rfl⟩,fun h=>h⟩,trivial⟩
theorem rup_ok:PureF Try.prog 42 cUp:=by
 intro args nd v he hnd
 unfold cUp at he
 split at he <;> cases he
 rename_i X m
 simp only [Bool.and_eq_true,decide_eq_true_eq] at hnd
 obtain ⟨⟨⟨⟨⟨h1,h2⟩,h3⟩,h4⟩,h5⟩,h6⟩:=hnd
 refine PureC.args (args':=[treeA (treeDec X),.int .i64 (m.toNat:Nat)]) rfl (fun i hi=>?_) (rup_pure _ _ h2 h3 h4 (by omega))
 match i,hi with
 | 0,_=>exact tree_sub h1
 | 1,_ =>
  show (AV.int .i64 m).sub (.int .i64 (m.toNat:Nat))
  rw [show ((m.toNat:Nat):Int)=m by omega]
  exact rfl
theorem EAk_ok (l m:List TwigG):CtrOK (EAk l m):=⟨(mkE_ctr (P:=Try.prog) (inv:=fun _ _=>none) (tbl_cons sameS_ok (tbl_nil _))).1,itr_none rfl⟩
theorem sameS_need {x y:SlotG} (hx:x.gds.length≤1000000) (hy:y.gds.length≤1000000):(isSlot (slotA x)&&isSlot (slotA y)&&fewG (slotOf (slotA x))&&fewG (slotOf (slotA y)))=true:=by
 rw [isSlot_self,isSlot_self,slot_self,slot_self,fewG,fewG,decide_eq_true hx,decide_eq_true hy]
 rfl
theorem alike_pure (l m : List TwigG) (hl : few2s l = true) (hm : few2s m = true) : PureC Try.prog gU 38 [treeA l, treeA m] (.bool (decide (l = m))) := by
  have hll : l.length ≤ 1000000 := by simp only [few2s, Bool.and_eq_true, decide_eq_true_eq] at hl; exact hl.1
  refine PureC.of_vc (E := EAk l m) (k := 20) (d := 3) mix (EAk_ok l m) ?_
  refine (alike_vc l m _).mpr ?_
  refine VB_intro (fun h => ?_) (fun h => ?_)
  · refine (decide_eq_false fun e => ?_).symm
    rw [e] at h
    simp at h
  have hlen : l.length = m.length := by
    simp only [bne_eq_false_iff_eq] at h
    omega
  refine ⟨⟨0, ⟨Nat.zero_le _, fun j hj => absurd hj (Nat.not_lt_zero _)⟩, ?_⟩, fun i hpre => ?_⟩
  · repeat' (first | exact sub_tree _ | exact trivial | exact rfl | exact Or.inr rfl | exact fun h => h | exact fun _ _ => rfl | refine And.intro ?_ ?_)
  obtain ⟨hi, hpre⟩ := hpre
  refine VB_intro (fun h1 => ?_) (fun h1 => ?_)
  · have h2 : i < l.length := by
      have := of_decide_eq_true h1
      omega
    obtain ⟨k1, k2⟩ := few2_at hl h2
    obtain ⟨k3, k4⟩ := few2_at hm (i := i) (by omega)
    refine NB_intro (by simp; omega) (NB_intro (by simp; omega) (and_self_iff.2 ?_))
    have hs1 := slot_self (l.getD i twigD).slot
    have hs2 := slot_self (m.getD i twigD).slot
    refine NB_intro (sameS_need (x := (l.getD i twigD).slot) (y := (m.getD i twigD).slot) k1 k3) (VB_intro (fun h3 => ?_) (fun h3 => ?_))
    · refine (decide_eq_false fun e => ?_).symm
      have h4 : (!decide (slotOf (slotA (l.getD i twigD).slot) = slotOf (slotA (m.getD i twigD).slot)) || (l.getD i twigD).par != (m.getD i twigD).par || !((l.getD i twigD).ends == (m.getD i twigD).ends) || (l.getD i twigD).line != (m.getD i twigD).line || ((l.getD i twigD).kids.length : Int) != ((m.getD i twigD).kids.length : Int)) = true := h3
      rw [e] at h4
      simp at h4
    have h4 : (!decide (slotOf (slotA (l.getD i twigD).slot) = slotOf (slotA (m.getD i twigD).slot)) || (l.getD i twigD).par != (m.getD i twigD).par || !((l.getD i twigD).ends == (m.getD i twigD).ends) || (l.getD i twigD).line != (m.getD i twigD).line || ((l.getD i twigD).kids.length : Int) != ((m.getD i twigD).kids.length : Int)) = false := h3
    rw [hs1, hs2] at h4
    simp only [Bool.or_eq_false_iff, Bool.not_eq_false', bne_eq_false_iff_eq, decide_eq_true_eq, beq_iff_eq] at h4
    obtain ⟨⟨⟨⟨q1, q2⟩, q4⟩, q5⟩, q3⟩ := h4
    have q3 : (l.getD i twigD).kids.length = (m.getD i twigD).kids.length := by omega
    rw [show (Int.toNat (i : Int)) = i from rfl]
    refine ⟨⟨0, ⟨Nat.zero_le _, fun j hj => absurd hj (Nat.not_lt_zero _)⟩, ?_⟩, fun k hk => ?_⟩
    · repeat' (first | exact sub_tree _ | exact trivial | exact rfl | exact fun h => h | exact fun _ _ => ⟨rfl, rfl⟩ | refine And.intro ?_ ?_)
    obtain ⟨hk1, hk2⟩ := hk
    rw [show (Int.toNat (k : Int)) = k from rfl]
    refine VB_intro (fun h5 => ?_) (fun h5 => ?_)
    · have h6 : k < (l.getD i twigD).kids.length := by
        have := of_decide_eq_true h5
        omega
      refine NB_intro (by simp only [decide_eq_true_eq]; omega) (NB_intro (by simp only [decide_eq_true_eq]; omega) (VB_intro (fun h7 => ?_) (fun h7 => ?_)))
      · refine (decide_eq_false fun e => ?_).symm
        rw [e] at h7
        simp at h7
      · simp only [bne_eq_false_iff_eq] at h7
        refine ⟨k + 1, ⟨by omega, fun j hj => ?_⟩, (show (l.getD i twigD).kids.length - (k + 1) < (l.getD i twigD).kids.length - k by omega), ?_⟩
        · rcases Nat.lt_or_ge j k with h8 | h8
          · exact hk2 j h8
          · obtain rfl : j = k := by omega
            exact h7
        have hW : IntKind.i64.wrap ((k : Int) + 1) = ((k + 1 : Nat) : Int) := by rw [wrap_i64_id (by omega) (by omega)]; omega
        repeat' (first | exact sub_tree _ | exact trivial | exact rfl | exact hW | exact fun h => h | exact fun _ _ => ⟨rfl, rfl⟩ | refine And.intro ?_ ?_)
    · have h6 : k = (l.getD i twigD).kids.length := by
        have := of_decide_eq_false h5
        omega
      have q6 : (l.getD i twigD).kids = (m.getD i twigD).kids := list_ext 0 q3 fun j hj => hk2 j (by omega)
      have h5 : l.getD i twigD = m.getD i twigD := (twig_eq_iff _ _).2 ⟨q1, q2, q6, q4, q5⟩
      refine ⟨i + 1, ⟨by omega, fun j hj => ?_⟩, (show l.length - (i + 1) < l.length - i by omega), ?_⟩
      · rcases Nat.lt_or_ge j i with h6 | h6
        · exact hpre j h6
        · obtain rfl : j = i := by omega
          exact h5
      have hW : IntKind.i64.wrap ((i : Int) + 1) = ((i + 1 : Nat) : Int) := by rw [wrap_i64_id (by omega) (by omega)]; omega
      repeat' (first | exact sub_tree _ | exact trivial | exact rfl | exact Or.inr rfl | exact fun h => h | exact fun _ _ => rfl | refine And.intro ?_ ?_)
      all_goals exact hW
  · have h2 : i = l.length := by
      have := of_decide_eq_false h1
      omega
    exact (decide_eq_true (list_ext twigD hlen fun j hj => hpre j (by omega))).symm
def cTreeE:Ctr
 | [.agg [.rof n f _],.agg [.rof m g _]]=>some (isTree (.agg [.rof n f false])&&isTree (.agg [.rof m g false])&&few2s (treeDec (.agg [.rof n f false]))&&few2s (treeDec (.agg [.rof m g false])),.bool (decide (treeDec (.agg [.rof n f false])=treeDec (.agg [.rof m g false]))))
 | _=>none
theorem alike_ok:PureF Try.prog 38 cTreeE:=by
 intro args nd v he hnd
 unfold cTreeE at he
 split at he <;> cases he
 rename_i n f ex m g ex'
 simp only [Bool.and_eq_true] at hnd
 obtain ⟨⟨⟨h1,h2⟩,h3⟩,h4⟩:=hnd
 refine PureC.args (args':=[treeA (treeDec (.agg [.rof n f false])),treeA (treeDec (.agg [.rof m g false]))]) rfl (fun i hi=>?_) (alike_pure _ _ h3 h4)
 match i,hi with
 | 0,_=>exact tree_sub (x:=.agg [.rof n f ex]) h1
 | 1,_=>exact tree_sub (x:=.agg [.rof m g ex']) h2
end Go.Proofs.Ytlnpgnipocbfhaa
