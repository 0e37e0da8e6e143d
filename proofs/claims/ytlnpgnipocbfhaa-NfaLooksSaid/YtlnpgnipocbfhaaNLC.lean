/- TREES C: conditions of nfa.up. -/
import Derived.Test.YtlnpgnipocbfhaaNL8
namespace Go.Proofs.Ytlnpgnipocbfhaa
open Pw Go
set_option maxRecDepth 100000
set_option linter.unusedSimpArgs false
def upR (t:List TwigG):Nat→Nat→List SlotG
 | 0,_=>[]
 | n+1,i=>if i=0 then [] else (t.getD i twigD).slot::upR t n (t.getD i twigD).par.toNat
def parOK (t:List TwigG):Bool:=(List.range t.length).all fun i=>decide (i=0∨0≤(t.getD i twigD).par∧(t.getD i twigD).par<i)
def gdsOK (t:List TwigG):Bool:=(List.range t.length).all fun i=>decide ((t.getD i twigD).slot.gds.length≤1000000)
def revS (n i:Nat) (f:Nat→AV) (k:Nat):SlotG:=if k<i∨n - 1 - i<k then slotOf (f (n - 1 - k)) else slotOf (f k)
def invUp (t:List TwigG) (m:Nat):Inv:=⟨Nat×Nat×List SlotG,30,fun p=>⟨[(1,.int .i64 p.1),(2,.ptr 0 0 0 0),(4,.ptr 1 0 0 0),(5,.ptr 2 0 0 0)],[(0,.row 0 1 true (.lst [treeA t])),(1,.row 0 1 true (.lst [.agg [.nils]])),(2,.row 0 1 false (.lst [.agg [.sl 20 p.2.1 0 p.2.2.length none]])),(20,.row p.2.1 2 true (.fn p.2.2.length fun k=>slotA (p.2.2.getD k slotD')))]⟩,
 fun p=>(p.1=0∨p.1<t.length)∧p.2.2++upR t (m - p.2.2.length) p.1=upR t m m∧p.2.2.length+p.1≤m,fun p=>p.1⟩
def invRev (t:List TwigG) (g n:Nat) (f:Nat→AV):Inv:=⟨Nat,40,fun i=>⟨[(0,.sl 20 g 0 n none),(2,.int .i64 i),(3,.int .i64 ((n:Int) - 1 - i))],[(0,.row 0 1 true (.lst [treeA t])),(1,.row 0 1 true (.lst [.agg [.nils]])),(2,.row 0 1 false (.lst [.agg [.sl 20 g 0 n none]])),(20,.row g 2 true (.fn n fun k=>slotA (revS n i f k)))]⟩,
 fun i=>2 * i≤n+1,fun i=>n - i⟩
noncomputable def EUp (t:List TwigG) (m:Nat):Env:={ mkE Try.prog (tblOf [(51,cCloneI)]) (fun f b=>if f=40∧b=0 then some (invUp t m) else none) with
 invS:=fun f c s=>if f=59∧c=0 then (match s.tmf 0 with|.sl _ g 0 n _=>(match s.hpf 20 with|.row _ _ _ (.fn _ f)=>some (invRev t g n f)|_=>none)|_=>none) else none }
theorem up_vc (t:List TwigG) (m:Nat) (l:List SlotG):(vcFun (EUp t m) 20 40 [treeA t,.int .i64 m] .nil 0 (retP 3 (lineA l))).sat=( (∃ (i:Nat×Nat×List SlotG),((i.fst=(0:Nat)∨i.fst<t.length)∧i.snd.snd++upR t (m - i.snd.snd.length) i.fst=upR t m m∧i.snd.snd.length+i.fst≤m)∧((↑m:Int)=(↑i.fst:Int)∧((0:Nat)=(0:Nat)∧(0:Nat)=(0:Nat)∧(0:Nat)=(0:Nat))∧((0:Nat)=(0:Nat)∧(0:Nat)=(0:Nat)∧(0:Nat)=(0:Nat))∧((0:Nat)=(0:Nat)∧(0:Nat)=(0:Nat)∧(0:Nat)=(0:Nat))∧True)∧((0:Nat)=(0:Nat)∧(true=true→true=true)∧((treeA t).sub (treeA t)∧(treeA t).cells.length=(treeA t).cells.length)∧True)∧((0:Nat)=(0:Nat)∧(true=true→true=true)∧((True∧True)∧(1:Nat)=(1:Nat))∧True)∧((0:Nat)=(0:Nat)∧(1:Nat)=(1:Nat)∧(i.snd.snd.length=(0:Nat)∧i.snd.fst=i.snd.fst∧i.snd.snd.length=(0:Nat))∧True)∧i.snd.snd.length=(0:Nat)∧True)∧∀ (i:Nat×Nat×List SlotG),(i.fst=(0:Nat)∨i.fst<t.length)∧i.snd.snd++upR t (m - i.snd.snd.length) i.fst=upR t m m∧i.snd.snd.length+i.fst≤m→VB (decide ((↑i.fst:Int) > (0:Int))) (NB (decide ((0:Int)≤(↑i.fst:Int)∧(↑i.fst:Int)<(↑t.length:Int))) (NB (decide ((t.getD (↑i.fst:Int).toNat twigD).slot.gds.length≤(1000000:Nat))&&intsB (t.getD (↑i.fst:Int).toNat twigD).slot.gds.length fun (k:Nat)=>AV.int IntKind.i64 ((t.getD (↑i.fst:Int).toNat twigD).slot.gds.getD k (0:Int))) (NB (true&&decide (i.snd.fst=i.snd.fst)&&room (i.snd.snd.length+(1:Nat)) (32:Nat)) (NB (decide ((0:Int)≤(↑i.fst:Int)∧(↑i.fst:Int)<(↑t.length:Int))) (∃ (i':Nat×Nat×List SlotG),((i'.fst=(0:Nat)∨i'.fst<t.length)∧i'.snd.snd++upR t (m - i'.snd.snd.length) i'.fst=upR t m m∧i'.snd.snd.length+i'.fst≤m)∧(invUp t m).μ i'<(invUp t m).μ i∧((t.getD (↑i.fst:Int).toNat twigD).par=(↑i'.fst:Int)∧((0:Nat)=(0:Nat)∧(0:Nat)=(0:Nat)∧(0:Nat)=(0:Nat))∧((0:Nat)=(0:Nat)∧(0:Nat)=(0:Nat)∧(0:Nat)=(0:Nat))∧((0:Nat)=(0:Nat)∧(0:Nat)=(0:Nat)∧(0:Nat)=(0:Nat))∧True)∧((0:Nat)=(0:Nat)∧(true=true→true=true)∧((treeA t).sub (treeA t)∧(treeA t).cells.length=(treeA t).cells.length)∧True)∧((0:Nat)=(0:Nat)∧(true=true→true=true)∧((True∧True)∧(1:Nat)=(1:Nat))∧True)∧((0:Nat)=(0:Nat)∧(false=true→false=true)∧(((i.snd.fst+(1:Nat)=i'.snd.fst∧(0:Nat)=(0:Nat)∧i.snd.snd.length+(1:Nat)=i'.snd.snd.length∧(@Eq (Option Nat) none none∨@Eq (Option Nat) none none))∧True)∧(1:Nat)=(1:Nat))∧True)∧(i.snd.fst+(1:Nat)=i'.snd.fst∧(true=true→true=true)∧i.snd.snd.length+(1:Nat)=i'.snd.snd.length∧∀ (i_1:Nat),i_1<i.snd.snd.length+(1:Nat)→(if i_1<i.snd.snd.length then AV.agg [AV.int IntKind.i64 (i.snd.snd.getD ((0:Nat)+i_1) slotD').fst,AV.rof (i.snd.snd.getD ((0:Nat)+i_1) slotD').gds.length (fun (k:Nat)=>AV.int IntKind.i64 ((i.snd.snd.getD ((0:Nat)+i_1) slotD').gds.getD k (0:Int))) false] else ((Sq.lst [AV.agg [AV.int IntKind.i64 (t.getD (↑i.fst:Int).toNat twigD).slot.fst,AV.rof (t.getD (↑i.fst:Int).toNat twigD).slot.gds.length (fun (i_2:Nat)=>AV.int IntKind.i64 (i64Of (AV.int IntKind.i64 ((t.getD (↑i.fst:Int).toNat twigD).slot.gds.getD i_2 (0:Int))))) false]]).sub (0:Nat) (1:Nat)).get (i_1 - i.snd.snd.length)).sub (slotA (i'.snd.snd.getD i_1 slotD'))∧(if i_1<i.snd.snd.length then AV.agg [AV.int IntKind.i64 (i.snd.snd.getD ((0:Nat)+i_1) slotD').fst,AV.rof (i.snd.snd.getD ((0:Nat)+i_1) slotD').gds.length (fun (k:Nat)=>AV.int IntKind.i64 ((i.snd.snd.getD ((0:Nat)+i_1) slotD').gds.getD k (0:Int))) false] else ((Sq.lst [AV.agg [AV.int IntKind.i64 (t.getD (↑i.fst:Int).toNat twigD).slot.fst,AV.rof (t.getD (↑i.fst:Int).toNat twigD).slot.gds.length (fun (i_2:Nat)=>AV.int IntKind.i64 (i64Of (AV.int IntKind.i64 ((t.getD (↑i.fst:Int).toNat twigD).slot.gds.getD i_2 (0:Int))))) false]]).sub (0:Nat) (1:Nat)).get (i_1 - i.snd.snd.length)).cells.length=(slotA (i'.snd.snd.getD i_1 slotD')).cells.length)∧True))))) ((∃ (i_1:Nat),((2:Nat) * i_1).le (i.snd.snd.length+(1:Nat))∧((i.snd.fst=i.snd.fst∧(0:Nat)=(0:Nat)∧i.snd.snd.length=i.snd.snd.length∧(@Eq (Option Nat) none none∨@Eq (Option Nat) none none))∧(0:Int)=(↑i_1:Int)∧IntKind.i64.wrap ((↑i.snd.snd.length:Int) - (1:Int))=(↑i.snd.snd.length:Int) - (1:Int) - (↑i_1:Int)∧True)∧((0:Nat)=(0:Nat)∧(true=true→true=true)∧((treeA t).sub (treeA t)∧(treeA t).cells.length=(treeA t).cells.length)∧True)∧((0:Nat)=(0:Nat)∧(true=true→true=true)∧((True∧True)∧(1:Nat)=(1:Nat))∧True)∧((0:Nat)=(0:Nat)∧(false=true→false=true)∧(((i.snd.fst=i.snd.fst∧(0:Nat)=(0:Nat)∧i.snd.snd.length=i.snd.snd.length∧(@Eq (Option Nat) none none∨@Eq (Option Nat) none none))∧True)∧(1:Nat)=(1:Nat))∧True)∧(i.snd.fst=i.snd.fst∧(true=true→true=true)∧i.snd.snd.length=i.snd.snd.length∧∀ (i_2:Nat),i_2<i.snd.snd.length→(AV.agg [AV.int IntKind.i64 (i.snd.snd.getD i_2 slotD').fst,AV.rof (i.snd.snd.getD i_2 slotD').gds.length (fun (k:Nat)=>AV.int IntKind.i64 ((i.snd.snd.getD i_2 slotD').gds.getD k (0:Int))) false]).sub (slotA (revS i.snd.snd.length i_1 (fun (k:Nat)=>slotA (i.snd.snd.getD k slotD')) i_2))∧(2:Nat)=(2:Nat))∧True)∧∀ (i_1:Nat),((2:Nat) * i_1).le (i.snd.snd.length+(1:Nat))→VB (decide ((↑i_1:Int)<(↑i.snd.snd.length:Int) - (1:Int) - (↑i_1:Int))) (NB (decide (i.snd.fst=i.snd.fst)&&decide ((0:Int)≤(↑i.snd.snd.length:Int) - (1:Int) - (↑i_1:Int)∧(↑i.snd.snd.length:Int) - (1:Int) - (↑i_1:Int)<(↑i.snd.snd.length:Int))) (NB (decide (i.snd.fst=i.snd.fst)) (NB (decide (i.snd.fst=i.snd.fst)&&decide ((0:Int)≤(↑i_1:Int)∧(↑i_1:Int)<(↑i.snd.snd.length:Int))) (NB (decide (i.snd.fst=i.snd.fst)) (NB (decide (i.snd.fst=i.snd.fst)&&decide ((0:Int)≤(↑i_1:Int)∧(↑i_1:Int)<(↑i.snd.snd.length:Int))) (NB (decide (i.snd.fst=i.snd.fst)) (NB (decide (i.snd.fst=i.snd.fst)&&decide ((0:Int)≤(↑i.snd.snd.length:Int) - (1:Int) - (↑i_1:Int)∧(↑i.snd.snd.length:Int) - (1:Int) - (↑i_1:Int)<(↑i.snd.snd.length:Int))) (NB (decide (i.snd.fst=i.snd.fst)) (∃ (i':Nat),((2:Nat) * i').le (i.snd.snd.length+(1:Nat))∧(invRev t i.snd.fst i.snd.snd.length fun (k:Nat)=>slotA (i.snd.snd.getD k slotD')).μ i'<(invRev t i.snd.fst i.snd.snd.length fun (k:Nat)=>slotA (i.snd.snd.getD k slotD')).μ i_1∧((i.snd.fst=i.snd.fst∧(0:Nat)=(0:Nat)∧i.snd.snd.length=i.snd.snd.length∧(@Eq (Option Nat) none none∨@Eq (Option Nat) none none))∧IntKind.i64.wrap ((↑i_1:Int)+(1:Int))=(↑i':Int)∧IntKind.i64.wrap ((↑i.snd.snd.length:Int) - (1:Int) - (↑i_1:Int) - (1:Int))=(↑i.snd.snd.length:Int) - (1:Int) - (↑i':Int)∧True)∧((0:Nat)=(0:Nat)∧(true=true→true=true)∧((treeA t).sub (treeA t)∧(treeA t).cells.length=(treeA t).cells.length)∧True)∧((0:Nat)=(0:Nat)∧(true=true→true=true)∧((True∧True)∧(1:Nat)=(1:Nat))∧True)∧((0:Nat)=(0:Nat)∧(false=true→false=true)∧(((i.snd.fst=i.snd.fst∧(0:Nat)=(0:Nat)∧i.snd.snd.length=i.snd.snd.length∧(@Eq (Option Nat) none none∨@Eq (Option Nat) none none))∧True)∧(1:Nat)=(1:Nat))∧True)∧(i.snd.fst=i.snd.fst∧(true=true→true=true)∧i.snd.snd.length=i.snd.snd.length∧∀ (i_2:Nat),i_2<i.snd.snd.length→(AV.agg [AV.int IntKind.i64 (if i_2=(0:Nat)+((↑i.snd.snd.length:Int) - (1:Int) - (↑i_1:Int)).toNat then (revS i.snd.snd.length i_1 (fun (k:Nat)=>slotA (i.snd.snd.getD k slotD')) ((0:Nat)+(↑i_1:Int).toNat)).fst else if i_2=(0:Nat)+(↑i_1:Int).toNat then (revS i.snd.snd.length i_1 (fun (k:Nat)=>slotA (i.snd.snd.getD k slotD')) ((0:Nat)+((↑i.snd.snd.length:Int) - (1:Int) - (↑i_1:Int)).toNat)).fst else (revS i.snd.snd.length i_1 (fun (k:Nat)=>slotA (i.snd.snd.getD k slotD')) i_2).fst),AV.rof (if i_2=(0:Nat)+((↑i.snd.snd.length:Int) - (1:Int) - (↑i_1:Int)).toNat then (revS i.snd.snd.length i_1 (fun (k:Nat)=>slotA (i.snd.snd.getD k slotD')) ((0:Nat)+(↑i_1:Int).toNat)).gds.length else if i_2=(0:Nat)+(↑i_1:Int).toNat then (revS i.snd.snd.length i_1 (fun (k:Nat)=>slotA (i.snd.snd.getD k slotD')) ((0:Nat)+((↑i.snd.snd.length:Int) - (1:Int) - (↑i_1:Int)).toNat)).gds.length else (revS i.snd.snd.length i_1 (fun (k:Nat)=>slotA (i.snd.snd.getD k slotD')) i_2).gds.length) (fun (q:Nat)=>if i_2=(0:Nat)+((↑i.snd.snd.length:Int) - (1:Int) - (↑i_1:Int)).toNat then AV.int IntKind.i64 ((revS i.snd.snd.length i_1 (fun (k:Nat)=>slotA (i.snd.snd.getD k slotD')) ((0:Nat)+(↑i_1:Int).toNat)).gds.getD q (0:Int)) else if i_2=(0:Nat)+(↑i_1:Int).toNat then AV.int IntKind.i64 ((revS i.snd.snd.length i_1 (fun (k:Nat)=>slotA (i.snd.snd.getD k slotD')) ((0:Nat)+((↑i.snd.snd.length:Int) - (1:Int) - (↑i_1:Int)).toNat)).gds.getD q (0:Int)) else AV.int IntKind.i64 ((revS i.snd.snd.length i_1 (fun (k:Nat)=>slotA (i.snd.snd.getD k slotD')) i_2).gds.getD q (0:Int))) false]).sub (slotA (revS i.snd.snd.length i' (fun (k:Nat)=>slotA (i.snd.snd.getD k slotD')) i_2))∧(2:Nat)=(2:Nat))∧True))))))))) (NB (decide (i.snd.fst=i.snd.fst)&&true) ((i.snd.snd.length=l.length∧(∀ (i_2:Nat),i_2<i.snd.snd.length→((revS i.snd.snd.length i_1 (fun (k:Nat)=>slotA (i.snd.snd.getD k slotD')) ((0:Nat)+i_2)).fst=(l.getD i_2 slotD').fst∧((revS i.snd.snd.length i_1 (fun (k:Nat)=>slotA (i.snd.snd.getD k slotD')) ((0:Nat)+i_2)).gds.length=(l.getD i_2 slotD').gds.length∧(∀ (i_3:Nat),i_3<(revS i.snd.snd.length i_1 (fun (k:Nat)=>slotA (i.snd.snd.getD k slotD')) ((0:Nat)+i_2)).gds.length→(revS i.snd.snd.length i_1 (fun (k:Nat)=>slotA (i.snd.snd.getD k slotD')) ((0:Nat)+i_2)).gds.getD i_3 (0:Int)=(l.getD i_2 slotD').gds.getD i_3 (0:Int)∧(1:Nat)=(1:Nat))∧(false=true→false=true))∧True)∧(2:Nat)=(2:Nat))∧(false=true→decide (none=some i.snd.snd.length)=true))∧True)))):=by
 kernel_rfl
end Go.Proofs.Ytlnpgnipocbfhaa
namespace Go.Proofs.Ytlnpgnipocbfhaa
open Pw Go
set_option maxRecDepth 100000
set_option linter.unusedSimpArgs false
theorem upR_zero (t:List TwigG):∀ n,upR t n 0=[]
 | 0=>rfl
 | n+1=>by simp [upR]
theorem parOK_at {t:List TwigG} (h:parOK t=true) {i:Nat} (h0:0<i) (hi:i<t.length):0≤(t.getD i twigD).par∧(t.getD i twigD).par<i:=by
 have:=List.all_eq_true.1 h i (by simpa using hi)
 simp only [decide_eq_true_eq] at this
 omega
theorem gdsOK_at {t:List TwigG} (h:gdsOK t=true) {i:Nat} (hi:i<t.length):(t.getD i twigD).slot.gds.length≤1000000:=by
 have:=List.all_eq_true.1 h i (by simpa using hi)
 simpa only [decide_eq_true_eq] using this
theorem revS_at (n i:Nat) (l:List SlotG) (k:Nat):revS n i (fun (k:Nat)=>slotA (l.getD k slotD')) k=if k<i∨n - 1 - i<k then l.getD (n - 1 - k) slotD' else l.getD k slotD':=by
 unfold revS
 simp only [slot_self]
theorem rev_get {l:List SlotG} {k:Nat} (h:k<l.length):l.reverse.getD k slotD'=l.getD (l.length - 1 - k) slotD':=by
 simp only [List.getD_eq_getElem?_getD]
 rw [List.getElem?_reverse h]
theorem EUp_ok (t:List TwigG) (m:Nat):CtrOK (EUp t m):=⟨(mkE_ctr (P:=Try.prog) (inv:=fun _ _=>none) (tbl_cons cloneI_ok (tbl_nil _))).1,itr_none rfl⟩
theorem sub_tree (t:List TwigG):(treeA t).sub (treeA t):=⟨⟨rfl,fun _ _=>⟨⟨rfl,sub_ints _,rfl,sub_ints _,rfl,rfl,trivial⟩,rfl⟩,fun h=>h⟩,trivial⟩
theorem slot_new (s s':SlotG) (h:s=s'):(AV.agg [.int .i64 s.1,.rof s.gds.length (fun i=>.int .i64 (i64Of (.int .i64 (s.gds.getD i 0)))) false]).sub (slotA s'):=by
 subst h
 exact ⟨rfl,sub_ints _,trivial⟩
theorem slot_same (s s':SlotG) (h:s=s'):(slotA s).sub (slotA s'):=by
 subst h
 exact sub_slot _
theorem up_pure (t:List TwigG) (m:Nat) (hp:parOK t=true) (hg:gdsOK t=true) (ht:t.length≤1000000) (hm:m=0∨m<t.length):PureC Try.prog gU 40 [treeA t,.int .i64 m] (lineA (upR t m m).reverse):=by
 refine PureC.of_vc (E:=EUp t m) (k:=20) (d:=3) mix (EUp_ok t m) ((up_vc t m _).mpr ⟨⟨(m,0,[]),⟨hm,by simp,by simp⟩,?_⟩,fun p hpre=>?_⟩)
 ·repeat' (first|exact sub_tree _|exact sub_lines _|exact sub_slots _|exact trivial|exact rfl|exact Or.inr rfl|exact fun h=>h|exact fun _ _=>rfl|exact fun _=>rfl|refine And.intro ?_ ?_)
 obtain ⟨node,g,acc⟩:=p
 obtain ⟨h1,h2,h3⟩:=hpre
 dsimp only at h1 h2 h3
 dsimp only
 have hal:acc.length≤1000000:=by omega
 refine VB_intro (fun h4=>?_) (fun h4=>?_)
 ·have h5:0<node:=by
   have:=of_decide_eq_true h4
   omega
  have h6:node<t.length:=by omega
  have h7:=parOK_at hp h5 h6
  have h8:=gdsOK_at hg h6
  rw [show (Int.toNat (node:Int))=node from rfl,intsB_self]
  have nbm:(decide ((t.getD node twigD).slot.gds.length≤1000000)&&true)=true:=by rw [decide_eq_true h8]; rfl
  have hroom:room (acc.length+1) 32=true:=decide_eq_true ⟨by omega,by omega⟩
  refine NB_intro (by simp; omega) (NB_intro nbm (NB_intro (by rw [hroom]; simp) (NB_intro (by simp; omega) ⟨((t.getD node twigD).par.toNat,g+1,acc++[(t.getD node twigD).slot]),⟨?_,?_,?_⟩,?_,?_⟩)))
  ·right
   dsimp only
   omega
  ·dsimp only
   rw [← h2,List.append_assoc,List.length_append,List.length_singleton]
   congr 1
   obtain ⟨k,hk⟩:∃ k,m - acc.length=k+1:=⟨m - acc.length - 1,by omega⟩
   rw [show m - (acc.length+1)=k by omega,hk,upR,if_neg (by omega)]
   rfl
  ·dsimp only
   rw [List.length_append,List.length_singleton]
   omega
  ·show (t.getD node twigD).par.toNat<node
   omega
  have hpar:(t.getD node twigD).par=(((t.getD node twigD).par.toNat:Nat):Int):=by omega
  have hL:acc.length+1=(acc++[(t.getD node twigD).slot]).length:=by simp
  repeat' (first|exact sub_tree _|exact sub_lines _|exact sub_slots _|exact trivial|exact rfl|exact Or.inr rfl|exact fun h=>h|exact fun _ _=>rfl|exact fun _=>rfl|refine And.intro ?_ ?_)
  all_goals try (first|exact hpar|exact hL)
  ·intro i hi
   by_cases hin:i<acc.length
   ·have h9:(acc++[(t.getD node twigD).slot]).getD i slotD'=acc.getD i slotD':=by
     simp only [List.getD_eq_getElem?_getD]
     rw [List.getElem?_append_left hin]
    rw [if_pos hin,Nat.zero_add]
    exact ⟨slot_same _ _ h9.symm,rfl⟩
   ·obtain rfl:i=acc.length:=by omega
    have h9:(acc++[(t.getD node twigD).slot]).getD acc.length slotD'=(t.getD node twigD).slot:=by simp [List.getD_eq_getElem?_getD]
    rw [if_neg hin,Nat.sub_self]
    exact ⟨slot_new _ _ h9.symm,rfl⟩
 ·have h5:node=0:=by
   have:=of_decide_eq_false h4
   omega
  subst h5
  rw [upR_zero,List.append_nil] at h2
  rw [← h2]
  have hw:IntKind.i64.wrap ((acc.length:Int) - 1)=(acc.length:Int) - 1 - ((0:Nat):Int):=by rw [wrap_i64_id (by omega) (by omega)]; omega
  refine ⟨⟨0,Nat.zero_le _,?_⟩,fun i hi=>?_⟩
  ·repeat' (first|exact sub_tree _|exact sub_lines _|exact sub_slots _|exact trivial|exact rfl|exact Or.inr rfl|exact fun h=>h|exact fun _ _=>rfl|exact fun _=>rfl|refine And.intro ?_ ?_)
   all_goals try (first|exact hw)
   ·intro k hk
    refine ⟨slot_same (acc.getD k slotD') _ ?_,rfl⟩
    rw [revS_at,if_neg (by omega)]
  ·have hi':2 * i≤acc.length+1:=hi
   refine VB_intro (fun h6=>?_) (fun h6=>?_)
   ·have h7:i<acc.length - 1 - i:=by
     have:=of_decide_eq_true h6
     omega
    have hbn:(((acc.length:Int) - 1 - (i:Int)).toNat)=acc.length - 1 - i:=by omega
    have nb1:(decide (g=g)&&decide (0≤(acc.length:Int) - 1 - (i:Int)∧(acc.length:Int) - 1 - (i:Int)<(acc.length:Int)))=true:=by simp; omega
    have nb2:(decide (g=g)&&decide (0≤(i:Int)∧(i:Int)<(acc.length:Int)))=true:=by simp; omega
    have nb0:decide (g=g)=true:=decide_eq_true rfl
    refine NB_intro nb1 (NB_intro nb0 (NB_intro nb2 (NB_intro nb0 (NB_intro nb2 (NB_intro nb0 (NB_intro nb1 (NB_intro nb0 ⟨i+1,?_,?_,?_⟩)))))))
    ·show 2 * (i+1)≤acc.length+1
     omega
    ·show acc.length - (i+1)<acc.length - i
     omega
    have hw1:IntKind.i64.wrap ((i:Int)+1)=((i+1:Nat):Int):=by rw [wrap_i64_id (by omega) (by omega)]; omega
    have hw2:IntKind.i64.wrap ((acc.length:Int) - 1 - (i:Int) - 1)=(acc.length:Int) - 1 - ((i+1:Nat):Int):=by rw [wrap_i64_id (by omega) (by omega)]; omega
    repeat' (first|exact sub_tree _|exact sub_lines _|exact sub_slots _|exact trivial|exact rfl|exact Or.inr rfl|exact fun h=>h|exact fun _ _=>rfl|exact fun _=>rfl|refine And.intro ?_ ?_)
    all_goals try (first|exact hw1|exact hw2)
    ·intro k hk
     rw [hbn,show (Int.toNat (i:Int))=i from rfl,Nat.zero_add,Nat.zero_add]
     by_cases hkb:k=acc.length - 1 - i
     ·simp only [if_pos hkb]
      refine ⟨slot_same _ _ ?_,by trivial⟩
      rw [revS_at,revS_at,if_neg (by omega),if_pos (by omega)]
      congr 1
      omega
     ·by_cases hki:k=i
      ·simp only [if_neg hkb,if_pos hki]
       refine ⟨slot_same _ _ ?_,by trivial⟩
       rw [revS_at,revS_at,if_neg (by omega),if_pos (by omega)]
       congr 1
       omega
      ·simp only [if_neg hkb,if_neg hki]
       refine ⟨slot_same _ _ ?_,by trivial⟩
       rw [revS_at,revS_at]
       by_cases hc:k<i∨acc.length - 1 - i<k
       ·rw [if_pos hc,if_pos (by omega)]
       ·rw [if_neg hc,if_neg (by omega)]
   ·have h7:¬ i<acc.length - 1 - i:=by
     have:=of_decide_eq_false h6
     omega
    refine NB_intro (by simp) ⟨⟨(List.length_reverse).symm,fun k hk=>?_,fun h=>by cases h⟩,trivial⟩
    have h8:revS acc.length i (fun (k:Nat)=>slotA (acc.getD k slotD')) (0+k)=acc.reverse.getD k slotD':=by
     rw [Nat.zero_add,revS_at,rev_get hk]
     by_cases hc:k<i∨acc.length - 1 - i<k
     ·rw [if_pos hc]
     ·rw [if_neg hc]
      congr 1
      omega
    rw [h8]
    exact ⟨⟨rfl,⟨rfl,fun _ _=>⟨rfl,rfl⟩,fun h=>h⟩,trivial⟩,rfl⟩
end Go.Proofs.Ytlnpgnipocbfhaa
