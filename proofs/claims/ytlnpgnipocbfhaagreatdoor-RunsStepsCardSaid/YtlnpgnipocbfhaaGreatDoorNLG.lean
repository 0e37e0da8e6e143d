/- TREES G: conditions of nfa.ends. -/
import Derived.Test.YtlnpgnipocbfhaaGreatDoorNLE
import Derived.Test.YtlnpgnipocbfhaaGreatDoorNLA
import Derived.Test.YtlnpgnipocbfhaaGreatDoorNL8
namespace Go.Proofs.YtlnpgnipocbfhaaGreatDoor
open Pw Go
set_option maxRecDepth 100000
def isTree:AV->Bool
 | .agg [.rof n f _]=>(List.range n).all fun i=>isTwig (f i)
 | _=>false
def treeDec:AV->List TwigG
 | .agg [.rof n f _]=>(List.range n).map fun i=>twigOf (f i)
 | _=>[]
noncomputable def cSort (extra:List AV) (l:List Int):Option (Bool×List Int) :=
 match extra with
 | [.fn (.func g) [] [.rptr X 0]]=>some (decide (g=165)&&isTree X&&okL (treeDec X) l&&decide (l.length<=1000000),sortT (treeDec X) l)
 | _=>none
noncomputable def tblEn:TblR:=fun f extra l=>if f=164 then cSort extra l else none
def okN (t:List TwigG) (j:Nat):Bool:=(decide (j=0)||(decide (0<=(t.getD j twigD).par)&&decide ((t.getD j twigD).par<j)))&&((t.getD j twigD).ends==decide (0<=(t.getD j twigD).line))
def endsN (t:List TwigG):Nat->List Int
 | 0=>[]
 | n+1=>if (t.getD n twigD).ends then endsN t n++[(n:Int)] else endsN t n
noncomputable def endS (t:List TwigG):List Int:=sortT t (endsN t t.length)
def invE0 (t:List TwigG):Inv:=⟨Nat×Nat,30,fun p=>⟨[(1,.rptr (treeA t) 0),(4,.sl 20 p.2 0 (endsN t p.1).length none),(14,twigsA t),(15,.int .i64 t.length),(16,.int .i64 p.1)],[(20,.row p.2 1 true (.fn (endsN t p.1).length fun k=>.int .i64 ((endsN t p.1).getD k 0)))]⟩,
 fun p=>p.1<=t.length/\∀ j,j<p.1->okN t j=true,fun p=>t.length - p.1⟩
noncomputable def invE2 (t:List TwigG):Inv:=⟨Nat×Nat,40,fun p=>⟨[(1,.rptr (treeA t) 0),(4,.sl 20 p.2 0 (endS t).length none),(52,.sl 20 p.2 0 (endS t).length none),(53,.int .i64 (endS t).length),(54,.int .i64 p.1)],[(20,.row p.2 1 true (.fn (endS t).length fun k=>.int .i64 ((endS t).getD k 0)))]⟩,
 fun p=>p.1<=(endS t).length/\∀ j,j<p.1->lnG t ((endS t).getD j 0)=j,fun p=>(endS t).length - p.1⟩
noncomputable def EEn (t:List TwigG):Env:={ mkE Tryz.prog (tblOf []) (fun f b=>if f=136 then (if b=0 then some (invE0 t) else if b=2 then some (invE2 t) else none) else none) with
 ctr:=ctrOf4 (tblOf []) tblEn
 fzs:=fun f=>if f=136 then [10001] else [] }
theorem ends_vc (t:List TwigG) (l:List Int) (b:Bool):(vcFun (EEn t) 20 136 [treeA t] .nil 0 (retP 3 (.tup [intsA l,.bool b]))).sat=(let c0:=((((t.length=t.length/\(∀ i:Nat,i<t.length->((t.getD i twigD).slot.fst=(t.getD i twigD).slot.fst/\((t.getD i twigD).slot.gds.length=(t.getD i twigD).slot.gds.length/\(∀ i_1:Nat,i_1<(t.getD i twigD).slot.gds.length->(t.getD i twigD).slot.gds.getD i_1 (0:Int)=(t.getD i twigD).slot.gds.getD i_1 (0:Int)/\1=1)/\(false=true->false=true))/\(t.getD i twigD).par=(t.getD i twigD).par/\((t.getD i twigD).kids.length=(t.getD i twigD).kids.length/\(∀ i_1:Nat,i_1<(t.getD i twigD).kids.length->(t.getD i twigD).kids.getD i_1 (0:Int)=(t.getD i twigD).kids.getD i_1 (0:Int)/\1=1)/\(false=true->false=true))/\(t.getD i twigD).ends=(t.getD i twigD).ends/\(t.getD i twigD).line=(t.getD i twigD).line/\True)/\6=6)/\(false=true->false=true))/\True)/\1=1)/\0=0)
 let c1:=(@Eq (Option Nat) none none\/@Eq (Option Nat) none none)
 let c2:=fun (i:Nat×Nat)=>(List.map (fun i_1:Nat=> i64V (AV.int .i64 ((endsN t i.fst).getD i_1 (0:Int)))) (List.range (endsN t i.fst).length))
 let c3:=fun (i_1:Nat) (i:Nat×Nat)=>(if i_1<(endsN t i.fst).length then AV.int .i64 ((endsN t i.fst).getD (0+i_1) (0:Int)) else ((Sq.lst [AV.int .i64 (i.fst:Int)]).sub 0 1).get (i_1 - (endsN t i.fst).length))
 let c4:=fun (i_1:Nat×Nat)=>(i_1.fst<=(endS t).length/\∀ j:Nat,j<i_1.fst->lnG t ((endS t).getD j (0:Int))=(j:Int))
 let c5:=fun (i:Nat×Nat)=>(i.fst<=t.length/\∀ j:Nat,j<i.fst->okN t j=true)
 let c6:=fun (i:Nat×Nat)=>(t.getD (i.fst:Int).toNat twigD)
 let c7:=(↑(endS t).length:Int)
 VB (decide ((t.length:Int) > (769:Int))) (l.length=0/\false=b/\True) ((∃ (i:Nat×Nat),(c5 i)/\(c0/\((endsN t i.fst).length=0/\i.snd=i.snd/\(endsN t i.fst).length=0)/\(twigsA t).sub (twigsA t)/\(t.length:Int)=(t.length:Int)/\(0:Int)=(i.fst:Int)/\True)/\(endsN t i.fst).length=0/\True)/\∀ (i:Nat×Nat),(c5 i)->VB (decide ((i.fst:Int)<(t.length:Int))) (NB (decide ((0:Int)<=(i.fst:Int)/\(i.fst:Int)<(t.length:Int))) (VB (decide ((i.fst:Int) > (0:Int))&&(decide ((c6 i).par<(0:Int))||decide ((c6 i).par>=(i.fst:Int)))||!(c6 i).ends==decide ((c6 i).line>=(0:Int))) (l.length=0/\false=b/\True) (VB (c6 i).ends (NB (true&&decide (i.snd=i.snd)&&room ((endsN t i.fst).length+1) 8) (∃ (i':Nat×Nat),(c5 i')/\(invE0 t).μ i'<(invE0 t).μ i/\(c0/\(i.snd+1=i'.snd/\0=0/\(endsN t i.fst).length+1=(endsN t i'.fst).length/\c1)/\(twigsA t).sub (twigsA t)/\(t.length:Int)=(t.length:Int)/\IntKind.i64.wrap ((i.fst:Int)+(1:Int))=(i'.fst:Int)/\True)/\(i.snd+1=i'.snd/\(true=true->true=true)/\(endsN t i.fst).length+1=(endsN t i'.fst).length/\∀ i_1:Nat,i_1<(endsN t i.fst).length+1->(c3 i_1 i).sub (AV.int .i64 ((endsN t i'.fst).getD i_1 (0:Int)))/\(c3 i_1 i).cells.length=[AV.int .i64 ((endsN t i'.fst).getD i_1 (0:Int))].length)/\True)) (∃ (i':Nat×Nat),(c5 i')/\(invE0 t).μ i'<(invE0 t).μ i/\(c0/\(i.snd=i'.snd/\0=0/\(endsN t i.fst).length=(endsN t i'.fst).length/\c1)/\(twigsA t).sub (twigsA t)/\(t.length:Int)=(t.length:Int)/\IntKind.i64.wrap ((i.fst:Int)+(1:Int))=(i'.fst:Int)/\True)/\(i.snd=i'.snd/\(true=true->true=true)/\(endsN t i.fst).length=(endsN t i'.fst).length/\∀ i_1:Nat,i_1<(endsN t i.fst).length->(endsN t i.fst).getD i_1 (0:Int)=(endsN t i'.fst).getD i_1 (0:Int)/\1=1)/\True)))) (NB (true&&isTree (treeA t)&&okL (treeDec (treeA t)) (c2 i)&&decide ((c2 i).length<=1000000)&&decide (i.snd=i.snd)&&true&&decide ((endsN t i.fst).length=(endsN t i.fst).length)&&(List.range (endsN t i.fst).length).all fun i_1:Nat=> i64B (AV.int .i64 ((endsN t i.fst).getD i_1 (0:Int)))) ((∃ (i_1:Nat×Nat),(c4 i_1)/\(c0/\(i.snd=i_1.snd/\0=0/\(endsN t i.fst).length=(endS t).length/\c1)/\(i.snd=i_1.snd/\0=0/\(endsN t i.fst).length=(endS t).length/\c1)/\(↑(endsN t i.fst).length:Int)=c7/\(0:Int)=(i_1.fst:Int)/\True)/\(i.snd=i_1.snd/\(true=true->true=true)/\(endsN t i.fst).length=(endS t).length/\∀ i_2:Nat,i_2<(endsN t i.fst).length->(sortT (treeDec (treeA t)) (c2 i)).getD i_2 (0:Int)=(endS t).getD i_2 (0:Int)/\1=1)/\True)/\∀ (i:Nat×Nat),(c4 i)->VB (decide ((i.fst:Int)<c7)) (NB (decide (i.snd=i.snd)&&decide ((0:Int)<=(i.fst:Int)/\(i.fst:Int)<c7)) (NB (decide (i.snd=i.snd)) (NB (decide ((0:Int)<=(endS t).getD (0+(i.fst:Int).toNat) (0:Int)/\(endS t).getD (0+(i.fst:Int).toNat) (0:Int)<(t.length:Int))) (VB ((t.getD ((endS t).getD (0+(i.fst:Int).toNat) (0:Int)).toNat twigD).line !=(i.fst:Int)) (l.length=0/\false=b/\True) (∃ (i':Nat×Nat),(c4 i')/\(invE2 t).μ i'<(invE2 t).μ i/\(c0/\(i.snd=i'.snd/\0=0/\(endS t).length=(endS t).length/\c1)/\(i.snd=i'.snd/\0=0/\(endS t).length=(endS t).length/\c1)/\c7=c7/\IntKind.i64.wrap ((i.fst:Int)+(1:Int))=(i'.fst:Int)/\True)/\(i.snd=i'.snd/\(true=true->true=true)/\(endS t).length=(endS t).length/\∀ i:Nat,i<(endS t).length->(endS t).getD i (0:Int)=(endS t).getD i (0:Int)/\1=1)/\True))))) (NB (decide (i.snd=i.snd)&&true) (((endS t).length=l.length/\(∀ i:Nat,i<(endS t).length->(endS t).getD (0+i) (0:Int)=l.getD i (0:Int)/\1=1)/\(false=true->decide (none=some (endS t).length)=true))/\true=b/\True)))))):=by
 kernel_rfl
def upR (t:List TwigG):Nat->Nat->List SlotG
 | 0,_=>[]
 | n+1,i=>if i=0 then [] else (t.getD i twigD).slot::upR t n (t.getD i twigD).par.toNat
def parOK (t:List TwigG):Bool:=(List.range t.length).all fun i=>decide (i=0\/0<=(t.getD i twigD).par/\(t.getD i twigD).par<i)
def gdsOK (t:List TwigG):Bool:=(List.range t.length).all fun i=>decide ((t.getD i twigD).slot.gds.length<=1000000)
def revS (n i:Nat) (f:Nat->AV) (k:Nat):SlotG:=if k<i\/n - 1 - i<k then slotOf (f (n - 1 - k)) else slotOf (f k)
def invUp (t:List TwigG) (m:Nat):Inv:=⟨Nat×Nat×List SlotG,30,fun p=>⟨[(1,.int .i64 p.1),(2,.ptr 0 0 0 0),(4,.ptr 1 0 0 0),(5,.ptr 2 0 0 0)],[(0,.row 0 1 true (.lst [treeA t])),(1,.row 0 1 true (.lst [.agg [.nils]])),(2,.row 0 1 false (.lst [.agg [.sl 20 p.2.1 0 p.2.2.length none]])),(20,.row p.2.1 2 true (.fn p.2.2.length fun k=>slotA (p.2.2.getD k slotD')))]⟩,
 fun p=>(p.1=0\/p.1<t.length)/\p.2.2++upR t (m - p.2.2.length) p.1=upR t m m/\p.2.2.length+p.1<=m,fun p=>p.1⟩
def invRev (t:List TwigG) (g n:Nat) (f:Nat->AV):Inv:=⟨Nat,40,fun i=>⟨[(0,.sl 20 g 0 n none),(2,.int .i64 i),(3,.int .i64 ((n:Int) - 1 - i))],[(0,.row 0 1 true (.lst [treeA t])),(1,.row 0 1 true (.lst [.agg [.nils]])),(2,.row 0 1 false (.lst [.agg [.sl 20 g 0 n none]])),(20,.row g 2 true (.fn n fun k=>slotA (revS n i f k)))]⟩,
 fun i=>2 * i<=n+1,fun i=>n - i⟩
noncomputable def EUp (t:List TwigG) (m:Nat):Env:={ mkE Tryz.prog (tblOf [(52,cCloneI)]) (fun f b=>if f=71/\b=0 then some (invUp t m) else none) with
 invS:=fun f c s=>if f=114/\c=0 then (match s.tmf 0 with|.sl _ g 0 n _=>(match s.hpf 20 with|.row _ _ _ (.fn _ f)=>some (invRev t g n f)|_=>none)|_=>none) else none }
theorem up_vc (t:List TwigG) (m:Nat) (l:List SlotG):(vcFun (EUp t m) 20 71 [treeA t,.int .i64 m] .nil 0 (retP 3 (lineA l))).sat=(let c0:=fun (i:Nat×Nat×List SlotG)=>(fun k:Nat=> slotA (i.snd.snd.getD k slotD'))
 let c7:=fun (i:Nat×Nat×List SlotG)=>(t.getD (i.fst:Int).toNat twigD)
 let c1:=fun (i_1:Nat) (i:Nat×Nat×List SlotG)=>(if i_1<i.snd.snd.length then AV.agg [AV.int .i64 (i.snd.snd.getD (0+i_1) slotD').fst,AV.rof (i.snd.snd.getD (0+i_1) slotD').gds.length (fun k:Nat=> AV.int .i64 ((i.snd.snd.getD (0+i_1) slotD').gds.getD k (0:Int))) false] else ((Sq.lst [AV.agg [AV.int .i64 (c7 i).slot.fst,AV.rof (c7 i).slot.gds.length (fun i_2:Nat=> AV.int .i64 (i64Of (AV.int .i64 ((c7 i).slot.gds.getD i_2 (0:Int))))) false]]).sub 0 1).get (i_1 - i.snd.snd.length))
 let c10:=(true=true->true=true)
 let c2:=(0=0/\c10/\((treeA t).sub (treeA t)/\(treeA t).cells.length=(treeA t).cells.length)/\True)
 let c3:=fun (i:Nat×Nat×List SlotG)=>(i.snd.fst=i.snd.fst/\0=0/\i.snd.snd.length=i.snd.snd.length/\(@Eq (Option Nat) none none\/@Eq (Option Nat) none none))
 let c4:=(0=0/\0=0/\0=0)
 let c5:=(0=0/\c10/\((True/\True)/\1=1)/\True)
 let c6:=fun (i:Nat×Nat×List SlotG) (i_1:Nat)=>((i.snd.snd.length:Int) - (1:Int) - (i_1:Int))
 let c8:=fun (i:Nat×Nat×List SlotG) (i_1:Nat)=>(decide (i.snd.fst=i.snd.fst)&&decide ((0:Int)<=(i.snd.snd.length:Int) - (1:Int) - (i_1:Int)/\(i.snd.snd.length:Int) - (1:Int) - (i_1:Int)<(i.snd.snd.length:Int)))
 let c9:=fun (i:Nat×Nat×List SlotG)=>((i.fst=0\/i.fst<t.length)/\i.snd.snd++upR t (m - i.snd.snd.length) i.fst=upR t m m/\i.snd.snd.length+i.fst<=m)
 (∃ (i:Nat×Nat×List SlotG),(c9 i)/\((m:Int)=(i.fst:Int)/\c4/\c4/\c4/\True)/\c2/\c5/\(0=0/\1=1/\(i.snd.snd.length=0/\i.snd.fst=i.snd.fst/\i.snd.snd.length=0)/\True)/\i.snd.snd.length=0/\True)/\∀ (i:Nat×Nat×List SlotG),(i.fst=0\/i.fst<t.length)/\i.snd.snd++upR t (m - i.snd.snd.length) i.fst=upR t m m/\i.snd.snd.length+i.fst<=m->VB (decide ((i.fst:Int) > (0:Int))) (NB (decide ((0:Int)<=(i.fst:Int)/\(i.fst:Int)<(t.length:Int))) (NB (decide ((c7 i).slot.gds.length<=1000000)&&intsB (c7 i).slot.gds.length fun k:Nat=> AV.int .i64 ((c7 i).slot.gds.getD k (0:Int))) (NB (true&&decide (i.snd.fst=i.snd.fst)&&room (i.snd.snd.length+1) 32) (NB (decide ((0:Int)<=(i.fst:Int)/\(i.fst:Int)<(t.length:Int))) (∃ (i':Nat×Nat×List SlotG),(c9 i')/\(invUp t m).μ i'<(invUp t m).μ i/\((c7 i).par=(i'.fst:Int)/\c4/\c4/\c4/\True)/\c2/\c5/\(0=0/\(false=true->false=true)/\(((i.snd.fst+1=i'.snd.fst/\0=0/\i.snd.snd.length+1=i'.snd.snd.length/\(@Eq (Option Nat) none none\/@Eq (Option Nat) none none))/\True)/\1=1)/\True)/\(i.snd.fst+1=i'.snd.fst/\c10/\i.snd.snd.length+1=i'.snd.snd.length/\∀ i_1:Nat,i_1<i.snd.snd.length+1->(c1 i_1 i).sub (slotA (i'.snd.snd.getD i_1 slotD'))/\(c1 i_1 i).cells.length=(slotA (i'.snd.snd.getD i_1 slotD')).cells.length)/\True))))) ((∃ i_1:Nat,(2 * i_1).le (i.snd.snd.length+1)/\((c3 i)/\(0:Int)=(i_1:Int)/\IntKind.i64.wrap ((i.snd.snd.length:Int) - (1:Int))=(i.snd.snd.length:Int) - (1:Int) - (i_1:Int)/\True)/\c2/\c5/\(0=0/\(false=true->false=true)/\(((c3 i)/\True)/\1=1)/\True)/\(i.snd.fst=i.snd.fst/\c10/\i.snd.snd.length=i.snd.snd.length/\∀ i_2:Nat,i_2<i.snd.snd.length->(AV.agg [AV.int .i64 (i.snd.snd.getD i_2 slotD').fst,AV.rof (i.snd.snd.getD i_2 slotD').gds.length (fun k:Nat=> AV.int .i64 ((i.snd.snd.getD i_2 slotD').gds.getD k (0:Int))) false]).sub (slotA (revS i.snd.snd.length i_1 (c0 i) i_2))/\2=2)/\True)/\∀ i_1:Nat,(2 * i_1).le (i.snd.snd.length+1)->VB (decide ((i_1:Int)<(i.snd.snd.length:Int) - (1:Int) - (i_1:Int))) (NB (c8 i i_1) (NB (decide (i.snd.fst=i.snd.fst)) (NB (decide (i.snd.fst=i.snd.fst)&&decide ((0:Int)<=(i_1:Int)/\(i_1:Int)<(i.snd.snd.length:Int))) (NB (decide (i.snd.fst=i.snd.fst)) (NB (decide (i.snd.fst=i.snd.fst)&&decide ((0:Int)<=(i_1:Int)/\(i_1:Int)<(i.snd.snd.length:Int))) (NB (decide (i.snd.fst=i.snd.fst)) (NB (c8 i i_1) (NB (decide (i.snd.fst=i.snd.fst)) (∃ i':Nat,(2 * i').le (i.snd.snd.length+1)/\(invRev t i.snd.fst i.snd.snd.length fun k:Nat=> slotA (i.snd.snd.getD k slotD')).μ i'<(invRev t i.snd.fst i.snd.snd.length fun k:Nat=> slotA (i.snd.snd.getD k slotD')).μ i_1/\((c3 i)/\IntKind.i64.wrap ((i_1:Int)+(1:Int))=(i':Int)/\IntKind.i64.wrap ((i.snd.snd.length:Int) - (1:Int) - (i_1:Int) - (1:Int))=(i.snd.snd.length:Int) - (1:Int) - (i':Int)/\True)/\c2/\c5/\(0=0/\(false=true->false=true)/\(((c3 i)/\True)/\1=1)/\True)/\(i.snd.fst=i.snd.fst/\c10/\i.snd.snd.length=i.snd.snd.length/\∀ i_2:Nat,i_2<i.snd.snd.length->(AV.agg [AV.int .i64 (if i_2=0+(c6 i i_1).toNat then (revS i.snd.snd.length i_1 (c0 i) (0+(i_1:Int).toNat)).fst else if i_2=0+(i_1:Int).toNat then (revS i.snd.snd.length i_1 (c0 i) (0+(c6 i i_1).toNat)).fst else (revS i.snd.snd.length i_1 (c0 i) i_2).fst),AV.rof (if i_2=0+(c6 i i_1).toNat then (revS i.snd.snd.length i_1 (c0 i) (0+(i_1:Int).toNat)).gds.length else if i_2=0+(i_1:Int).toNat then (revS i.snd.snd.length i_1 (c0 i) (0+(c6 i i_1).toNat)).gds.length else (revS i.snd.snd.length i_1 (c0 i) i_2).gds.length) (fun q:Nat=> if i_2=0+(c6 i i_1).toNat then AV.int .i64 ((revS i.snd.snd.length i_1 (c0 i) (0+(i_1:Int).toNat)).gds.getD q (0:Int)) else if i_2=0+(i_1:Int).toNat then AV.int .i64 ((revS i.snd.snd.length i_1 (c0 i) (0+(c6 i i_1).toNat)).gds.getD q (0:Int)) else AV.int .i64 ((revS i.snd.snd.length i_1 (c0 i) i_2).gds.getD q (0:Int))) false]).sub (slotA (revS i.snd.snd.length i' (c0 i) i_2))/\2=2)/\True))))))))) (NB (decide (i.snd.fst=i.snd.fst)&&true) ((i.snd.snd.length=l.length/\(∀ i_2:Nat,i_2<i.snd.snd.length->((revS i.snd.snd.length i_1 (c0 i) (0+i_2)).fst=(l.getD i_2 slotD').fst/\((revS i.snd.snd.length i_1 (c0 i) (0+i_2)).gds.length=(l.getD i_2 slotD').gds.length/\(∀ i_3:Nat,i_3<(revS i.snd.snd.length i_1 (c0 i) (0+i_2)).gds.length->(revS i.snd.snd.length i_1 (c0 i) (0+i_2)).gds.getD i_3 (0:Int)=(l.getD i_2 slotD').gds.getD i_3 (0:Int)/\1=1)/\(false=true->false=true))/\True)/\2=2)/\(false=true->decide (none=some i.snd.snd.length)=true))/\True)))):=by
 kernel_rfl
theorem upR_zero (t:List TwigG):∀ n,upR t n 0=[]
 | 0=>rfl
 | n+1=>by simp [upR]
theorem parOK_at {t:List TwigG} (h:parOK t=true) {i:Nat} (h0:0<i) (hi:i<t.length):0<=(t.getD i twigD).par/\(t.getD i twigD).par<i:=by
 have:=List.all_eq_true.1 h i (by simpa using hi)
 simp only [decide_eq_true_eq] at this;omega
theorem gdsOK_at {t:List TwigG} (h:gdsOK t=true) {i:Nat} (hi:i<t.length):(t.getD i twigD).slot.gds.length<=1000000:=by
 have:=List.all_eq_true.1 h i (by simpa using hi)
 simpa only [decide_eq_true_eq] using this
theorem revS_at (n i:Nat) (l:List SlotG) (k:Nat):revS n i (fun (k:Nat)=>slotA (l.getD k slotD')) k=if k<i\/n - 1 - i<k then l.getD (n - 1 - k) slotD' else l.getD k slotD':=by
 unfold revS;simp only [slot_self]
theorem rev_get {l:List SlotG} {k:Nat} (h:k<l.length):l.reverse.getD k slotD'=l.getD (l.length - 1 - k) slotD':=by
 simp only [List.getD_eq_getElem?_getD];rw [List.getElem?_reverse h]
theorem EUp_ok (t:List TwigG) (m:Nat):CtrOK (EUp t m):=⟨(mkE_ctr (P:=Tryz.prog) (inv:=fun _ _=>none) (tbl_cons cloneI_ok (tbl_nil _))).1,itr_none rfl⟩
theorem sub_tree (t:List TwigG):(treeA t).sub (treeA t):=⟨⟨rfl,fun _ _=>⟨⟨rfl,sub_ints _,rfl,sub_ints _,rfl,rfl,trivial⟩,rfl⟩,fun h=>h⟩,trivial⟩
theorem slot_new (s s':SlotG) (h:s=s'):(AV.agg [.int .i64 s.1,.rof s.gds.length (fun i=>.int .i64 (i64Of (.int .i64 (s.gds.getD i 0)))) false]).sub (slotA s'):=by
 subst h;exact ⟨rfl,sub_ints _,trivial⟩
theorem slot_same (s s':SlotG) (h:s=s'):(slotA s).sub (slotA s'):=by
 subst h;exact sub_slot _
theorem up_pure (t:List TwigG) (m:Nat) (hp:parOK t=true) (hg:gdsOK t=true) (ht:t.length<=1000000) (hm:m=0\/m<t.length):PureC Tryz.prog gU 71 [treeA t,.int .i64 m] (lineA (upR t m m).reverse):=by
 refine PureC.of_vc (E:=EUp t m) (k:=20) (d:=3) mix (EUp_ok t m) ((up_vc t m _).mpr ?_)
 conv=>zeta
 refine ⟨⟨(m,0,[]),⟨hm,by simp,by simp⟩,?_⟩,fun p hpre=>?_⟩
 ·repeat' (first|exact sub_tree _|exact sub_lines _|exact sub_slots _|exact trivial|exact rfl|exact Or.inr rfl|exact fun h=>h|exact fun _ _=>rfl|exact fun _=>rfl|refine And.intro ?_ ?_)
 obtain ⟨node,g,acc⟩:=p;obtain ⟨h1,h2,h3⟩:=hpre;dsimp only at h1 h2 h3;dsimp only;have hal:acc.length<=1000000:=by omega
 refine VB_intro (fun h4=>?_) (fun h4=>?_)
 ·have h5:0<node:=by
   have:=of_decide_eq_true h4;omega
  have h6:node<t.length:=by omega
  have h7:=parOK_at hp h5 h6;have h8:=gdsOK_at hg h6;rw [show (Int.toNat (node:Int))=node from rfl,intsB_self];have nbm:(decide ((t.getD node twigD).slot.gds.length<=1000000)&&true)=true:=by rw [decide_eq_true h8]; rfl
  have hroom:room (acc.length+1) 32=true:=decide_eq_true ⟨by omega,by omega⟩
  refine NB_intro (by simp; omega) (NB_intro nbm (NB_intro (by rw [hroom]; simp) (NB_intro (by simp; omega) ⟨((t.getD node twigD).par.toNat,g+1,acc++[(t.getD node twigD).slot]),⟨?_,?_,?_⟩,?_,?_⟩)))
  ·right;dsimp only;omega
  ·dsimp only;rw [<- h2,List.append_assoc,List.length_append,List.length_singleton];congr 1;obtain ⟨k,hk⟩:∃ k,m - acc.length=k+1:=⟨m - acc.length - 1,by omega⟩
   rw [show m - (acc.length+1)=k by omega,hk,upR,if_neg (by omega)]
   rfl
  ·dsimp only;rw [List.length_append,List.length_singleton];omega
  ·show (t.getD node twigD).par.toNat<node;omega
  have hpar:(t.getD node twigD).par=(((t.getD node twigD).par.toNat:Nat):Int):=by omega
  have hL:acc.length+1=(acc++[(t.getD node twigD).slot]).length:=by simp
  repeat' (first|exact sub_tree _|exact sub_lines _|exact sub_slots _|exact trivial|exact rfl|exact Or.inr rfl|exact fun h=>h|exact fun _ _=>rfl|exact fun _=>rfl|refine And.intro ?_ ?_)
  all_goals try (first|exact hpar|exact hL)
  ·intro i hi;by_cases hin:i<acc.length
   ·have h9:(acc++[(t.getD node twigD).slot]).getD i slotD'=acc.getD i slotD':=by
     simp only [List.getD_eq_getElem?_getD];rw [List.getElem?_append_left hin]
    rw [if_pos hin,Nat.zero_add];exact ⟨slot_same _ _ h9.symm,rfl⟩
   ·obtain rfl:i=acc.length:=by omega
    have h9:(acc++[(t.getD node twigD).slot]).getD acc.length slotD'=(t.getD node twigD).slot:=by simp [List.getD_eq_getElem?_getD]
    rw [if_neg hin,Nat.sub_self];exact ⟨slot_new _ _ h9.symm,rfl⟩
 ·have h5:node=0:=by
   have:=of_decide_eq_false h4;omega
  subst h5;rw [upR_zero,List.append_nil] at h2;rw [<- h2];have hw:IntKind.i64.wrap ((acc.length:Int) - 1)=(acc.length:Int) - 1 - ((0:Nat):Int):=by rw [wrap_i64_id (by omega) (by omega)]; omega
  refine ⟨⟨0,Nat.zero_le _,?_⟩,fun i hi=>?_⟩
  ·repeat' (first|exact sub_tree _|exact sub_lines _|exact sub_slots _|exact trivial|exact rfl|exact Or.inr rfl|exact fun h=>h|exact fun _ _=>rfl|exact fun _=>rfl|refine And.intro ?_ ?_)
   all_goals try (first|exact hw)
   ·intro k hk;refine ⟨slot_same (acc.getD k slotD') _ ?_,rfl⟩;rw [revS_at,if_neg (by omega)]
  ·have hi':2 * i<=acc.length+1:=hi;refine VB_intro (fun h6=>?_) (fun h6=>?_)
   ·have h7:i<acc.length - 1 - i:=by
     have:=of_decide_eq_true h6;omega
    have hbn:(((acc.length:Int) - 1 - (i:Int)).toNat)=acc.length - 1 - i:=by omega
    have nb1:(decide (g=g)&&decide (0<=(acc.length:Int) - 1 - (i:Int)/\(acc.length:Int) - 1 - (i:Int)<(acc.length:Int)))=true:=by simp; omega
    have nb2:(decide (g=g)&&decide (0<=(i:Int)/\(i:Int)<(acc.length:Int)))=true:=by simp; omega
    have nb0:decide (g=g)=true:=decide_eq_true rfl;refine NB_intro nb1 (NB_intro nb0 (NB_intro nb2 (NB_intro nb0 (NB_intro nb2 (NB_intro nb0 (NB_intro nb1 (NB_intro nb0 ⟨i+1,?_,?_,?_⟩)))))))
    ·show 2 * (i+1)<=acc.length+1;omega
    ·show acc.length - (i+1)<acc.length - i;omega
    have hw1:IntKind.i64.wrap ((i:Int)+1)=((i+1:Nat):Int):=by rw [wrap_i64_id (by omega) (by omega)]; omega
    have hw2:IntKind.i64.wrap ((acc.length:Int) - 1 - (i:Int) - 1)=(acc.length:Int) - 1 - ((i+1:Nat):Int):=by rw [wrap_i64_id (by omega) (by omega)]; omega
    repeat' (first|exact sub_tree _|exact sub_lines _|exact sub_slots _|exact trivial|exact rfl|exact Or.inr rfl|exact fun h=>h|exact fun _ _=>rfl|exact fun _=>rfl|refine And.intro ?_ ?_)
    all_goals try (first|exact hw1|exact hw2)
    ·intro k hk;rw [hbn,show (Int.toNat (i:Int))=i from rfl,Nat.zero_add,Nat.zero_add];by_cases hkb:k=acc.length - 1 - i
     ·simp only [if_pos hkb];refine ⟨slot_same _ _ ?_,by trivial⟩
      rw [revS_at,revS_at,if_neg (by omega),if_pos (by omega)]
      congr 1;omega
     ·by_cases hki:k=i
      ·simp only [if_neg hkb,if_pos hki];refine ⟨slot_same _ _ ?_,by trivial⟩
       rw [revS_at,revS_at,if_neg (by omega),if_pos (by omega)]
       congr 1;omega
      ·simp only [if_neg hkb,if_neg hki];refine ⟨slot_same _ _ ?_,by trivial⟩
       rw [revS_at,revS_at];by_cases hc:k<i\/acc.length - 1 - i<k
       ·rw [if_pos hc,if_pos (by omega)]
       ·rw [if_neg hc,if_neg (by omega)]
   ·have h7:¬ i<acc.length - 1 - i:=by
     have:=of_decide_eq_false h6;omega
    refine NB_intro (by simp) ⟨⟨(List.length_reverse).symm,fun k hk=>?_,fun h=>by cases h⟩,trivial⟩
    have h8:revS acc.length i (fun (k:Nat)=>slotA (acc.getD k slotD')) (0+k)=acc.reverse.getD k slotD':=by
     rw [Nat.zero_add,revS_at,rev_get hk];by_cases hc:k<i\/acc.length - 1 - i<k
     ·rw [if_pos hc]
     ·rw [if_neg hc];congr 1;omega
    rw [h8];exact ⟨⟨rfl,⟨rfl,fun _ _=>⟨rfl,rfl⟩,fun h=>h⟩,trivial⟩,rfl⟩
noncomputable def endsE (t:List TwigG):List Int×Bool :=
 if 769<t.length then ([],false)
 else if (List.range t.length).all (okN t) then
  (if (List.range (endS t).length).all (fun i=>decide (lnG t ((endS t).getD i 0)=i)) then (endS t,true) else ([],false))
 else ([],false)
theorem endsN_mem {t:List TwigG}:∀ {n:Nat} {k:Int},k∈endsN t n->0<=k/\k<n/\(t.getD k.toNat twigD).ends=true
 | 0,k,h=>by cases h
 | n+1,k,h=>by
  unfold endsN at h;by_cases he:(t.getD n twigD).ends=true
  ·rw [if_pos he] at h;rcases List.mem_append.1 h with h1|h1
   ·have:=endsN_mem h1;exact ⟨this.1,by omega,this.2.2⟩
   ·have:k=n:=by simpa using h1
    subst this;exact ⟨by omega,by omega,he⟩
  ·rw [if_neg he] at h;have:=endsN_mem h;exact ⟨this.1,by omega,this.2.2⟩
theorem endsN_len (t:List TwigG):∀ n,(endsN t n).length<=n
 | 0=>Nat.le_refl _
 | n+1=>by
  unfold endsN;have:=endsN_len t n;split
  ·rw [List.length_append,List.length_singleton];omega
  ·omega
def linesIn (t:List TwigG):Bool:=(List.range t.length).all fun j=>decide ((t.getD j twigD).line<9223372036854775808)
theorem okL_ends {t:List TwigG} (hln:linesIn t=true) (h:∀ j,j<t.length->okN t j=true):okL t (endsN t t.length)=true:=by
 rw [okL,List.all_eq_true];intro k hk;obtain ⟨h1,h2,h3⟩:=endsN_mem hk;have h4:=h k.toNat (by omega)
 simp only [okN,Bool.and_eq_true,beq_iff_eq] at h4;rw [h3] at h4;have h5:=of_decide_eq_true h4.2.symm;have h6:=of_decide_eq_true (List.all_eq_true.1 hln k.toNat (by simp; omega))
 exact decide_eq_true ⟨h1,h2,h5,h6⟩
theorem treeDec_self (t:List TwigG):treeDec (treeA t)=t:=by
 show (List.range t.length).map (fun i=>twigOf (twigA (t.getD i twigD)))=t
 refine List.ext_getElem (by simp) fun i h1 h2=>?_
 simp [List.getD,h2,twig_self]
theorem isTree_self (t:List TwigG):isTree (treeA t)=true:=by
 show ((List.range t.length).all fun i=>isTwig (twigA (t.getD i twigD)))=true
 rw [List.all_eq_true];exact fun _ _=>isTwig_self _
theorem tree_sub {x:AV} (h:isTree x=true):x.sub (treeA (treeDec x)):=by
 unfold isTree at h;split at h
 ·rename_i n f ex;refine ⟨⟨by simp [treeDec],fun i hi=>?_,fun h=>by cases h⟩,trivial⟩
  have h1:=List.all_eq_true.1 h i (by simpa using hi)
  have h2:((treeDec (.agg [.rof n f ex])).getD i twigD)=twigOf (f i):=by simp [treeDec,List.getD,hi]
  show (f i).sub (twigA ((treeDec (.agg [.rof n f ex])).getD i twigD))/\(f i).cells.length=(twigA ((treeDec (.agg [.rof n f ex])).getD i twigD)).cells.length;rw [h2];refine ⟨twig_sub h1,?_⟩;unfold isTwig at h1;split at h1
  ·rename_i e;rw [e];rfl
  ·cases h1
 ·cases h
theorem tree_cells {x:AV} (h:isTree x=true):x.cells.length=(treeA (treeDec x)).cells.length:=by
 unfold isTree at h;split at h
 ·rfl
 ·cases h
theorem i64V_self (l:List Int):(List.range l.length).map (fun i=>i64V (AV.int .i64 (l.getD i 0)))=l:=by
 refine List.ext_getElem (by simp) fun i h1 h2=>?_
 simp [i64V,List.getD,h2]
theorem i64B_self (l:List Int):((List.range l.length).all fun i=>i64B (AV.int .i64 (l.getD i 0)))=true:=by simp [i64B]
theorem tblEn_ok:TblROK Tryz.prog gU tblEn:=by
 intro f extra l nd l' h hnd;unfold tblEn at h;split at h
 case isFalse=>cases h
 rename_i hf;subst hf;unfold cSort at h;split at h
 case h_2=>cases h
 rename_i g X;simp only [Option.some.injEq,Prod.mk.injEq] at h;obtain ⟨rfl,rfl⟩:=h;simp only [Bool.and_eq_true,decide_eq_true_eq] at hnd;obtain ⟨⟨⟨rfl,h1⟩,h2⟩,h3⟩:=hnd;obtain ⟨k1,k2⟩:=sort_row (treeDec X) l h2 h3
 refine ⟨k1,fun M W vals hG hM hA=>k2 M W vals hG hM ⟨hA.1,fun i hi=>?_⟩⟩
 have hi0:i=0:=by simpa using hi
 subst hi0;have h4:RelP M (vals.getD 0 Go.undef) (.fn (.func 165) [] [.rptr X 0]):=hA.2 0 (by simp)
 exact h4.sub _ ⟨rfl,trivial,⟨⟨tree_sub h1,tree_cells h1⟩,rfl⟩,trivial⟩
theorem EEn_ok (t:List TwigG):CtrOK (EEn t):=ctrOf4_ok (tbl_nil _) tblEn_ok rfl
theorem sub_rtree (t:List TwigG):(AV.rptr (treeA t) 0).sub (AV.rptr (treeA t) 0):=⟨⟨sub_tree t,rfl⟩,rfl⟩
theorem ends_pure (t:List TwigG) (l:List Int) (b:Bool) (hln:linesIn t=true) (hr:endsE t=(l,b)):PureC Tryz.prog gU 136 [treeA t] (.tup [intsA l,.bool b]):=by
 refine PureC.of_vc (E:=EEn t) (k:=20) (d:=3) mix (EEn_ok t) ?_;refine (ends_vc t l b).mpr ?_
 conv=>zeta
 refine VB_intro (fun h=>?_) (fun h=>?_)
 ·have h1:769<t.length:=by
   have:=of_decide_eq_true h;omega
  rw [endsE,if_pos h1,Prod.mk.injEq] at hr;obtain ⟨rfl,rfl⟩:=hr;exact ⟨rfl,rfl,trivial⟩
 refine ⟨?_,fun p hpre=>?_⟩
 ·refine ⟨(0,0),⟨Nat.zero_le _,fun j hj=>absurd hj (Nat.not_lt_zero _)⟩,?_⟩
  repeat' (first|exact sub_rtree _|exact sub_twigs _|exact trivial|exact rfl|exact Or.inr rfl|exact fun h=>h|exact fun _ _=>rfl|exact fun _=>rfl|refine And.intro ?_ ?_)
 have h1:¬ 769<t.length:=by
  have:=of_decide_eq_false h;omega
 obtain ⟨i,g⟩:=p;obtain ⟨hi,hpre⟩:=hpre;dsimp only at hi hpre;dsimp only;have hel:=endsN_len t i;refine VB_intro (fun h2=>?_) (fun h2=>?_)
 ·have h3:i<t.length:=by
   have:=of_decide_eq_true h2;omega
  rw [show (Int.toNat (i:Int))=i from rfl];refine NB_intro (by simp; omega) (VB_intro (fun h4=>?_) (fun h4=>?_))
  ·have h5:okN t i=false:=by
    cases h6:okN t i with
    | false=>rfl
    | true =>
     exfalso;simp only [okN,Bool.and_eq_true,Bool.or_eq_true,decide_eq_true_eq,beq_iff_eq] at h6;simp only [Bool.and_eq_true,Bool.or_eq_true,decide_eq_true_eq,Bool.not_eq_true',beq_eq_false_iff_ne] at h4;rcases h4 with h4|h4
     ·omega
     ·exact h4 h6.2
   have h6:(List.range t.length).all (okN t)=false:=by
    rw [List.all_eq_false];exact ⟨i,by simpa using h3,by rw [h5]; simp⟩
   rw [endsE,if_neg h1,h6,if_neg (by simp),Prod.mk.injEq] at hr
   obtain ⟨rfl,rfl⟩:=hr;exact ⟨rfl,rfl,trivial⟩
  ·have h5:okN t i=true:=by
    simp only [Bool.or_eq_false_iff,Bool.and_eq_false_iff,decide_eq_false_iff_not,Bool.not_eq_false',beq_iff_eq] at h4;simp only [okN,Bool.and_eq_true,Bool.or_eq_true,decide_eq_true_eq,beq_iff_eq];refine ⟨?_,h4.2⟩;rcases h4.1 with h6|h6
    ·left; omega
    ·right; omega
   have hpre':∀ j,j<i+1->okN t j=true:=fun j hj=>by
    rcases Nat.lt_or_ge j i with h6|h6
    ·exact hpre j h6
    ·obtain rfl:j=i:=by omega
     exact h5
   have hW:IntKind.i64.wrap ((i:Int)+1)=((i+1:Nat):Int):=by rw [wrap_i64_id (by omega) (by omega)]; omega
   have hmu:t.length - (i+1)<t.length - i:=by omega
   refine VB_intro (fun h6=>?_) (fun h6=>?_)
   ·have h7:endsN t (i+1)=endsN t i++[(i:Int)]:=by rw [endsN,if_pos h6]
    have hL:(endsN t i).length+1=(endsN t (i+1)).length:=by rw [h7]; simp
    have hroom:room ((endsN t i).length+1) 8=true:=decide_eq_true ⟨by omega,by omega⟩
    refine NB_intro (by rw [hroom]; simp) ⟨(i+1,g+1),⟨by omega,hpre'⟩,hmu,?_⟩
    repeat' (first|exact sub_rtree _|exact sub_twigs _|exact trivial|exact rfl|exact Or.inr rfl|exact fun h=>h|exact fun _ _=>rfl|exact fun _=>rfl|refine And.intro ?_ ?_)
    all_goals try (first|exact hL|exact hW)
    ·intro k hk;rw [h7];by_cases hin:k<(endsN t i).length
     ·rw [if_pos hin,Nat.zero_add];have h8:(endsN t i++[(i:Int)]).getD k 0=(endsN t i).getD k 0:=by
       simp only [List.getD_eq_getElem?_getD];rw [List.getElem?_append_left hin]
      exact ⟨h8.symm,rfl⟩
     ·obtain rfl:k=(endsN t i).length:=by omega
      have h8:(endsN t i++[(i:Int)]).getD (endsN t i).length 0=i:=by simp [List.getD_eq_getElem?_getD]
      rw [if_neg hin,Nat.sub_self];exact ⟨h8.symm,rfl⟩
   ·have h7:endsN t (i+1)=endsN t i:=by rw [endsN,if_neg (by rw [h6]; simp)]
    have hL:(endsN t i).length=(endsN t (i+1)).length:=by rw [h7]
    refine ⟨(i+1,g),⟨by omega,hpre'⟩,hmu,?_⟩
    repeat' (first|exact sub_rtree _|exact sub_twigs _|exact trivial|exact rfl|exact Or.inr rfl|exact fun h=>h|exact fun _ _=>rfl|exact fun _=>rfl|refine And.intro ?_ ?_)
    all_goals try (first|exact hL|exact hW)
    ·intro k hk;rw [h7];exact ⟨rfl,rfl⟩
 ·obtain rfl:i=t.length:=by
   have:=of_decide_eq_false h2;omega
  have hok:=okL_ends hln hpre;have hall:(List.range t.length).all (okN t)=true:=by
   rw [List.all_eq_true];exact fun j hj=>hpre j (by simpa using hj)
  rw [endsE,if_neg h1,hall,if_pos rfl] at hr;rw [isTree_self,treeDec_self,i64V_self,i64B_self];have hSl:(endsN t t.length).length=(endS t).length:=(sort_len hok).symm
  have hmem:∀ j,j<(endS t).length->0<=(endS t).getD j 0/\(endS t).getD j 0<t.length:=fun j hj=>by
   have h3:(endS t).getD j 0∈endsN t t.length:=(sort_perm hok).mem_iff.1 (getD_mem hj);have:=endsN_mem h3;omega
  refine NB_intro (by rw [hok]; simp; omega) ⟨?_,fun p hpre2=>?_⟩
  ·refine ⟨(0,g),⟨Nat.zero_le _,fun j hj=>absurd hj (Nat.not_lt_zero _)⟩,?_⟩
   repeat' (first|exact sub_rtree _|exact sub_twigs _|exact trivial|exact rfl|exact Or.inr rfl|exact fun h=>h|exact fun _ _=>rfl|exact fun _=>rfl|refine And.intro ?_ ?_)
   all_goals try (first|exact hSl|exact congrArg Int.ofNat hSl)
   all_goals exact fun _ _=>⟨rfl,rfl⟩
  obtain ⟨i,g2⟩:=p;obtain ⟨hi2,hpre2⟩:=hpre2;dsimp only at hi2 hpre2;dsimp only;refine VB_intro (fun h3=>?_) (fun h3=>?_)
  ·have h4:i<(endS t).length:=by
    have:=of_decide_eq_true h3;omega
   have h5:=hmem i h4;rw [show (Int.toNat (i:Int))=i from rfl,Nat.zero_add];refine NB_intro (by simp; omega) (NB_intro (by simp) (NB_intro (decide_eq_true h5) (VB_intro (fun h6=>?_) (fun h6=>?_))))
   ·have h7:¬ lnG t ((endS t).getD i 0)=i:=by
     have:((lnG t ((endS t).getD i 0)) !=(i:Int))=true:=h6;simpa using this
    have h8:(List.range (endS t).length).all (fun i=>decide (lnG t ((endS t).getD i 0)=i))=false:=by
     rw [List.all_eq_false];exact ⟨i,by simpa using h4,by simpa using h7⟩
    rw [h8,if_neg (by simp),Prod.mk.injEq] at hr
    obtain ⟨rfl,rfl⟩:=hr;exact ⟨rfl,rfl,trivial⟩
   ·have h7:lnG t ((endS t).getD i 0)=i:=by
     have:((lnG t ((endS t).getD i 0)) !=(i:Int))=false:=h6;simpa using this
    have hW:IntKind.i64.wrap ((i:Int)+1)=((i+1:Nat):Int):=by rw [wrap_i64_id (by omega) (by omega)]; omega
    refine ⟨(i+1,g2),⟨by omega,fun j hj=>?_⟩,(show (endS t).length - (i+1)<(endS t).length - i by omega),?_⟩
    ·rcases Nat.lt_or_ge j i with h8|h8
     ·exact hpre2 j h8
     ·obtain rfl:j=i:=by omega
      exact h7
    repeat' (first|exact sub_rtree _|exact sub_twigs _|exact trivial|exact rfl|exact Or.inr rfl|exact fun h=>h|exact fun _ _=>rfl|exact fun _=>rfl|refine And.intro ?_ ?_)
    all_goals try (first|exact hW)
    all_goals exact fun _ _=>⟨rfl,rfl⟩
  ·have h4:i=(endS t).length:=by
    have:=of_decide_eq_false h3;omega
   have h8:(List.range (endS t).length).all (fun i=>decide (lnG t ((endS t).getD i 0)=i))=true:=by
    rw [List.all_eq_true];exact fun j hj=>decide_eq_true (hpre2 j (by rw [h4]; simpa using hj))
   rw [h8,if_pos rfl,Prod.mk.injEq] at hr;obtain ⟨rfl,rfl⟩:=hr;refine NB_intro (by simp) ⟨⟨rfl,fun k hk=>?_,fun h=>by cases h⟩,rfl,trivial⟩
   rw [Nat.zero_add];exact ⟨rfl,rfl⟩
end Go.Proofs.YtlnpgnipocbfhaaGreatDoor
