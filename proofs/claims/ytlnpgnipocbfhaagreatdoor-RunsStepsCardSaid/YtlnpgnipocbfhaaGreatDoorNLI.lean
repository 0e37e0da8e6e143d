/- TREES I: conditions of nfa.lines. -/
import Derived.Test.YtlnpgnipocbfhaaGreatDoorNLG
namespace Go.Proofs.YtlnpgnipocbfhaaGreatDoor
open Pw Go
set_option maxRecDepth 100000
def upL (t:List TwigG) (k:Int):List SlotG:=(upR t k.toNat k.toNat).reverse
noncomputable def cEnds:Ctr
 | [X]=>some (isTree X&&linesIn (treeDec X),.tup [intsA (endsE (treeDec X)).1,.bool (endsE (treeDec X)).2])
 | _=>none
def cUp:Ctr
 | [X,.int .i64 m]=>some (isTree X&&parOK (treeDec X)&&gdsOK (treeDec X)&&decide ((treeDec X).length<=1000000)&&decide (0<=m)&&decide (m<(treeDec X).length),lineA (upL (treeDec X) m))
 | _=>none
def cOfT:Ctr
 | [.rof n f _]=>some ((List.range n).all (fun i=>isLineL (f i))&&(linesOf' n f).all fewS,.tup [treeA (ofT (linesOf' n f)).1,.int .i64 (ofT (linesOf' n f)).2])
 | _=>none
def twigsOf' (n:Nat) (f:Nat->AV):List TwigG:=(List.range n).map fun i=>twigOf (f i)
def cSameTs:Ctr
 | [.rof n f _,.rof m g _,.fn (.func h) [] []]=>some (decide (h=138)&&(List.range n).all (fun i=>isTwig (f i))&&(List.range m).all (fun i=>isTwig (g i))&&few2s (twigsOf' n f)&&few2s (twigsOf' m g),.bool (decide (twigsOf' n f=twigsOf' m g)))
 | _=>none
def invLn (t:List TwigG) (E:List Int):Inv:=⟨Nat×Nat,30,fun p=>⟨[(1,.ptr 0 0 0 0),(5,intsA E),(7,.sl 20 p.2 0 p.1 none),(19,intsA E),(20,.int .i64 E.length),(21,.int .i64 p.1)],[(0,.row 0 1 true (.lst [treeA t])),(20,.row p.2 1 true (.fn p.1 fun k=>lineA (upL t (E.getD k 0))))]⟩,
 fun p=>p.1<=E.length,fun p=>E.length - p.1⟩
noncomputable def ELn (t:List TwigG) (E:List Int):Env:={ mkE Tryz.prog (tblOf [(136,cEnds),(71,cUp),(12,cOfT),(137,cSameTs)]) (fun f b=>if f=95/\b=0 then some (invLn t E) else none) with fzs:=fun f=>if f=95 then [4000110007] else [] }
theorem lines_vc (t:List TwigG) (L:List (List SlotG)) (E:List Int) (b:Bool):(vcFun (ELn t (endsE t).1) 20 95 [treeA t] .nil 0 (retP 3 (.tup [linesA L,intsA E,.bool b]))).sat=(let c5:=(AV.agg [AV.rof t.length (fun k:Nat=> twigA (t.getD k twigD)) false])
 let c0:=(treeDec c5)
 let c1:=fun i_1:Nat=> (upL t ((endsE t).fst.getD (0+i_1) (0:Int)))
 let c2:=fun (i:Nat×Nat)=>(ofT (linesOf' i.fst fun k:Nat=> lineA (c1 k)))
 let c3:=((endsE c0).fst.length=(endsE t).fst.length/\(∀ i:Nat,i<(endsE c0).fst.length->(endsE c0).fst.getD i (0:Int)=(endsE t).fst.getD i (0:Int)/\1=1)/\(false=true->false=true))
 let c4:=fun (i:Nat×Nat)=>((Sq.lst [AV.agg [AV.rof (upL c0 ((endsE t).fst.getD (i.fst:Int).toNat (0:Int))).length (fun k:Nat=> slotA ((upL c0 ((endsE t).fst.getD (i.fst:Int).toNat (0:Int))).getD k slotD')) false]]).sub 0 1)
 let c6:=(0=0/\(true=true->true=true)/\((treeA t).sub (treeA t)/\(treeA t).cells.length=(treeA t).cells.length)/\True)
 let c7:=(↑(endsE t).fst.length:Int)
 NB (isTree c5&&linesIn c0) (VB (!(endsE c0).snd) (L.length=0/\E.length=0/\false=b/\True) ((∃ (i:Nat×Nat),i.fst.le (endsE t).fst.length/\((0=0/\0=0/\0=0)/\c3/\(i.fst=0/\i.snd=i.snd/\i.fst=0)/\c3/\(↑(endsE c0).fst.length:Int)=c7/\(0:Int)=(i.fst:Int)/\True)/\c6/\i.fst=0/\True)/\∀ (i:Nat×Nat),i.fst.le (endsE t).fst.length->VB (decide ((i.fst:Int)<c7)) (NB (decide ((0:Int)<=(i.fst:Int)/\(i.fst:Int)<c7)) (NB (isTree c5&&parOK c0&&gdsOK c0&&decide (c0.length<=1000000)&&decide ((0:Int)<=(endsE t).fst.getD (i.fst:Int).toNat (0:Int))&&decide ((endsE t).fst.getD (i.fst:Int).toNat (0:Int)<(c0.length:Int))) (NB (true&&decide (i.snd=i.snd)&&room (i.fst+1) 24) (∃ (i':Nat×Nat),i'.fst.le (endsE t).fst.length/\(invLn t (endsE t).fst).μ i'<(invLn t (endsE t).fst).μ i/\((0=0/\0=0/\0=0)/\(intsA (endsE t).fst).sub (intsA (endsE t).fst)/\(i.snd+1=i'.snd/\0=0/\i.fst+1=i'.fst/\(@Eq (Option Nat) none none\/@Eq (Option Nat) none none))/\(intsA (endsE t).fst).sub (intsA (endsE t).fst)/\c7=c7/\IntKind.i64.wrap ((i.fst:Int)+(1:Int))=(i'.fst:Int)/\True)/\c6/\(i.snd+1=i'.snd/\(true=true->true=true)/\i.fst+1=i'.fst/\∀ i_1:Nat,i_1<i.fst+1->(if i_1<i.fst then AV.agg [slotsA (c1 i_1)] else (c4 i).get (i_1 - i.fst)).sub (AV.agg [slotsA (upL t ((endsE t).fst.getD i_1 (0:Int)))])/\(if i_1<i.fst then lineA (c1 i_1) else (c4 i).get (i_1 - i.fst)).cells.length=[slotsA (upL t ((endsE t).fst.getD i_1 (0:Int)))].length)/\True)))) (NB (decide (i.snd=i.snd)&&true) (NB (((List.range i.fst).all fun i:Nat=> isLineL (lineA (c1 i)))&&(linesOf' i.fst fun k:Nat=> lineA (c1 k)).all fewS) (NB (impB (isW true ((c2 i).snd==(0:Int))) (((true&&(List.range (c2 i).fst.length).all fun i_1:Nat=> isTwig (twigA ((c2 i).fst.getD i_1 twigD)))&&(List.range t.length).all fun i:Nat=> isTwig (twigA (t.getD i twigD)))&&few2s (twigsOf' (c2 i).fst.length fun k:Nat=> twigA ((c2 i).fst.getD k twigD))&&few2s (twigsOf' t.length fun k:Nat=> twigA (t.getD k twigD)))) ((i.fst=L.length/\(∀ i_1:Nat,i_1<i.fst->(((c1 i_1).length=(L.getD i_1 []).length/\(∀ i:Nat,i<(c1 i_1).length->(((c1 i_1).getD i slotD').fst=((L.getD i_1 []).getD i slotD').fst/\(((c1 i_1).getD i slotD').gds.length=((L.getD i_1 []).getD i slotD').gds.length/\(∀ i_2:Nat,i_2<((c1 i_1).getD i slotD').gds.length->((c1 i_1).getD i slotD').gds.getD i_2 (0:Int)=((L.getD i_1 []).getD i slotD').gds.getD i_2 (0:Int)/\1=1)/\(false=true->false=true))/\True)/\2=2)/\(false=true->false=true))/\True)/\1=1)/\(false=true->decide (none=some i.fst)=true))/\((endsE t).fst.length=E.length/\(∀ i:Nat,i<(endsE t).fst.length->(endsE t).fst.getD i (0:Int)=E.getD i (0:Int)/\1=1)/\(false=true->false=true))/\((c2 i).snd==(0:Int)&&decide ((twigsOf' (c2 i).fst.length fun k:Nat=> twigA ((c2 i).fst.getD k twigD))=twigsOf' t.length fun k:Nat=> twigA (t.getD k twigD)))=b/\True))))))):=by
 kernel_rfl
end Go.Proofs.YtlnpgnipocbfhaaGreatDoor
