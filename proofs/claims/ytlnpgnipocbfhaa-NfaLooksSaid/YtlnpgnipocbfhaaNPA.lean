/- TREES, paths A: where atoms lead: conditions. -/
import Derived.Test.YtlnpgnipocbfhaaNMD
namespace Go.Proofs.Ytlnpgnipocbfhaa
open Pw Go
set_option maxRecDepth 100000
set_option linter.unusedSimpArgs false
def pathsL (t:List TwigG):List Int→Int→List Int
 | [],m=>[m]
 | a::r,m=>((t.getD m.toNat twigD).kids.map fun k=>if (t.getD k.toNat twigD).slot.1=a then pathsL t r k else []).flatten
def pathF (t:List TwigG) (a:Int) (r:List Int) (k:Int):List Int:=if (t.getD k.toNat twigD).slot.1=a then pathsL t r k else []
def cntP (t:List TwigG) (a:Int) (r:List Int) (ks:List Int) (i:Nat):Nat:=((ks.take i).map (pathF t a r)).flatten.length
def itP (t:List TwigG) (l:List Int) (m:Int) (nd:Bool):Itr:=⟨nd,(pathsL t l m).length,fun j=>[.int .i64 ((pathsL t l m).getD j 0)],.tup [],.tup []⟩
noncomputable def itV (t:List TwigG) (l:List Int):FuncId→List AV→List AV→Option Itr:=fun h first cap =>
 if h=60 then
  match first,cap with
  | [],[.rptr (.rof n f ex) 0,.rptr (.int .i64 m) 0,.rptr (.agg x) 0]=>some (itP t l m (asB [.rof n f ex] [intsA l]&&asB [.agg x] [treeA t]&&decide (0≤m∧m<t.length)))
  | _,_=>none
 else none
def spOf (s:St):Option AbsS:=match s.hp.get .dead 0 with|.loop (.abs _ _ sp) _=>some sp|_=>none
def spI (s:St):Option (AbsS×Nat):=match s.hp.get .dead 0 with
 | .loop (.abs _ _ sp) _=>match s.tm.get .undef 21 with
  | .int _ n=>some (sp,n.toNat)
  | _=>none
 | _=>none
def invP (t:List TwigG) (a:Int) (r:List Int) (m:Int) (ks:List Int) (sp:AbsS):Inv:=⟨Nat,50,fun i=>⟨[(1,.rptr (intsA (a::r)) 0),(2,.rptr (.int .i64 m) 0),(3,.rptr (treeA t) 0),(4,.ptr 1 0 0 0),(19,intsA ks),(20,.int .i64 ks.length),(21,.int .i64 i)],
 [(0,.loop (.abs (cntP t a r ks i) true sp) noRec),(1,.row 0 1 false (.lst [.yld 0]))]⟩,fun i=>i≤ks.length,fun i=>ks.length - i⟩
def invPI (t:List TwigG) (a:Int) (r:List Int) (ks:List Int) (sp:AbsS) (i:Nat):Inv:=⟨Nat,80,fun j=>⟨[],[(0,.loop (.abs (cntP t a r ks i+j) true sp) noRec),(1,.row 0 1 false (.lst [.yld 0]))]⟩,fun j=>j≤(pathsL t r (ks.getD i 0)).length,fun j=>j⟩
noncomputable def EP0:Env:=mkE Try.prog (tblOf []) (fun _ _=>none)
noncomputable def EP (t:List TwigG) (a:Int) (r:List Int) (m:Int) (ks:List Int):Env:={ mkE Try.prog (tblOf []) (fun _ _=>none) with itr:=itV t r,invS:=fun f b s=>if f=60∧b=0 then match spOf s with|some sp=>some (invP t a r m ks sp)|none=>none else if f=60∧b=200009 then match spI s with|some (sp,i)=>some (invPI t a r ks sp i)|none=>none else none }
theorem paths0_vc (t:List TwigG) (m:Int) (el:Nat→Int) (l n0:Nat) (M0:Nat→Nat→Option Value) (Φ Ψ:Nat→(Nat→Prop)→(Nat→Prop)→World→Prop):(vcFun EP0 20 60 [.yld 0,.rptr (intsA []) 0,.rptr (.int .i64 m) 0,.rptr (treeA t) 0] (.node (.loop (.abs 0 true (AbsS.of Try.prog ⟨true,1,fun j=>[.int .i64 (el j)],.tup [],.tup []⟩ l n0 M0 Φ Ψ)) noRec) .nil .nil) 1 (retI ⟨true,1,fun j=>[.int .i64 (el j)],.tup [],.tup []⟩)).sat=( (Try.prog=Try.prog∧(0:Nat)<(1:Nat)∧AV.subL [AV.int IntKind.i64 m] [AV.int IntKind.i64 (el (0:Nat))])∧(True∧(0:Nat)+(1:Nat)=(1:Nat))∧True):=by
 kernel_rfl
theorem paths_vc (t : List TwigG) (a : Int) (r : List Int) (m : Int) (ks : List Int) (len : Nat) (el : Nat → Int) (l n0 : Nat) (M0 : Nat → Nat → Option Value) (Φ Ψ : Nat → (Nat → Prop) → (Nat → Prop) → World → Prop) : (vcFun (EP t a r m ks) 20 60 [.yld 0, .rptr (intsA (a :: r)) 0, .rptr (.int .i64 m) 0, .rptr (treeA t) 0] (.node (.loop (.abs 0 true (AbsS.of Try.prog ⟨true, len, fun j => [.int .i64 (el j)], .tup [], .tup []⟩ l n0 M0 Φ Ψ)) noRec) .nil .nil) 1 (retI ⟨true, len, fun j => [.int .i64 (el j)], .tup [], .tup []⟩)).sat = ( NB (decide ((0 : Int) ≤ m ∧ m < (↑t.length : Int))) ((∃ (i : Nat), i.le ks.length ∧ (((((a :: r).length = (a :: r).length ∧ (∀ (i : Nat), i < (a :: r).length → (a :: r).getD i (0 : Int) = (a :: r).getD i (0 : Int) ∧ (1 : Nat) = (1 : Nat)) ∧ (false = true → false = true)) ∧ (1 : Nat) = (1 : Nat)) ∧ (0 : Nat) = (0 : Nat)) ∧ ((m = m ∧ (1 : Nat) = (1 : Nat)) ∧ (0 : Nat) = (0 : Nat)) ∧ ((((t.length = t.length ∧ (∀ (i : Nat), i < t.length → ((t.getD i twigD).slot.fst = (t.getD i twigD).slot.fst ∧ ((t.getD i twigD).slot.gds.length = (t.getD i twigD).slot.gds.length ∧ (∀ (i_1 : Nat), i_1 < (t.getD i twigD).slot.gds.length → (t.getD i twigD).slot.gds.getD i_1 (0 : Int) = (t.getD i twigD).slot.gds.getD i_1 (0 : Int) ∧ (1 : Nat) = (1 : Nat)) ∧ (false = true → false = true)) ∧ (t.getD i twigD).par = (t.getD i twigD).par ∧ ((t.getD i twigD).kids.length = (t.getD i twigD).kids.length ∧ (∀ (i_1 : Nat), i_1 < (t.getD i twigD).kids.length → (t.getD i twigD).kids.getD i_1 (0 : Int) = (t.getD i twigD).kids.getD i_1 (0 : Int) ∧ (1 : Nat) = (1 : Nat)) ∧ (false = true → false = true)) ∧ (t.getD i twigD).ends = (t.getD i twigD).ends ∧ (t.getD i twigD).line = (t.getD i twigD).line ∧ True) ∧ (6 : Nat) = (6 : Nat)) ∧ (false = true → false = true)) ∧ True) ∧ (1 : Nat) = (1 : Nat)) ∧ (0 : Nat) = (0 : Nat)) ∧ ((0 : Nat) = (0 : Nat) ∧ (0 : Nat) = (0 : Nat) ∧ (0 : Nat) = (0 : Nat)) ∧ ((t.getD m.toNat twigD).kids.length = ks.length ∧ (∀ (i : Nat), i < (t.getD m.toNat twigD).kids.length → (t.getD m.toNat twigD).kids.getD i (0 : Int) = ks.getD i (0 : Int) ∧ (1 : Nat) = (1 : Nat)) ∧ (false = true → false = true)) ∧ (↑(t.getD m.toNat twigD).kids.length : Int) = (↑ks.length : Int) ∧ (0 : Int) = (↑i : Int) ∧ True) ∧ ((0 : Nat) = cntP t a r ks i ∧ true = true ∧ AbsS.of Try.prog (Itr.mk true len (fun (j : Nat) => [AV.int IntKind.i64 (el j)]) (AV.tup []) (AV.tup [])) l n0 M0 Φ Ψ = AbsS.of Try.prog (Itr.mk true len (fun (j : Nat) => [AV.int IntKind.i64 (el j)]) (AV.tup []) (AV.tup [])) l n0 M0 Φ Ψ) ∧ ((0 : Nat) = (0 : Nat) ∧ (false = true → false = true) ∧ ((0 : Nat) = (0 : Nat) ∧ (1 : Nat) = (1 : Nat)) ∧ True) ∧ True) ∧ ∀ (i : Nat), i.le ks.length → VB (decide ((↑i : Int) < (↑ks.length : Int))) (NB (decide ((0 : Int) ≤ (↑i : Int) ∧ (↑i : Int) < (↑ks.length : Int))) (NB (decide ((0 : Int) ≤ ks.getD (↑i : Int).toNat (0 : Int) ∧ ks.getD (↑i : Int).toNat (0 : Int) < (↑t.length : Int))) (NB (decide ((0 : Int) ≤ (0 : Int) ∧ (0 : Int) < (↑(a :: r).length : Int))) (VB ((t.getD (ks.getD (↑i : Int).toNat (0 : Int)).toNat twigD).slot.fst != a) (∃ (i' : Nat), i'.le ks.length ∧ (invP t a r m ks (AbsS.of Try.prog (Itr.mk true len (fun (j : Nat) => [AV.int IntKind.i64 (el j)]) (AV.tup []) (AV.tup [])) l n0 M0 Φ Ψ)).μ i' < (invP t a r m ks (AbsS.of Try.prog (Itr.mk true len (fun (j : Nat) => [AV.int IntKind.i64 (el j)]) (AV.tup []) (AV.tup [])) l n0 M0 Φ Ψ)).μ i ∧ (((((a :: r).length = (a :: r).length ∧ (∀ (i : Nat), i < (a :: r).length → (a :: r).getD i (0 : Int) = (a :: r).getD i (0 : Int) ∧ (1 : Nat) = (1 : Nat)) ∧ (false = true → false = true)) ∧ (1 : Nat) = (1 : Nat)) ∧ (0 : Nat) = (0 : Nat)) ∧ ((m = m ∧ (1 : Nat) = (1 : Nat)) ∧ (0 : Nat) = (0 : Nat)) ∧ ((((t.length = t.length ∧ (∀ (i : Nat), i < t.length → ((t.getD i twigD).slot.fst = (t.getD i twigD).slot.fst ∧ ((t.getD i twigD).slot.gds.length = (t.getD i twigD).slot.gds.length ∧ (∀ (i_1 : Nat), i_1 < (t.getD i twigD).slot.gds.length → (t.getD i twigD).slot.gds.getD i_1 (0 : Int) = (t.getD i twigD).slot.gds.getD i_1 (0 : Int) ∧ (1 : Nat) = (1 : Nat)) ∧ (false = true → false = true)) ∧ (t.getD i twigD).par = (t.getD i twigD).par ∧ ((t.getD i twigD).kids.length = (t.getD i twigD).kids.length ∧ (∀ (i_1 : Nat), i_1 < (t.getD i twigD).kids.length → (t.getD i twigD).kids.getD i_1 (0 : Int) = (t.getD i twigD).kids.getD i_1 (0 : Int) ∧ (1 : Nat) = (1 : Nat)) ∧ (false = true → false = true)) ∧ (t.getD i twigD).ends = (t.getD i twigD).ends ∧ (t.getD i twigD).line = (t.getD i twigD).line ∧ True) ∧ (6 : Nat) = (6 : Nat)) ∧ (false = true → false = true)) ∧ True) ∧ (1 : Nat) = (1 : Nat)) ∧ (0 : Nat) = (0 : Nat)) ∧ ((0 : Nat) = (0 : Nat) ∧ (0 : Nat) = (0 : Nat) ∧ (0 : Nat) = (0 : Nat)) ∧ (intsA ks).sub (intsA ks) ∧ (↑ks.length : Int) = (↑ks.length : Int) ∧ IntKind.i64.wrap ((↑i : Int) + (1 : Int)) = (↑i' : Int) ∧ True) ∧ (cntP t a r ks i = cntP t a r ks i' ∧ true = true ∧ AbsS.of Try.prog (Itr.mk true len (fun (j : Nat) => [AV.int IntKind.i64 (el j)]) (AV.tup []) (AV.tup [])) l n0 M0 Φ Ψ = AbsS.of Try.prog (Itr.mk true len (fun (j : Nat) => [AV.int IntKind.i64 (el j)]) (AV.tup []) (AV.tup [])) l n0 M0 Φ Ψ) ∧ ((0 : Nat) = (0 : Nat) ∧ (false = true → false = true) ∧ ((0 : Nat) = (0 : Nat) ∧ (1 : Nat) = (1 : Nat)) ∧ True) ∧ True) (NB (decide ((0 : Int) ≤ (1 : Int) ∧ (1 : Int) ≤ (↑(a :: r).length : Int) ∧ (↑(a :: r).length : Int) ≤ (↑(a :: r).length : Int))) (NB (asB [AV.rof ((↑(a :: r).length : Int).toNat - Int.toNat (1 : Int)) (fun (k : Nat) => AV.int IntKind.i64 ((a :: r).getD (Int.toNat (1 : Int) + k) (0 : Int))) false] [intsA r] && asB [AV.agg [AV.rof t.length (fun (k : Nat) => twigA (t.getD k twigD)) false]] [treeA t] && decide ((0 : Int) ≤ ks.getD (↑i : Int).toNat (0 : Int) ∧ ks.getD (↑i : Int).toNat (0 : Int) < (↑t.length : Int)) && true && true && true && true && noFams (T.node (Blk.loop (LSt.abs (cntP t a r ks i) true (AbsS.of Try.prog (Itr.mk true len (fun (j : Nat) => [AV.int IntKind.i64 (el j)]) (AV.tup []) (AV.tup [])) l n0 M0 Φ Ψ)) noRec) (T.node (Blk.row (0 : Nat) (1 : Nat) false (Sq.lst [AV.yld (0 : Nat)])) (T.node Blk.dead T.nil (T.node Blk.dead (T.node Blk.dead T.nil (T.node (Blk.row (0 : Nat) (1 : Nat) true (Sq.lst [AV.int IntKind.i64 (ks.getD (↑i : Int).toNat (0 : Int))])) T.nil T.nil)) T.nil)) (T.node Blk.dead T.nil (T.node Blk.dead (T.node Blk.dead T.nil (T.node (Blk.loop LSt.ready (LoopB.mk Try.funcs[(60 : FuncId)].ntmps (T.node AV.undef (T.node ((intsA (a :: r)).rptr (0 : Nat)) (T.node ((treeA t).rptr (0 : Nat)) (T.node AV.undef (T.node AV.undef (T.node (AV.int IntKind.i64 (t.getD (ks.getD (↑i : Int).toNat (0 : Int)).toNat twigD).slot.fst) T.nil T.nil) T.nil) (T.node ((AV.int IntKind.i64 (ks.getD (↑i : Int).toNat (0 : Int))).rptr (0 : Nat)) (T.node (AV.rof ((↑(a :: r).length : Int).toNat - Int.toNat (1 : Int)) (fun (k : Nat) => AV.int IntKind.i64 ((a :: r).getD (Int.toNat (1 : Int) + k) (0 : Int))) false) T.nil T.nil) T.nil)) (T.node AV.undef (T.node (intsA ks) (T.node (AV.bool ((t.getD (ks.getD (↑i : Int).toNat (0 : Int)).toNat twigD).slot.fst != a)) T.nil T.nil) T.nil) (T.node (AV.int IntKind.i64 (ks.getD (↑i : Int).toNat (0 : Int))) T.nil T.nil))) (T.node AV.undef (T.node AV.undef (T.node AV.undef (T.node ((AV.int IntKind.i64 a).rptr (0 : Nat)) T.nil T.nil) T.nil) (T.node ((treeA t).rptr ((0 : Nat) + (0 : Nat))) T.nil T.nil)) (T.node AV.undef (T.node (AV.int IntKind.i64 (↑i : Int)) (T.node (AV.int IntKind.i64 (ks.getD (↑i : Int).toNat (0 : Int))) T.nil T.nil) T.nil) (T.node ((twigA (t.getD (ks.getD (↑i : Int).toNat (0 : Int)).toNat twigD)).rptr ((0 : Nat) + (0 : Nat))) T.nil T.nil)))) (T.node ((AV.int IntKind.i64 m).rptr (0 : Nat)) (T.node (AV.ptr (1 : Nat) (0 : Nat) (0 : Nat) (0 : Nat)) (T.node AV.undef (T.node AV.undef (T.node (AV.rof (a :: r).length (fun (k : Nat) => AV.int IntKind.i64 ((a :: r).getD k (0 : Int))) false) T.nil T.nil) T.nil) (T.node (AV.int IntKind.i64 (ks.getD (↑i : Int).toNat (0 : Int))) (T.node (AV.fn (Fn.func (60 : Nat)) [] [AV.ptr (nat_lit 51 + (1 : Nat)) (0 : Nat) (0 : Nat) (0 : Nat), AV.ptr (nat_lit 50 + (1 : Nat)) (0 : Nat) (0 : Nat) (0 : Nat), AV.ptr (50 : Nat) (0 : Nat) (0 : Nat) (0 : Nat)]) T.nil T.nil) T.nil)) (T.node AV.undef (T.node (AV.int IntKind.i64 (↑ks.length : Int)) (T.node (AV.agg [AV.rof t.length (fun (k : Nat) => twigA (t.getD k twigD)) false]) T.nil T.nil) T.nil) (T.node ((twigA (t.getD (ks.getD (↑i : Int).toNat (0 : Int)).toNat twigD)).rptr (0 : Nat)) T.nil T.nil))) (T.node (AV.int IntKind.i64 (ks.getD (↑i : Int).toNat (0 : Int))) (T.node AV.undef (T.node AV.undef (T.node (AV.int IntKind.i64 a) T.nil T.nil) T.nil) (T.node (AV.rof t.length (fun (k : Nat) => twigA (t.getD k twigD)) false) T.nil T.nil)) (T.node AV.undef (T.node (AV.bool (decide ((↑i : Int) < (↑ks.length : Int)))) (T.node (AV.rof (a :: r).length (fun (k : Nat) => AV.int IntKind.i64 ((a :: r).getD k (0 : Int))) false) T.nil T.nil) T.nil) (T.node ((twigA (t.getD (ks.getD (↑i : Int).toNat (0 : Int)).toNat twigD)).rptr ((0 : Nat) + (0 : Nat) + (0 : Nat))) T.nil T.nil))))) (60 : FuncId) #[(41 : Nat)] (Code.region (8 : Nat) #[Oper.mk (some (7 : Nat)) (Op.assign (Operand.tmp (41 : Nat))) (3 : Nat) "nfa.go:182" #[] none] false) (Code.block (3 : Nat) ((Code.region (9 : Nat) #[Oper.mk (some (42 : Nat)) (Op.load (95 : Nat) (Operand.tmp (4 : Nat))) (95 : Nat) "nfa.go:183" #[] none, Oper.mk (some (43 : Nat)) (Op.move (Operand.tmp (7 : Nat))) (3 : Nat) "nfa.go:183" #[] none, Oper.mk (some (44 : Nat)) (Op.call (Call.mk (Callee.value (Operand.tmp (42 : Nat))) #[Operand.tmp (43 : Nat)] #[(3 : Nat)])) (4 : Nat) "nfa.go:183" #[Edge.mk (0 : Nat) Ground.data, Edge.mk (1 : Nat) Ground.data] none, Oper.mk (some (45 : Nat)) (Op.unOp UnOp.not (4 : Nat) (Operand.tmp (44 : Nat))) (4 : Nat) "nfa.go:183" #[Edge.mk (2 : Nat) Ground.data] none] false).seq (Code.cond (Operand.tmp (45 : Nat)) Code.ret Code.skip))))) T.nil T.nil)) T.nil))) (T.node Blk.dead (T.node Blk.dead T.nil (T.node Blk.dead (T.node Blk.dead T.nil (T.node (Blk.row (0 : Nat) (1 : Nat) true (Sq.lst [AV.rof ((↑(a :: r).length : Int).toNat - Int.toNat (1 : Int)) (fun (k : Nat) => AV.int IntKind.i64 ((a :: r).getD (Int.toNat (1 : Int) + k) (0 : Int))) false])) T.nil T.nil)) T.nil)) (T.node Blk.dead (T.node Blk.dead (T.node Blk.dead T.nil (T.node (Blk.row (0 : Nat) (1 : Nat) true (Sq.lst [AV.agg [AV.rof t.length (fun (k : Nat) => twigA (t.getD k twigD)) false]])) T.nil T.nil)) T.nil) T.nil)))) ((∃ (i_1 : Nat), i_1.le (pathsL t r (ks.getD (↑i : Int).toNat (0 : Int))).length ∧ (invPI t a r ks (AbsS.of Try.prog (Itr.mk true len (fun (j : Nat) => [AV.int IntKind.i64 (el j)]) (AV.tup []) (AV.tup [])) l n0 M0 Φ Ψ) (↑i : Int).toNat).μ i_1 = (0 : Nat) ∧ True ∧ (cntP t a r ks i = cntP t a r ks (↑i : Int).toNat + i_1 ∧ true = true ∧ AbsS.of Try.prog (Itr.mk true len (fun (j : Nat) => [AV.int IntKind.i64 (el j)]) (AV.tup []) (AV.tup [])) l n0 M0 Φ Ψ = AbsS.of Try.prog (Itr.mk true len (fun (j : Nat) => [AV.int IntKind.i64 (el j)]) (AV.tup []) (AV.tup [])) l n0 M0 Φ Ψ) ∧ ((0 : Nat) = (0 : Nat) ∧ (false = true → false = true) ∧ ((0 : Nat) = (0 : Nat) ∧ (1 : Nat) = (1 : Nat)) ∧ True) ∧ True) ∧ (∀ (i_1 : Nat), i_1.le (pathsL t r (ks.getD (↑i : Int).toNat (0 : Int))).length ∧ (invPI t a r ks (AbsS.of Try.prog (Itr.mk true len (fun (j : Nat) => [AV.int IntKind.i64 (el j)]) (AV.tup []) (AV.tup [])) l n0 M0 Φ Ψ) (↑i : Int).toNat).μ i_1 < (pathsL t r (ks.getD (↑i : Int).toNat (0 : Int))).length → (Try.prog = Try.prog ∧ cntP t a r ks (↑i : Int).toNat + i_1 < len ∧ AV.subL [AV.int IntKind.i64 ((pathsL t r (ks.getD (↑i : Int).toNat (0 : Int))).getD ((invPI t a r ks (AbsS.of Try.prog (Itr.mk true len (fun (j : Nat) => [AV.int IntKind.i64 (el j)]) (AV.tup []) (AV.tup [])) l n0 M0 Φ Ψ) (↑i : Int).toNat).μ i_1) (0 : Int))] [AV.int IntKind.i64 (el (cntP t a r ks (↑i : Int).toNat + i_1))]) ∧ (∃ (i' : Nat), i'.le (pathsL t r (ks.getD (↑i : Int).toNat (0 : Int))).length ∧ (invPI t a r ks (AbsS.of Try.prog (Itr.mk true len (fun (j : Nat) => [AV.int IntKind.i64 (el j)]) (AV.tup []) (AV.tup [])) l n0 M0 Φ Ψ) (↑i : Int).toNat).μ i' = (invPI t a r ks (AbsS.of Try.prog (Itr.mk true len (fun (j : Nat) => [AV.int IntKind.i64 (el j)]) (AV.tup []) (AV.tup [])) l n0 M0 Φ Ψ) (↑i : Int).toNat).μ i_1 + (1 : Nat) ∧ True ∧ (cntP t a r ks (↑i : Int).toNat + i_1 + (1 : Nat) = cntP t a r ks (↑i : Int).toNat + i' ∧ true = true ∧ AbsS.of Try.prog (Itr.mk true len (fun (j : Nat) => [AV.int IntKind.i64 (el j)]) (AV.tup []) (AV.tup [])) l n0 M0 Φ Ψ = AbsS.of Try.prog (Itr.mk true len (fun (j : Nat) => [AV.int IntKind.i64 (el j)]) (AV.tup []) (AV.tup [])) l n0 M0 Φ Ψ) ∧ ((0 : Nat) = (0 : Nat) ∧ (false = true → false = true) ∧ ((0 : Nat) = (0 : Nat) ∧ (1 : Nat) = (1 : Nat)) ∧ True) ∧ True) ∧ True) ∧ ∀ (i_1 : Nat), i_1.le (pathsL t r (ks.getD (↑i : Int).toNat (0 : Int))).length ∧ (invPI t a r ks (AbsS.of Try.prog (Itr.mk true len (fun (j : Nat) => [AV.int IntKind.i64 (el j)]) (AV.tup []) (AV.tup [])) l n0 M0 Φ Ψ) (↑i : Int).toNat).μ i_1 = (pathsL t r (ks.getD (↑i : Int).toNat (0 : Int))).length → ∃ (i' : Nat), i'.le ks.length ∧ (invP t a r m ks (AbsS.of Try.prog (Itr.mk true len (fun (j : Nat) => [AV.int IntKind.i64 (el j)]) (AV.tup []) (AV.tup [])) l n0 M0 Φ Ψ)).μ i' < (invP t a r m ks (AbsS.of Try.prog (Itr.mk true len (fun (j : Nat) => [AV.int IntKind.i64 (el j)]) (AV.tup []) (AV.tup [])) l n0 M0 Φ Ψ)).μ i ∧ (((((a :: r).length = (a :: r).length ∧ (∀ (i : Nat), i < (a :: r).length → (a :: r).getD i (0 : Int) = (a :: r).getD i (0 : Int) ∧ (1 : Nat) = (1 : Nat)) ∧ (false = true → false = true)) ∧ (1 : Nat) = (1 : Nat)) ∧ (0 : Nat) = (0 : Nat)) ∧ ((m = m ∧ (1 : Nat) = (1 : Nat)) ∧ (0 : Nat) = (0 : Nat)) ∧ ((((t.length = t.length ∧ (∀ (i : Nat), i < t.length → ((t.getD i twigD).slot.fst = (t.getD i twigD).slot.fst ∧ ((t.getD i twigD).slot.gds.length = (t.getD i twigD).slot.gds.length ∧ (∀ (i_2 : Nat), i_2 < (t.getD i twigD).slot.gds.length → (t.getD i twigD).slot.gds.getD i_2 (0 : Int) = (t.getD i twigD).slot.gds.getD i_2 (0 : Int) ∧ (1 : Nat) = (1 : Nat)) ∧ (false = true → false = true)) ∧ (t.getD i twigD).par = (t.getD i twigD).par ∧ ((t.getD i twigD).kids.length = (t.getD i twigD).kids.length ∧ (∀ (i_2 : Nat), i_2 < (t.getD i twigD).kids.length → (t.getD i twigD).kids.getD i_2 (0 : Int) = (t.getD i twigD).kids.getD i_2 (0 : Int) ∧ (1 : Nat) = (1 : Nat)) ∧ (false = true → false = true)) ∧ (t.getD i twigD).ends = (t.getD i twigD).ends ∧ (t.getD i twigD).line = (t.getD i twigD).line ∧ True) ∧ (6 : Nat) = (6 : Nat)) ∧ (false = true → false = true)) ∧ True) ∧ (1 : Nat) = (1 : Nat)) ∧ (0 : Nat) = (0 : Nat)) ∧ ((0 : Nat) = (0 : Nat) ∧ (0 : Nat) = (0 : Nat) ∧ (0 : Nat) = (0 : Nat)) ∧ (intsA ks).sub (intsA ks) ∧ (↑ks.length : Int) = (↑ks.length : Int) ∧ IntKind.i64.wrap ((↑i : Int) + (1 : Int)) = (↑i' : Int) ∧ True) ∧ (cntP t a r ks (↑i : Int).toNat + i_1 = cntP t a r ks i' ∧ true = true ∧ AbsS.of Try.prog (Itr.mk true len (fun (j : Nat) => [AV.int IntKind.i64 (el j)]) (AV.tup []) (AV.tup [])) l n0 M0 Φ Ψ = AbsS.of Try.prog (Itr.mk true len (fun (j : Nat) => [AV.int IntKind.i64 (el j)]) (AV.tup []) (AV.tup [])) l n0 M0 Φ Ψ) ∧ ((0 : Nat) = (0 : Nat) ∧ (false = true → false = true) ∧ ((0 : Nat) = (0 : Nat) ∧ (1 : Nat) = (1 : Nat)) ∧ True) ∧ True))))))) (True ∧ cntP t a r ks i = len))) := by
 kernel_rfl
end Go.Proofs.Ytlnpgnipocbfhaa
namespace Go.Proofs.Ytlnpgnipocbfhaa
open Pw Go
set_option maxRecDepth 100000
set_option linter.unusedSimpArgs false
theorem caps_sub {P:Program} {gl:Nat→AV} {h:FuncId} {first cap cap':List AV} {it:Itr} (hs:AV.subL cap cap') (hi:IterC P gl h first cap' it):IterC P gl h first cap it :=
 fun M W fs cs sp k C T hG hM hf hc=>hi M W fs cs sp k C T hG hM hf (hc.subL hs)
theorem flat_get {α:Type} (d:α):∀ (L:List (List α)) (i j:Nat),i<L.length→j<(L.getD i []).length→L.flatten.getD ((L.take i).flatten.length+j) d=(L.getD i []).getD j d
 | [],_,_,h,_=>by simp at h
 | a::L,0,j,_,h=>by
  have h:j<a.length:=h
  simp [List.getD,List.getElem?_append_left h]
 | a::L,i+1,j,h,h2=>by
  have:=flat_get d L i j (by simpa using h) (by simpa using h2)
  simp only [List.take_succ_cons,List.flatten_cons,List.length_append]
  rw [show a.length+(List.take i L).flatten.length+j=a.length+((List.take i L).flatten.length+j) by omega]
  rw [List.getD_eq_getElem?_getD,List.getElem?_append_right (by omega),Nat.add_sub_cancel_left,← List.getD_eq_getElem?_getD,this]
  rfl
theorem flat_len {α:Type}:∀ (L:List (List α)) (i:Nat),i<L.length→(L.take (i+1)).flatten.length=(L.take i).flatten.length+(L.getD i []).length
 | [],_,h=>by simp at h
 | a::L,0,_=>by simp
 | a::L,i+1,h=>by
  have:=flat_len L i (by simpa using h)
  simp only [List.take_succ_cons,List.flatten_cons,List.length_append] at this ⊢
  rw [this]
  simp
  omega
theorem pathF_at {t:List TwigG} {a:Int} {r ks:List Int} {i:Nat} (hi:i<ks.length):(ks.map (pathF t a r)).getD i []=pathF t a r (ks.getD i 0):=by simp [List.getD,hi]
theorem cntP_succ {t:List TwigG} {a:Int} {r ks:List Int} {i:Nat} (hi:i<ks.length):cntP t a r ks (i+1)=cntP t a r ks i+(pathF t a r (ks.getD i 0)).length:=by
 have:=flat_len (ks.map (pathF t a r)) i (by simpa using hi)
 rw [pathF_at hi] at this
 simp only [cntP,List.map_take]
 exact this
theorem cntP_mono {t:List TwigG} {a:Int} {r ks:List Int} {i:Nat}:∀ (k:Nat),i+k≤ks.length→cntP t a r ks i≤cntP t a r ks (i+k)
 | 0,_=>Nat.le_refl _
 | k+1,h=>by
  have h1:=cntP_mono (t:=t) (a:=a) (r:=r) (ks:=ks) (i:=i) k (by omega)
  have h2:=cntP_succ (t:=t) (a:=a) (r:=r) (ks:=ks) (i:=i+k) (by omega)
  rw [show i+(k+1)=i+k+1 by omega,h2]
  omega
theorem cntP_le {t:List TwigG} {a:Int} {r ks:List Int} {i:Nat} (hi:i<ks.length):cntP t a r ks i+(pathF t a r (ks.getD i 0)).length≤cntP t a r ks ks.length:=by
 rw [← cntP_succ hi]
 have:=cntP_mono (t:=t) (a:=a) (r:=r) (ks:=ks) (i:=i+1) (ks.length - (i+1)) (by omega)
 rw [show i+1+(ks.length - (i+1))=ks.length by omega] at this
 exact this
theorem pathsL_len (t:List TwigG) (a:Int) (r:List Int) (m:Int):(pathsL t (a::r) m).length=cntP t a r (t.getD m.toNat twigD).kids (t.getD m.toNat twigD).kids.length:=by
 unfold cntP
 rw [List.take_length]
 rfl
theorem pathsL_get {t:List TwigG} {a:Int} {r:List Int} {m:Int} {i j:Nat} (hi:i<(t.getD m.toNat twigD).kids.length) (hj:j<(pathF t a r ((t.getD m.toNat twigD).kids.getD i 0)).length) :
  (pathsL t (a::r) m).getD (cntP t a r (t.getD m.toNat twigD).kids i+j) 0=(pathF t a r ((t.getD m.toNat twigD).kids.getD i 0)).getD j 0:=by
 have:=flat_get (0:Int) ((t.getD m.toNat twigD).kids.map (pathF t a r)) i j (by simpa using hi) (by rw [pathF_at hi]; exact hj)
 rw [pathF_at hi] at this
 rw [← this]
 simp only [cntP,List.map_take]
 rfl
def kidsIn (t:List TwigG):Prop:=∀ i,i<t.length→∀ k∈(t.getD i twigD).kids,0≤k∧k<t.length
theorem EP0_ok:CtrOK EP0:=mkE_ctr (tbl_nil _)
theorem itV_ok {t:List TwigG} {l:List Int} (h:∀ m:Int,0≤m→m<t.length→IterC Try.prog gU 60 [] [.rptr (intsA l) 0,.rptr (.int .i64 m) 0,.rptr (treeA t) 0] (itP t l m true)) :
  ∀ f first cap it,itV t l f first cap=some it→it.nd=true→IterC Try.prog gU f first cap it:=by
 intro f first cap it e hnd
 unfold itV at e
 split at e
 ·rename_i hf
  subst hf
  split at e
  ·rename_i n g ex m x
   cases e
   simp only [itP,Bool.and_eq_true,decide_eq_true_eq] at hnd
   obtain ⟨⟨h1,h2⟩,h3,h4⟩:=hnd
   have e1:=(asB_i.1 h1).1
   have e2:=(asB_i.1 h2).1
   simp only [h1,h2,h3,h4,and_self,decide_true,Bool.and_self]
   have hl:x.length=1:=by
    match x,e2 with
    | [y],_=>rfl
    | [],e2=>exact e2.elim
    | y::z::w,e2=>exact e2.2.elim
   refine caps_sub (cap':=[.rptr (intsA l) 0,.rptr (.int .i64 m) 0,.rptr (treeA t) 0]) ⟨⟨⟨e1,rfl⟩,rfl⟩,⟨⟨rfl,rfl⟩,rfl⟩,⟨⟨e2,?_⟩,rfl⟩,trivial⟩ (h m h3 h4)
   show x.length=1
   exact hl
  ·cases e
 ·cases e
theorem EP_ok {t:List TwigG} {a:Int} {r:List Int} {m:Int} {ks:List Int} (h:∀ m:Int,0≤m→m<t.length→IterC Try.prog gU 60 [] [.rptr (intsA r) 0,.rptr (.int .i64 m) 0,.rptr (treeA t) 0] (itP t r m true)):CtrOK (EP t a r m ks) :=
 ⟨(mkE_ctr (P:=Try.prog) (inv:=fun _ _=>none) (tbl_nil _)).1,itV_ok h⟩
theorem tail_sub (a:Int) (r:List Int):(AV.rof (((((a::r).length:Nat):Int)).toNat - Int.toNat (1:Int)) (fun (k:Nat)=>AV.int IntKind.i64 ((a::r).getD (Int.toNat (1:Int)+k) (0:Int))) false).sub (intsA r):=by
 refine ⟨?_,fun i hi=>?_,fun h=>h⟩
 ·show r.length+1 - 1=r.length
  omega
 ·show (AV.int IntKind.i64 ((a::r).getD (1+i) 0)).sub (.int .i64 (r.getD i 0))∧_
  rw [show 1+i=i+1 by omega]
  exact ⟨rfl,rfl⟩
theorem paths_iter (t:List TwigG) (hk:kidsIn t):∀ (l:List Int) (m:Int),0≤m→m<t.length→l.length≤1000000→(∀ i,(t.getD i twigD).kids.length≤1000000)→IterC Try.prog gU 60 [] [.rptr (intsA l) 0,.rptr (.int .i64 m) 0,.rptr (treeA t) 0] (itP t l m true)
 | [],m,h0,h1,_,_=>by
  refine IterC.of_vc (E:=EP0) (n:=20) mix EP0_ok rfl rfl rfl rfl fun l n0 M0 Φ Ψ=>(paths0_vc t m (fun j=>[m].getD j 0) l n0 M0 Φ Ψ).mpr ?_
  exact ⟨⟨rfl,Nat.one_pos,⟨rfl,trivial⟩⟩,⟨trivial,rfl⟩,trivial⟩
 | a::r,m,h0,h1,hl,hkl=>by
  have hlr:r.length+1≤1000000:=hl
  have IH:=fun m h0 h1=>paths_iter t hk r m h0 h1 (by omega) hkl
  refine IterC.of_vc (E:=EP t a r m (t.getD m.toNat twigD).kids) (n:=20) mix (EP_ok IH) rfl rfl rfl rfl fun l n0 M0 Φ Ψ=>(paths_vc t a r m (t.getD m.toNat twigD).kids (pathsL t (a::r) m).length (fun j=>(pathsL t (a::r) m).getD j 0) l n0 M0 Φ Ψ).mpr ?_
  have hkm:=hk m.toNat (by omega)
  have hkm2:=hkl m.toNat
  have hlen:=pathsL_len t a r m
  have hget:=fun i j hi hj=>pathsL_get (t:=t) (a:=a) (r:=r) (m:=m) (i:=i) (j:=j) hi hj
  generalize (t.getD m.toNat twigD).kids=ks at *
  refine NB_intro (decide_eq_true ⟨h0,h1⟩) ⟨⟨0,Nat.zero_le _,?_⟩,fun i hi=>?_⟩
  ·repeat' (first|exact trivial|exact rfl|exact fun h=>h|exact fun _ _=>⟨rfl,rfl⟩|exact fun _ _=>⟨⟨rfl,⟨rfl,fun _ _=>⟨rfl,rfl⟩,fun h=>h⟩,rfl,⟨rfl,fun _ _=>⟨rfl,rfl⟩,fun h=>h⟩,rfl,rfl,trivial⟩,rfl⟩|refine And.intro ?_ ?_)
  have hi:i≤ks.length:=hi
  refine VB_intro (fun h=>?_) (fun h=>?_)
  ·have h2:i<ks.length:=by
    have:=of_decide_eq_true h
    omega
   obtain ⟨k1,k2⟩:=hkm _ (getD_mem (d:=0) h2)
   have hle:=cntP_le (t:=t) (a:=a) (r:=r) h2
   have hsu:=cntP_succ (t:=t) (a:=a) (r:=r) h2
   have hW:IntKind.i64.wrap ((i:Int)+1)=((i+1:Nat):Int):=by rw [wrap_i64_id (by omega) (by omega)]; omega
   rw [show (Int.toNat (i:Int))=i from rfl]
   refine NB_intro (by simp; omega) (NB_intro (decide_eq_true ⟨k1,k2⟩) (NB_intro (decide_eq_true ⟨by omega,(show (0:Int)<((r.length+1:Nat):Int) by omega)⟩) (VB_intro (fun h3=>?_) (fun h3=>?_))))
   ·have h4:pathF t a r (ks.getD i 0)=[]:=by
     unfold pathF
     rw [if_neg (by simpa using h3)]
    rw [h4] at hsu
    refine ⟨i+1,(show i+1≤ks.length by omega),(show ks.length - (i+1)<ks.length - i by omega),?_⟩
    repeat' (first|exact sub_ints _|exact trivial|exact rfl|exact hW|exact hsu.symm|exact fun h=>h|exact fun _ _=>⟨rfl,rfl⟩|exact fun _ _=>⟨⟨rfl,⟨rfl,fun _ _=>⟨rfl,rfl⟩,fun h=>h⟩,rfl,⟨rfl,fun _ _=>⟨rfl,rfl⟩,fun h=>h⟩,rfl,rfl,trivial⟩,rfl⟩|refine And.intro ?_ ?_)
   ·have h4:pathF t a r (ks.getD i 0)=pathsL t r (ks.getD i 0):=by
     unfold pathF
     rw [if_pos (by simpa using h3)]
    have hget':=fun j hj=>hget i j h2 hj
    rw [h4] at hsu hle hget'
    refine NB_intro (decide_eq_true ⟨by omega,(show (1:Int)≤((r.length+1:Nat):Int) by omega),by omega⟩) (NB_intro ?_ ⟨⟨0,Nat.zero_le _,?_⟩,fun j hj=>?_,fun j hj=>?_⟩)
    ·simp only [Bool.and_true]
     rw [Bool.and_eq_true,Bool.and_eq_true,Bool.and_eq_true]
     exact ⟨⟨⟨asB_t ⟨tail_sub a r,trivial⟩,asB_t ⟨sub_tree t,trivial⟩⟩,decide_eq_true ⟨k1,k2⟩⟩,by kernel_rfl⟩
    ·repeat' (first|exact trivial|exact rfl|exact fun h=>h|refine And.intro ?_ ?_)
    ·obtain ⟨_,hj2⟩:=hj
     have hj2:j<(pathsL t r (ks.getD i 0)).length:=hj2
     refine ⟨⟨rfl,by omega,⟨?_,trivial⟩⟩,⟨j+1,(show j+1≤_ by omega),rfl,?_⟩,trivial⟩
     ·show (AV.int IntKind.i64 ((pathsL t r (ks.getD i 0)).getD j 0)).sub (AV.int IntKind.i64 ((pathsL t (a::r) m).getD (cntP t a r ks i+j) 0))
      rw [hget' j hj2]
      exact rfl
     ·repeat' (first|exact trivial|exact rfl|exact fun h=>h|refine And.intro ?_ ?_)
    ·obtain ⟨_,hj2⟩:=hj
     have hj2:j=(pathsL t r (ks.getD i 0)).length:=hj2
     refine ⟨i+1,(show i+1≤ks.length by omega),(show ks.length - (i+1)<ks.length - i by omega),?_⟩
     have hsu':cntP t a r ks i+j=cntP t a r ks (i+1):=by omega
     repeat' (first|exact sub_ints _|exact trivial|exact rfl|exact hW|exact hsu'|exact fun h=>h|exact fun _ _=>⟨rfl,rfl⟩|exact fun _ _=>⟨⟨rfl,⟨rfl,fun _ _=>⟨rfl,rfl⟩,fun h=>h⟩,rfl,⟨rfl,fun _ _=>⟨rfl,rfl⟩,fun h=>h⟩,rfl,rfl,trivial⟩,rfl⟩|refine And.intro ?_ ?_)
  ·have h2:i=ks.length:=by
    have:=of_decide_eq_false h
    omega
   subst h2
   exact ⟨trivial,hlen.symm⟩
end Go.Proofs.Ytlnpgnipocbfhaa
