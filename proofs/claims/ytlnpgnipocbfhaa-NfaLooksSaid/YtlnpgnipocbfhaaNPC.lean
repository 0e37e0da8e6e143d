/- TREES, paths C: Walk and Begins, the document's walk, Walk and Begins: conditions. -/
import Derived.Test.YtlnpgnipocbfhaaNPA
namespace Go.Proofs.Ytlnpgnipocbfhaa
open Pw Go
set_option maxRecDepth 100000
set_option linter.unusedSimpArgs false
noncomputable def itVR (t:List TwigG) (l:List Int):FuncId→List AV→List AV→Option Itr:=fun h first cap =>
 if h=60 then
  match first,cap with
  | [],[.rptr (.rol y ex) 0,.rptr (.int .i64 m) 0,.rptr (.agg x) 0]=>some (itP t l m (asB [.rol y ex] [intsA l]&&asB [.agg x] [treeA t]&&decide (0≤m∧m<t.length)))
  | _,_=>none
 else none
def headI (l:List Int):Int:=match l with
 | []=>-1
 | n::_=>n
noncomputable def cWk (t:List TwigG) (r:List Int):Ctr
 | [.agg x,.int .i64 k,.rof n f ex]=>some (asB [.agg x] [treeA t]&&asB [.rof n f ex] [intsA r]&&decide (0≤k∧k<t.length),.int .i64 (headI (pathsL t r k)))
 | _=>none
def invPW (t:List TwigG):Inv:=⟨Nat,40,fun _=>⟨[],[(0,.row 0 1 true (.lst [treeA t])),(1,.row 0 1 true (.lst [.int .i64 0])),(2,.row 0 1 true (.lst [.int .i64 0]))]⟩,fun j=>j=0,fun j=>j⟩
def invPB (t:List TwigG) (L:List Int):Inv:=⟨Nat×Nat,40,fun p=>⟨[],[(0,.row 0 1 true (.lst [treeA t])),(1,.row 0 1 false (.lst [.sl 20 p.2 0 p.1 none])),(20,.row p.2 1 true (.fn p.1 fun k=>.int .i64 (L.getD k 0)))]⟩,fun p=>p.1≤L.length,fun p=>p.1⟩
noncomputable def EPW (t:List TwigG) (l:List Int):Env:={ mkE Try.prog (tblOf [(9,cCheckT)]) (fun _ _=>none) with itr:=itV t l,invS:=fun f b _=>if f=23∧b=200006 then some (invPW t) else none }
noncomputable def EPB (t:List TwigG) (a:Int) (L:List Int):Env:={ mkE Try.prog (tblOf [(9,cCheckT)]) (fun _ _=>none) with itr:=itVR t [a],invS:=fun f b _=>if f=19∧b=200007 then some (invPB t L) else none,fzs:=fun f=>if f=19 then [16] else [] }
def invDW (t:List TwigG) (a:Int) (r:List Int) (ks:List Int):Inv:=⟨Nat,40,fun i=>⟨[(2,intsA (a::r)),(3,.ptr 0 0 0 0),(7,intsA ks),(8,.int .i64 i)],[(0,.row 0 1 true (.lst [treeA t]))]⟩,fun i=>i≤ks.length∧∀ j,j<i→pathF t a r (ks.getD j 0)=[],fun i=>ks.length - i⟩
noncomputable def EDW (t:List TwigG) (a:Int) (r:List Int) (ks:List Int):Env:=mkE Try.prog (tblOf [(44,cWk t r)]) (fun f b=>if f=44∧b=0 then some (invDW t a r ks) else none)
noncomputable def EDx (t:List TwigG) (l:List Int):Env:=mkE Try.prog (tblOf [(10,cCheckT),(44,cWk t l)]) (fun _ _=>none)
def begK (t:List TwigG) (a:Int) (ks:List Int) (i:Nat):List Int:=(ks.take i).filter fun k=>decide ((t.getD k.toNat twigD).slot.1=a)
def invDB (t:List TwigG) (a:Int) (ks:List Int):Inv:=⟨Nat×Nat,40,fun p=>⟨[(1,.int .i64 a),(2,.ptr 0 0 0 0),(7,.sl 20 p.2 0 (begK t a ks p.1).length none),(8,.int .i64 p.1)],[(0,.row 0 1 true (.lst [treeA t])),(20,.row p.2 1 true (.fn (begK t a ks p.1).length fun k=>.int .i64 ((begK t a ks p.1).getD k 0)))]⟩,fun p=>p.1≤ks.length,fun p=>ks.length - p.1⟩
noncomputable def EDB (t:List TwigG) (a:Int) (ks:List Int):Env:=mkE Try.prog (tblOf [(10,cCheckT)]) (fun f b=>if f=20∧b=0 then some (invDB t a ks) else none)
theorem pwalk_vc (t : List TwigG) (l : List Int) (n r : Int) : (vcFun (EPW t l) 20 23 [treeA t, intsA l] .nil 0 (retP 3 (.tup [.int .i64 n, .int .i64 r]))).sat = ( NB (isTree (AV.agg [AV.rof t.length (fun (k : Nat) => twigA (t.getD k twigD)) false]) && shortT (treeDec (AV.agg [AV.rof t.length (fun (k : Nat) => twigA (t.getD k twigD)) false]))) (VB (checkE (treeDec (AV.agg [AV.rof t.length (fun (k : Nat) => twigA (t.getD k twigD)) false])) != (0 : Int)) ((0 : Int) = n ∧ checkE (treeDec (AV.agg [AV.rof t.length (fun (k : Nat) => twigA (t.getD k twigD)) false])) = r ∧ True) (NB (asB [AV.rof l.length (fun (k : Nat) => AV.int IntKind.i64 (l.getD k (0 : Int))) false] [intsA l] && asB [AV.agg [AV.rof t.length (fun (k : Nat) => twigA (t.getD k twigD)) false]] [treeA t] && decide ((0 : Int) ≤ (0 : Int) ∧ (0 : Int) < (↑t.length : Int)) && true && true && true && true && noFams (T.node (Blk.row (0 : Nat) (1 : Nat) true (Sq.lst [AV.agg [AV.rof t.length (fun (k : Nat) => twigA (t.getD k twigD)) false]])) (T.node (Blk.row (0 : Nat) (1 : Nat) true (Sq.lst [AV.int IntKind.i64 (0 : Int)])) (T.node (Blk.row (0 : Nat) (1 : Nat) true (Sq.lst [AV.agg [AV.rof t.length (fun (k : Nat) => twigA (t.getD k twigD)) false]])) T.nil T.nil) (T.node (Blk.row (0 : Nat) (1 : Nat) true (Sq.lst [AV.rof l.length (fun (k : Nat) => AV.int IntKind.i64 (l.getD k (0 : Int))) false])) T.nil T.nil)) (T.node (Blk.row (0 : Nat) (1 : Nat) true (Sq.lst [AV.int IntKind.i64 (0 : Int)])) (T.node (Blk.row (0 : Nat) (1 : Nat) true (Sq.lst [AV.int IntKind.i64 (0 : Int)])) T.nil T.nil) (T.node (Blk.loop LSt.ready (LoopB.mk Try.funcs[(23 : FuncId)].ntmps (T.node (AV.agg [AV.rof t.length (fun (k : Nat) => twigA (t.getD k twigD)) false]) (T.node (AV.rof l.length (fun (k : Nat) => AV.int IntKind.i64 (l.getD k (0 : Int))) false) (T.node AV.undef (T.node AV.undef (T.node (AV.fn (Fn.func (60 : Nat)) [] [AV.ptr (nat_lit 4 + (1 : Nat)) (0 : Nat) (0 : Nat) (0 : Nat), AV.ptr (nat_lit 3 + (1 : Nat)) (0 : Nat) (0 : Nat) (0 : Nat), AV.ptr (nat_lit 2 + (1 : Nat)) (0 : Nat) (0 : Nat) (0 : Nat)]) T.nil T.nil) T.nil) (T.node (AV.bool (checkE (treeDec (AV.agg [AV.rof t.length (fun (k : Nat) => twigA (t.getD k twigD)) false])) != (0 : Int))) T.nil T.nil)) (T.node (AV.ptr (nat_lit 1 + (1 : Nat)) (0 : Nat) (0 : Nat) (0 : Nat)) (T.node (AV.int IntKind.i64 (checkE (treeDec (AV.agg [AV.rof t.length (fun (k : Nat) => twigA (t.getD k twigD)) false])))) T.nil T.nil) (T.node (AV.agg [AV.rof t.length (fun (k : Nat) => twigA (t.getD k twigD)) false]) T.nil T.nil))) (T.node (AV.ptr (0 : Nat) (0 : Nat) (0 : Nat) (0 : Nat)) (T.node (AV.ptr (nat_lit 0 + (1 : Nat)) (0 : Nat) (0 : Nat) (0 : Nat)) (T.node (AV.agg [AV.rof t.length (fun (k : Nat) => twigA (t.getD k twigD)) false]) T.nil T.nil) T.nil) (T.node (AV.int IntKind.i64 (checkE (treeDec (AV.agg [AV.rof t.length (fun (k : Nat) => twigA (t.getD k twigD)) false])))) (T.node (AV.int IntKind.i64 (checkE (treeDec (AV.agg [AV.rof t.length (fun (k : Nat) => twigA (t.getD k twigD)) false])))) T.nil T.nil) (T.node (AV.rof l.length (fun (k : Nat) => AV.int IntKind.i64 (l.getD k (0 : Int))) false) T.nil T.nil)))) (23 : FuncId) #[(16 : Nat)] (Code.region (5 : Nat) #[Oper.mk (some (7 : Nat)) (Op.assign (Operand.tmp (16 : Nat))) (3 : Nat) "nfa.go:196" #[] none] false) (Code.block (1 : Nat) ((Code.region (6 : Nat) #[Oper.mk (some (17 : Nat)) (Op.move (Operand.tmp (7 : Nat))) (3 : Nat) "nfa.go:197" #[] none, Oper.mk none (Op.store (3 : Nat) (Operand.tmp (4 : Nat)) (Operand.tmp (17 : Nat))) (0 : Nat) "nfa.go:197" #[Edge.mk (0 : Nat) Ground.data, Edge.mk (0 : Nat) Ground.phase] none, Oper.mk none (Op.store (29 : Nat) (Operand.tmp (5 : Nat)) (Operand.const (Value.int IntKind.i64 (0 : Int)))) (0 : Nat) "nfa.go:197" #[Edge.mk (1 : Nat) Ground.chain, Edge.mk (0 : Nat) Ground.phase, Edge.mk (1 : Nat) Ground.phase] none] false).seq Code.ret)))) T.nil T.nil)))) ((∃ (i : Nat), i = (0 : Nat) ∧ (invPW t).μ i = (0 : Nat) ∧ True ∧ ((0 : Nat) = (0 : Nat) ∧ (true = true → true = true) ∧ ((treeA t).sub (treeA t) ∧ (treeA t).cells.length = (treeA t).cells.length) ∧ True) ∧ ((0 : Nat) = (0 : Nat) ∧ (true = true → true = true) ∧ (EqI (0 : Int) (0 : Int) ∧ (1 : Nat) = (1 : Nat)) ∧ True) ∧ ((0 : Nat) = (0 : Nat) ∧ (true = true → true = true) ∧ (EqI (0 : Int) (0 : Int) ∧ (1 : Nat) = (1 : Nat)) ∧ True) ∧ True) ∧ (∀ (i : Nat), i = (0 : Nat) ∧ (invPW t).μ i < (pathsL t l (0 : Int)).length → (pathsL t l (0 : Int)).getD ((invPW t).μ i) (0 : Int) = n ∧ (0 : Int) = r ∧ True) ∧ ∀ (i : Nat), i = (0 : Nat) ∧ (invPW t).μ i = (pathsL t l (0 : Int)).length → (0 : Int) = n ∧ (7 : Int) = r ∧ True)))) := by
 kernel_rfl
theorem pbegins_vc (t : List TwigG) (a : Int) (L : List Int) (M : List Int) (r : Int) : (vcFun (EPB t a L) 20 19 [treeA t, .int .i64 a] .nil 0 (retP 3 (.tup [intsA M, .int .i64 r]))).sat = ( NB (isTree (AV.agg [AV.rof t.length (fun (k : Nat) => twigA (t.getD k twigD)) false]) && shortT (treeDec (AV.agg [AV.rof t.length (fun (k : Nat) => twigA (t.getD k twigD)) false]))) (VB (checkE (treeDec (AV.agg [AV.rof t.length (fun (k : Nat) => twigA (t.getD k twigD)) false])) != (0 : Int)) (M.length = (0 : Nat) ∧ checkE (treeDec (AV.agg [AV.rof t.length (fun (k : Nat) => twigA (t.getD k twigD)) false])) = r ∧ True) (NB (asB [AV.rol [AV.int IntKind.i64 a] (fzEx (some (1 : Nat)) (1 : Nat))] [intsA [a]] && asB [AV.agg [AV.rof t.length (fun (k : Nat) => twigA (t.getD k twigD)) false]] [treeA t] && decide ((0 : Int) ≤ (0 : Int) ∧ (0 : Int) < (↑t.length : Int)) && true && true && true && true && noFams (T.node (Blk.row (0 : Nat) (1 : Nat) true (Sq.lst [AV.agg [AV.rof t.length (fun (k : Nat) => twigA (t.getD k twigD)) false]])) (T.node (Blk.row (0 : Nat) (1 : Nat) true (Sq.lst [AV.nils])) (T.node (Blk.row (0 : Nat) (1 : Nat) true (Sq.lst [AV.agg [AV.rof t.length (fun (k : Nat) => twigA (t.getD k twigD)) false]])) T.nil T.nil) (T.node (Blk.row (0 : Nat) (1 : Nat) true (Sq.lst [AV.rol [AV.int IntKind.i64 a] (fzEx (some (1 : Nat)) (1 : Nat))])) T.nil T.nil)) (T.node Blk.dead (T.node (Blk.row (0 : Nat) (1 : Nat) true (Sq.lst [AV.int IntKind.i64 (0 : Int)])) T.nil T.nil) (T.node (Blk.loop LSt.ready (LoopB.mk Try.funcs[(19 : FuncId)].ntmps (T.node (AV.agg [AV.rof t.length (fun (k : Nat) => twigA (t.getD k twigD)) false]) (T.node (AV.int IntKind.i64 a) (T.node AV.undef (T.node (AV.ptr (nat_lit 0 + (1 : Nat)) (0 : Nat) (0 : Nat) (0 : Nat)) (T.node (AV.int IntKind.i64 a) T.nil T.nil) T.nil) (T.node (AV.int IntKind.i64 (checkE (treeDec (AV.agg [AV.rof t.length (fun (k : Nat) => twigA (t.getD k twigD)) false])))) T.nil T.nil)) (T.node (AV.int IntKind.i64 (0 : Int)) (T.node (AV.agg [AV.rof t.length (fun (k : Nat) => twigA (t.getD k twigD)) false]) (T.node (AV.fn (Fn.func (60 : Nat)) [] [AV.ptr (nat_lit 4 + (1 : Nat)) (0 : Nat) (0 : Nat) (0 : Nat), AV.ptr (nat_lit 3 + (1 : Nat)) (0 : Nat) (0 : Nat) (0 : Nat), AV.ptr (nat_lit 2 + (1 : Nat)) (0 : Nat) (0 : Nat) (0 : Nat)]) T.nil T.nil) T.nil) T.nil)) (T.node (AV.ptr (0 : Nat) (0 : Nat) (0 : Nat) (0 : Nat)) (T.node AV.nils (T.node AV.undef (T.node (AV.rol [AV.int IntKind.i64 a] (fzEx (some (1 : Nat)) (1 : Nat))) T.nil T.nil) T.nil) (T.node (AV.bool (checkE (treeDec (AV.agg [AV.rof t.length (fun (k : Nat) => twigA (t.getD k twigD)) false])) != (0 : Int))) T.nil T.nil)) (T.node (AV.int IntKind.i64 (checkE (treeDec (AV.agg [AV.rof t.length (fun (k : Nat) => twigA (t.getD k twigD)) false])))) (T.node (AV.int IntKind.i64 (checkE (treeDec (AV.agg [AV.rof t.length (fun (k : Nat) => twigA (t.getD k twigD)) false])))) T.nil T.nil) (T.node (AV.agg [AV.rof t.length (fun (k : Nat) => twigA (t.getD k twigD)) false]) T.nil T.nil)))) (19 : FuncId) #[(18 : Nat)] (Code.region (6 : Nat) #[Oper.mk (some (8 : Nat)) (Op.assign (Operand.tmp (18 : Nat))) (3 : Nat) "nfa.go:208" #[] none] false) (Code.block (1 : Nat) (Code.region (7 : Nat) #[Oper.mk (some (19 : Nat)) (Op.load (25 : Nat) (Operand.tmp (7 : Nat))) (25 : Nat) "nfa.go:209" #[] none, Oper.mk (some (20 : Nat)) (Op.move (Operand.tmp (8 : Nat))) (3 : Nat) "nfa.go:209" #[] none, Oper.mk (some (21 : Nat)) (Op.buildSlice (25 : Nat) (1 : Nat) #[((0 : Nat), Operand.tmp (20 : Nat))]) (25 : Nat) "nfa.go:209" #[Edge.mk (1 : Nat) Ground.data] none, Oper.mk (some (22 : Nat)) (Op.call (Call.mk (Callee.builtin Builtin.append) #[Operand.tmp (19 : Nat), Operand.tmp (21 : Nat)] #[(25 : Nat), (25 : Nat)])) (25 : Nat) "nfa.go:209" #[Edge.mk (0 : Nat) Ground.data, Edge.mk (2 : Nat) Ground.data] none, Oper.mk none (Op.store (25 : Nat) (Operand.tmp (7 : Nat)) (Operand.tmp (22 : Nat))) (0 : Nat) "nfa.go:209" #[Edge.mk (3 : Nat) Ground.data, Edge.mk (3 : Nat) Ground.chain, Edge.mk (0 : Nat) Ground.phase, Edge.mk (1 : Nat) Ground.phase, Edge.mk (2 : Nat) Ground.phase, Edge.mk (3 : Nat) Ground.phase] none] false)))) T.nil T.nil)))) ((∃ (i : Nat × Nat), i.fst.le L.length ∧ (invPB t L).μ i = (0 : Nat) ∧ True ∧ ((0 : Nat) = (0 : Nat) ∧ (true = true → true = true) ∧ ((treeA t).sub (treeA t) ∧ (treeA t).cells.length = (treeA t).cells.length) ∧ True) ∧ ((0 : Nat) = (0 : Nat) ∧ (1 : Nat) = (1 : Nat) ∧ i.fst = (0 : Nat) ∧ i.snd = i.snd ∧ i.fst = (0 : Nat)) ∧ i.fst = (0 : Nat) ∧ True) ∧ (∀ (i : Nat × Nat), i.fst.le L.length ∧ (invPB t L).μ i < (pathsL t [a] (0 : Int)).length → NB (true && decide (i.snd = i.snd) && room (i.fst + (1 : Nat)) (8 : Nat)) (∃ (i' : Nat × Nat), i'.fst.le L.length ∧ (invPB t L).μ i' = (invPB t L).μ i + (1 : Nat) ∧ True ∧ ((0 : Nat) = (0 : Nat) ∧ (true = true → true = true) ∧ ((treeA t).sub (treeA t) ∧ (treeA t).cells.length = (treeA t).cells.length) ∧ True) ∧ ((0 : Nat) = (0 : Nat) ∧ (false = true → false = true) ∧ ((i.snd + (1 : Nat) = i'.snd ∧ (0 : Nat) = (0 : Nat) ∧ i.fst + (1 : Nat) = i'.fst ∧ (@Eq (Option Nat) none none ∨ @Eq (Option Nat) none none)) ∧ (1 : Nat) = (1 : Nat)) ∧ True) ∧ (i.snd + (1 : Nat) = i'.snd ∧ (true = true → true = true) ∧ i.fst + (1 : Nat) = i'.fst ∧ ∀ (i_1 : Nat), i_1 < i.fst + (1 : Nat) → (if i_1 < i.fst then AV.int IntKind.i64 (L.getD ((0 : Nat) + i_1) (0 : Int)) else ((Sq.lst [AV.int IntKind.i64 ((pathsL t [a] (0 : Int)).getD ((invPB t L).μ i) (0 : Int))]).sub (0 : Nat) (1 : Nat)).get (i_1 - i.fst)).sub (AV.int IntKind.i64 (L.getD i_1 (0 : Int))) ∧ (if i_1 < i.fst then AV.int IntKind.i64 (L.getD ((0 : Nat) + i_1) (0 : Int)) else ((Sq.lst [AV.int IntKind.i64 ((pathsL t [a] (0 : Int)).getD ((invPB t L).μ i) (0 : Int))]).sub (0 : Nat) (1 : Nat)).get (i_1 - i.fst)).cells.length = [AV.int IntKind.i64 (L.getD i_1 (0 : Int))].length) ∧ True)) ∧ ∀ (i : Nat × Nat), i.fst.le L.length ∧ (invPB t L).μ i = (pathsL t [a] (0 : Int)).length → NB (decide (i.snd = i.snd) && true) ((i.fst = M.length ∧ (∀ (i_1 : Nat), i_1 < i.fst → L.getD ((0 : Nat) + i_1) (0 : Int) = M.getD i_1 (0 : Int) ∧ (1 : Nat) = (1 : Nat)) ∧ (false = true → decide (none = some i.fst) = true)) ∧ (0 : Int) = r ∧ True))))) := by
 kernel_rfl
theorem dwalk0_vc (t:List TwigG) (m v:Int):(vcFun EP0 20 44 [treeA t,.int .i64 m,intsA []] .nil 0 (retP 3 (.int .i64 v))).sat=( m=v):=by
 kernel_rfl
theorem dwalk_vc (t:List TwigG) (a:Int) (r:List Int) (m:Int) (ks:List Int) (v:Int):(vcFun (EDW t a r ks) 20 44 [treeA t,.int .i64 m,intsA (a::r)] .nil 0 (retP 3 (.int .i64 v))).sat=( NB (decide ((0:Int)≤m∧m<(↑t.length:Int))) ((∃ (i:Nat),(i≤ks.length∧∀ (j:Nat),j<i→pathF t a r (ks.getD j (0:Int))=[])∧((intsA (a::r)).sub (intsA (a::r))∧((0:Nat)=(0:Nat)∧(0:Nat)=(0:Nat)∧(0:Nat)=(0:Nat))∧((t.getD m.toNat twigD).kids.length=ks.length∧(∀ (i:Nat),i<(t.getD m.toNat twigD).kids.length→(t.getD m.toNat twigD).kids.getD i (0:Int)=ks.getD i (0:Int)∧(1:Nat)=(1:Nat))∧(false=true→false=true))∧(0:Int)=(↑i:Int)∧True)∧((0:Nat)=(0:Nat)∧(true=true→true=true)∧((treeA t).sub (treeA t)∧(treeA t).cells.length=(treeA t).cells.length)∧True)∧True)∧∀ (i:Nat),(i≤ks.length∧∀ (j:Nat),j<i→pathF t a r (ks.getD j (0:Int))=[])→VB (decide ((↑i:Int)<(↑ks.length:Int))) (NB (decide ((0:Int)≤(↑i:Int)∧(↑i:Int)<(↑ks.length:Int))) (NB (decide ((0:Int)≤ks.getD (↑i:Int).toNat (0:Int)∧ks.getD (↑i:Int).toNat (0:Int)<(↑t.length:Int))) (NB (decide ((0:Int)≤(0:Int)∧(0:Int)<(↑(a::r).length:Int))) (VB ((t.getD (ks.getD (↑i:Int).toNat (0:Int)).toNat twigD).slot.fst==a) (NB (decide ((0:Int)≤(↑i:Int)∧(↑i:Int)<(↑ks.length:Int))) (NB (decide ((0:Int)≤(1:Int)∧(1:Int)≤(↑(a::r).length:Int)∧(↑(a::r).length:Int)≤(↑(a::r).length:Int))) (NB (asB [AV.agg [AV.rof t.length (fun (k:Nat)=>twigA (t.getD k twigD)) false]] [treeA t]&&asB [AV.rof ((↑(a::r).length:Int).toNat - Int.toNat (1:Int)) (fun (k:Nat)=>AV.int IntKind.i64 ((a::r).getD (Int.toNat (1:Int)+k) (0:Int))) false] [intsA r]&&decide ((0:Int)≤ks.getD (↑i:Int).toNat (0:Int)∧ks.getD (↑i:Int).toNat (0:Int)<(↑t.length:Int))) (VB (decide (headI (pathsL t r (ks.getD (↑i:Int).toNat (0:Int)))≥(0:Int))) (headI (pathsL t r (ks.getD (↑i:Int).toNat (0:Int)))=v) (∃ (i':Nat),(i'≤ks.length∧∀ (j:Nat),j<i'→pathF t a r (ks.getD j (0:Int))=[])∧(invDW t a r ks).μ i'<(invDW t a r ks).μ i∧((intsA (a::r)).sub (intsA (a::r))∧((0:Nat)=(0:Nat)∧(0:Nat)=(0:Nat)∧(0:Nat)=(0:Nat))∧(intsA ks).sub (intsA ks)∧IntKind.i64.wrap ((↑i:Int)+(1:Int))=(↑i':Int)∧True)∧((0:Nat)=(0:Nat)∧(true=true→true=true)∧((treeA t).sub (treeA t)∧(treeA t).cells.length=(treeA t).cells.length)∧True)∧True))))) (∃ (i':Nat),(i'≤ks.length∧∀ (j:Nat),j<i'→pathF t a r (ks.getD j (0:Int))=[])∧(invDW t a r ks).μ i'<(invDW t a r ks).μ i∧((intsA (a::r)).sub (intsA (a::r))∧((0:Nat)=(0:Nat)∧(0:Nat)=(0:Nat)∧(0:Nat)=(0:Nat))∧(intsA ks).sub (intsA ks)∧IntKind.i64.wrap ((↑i:Int)+(1:Int))=(↑i':Int)∧True)∧((0:Nat)=(0:Nat)∧(true=true→true=true)∧((treeA t).sub (treeA t)∧(treeA t).cells.length=(treeA t).cells.length)∧True)∧True))))) ((-1:Int)=v))):=by
 kernel_rfl
theorem dwalkT_vc (t:List TwigG) (l:List Int) (n r:Int):(vcFun (EDx t l) 20 24 [treeA t,intsA l] .nil 0 (retP 3 (.tup [.int .i64 n,.int .i64 r]))).sat=( NB (isTree (AV.agg [AV.rof t.length (fun (k:Nat)=>twigA (t.getD k twigD)) false])&&shortT (treeDec (AV.agg [AV.rof t.length (fun (k:Nat)=>twigA (t.getD k twigD)) false]))) (VB (checkE (treeDec (AV.agg [AV.rof t.length (fun (k:Nat)=>twigA (t.getD k twigD)) false]))!=(0:Int)) ((0:Int)=n∧checkE (treeDec (AV.agg [AV.rof t.length (fun (k:Nat)=>twigA (t.getD k twigD)) false]))=r∧True) (NB (asB [AV.agg [AV.rof t.length (fun (k:Nat)=>twigA (t.getD k twigD)) false]] [treeA t]&&asB [AV.rof l.length (fun (k:Nat)=>AV.int IntKind.i64 (l.getD k (0:Int))) false] [intsA l]&&decide ((0:Int)≤(0:Int)∧(0:Int)<(↑t.length:Int))) (VB (decide (headI (pathsL t l (0:Int))<(0:Int))) ((0:Int)=n∧(7:Int)=r∧True) (headI (pathsL t l (0:Int))=n∧(0:Int)=r∧True))))):=by
 kernel_rfl
theorem dbegins_vc (t:List TwigG) (a:Int) (ks:List Int) (M:List Int) (r:Int):(vcFun (EDB t a ks) 20 20 [treeA t,.int .i64 a] .nil 0 (retP 3 (.tup [intsA M,.int .i64 r]))).sat=( NB (isTree (AV.agg [AV.rof t.length (fun (k:Nat)=>twigA (t.getD k twigD)) false])&&shortT (treeDec (AV.agg [AV.rof t.length (fun (k:Nat)=>twigA (t.getD k twigD)) false]))) (VB (checkE (treeDec (AV.agg [AV.rof t.length (fun (k:Nat)=>twigA (t.getD k twigD)) false]))!=(0:Int)) (M.length=(0:Nat)∧checkE (treeDec (AV.agg [AV.rof t.length (fun (k:Nat)=>twigA (t.getD k twigD)) false]))=r∧True) ((∃ (i:Nat×Nat),i.fst.le ks.length∧(a=a∧((0:Nat)=(0:Nat)∧(0:Nat)=(0:Nat)∧(0:Nat)=(0:Nat))∧((begK t a ks i.fst).length=(0:Nat)∧i.snd=i.snd∧(begK t a ks i.fst).length=(0:Nat))∧(0:Int)=(↑i.fst:Int)∧True)∧((0:Nat)=(0:Nat)∧(true=true→true=true)∧((treeA t).sub (treeA t)∧(treeA t).cells.length=(treeA t).cells.length)∧True)∧(begK t a ks i.fst).length=(0:Nat)∧True)∧∀ (i:Nat×Nat),i.fst.le ks.length→NB (decide ((0:Int)≤(0:Int)∧(0:Int)<(↑t.length:Int))) (VB (decide ((↑i.fst:Int)<(↑(t.getD (Int.toNat (0:Int)) twigD).kids.length:Int))) (NB (decide ((0:Int)≤(0:Int)∧(0:Int)<(↑t.length:Int))) (NB (decide ((0:Int)≤(↑i.fst:Int)∧(↑i.fst:Int)<(↑(t.getD (Int.toNat (0:Int)) twigD).kids.length:Int))) (NB (decide ((0:Int)≤(t.getD (Int.toNat (0:Int)) twigD).kids.getD (↑i.fst:Int).toNat (0:Int)∧(t.getD (Int.toNat (0:Int)) twigD).kids.getD (↑i.fst:Int).toNat (0:Int)<(↑t.length:Int))) (VB ((t.getD ((t.getD (Int.toNat (0:Int)) twigD).kids.getD (↑i.fst:Int).toNat (0:Int)).toNat twigD).slot.fst==a) (NB (decide ((0:Int)≤(0:Int)∧(0:Int)<(↑t.length:Int))) (NB (decide ((0:Int)≤(↑i.fst:Int)∧(↑i.fst:Int)<(↑(t.getD (Int.toNat (0:Int)) twigD).kids.length:Int))) (NB (true&&decide (i.snd=i.snd)&&room ((begK t a ks i.fst).length+(1:Nat)) (8:Nat)) (∃ (i':Nat×Nat),i'.fst.le ks.length∧(invDB t a ks).μ i'<(invDB t a ks).μ i∧(a=a∧((0:Nat)=(0:Nat)∧(0:Nat)=(0:Nat)∧(0:Nat)=(0:Nat))∧(i.snd+(1:Nat)=i'.snd∧(0:Nat)=(0:Nat)∧(begK t a ks i.fst).length+(1:Nat)=(begK t a ks i'.fst).length∧(@Eq (Option Nat) none none∨@Eq (Option Nat) none none))∧IntKind.i64.wrap ((↑i.fst:Int)+(1:Int))=(↑i'.fst:Int)∧True)∧((0:Nat)=(0:Nat)∧(true=true→true=true)∧((treeA t).sub (treeA t)∧(treeA t).cells.length=(treeA t).cells.length)∧True)∧(i.snd+(1:Nat)=i'.snd∧(true=true→true=true)∧(begK t a ks i.fst).length+(1:Nat)=(begK t a ks i'.fst).length∧∀ (i_1:Nat),i_1<(begK t a ks i.fst).length+(1:Nat)→(if i_1<(begK t a ks i.fst).length then AV.int IntKind.i64 ((begK t a ks i.fst).getD ((0:Nat)+i_1) (0:Int)) else ((Sq.lst [AV.int IntKind.i64 ((t.getD (Int.toNat (0:Int)) twigD).kids.getD (↑i.fst:Int).toNat (0:Int))]).sub (0:Nat) (1:Nat)).get (i_1 - (begK t a ks i.fst).length)).sub (AV.int IntKind.i64 ((begK t a ks i'.fst).getD i_1 (0:Int)))∧(if i_1<(begK t a ks i.fst).length then AV.int IntKind.i64 ((begK t a ks i.fst).getD ((0:Nat)+i_1) (0:Int)) else ((Sq.lst [AV.int IntKind.i64 ((t.getD (Int.toNat (0:Int)) twigD).kids.getD (↑i.fst:Int).toNat (0:Int))]).sub (0:Nat) (1:Nat)).get (i_1 - (begK t a ks i.fst).length)).cells.length=[AV.int IntKind.i64 ((begK t a ks i'.fst).getD i_1 (0:Int))].length)∧True)))) (∃ (i':Nat×Nat),i'.fst.le ks.length∧(invDB t a ks).μ i'<(invDB t a ks).μ i∧(a=a∧((0:Nat)=(0:Nat)∧(0:Nat)=(0:Nat)∧(0:Nat)=(0:Nat))∧(i.snd=i'.snd∧(0:Nat)=(0:Nat)∧(begK t a ks i.fst).length=(begK t a ks i'.fst).length∧(@Eq (Option Nat) none none∨@Eq (Option Nat) none none))∧IntKind.i64.wrap ((↑i.fst:Int)+(1:Int))=(↑i'.fst:Int)∧True)∧((0:Nat)=(0:Nat)∧(true=true→true=true)∧((treeA t).sub (treeA t)∧(treeA t).cells.length=(treeA t).cells.length)∧True)∧(i.snd=i'.snd∧(true=true→true=true)∧(begK t a ks i.fst).length=(begK t a ks i'.fst).length∧∀ (i_1:Nat),i_1<(begK t a ks i.fst).length→(begK t a ks i.fst).getD i_1 (0:Int)=(begK t a ks i'.fst).getD i_1 (0:Int)∧(1:Nat)=(1:Nat))∧True))))) (NB (decide (i.snd=i.snd)&&true) (((begK t a ks i.fst).length=M.length∧(∀ (i_1:Nat),i_1<(begK t a ks i.fst).length→(begK t a ks i.fst).getD ((0:Nat)+i_1) (0:Int)=M.getD i_1 (0:Int)∧(1:Nat)=(1:Nat))∧(false=true→decide (none=some (begK t a ks i.fst).length)=true))∧(0:Int)=r∧True)))))):=by
 kernel_rfl
end Go.Proofs.Ytlnpgnipocbfhaa
namespace Go.Proofs.Ytlnpgnipocbfhaa
open Pw Go
set_option maxRecDepth 100000
set_option linter.unusedSimpArgs false
noncomputable def walkE (t:List TwigG) (l:List Int):Int×Int:=if checkE t≠0 then (0,checkE t) else if pathsL t l 0=[] then (0,7) else (headI (pathsL t l 0),0)
noncomputable def beginsE (t:List TwigG) (a:Int):List Int×Int:=if checkE t≠0 then ([],checkE t) else (pathsL t [a] 0,0)
theorem check_kids {t:List TwigG} (h:checkE t=0):0<t.length∧kidsIn t:=by
 obtain ⟨hm,_⟩:=ofT_made (check_made h)
 refine ⟨hm.trie.pos,fun i hi k hk=>?_⟩
 have:=hm.trie.kid i hi k hk
 omega
theorem shortT_kids {t:List TwigG} (h:shortT t=true) (i:Nat):(t.getD i twigD).kids.length≤1000000:=by
 simp only [shortT,Bool.and_eq_true,List.all_eq_true,decide_eq_true_eq] at h
 rcases Nat.lt_or_ge i t.length with h1|h1
 ·exact (h.2 _ (getD_mem h1)).2
 ·rw [getD_out h1]
  exact Nat.zero_le _
theorem pathsL_mem {t:List TwigG} (hk:kidsIn t):∀ (l:List Int) (m:Int),0≤m→m<t.length→∀ x∈pathsL t l m,0≤x∧x<t.length
 | [],m,h0,h1,x,hx=>by
  have:x=m:=by simpa [pathsL] using hx
  subst this
  exact ⟨h0,h1⟩
 | a::r,m,h0,h1,x,hx=>by
  obtain ⟨L,hL,hx⟩:=List.mem_flatten.1 hx
  obtain ⟨k,hkm,rfl⟩:=List.mem_map.1 hL
  have:=hk m.toNat (by omega) k hkm
  split at hx
  ·exact pathsL_mem hk r k this.1 this.2 x hx
  ·cases hx
theorem head_mem {l:List Int} (h:l≠[]):headI l∈l:=by
 cases l with
 | nil=>exact (h rfl).elim
 | cons x l=>exact List.mem_cons_self
theorem head_neg {t:List TwigG} (hk:kidsIn t) {l:List Int} {m:Int} (h0:0≤m) (h1:m<t.length):headI (pathsL t l m)<0 ↔ pathsL t l m=[]:=by
 refine ⟨fun h=>?_,fun h=>by rw [h]; exact (by decide:(-1:Int)<0)⟩
 rcases Decidable.em (pathsL t l m=[]) with k|k
 ·exact k
 ·have:=pathsL_mem hk l m h0 h1 _ (head_mem k)
  omega
theorem EPW_ok {t:List TwigG} (hk:kidsIn t) (hs:shortT t=true) (l:List Int) (hl:l.length≤1000000):CtrOK (EPW t l) :=
 ⟨(mkE_ctr (P:=Try.prog) (inv:=fun _ _=>none) (tbl_cons checkT_ok (tbl_nil _))).1,itV_ok fun m h0 h1=>paths_iter t hk l m h0 h1 hl (shortT_kids hs)⟩
theorem pwalk_pure (t:List TwigG) (l:List Int) (n r:Int) (hs:shortT t=true) (hl:l.length≤1000000) (hc:checkE t=0) (hr:walkE t l=(n,r)):PureC Try.prog gU 23 [treeA t,intsA l] (.tup [.int .i64 n,.int .i64 r]):=by
 obtain ⟨hp,hk⟩:=check_kids hc
 refine PureC.of_vc (E:=EPW t l) (k:=20) (d:=3) mix (EPW_ok hk hs l hl) ((pwalk_vc t l n r).mpr ?_)
 have hT:treeDec (AV.agg [AV.rof t.length (fun (k:Nat)=>twigA (t.getD k twigD)) false])=t:=treeDec_self t
 have hI:isTree (AV.agg [AV.rof t.length (fun (k:Nat)=>twigA (t.getD k twigD)) false])=true:=isTree_self t
 rw [hT,hI]
 unfold walkE at hr
 rw [if_neg (by simpa using hc)] at hr
 refine NB_intro (by rw [hs]; rfl) (VB_intro (fun h=>?_) (fun _=>?_))
 ·rw [hc] at h
  cases h
 refine NB_intro ?_ ⟨⟨0,rfl,rfl,?_⟩,fun i hi=>?_,fun i hi=>?_⟩
 ·simp only [Bool.and_true]
  rw [Bool.and_eq_true,Bool.and_eq_true,Bool.and_eq_true]
  exact ⟨⟨⟨asB_t ⟨sub_ints l,trivial⟩,asB_t ⟨sub_tree t,trivial⟩⟩,decide_eq_true ⟨by omega,by omega⟩⟩,by kernel_rfl⟩
 ·repeat' (first|exact sub_tree _|exact trivial|exact rfl|exact fun h=>h|refine And.intro ?_ ?_)
 ·obtain ⟨rfl,h1⟩:=hi
  have h1:0<(pathsL t l 0).length:=h1
  have h2:pathsL t l 0≠[]:=fun e=>by rw [e] at h1; exact absurd h1 (Nat.lt_irrefl _)
  rw [if_neg h2] at hr
  simp only [Prod.mk.injEq] at hr
  obtain ⟨rfl,rfl⟩:=hr
  refine ⟨?_,rfl,trivial⟩
  show (pathsL t l 0).getD 0 0=_
  cases hq:pathsL t l 0 with
  | nil=>exact (h2 hq).elim
  | cons x y=>rfl
 ·obtain ⟨rfl,h1⟩:=hi
  have h1:0=(pathsL t l 0).length:=h1
  rw [if_pos (List.eq_nil_of_length_eq_zero h1.symm)] at hr
  simp only [Prod.mk.injEq] at hr
  obtain ⟨rfl,rfl⟩:=hr
  exact ⟨rfl,rfl,trivial⟩
theorem itVR_ok {t:List TwigG} {l:List Int} (h:∀ m:Int,0≤m→m<t.length→IterC Try.prog gU 60 [] [.rptr (intsA l) 0,.rptr (.int .i64 m) 0,.rptr (treeA t) 0] (itP t l m true)) :
  ∀ f first cap it,itVR t l f first cap=some it→it.nd=true→IterC Try.prog gU f first cap it:=by
 intro f first cap it e hnd
 unfold itVR at e
 split at e
 ·rename_i hf
  subst hf
  split at e
  ·rename_i y ex m x
   cases e
   simp only [itP,Bool.and_eq_true,decide_eq_true_eq] at hnd
   obtain ⟨⟨h1,h2⟩,h3,h4⟩:=hnd
   have e1:=(asB_i.1 h1).1
   have e2:=(asB_i.1 h2).1
   simp only [h1,h2,h3,h4,and_self,decide_true,Bool.and_self]
   have hl:x.length=1:=by
    match x,e2 with
    | [y],_=>rfl
    | [],e2=>exact e2.elim
    | y::z::w,e2=>exact e2.2.elim
   refine caps_sub (cap':=[.rptr (intsA l) 0,.rptr (.int .i64 m) 0,.rptr (treeA t) 0]) ⟨⟨⟨e1,rfl⟩,rfl⟩,⟨⟨rfl,rfl⟩,rfl⟩,⟨⟨e2,?_⟩,rfl⟩,trivial⟩ (h m h3 h4)
   show x.length=1
   exact hl
  ·cases e
 ·cases e
theorem EPB_ok {t:List TwigG} (hk:kidsIn t) (hs:shortT t=true) (a:Int) (L:List Int):CtrOK (EPB t a L) :=
 ⟨(mkE_ctr (P:=Try.prog) (inv:=fun _ _=>none) (tbl_cons checkT_ok (tbl_nil _))).1,itVR_ok fun m h0 h1=>paths_iter t hk [a] m h0 h1 (by simp) (shortT_kids hs)⟩
theorem pathsL_short {t:List TwigG} (a:Int) (ks:List Int):(ks.map fun k=>if (t.getD k.toNat twigD).slot.1=a then pathsL t [] k else []).flatten=ks.filter fun k=>decide ((t.getD k.toNat twigD).slot.1=a):=by
 induction ks with
 | nil=>rfl
 | cons k ks ih =>
  rw [List.map_cons,List.flatten_cons,ih]
  by_cases h:(t.getD k.toNat twigD).slot.1=a
  ·rw [if_pos h,List.filter_cons_of_pos (by simpa using h)]
   rfl
  ·rw [if_neg h,List.filter_cons_of_neg (by simpa using h)]
   rfl
theorem begK_all (t:List TwigG) (a:Int):pathsL t [a] 0=begK t a (t.getD (Int.toNat (0:Int)) twigD).kids (t.getD (Int.toNat (0:Int)) twigD).kids.length:=by
 unfold begK
 rw [List.take_length]
 exact pathsL_short a _
theorem pbegins_pure (t:List TwigG) (a:Int) (M:List Int) (r:Int) (hs:shortT t=true) (hc:checkE t=0) (hr:beginsE t a=(M,r)):PureC Try.prog gU 19 [treeA t,.int .i64 a] (.tup [intsA M,.int .i64 r]):=by
 obtain ⟨hp,hk⟩:=check_kids hc
 refine PureC.of_vc (E:=EPB t a (pathsL t [a] 0)) (k:=20) (d:=3) mix (EPB_ok hk hs a _) ((pbegins_vc t a _ M r).mpr ?_)
 have hT:treeDec (AV.agg [AV.rof t.length (fun (k:Nat)=>twigA (t.getD k twigD)) false])=t:=treeDec_self t
 have hI:isTree (AV.agg [AV.rof t.length (fun (k:Nat)=>twigA (t.getD k twigD)) false])=true:=isTree_self t
 show NB _ _
 rw [hT,hI]
 unfold beginsE at hr
 rw [if_neg (by simpa using hc)] at hr
 simp only [Prod.mk.injEq] at hr
 obtain ⟨rfl,rfl⟩:=hr
 have hlen:(pathsL t [a] 0).length≤1000000:=by
  rw [begK_all]
  unfold begK
  rw [List.take_length]
  exact Nat.le_trans (List.length_filter_le _ _) (shortT_kids hs _)
 refine NB_intro (by rw [hs]; rfl) (VB_intro (fun h=>?_) (fun _=>?_))
 ·rw [hc] at h
  cases h
 refine NB_intro ?_ ⟨⟨(0,0),Nat.zero_le _,rfl,?_⟩,fun p hi=>?_,fun p hi=>?_⟩
 ·simp only [Bool.and_true]
  rw [Bool.and_eq_true,Bool.and_eq_true,Bool.and_eq_true]
  exact ⟨⟨⟨asB_t ⟨⟨rfl,⟨⟨rfl,rfl⟩,trivial⟩,fun h=>by cases h⟩,trivial⟩,asB_t ⟨sub_tree t,trivial⟩⟩,decide_eq_true ⟨by omega,by omega⟩⟩,by kernel_rfl⟩
 ·repeat' (first|exact sub_tree _|exact trivial|exact rfl|exact fun h=>h|refine And.intro ?_ ?_)
 ·obtain ⟨j,g⟩:=p
  obtain ⟨_,h1⟩:=hi
  have h1:j<(pathsL t [a] 0).length:=h1
  have hroom:room (j+1) 8=true:=decide_eq_true ⟨by omega,by omega⟩
  refine NB_intro (by dsimp only; rw [hroom]; simp) ⟨(j+1,g+1),(show j+1≤_ by omega),rfl,?_⟩
  repeat' (first|exact sub_tree _|exact trivial|exact rfl|exact Or.inl rfl|exact fun h=>h|refine And.intro ?_ ?_)
  intro k hk2
  by_cases hin:k<j
  ·repeat rw [if_pos hin]
   rw [Nat.zero_add]
   exact ⟨rfl,rfl⟩
  ·obtain rfl:k=j:=by
    have:k<j+1:=hk2
    omega
   repeat rw [if_neg hin]
   rw [Nat.sub_self]
   exact ⟨rfl,rfl⟩
 ·obtain ⟨j,g⟩:=p
  obtain ⟨_,h1⟩:=hi
  have h1:j=(pathsL t [a] 0).length:=h1
  refine NB_intro (by simp) ⟨⟨h1,fun k _=>?_,fun h=>by cases h⟩,rfl,trivial⟩
  rw [Nat.zero_add]
  exact ⟨rfl,rfl⟩
theorem head_flat:∀ (L:List (List Int)) (i:Nat),i<L.length→(∀ j,j<i→L.getD j []=[])→L.getD i []≠[]→headI L.flatten=headI (L.getD i [])
 | [],_,h,_,_=>by simp at h
 | x::L,0,_,_,h=>by
  have h:x≠[]:=h
  cases x with
  | nil=>exact (h rfl).elim
  | cons y z=>rfl
 | x::L,i+1,hi,hj,h=>by
  have h0:x=[]:=hj 0 (by omega)
  subst h0
  have:=head_flat L i (by simpa using hi) (fun j hj2=>hj (j+1) (by omega)) h
  rw [List.flatten_cons,List.nil_append,this]
  rfl
theorem flat_nil (L:List (List Int)) (h:∀ x∈L,x=[]):L.flatten=[]:=List.flatten_eq_nil_iff.2 h
theorem wk_ok {t:List TwigG} {r:List Int} (h:∀ m:Int,0≤m→m<t.length→PureC Try.prog gU 44 [treeA t,.int .i64 m,intsA r] (.int .i64 (headI (pathsL t r m)))):PureF Try.prog 44 (cWk t r):=by
 intro args nd v he hnd
 unfold cWk at he
 split at he <;> cases he
 rename_i x k n f ex
 simp only [Bool.and_eq_true,decide_eq_true_eq] at hnd
 obtain ⟨⟨h1,h2⟩,h3,h4⟩:=hnd
 refine PureC.args (args':=[treeA t,.int .i64 k,intsA r]) rfl (fun i hi=>?_) (h k h3 h4)
 match i,hi with
 | 0,_=>exact (asB_i.1 h1).1
 | 1,_=>exact rfl
 | 2,_=>exact (asB_i.1 h2).1
theorem dwalk_pure (t:List TwigG) (hk:kidsIn t) (hkl:∀ i,(t.getD i twigD).kids.length≤1000000):∀ (l:List Int) (m:Int),0≤m→m<t.length→l.length≤1000000→PureC Try.prog gU 44 [treeA t,.int .i64 m,intsA l] (.int .i64 (headI (pathsL t l m)))
 | [],m,h0,h1,_=>PureC.of_vc (E:=EP0) (k:=20) (d:=3) mix EP0_ok ((dwalk0_vc t m _).mpr rfl)
 | a::r,m,h0,h1,hl=>by
  have hlr:r.length+1≤1000000:=hl
  have IH:=fun m h0 h1=>dwalk_pure t hk hkl r m h0 h1 (by omega)
  refine PureC.of_vc (E:=EDW t a r (t.getD m.toNat twigD).kids) (k:=20) (d:=3) mix (mkE_ctr (tbl_cons (wk_ok IH) (tbl_nil _))) ((dwalk_vc t a r m (t.getD m.toNat twigD).kids _).mpr ?_)
  have hkm:=hk m.toNat (by omega)
  have hkm2:=hkl m.toNat
  have hP:pathsL t (a::r) m=((t.getD m.toNat twigD).kids.map (pathF t a r)).flatten:=rfl
  rw [hP]
  generalize (t.getD m.toNat twigD).kids=ks at *
  refine NB_intro (decide_eq_true ⟨h0,h1⟩) ⟨⟨0,⟨Nat.zero_le _,fun j hj=>absurd hj (Nat.not_lt_zero _)⟩,?_⟩,fun i hpre=>?_⟩
  ·repeat' (first|exact sub_ints _|exact sub_tree _|exact trivial|exact rfl|exact fun h=>h|exact fun _ _=>⟨rfl,rfl⟩|refine And.intro ?_ ?_)
  obtain ⟨hi,hpre⟩:=hpre
  refine VB_intro (fun h=>?_) (fun h=>?_)
  ·have h2:i<ks.length:=by
    have:=of_decide_eq_true h
    omega
   obtain ⟨k1,k2⟩:=hkm _ (getD_mem (d:=0) h2)
   have hW:IntKind.i64.wrap ((i:Int)+1)=((i+1:Nat):Int):=by rw [wrap_i64_id (by omega) (by omega)]; omega
   have next:pathF t a r (ks.getD i 0)=[]→∀ j,j<i+1→pathF t a r (ks.getD j 0)=[]:=fun e j hj=>by
    rcases Nat.lt_or_ge j i with h5|h5
    ·exact hpre j h5
    ·obtain rfl:j=i:=by omega
     exact e
   rw [show (Int.toNat (i:Int))=i from rfl]
   refine NB_intro (by simp; omega) (NB_intro (decide_eq_true ⟨k1,k2⟩) (NB_intro (decide_eq_true ⟨by omega,(show (0:Int)<((r.length+1:Nat):Int) by omega)⟩) (VB_intro (fun h3=>?_) (fun h3=>?_))))
   ·have h4:pathF t a r (ks.getD i 0)=pathsL t r (ks.getD i 0):=by
     unfold pathF
     rw [if_pos (by simpa using h3)]
    refine NB_intro (by simp; omega) (NB_intro (decide_eq_true ⟨by omega,(show (1:Int)≤((r.length+1:Nat):Int) by omega),by omega⟩) (NB_intro ?_ (VB_intro (fun h5=>?_) (fun h5=>?_))))
    ·rw [Bool.and_eq_true,Bool.and_eq_true]
     exact ⟨⟨asB_t ⟨sub_tree t,trivial⟩,asB_t ⟨tail_sub a r,trivial⟩⟩,decide_eq_true ⟨k1,k2⟩⟩
    ·have h6:=of_decide_eq_true h5
     have h7:pathsL t r (ks.getD i 0)≠[]:=fun e=>by
      rw [e] at h6
      exact absurd h6 (by decide)
     have:=head_flat (ks.map (pathF t a r)) i (by simpa using h2) (fun j hj=>by rw [pathF_at (by omega)]; exact hpre j hj) (by rw [pathF_at h2,h4]; exact h7)
     rw [pathF_at h2,h4] at this
     exact this.symm
    ·have h6:=of_decide_eq_false h5
     have h7:=(head_neg hk (l:=r) k1 k2).1 (by omega)
     refine ⟨i+1,⟨by omega,next (by rw [h4,h7])⟩,(show ks.length - (i+1)<ks.length - i by omega),?_⟩
     repeat' (first|exact sub_ints _|exact sub_tree _|exact trivial|exact rfl|exact hW|exact fun h=>h|refine And.intro ?_ ?_)
   ·have h4:pathF t a r (ks.getD i 0)=[]:=by
     unfold pathF
     rw [if_neg (by simpa using h3)]
    refine ⟨i+1,⟨by omega,next h4⟩,(show ks.length - (i+1)<ks.length - i by omega),?_⟩
    repeat' (first|exact sub_ints _|exact sub_tree _|exact trivial|exact rfl|exact hW|exact fun h=>h|refine And.intro ?_ ?_)
  ·have h2:i=ks.length:=by
    have:=of_decide_eq_false h
    omega
   subst h2
   rw [flat_nil]
   ·rfl
   ·intro x hx
    obtain ⟨k,hk2,rfl⟩:=List.mem_map.1 hx
    obtain ⟨j,hj,e⟩:=List.getElem_of_mem hk2
    have:=hpre j hj
    have e2:ks.getD j 0=k:=by simp [List.getD,hj,e]
    rwa [e2] at this
theorem dwalkT_pure (t:List TwigG) (l:List Int) (n r:Int) (hs:shortT t=true) (hl:l.length≤1000000) (hc:checkE t=0) (hr:walkE t l=(n,r)):PureC Try.prog gU 24 [treeA t,intsA l] (.tup [.int .i64 n,.int .i64 r]):=by
 obtain ⟨hp,hk⟩:=check_kids hc
 refine PureC.of_vc (E:=EDx t l) (k:=20) (d:=3) mix (mkE_ctr (tbl_cons dcheck_ok (tbl_cons (wk_ok fun m h0 h1=>dwalk_pure t hk (shortT_kids hs) l m h0 h1 hl) (tbl_nil _)))) ((dwalkT_vc t l n r).mpr ?_)
 have hT:treeDec (AV.agg [AV.rof t.length (fun (k:Nat)=>twigA (t.getD k twigD)) false])=t:=treeDec_self t
 have hI:isTree (AV.agg [AV.rof t.length (fun (k:Nat)=>twigA (t.getD k twigD)) false])=true:=isTree_self t
 rw [hT,hI]
 unfold walkE at hr
 rw [if_neg (by simpa using hc)] at hr
 refine NB_intro (by rw [hs]; rfl) (VB_intro (fun h=>?_) (fun _=>NB_intro ?_ (VB_intro (fun h=>?_) (fun h=>?_))))
 ·rw [hc] at h
  cases h
 ·rw [Bool.and_eq_true,Bool.and_eq_true]
  exact ⟨⟨asB_t ⟨sub_tree t,trivial⟩,asB_t ⟨sub_ints l,trivial⟩⟩,decide_eq_true ⟨by omega,by omega⟩⟩
 ·rw [if_pos ((head_neg hk (by omega) (by omega)).1 (of_decide_eq_true h))] at hr
  simp only [Prod.mk.injEq] at hr
  exact ⟨hr.1,hr.2,trivial⟩
 ·rw [if_neg (fun e=>of_decide_eq_false h ((head_neg hk (by omega) (by omega)).2 e))] at hr
  simp only [Prod.mk.injEq] at hr
  exact ⟨hr.1,hr.2,trivial⟩
theorem begK_succ {t:List TwigG} {a:Int} {ks:List Int} {i:Nat} (hi:i<ks.length):begK t a ks (i+1)=if (t.getD (ks.getD i 0).toNat twigD).slot.1=a then begK t a ks i++[ks.getD i 0] else begK t a ks i:=by
 unfold begK
 rw [take_succ' 0 hi,List.filter_append]
 by_cases h:(t.getD (ks.getD i 0).toNat twigD).slot.1=a
 ·rw [if_pos h,List.filter_cons_of_pos (by simpa using h)]
  rfl
 ·rw [if_neg h,List.filter_cons_of_neg (by simpa using h),List.filter_nil,List.append_nil]
theorem dbegins_pure (t:List TwigG) (a:Int) (M:List Int) (r:Int) (hs:shortT t=true) (hc:checkE t=0) (hr:beginsE t a=(M,r)):PureC Try.prog gU 20 [treeA t,.int .i64 a] (.tup [intsA M,.int .i64 r]):=by
 obtain ⟨hp,hk⟩:=check_kids hc
 refine PureC.of_vc (E:=EDB t a (t.getD (Int.toNat (0:Int)) twigD).kids) (k:=20) (d:=3) mix (mkE_ctr (tbl_cons dcheck_ok (tbl_nil _))) ((dbegins_vc t a _ M r).mpr ?_)
 have hT:treeDec (AV.agg [AV.rof t.length (fun (k:Nat)=>twigA (t.getD k twigD)) false])=t:=treeDec_self t
 have hI:isTree (AV.agg [AV.rof t.length (fun (k:Nat)=>twigA (t.getD k twigD)) false])=true:=isTree_self t
 rw [hT,hI]
 unfold beginsE at hr
 rw [if_neg (by simpa using hc)] at hr
 simp only [Prod.mk.injEq] at hr
 obtain ⟨rfl,rfl⟩:=hr
 rw [begK_all]
 have hkm:=hk 0 hp
 have hkl:=shortT_kids hs 0
 change ∀ k∈(t.getD (Int.toNat (0:Int)) twigD).kids,0≤k∧k<t.length at hkm
 change (t.getD (Int.toNat (0:Int)) twigD).kids.length≤1000000 at hkl
 generalize (t.getD (Int.toNat (0:Int)) twigD).kids=ks at *
 refine NB_intro (by rw [hs]; rfl) (VB_intro (fun h=>?_) (fun _=>⟨⟨(0,0),Nat.zero_le _,?_⟩,fun p hi=>?_⟩))
 ·rw [hc] at h
  cases h
 ·repeat' (first|exact sub_tree _|exact trivial|exact rfl|exact Or.inl rfl|exact fun h=>h|refine And.intro ?_ ?_)
 obtain ⟨i,g⟩:=p
 have hi:i≤ks.length:=hi
 have hbl:(begK t a ks i).length≤i:=Nat.le_trans (List.length_filter_le _ _) (by rw [List.length_take]; omega)
 have hz:decide ((0:Int)≤(0:Int)∧(0:Int)<(t.length:Int))=true:=decide_eq_true ⟨by omega,by omega⟩
 dsimp only
 refine NB_intro hz (VB_intro (fun h=>?_) (fun h=>?_))
 ·have h2:i<ks.length:=by
   have:=of_decide_eq_true h
   omega
  obtain ⟨k1,k2⟩:=hkm _ (getD_mem (d:=0) h2)
  have hW:IntKind.i64.wrap ((i:Int)+1)=((i+1:Nat):Int):=by rw [wrap_i64_id (by omega) (by omega)]; omega
  have hroom:room ((begK t a ks i).length+1) 8=true:=decide_eq_true ⟨by omega,by omega⟩
  have hix:decide ((0:Int)≤(i:Int)∧(i:Int)<(ks.length:Int))=true:=decide_eq_true ⟨by omega,by omega⟩
  have hsu:=begK_succ (t:=t) (a:=a) h2
  rw [show (Int.toNat (i:Int))=i from rfl]
  refine NB_intro hz (NB_intro hix (NB_intro (decide_eq_true ⟨k1,k2⟩) (VB_intro (fun h3=>?_) (fun h3=>?_))))
  ·rw [if_pos (by simpa using h3)] at hsu
   refine NB_intro hz (NB_intro hix (NB_intro (by rw [hroom]; simp) ⟨(i+1,g+1),(show i+1≤ks.length by omega),(show ks.length - (i+1)<ks.length - i by omega),?_⟩))
   dsimp only
   rw [hsu]
   generalize begK t a ks i=B at *
   have hal:B.length+1=(B++[ks.getD i 0]).length:=by simp
   repeat' (first|exact sub_tree _|exact trivial|exact rfl|exact hW|exact hal|exact Or.inl rfl|exact fun h=>h|refine And.intro ?_ ?_)
   intro k hk2
   by_cases hin:k<B.length
   ·repeat rw [if_pos hin]
    rw [Nat.zero_add]
    have e:(B++[ks.getD i 0]).getD k 0=B.getD k 0:=by simp [List.getD,List.getElem?_append_left hin]
    rw [e]
    exact ⟨rfl,rfl⟩
   ·obtain rfl:k=B.length:=by omega
    repeat rw [if_neg hin]
    rw [Nat.sub_self]
    have e:(B++[ks.getD i 0]).getD B.length 0=ks.getD i 0:=by simp [List.getD]
    rw [e]
    exact ⟨rfl,rfl⟩
  ·rw [if_neg (by simpa using h3)] at hsu
   refine ⟨(i+1,g),(show i+1≤ks.length by omega),(show ks.length - (i+1)<ks.length - i by omega),?_⟩
   dsimp only
   rw [hsu]
   repeat' (first|exact sub_tree _|exact trivial|exact rfl|exact hW|exact Or.inl rfl|exact fun h=>h|exact fun _ _=>⟨rfl,rfl⟩|refine And.intro ?_ ?_)
 ·have h2:i=ks.length:=by
   have:=of_decide_eq_false h
   omega
  subst h2
  refine NB_intro (by simp) ⟨⟨rfl,fun k _=>?_,fun h=>by cases h⟩,rfl,trivial⟩
  rw [Nat.zero_add]
  exact ⟨rfl,rfl⟩
end Go.Proofs.Ytlnpgnipocbfhaa
