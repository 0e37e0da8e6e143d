/- FLOW 5: classes that are seen, what can matter, the law FlowSees: conditions. -/
import Derived.Test.YtamcloifhjafcaaDoorFS1
namespace Go.Proofs.YtamcloifhjafcaaDoor
open Pw Go
set_option maxRecDepth 100000
set_option linter.unusedSimpArgs false
def fcB (C : Cls) (x : Int) (j : Nat) : Bool := andNotI .u64 (C.L j) x == 0
def fcS (C : Cls) (x : Int) : Nat → List Int
 | 0 => []
 | i + 1 => if fcB C x i = true then fcS C x i ++ [(i : Int)] else fcS C x i
def invSe (n : Nat) (C : Cls) (x : Int) : Inv := ⟨Nat × Nat, 40, fun p => ⟨[(0, clsA n C), (1, .fn (.func 63) [] [.ptr 0 0 0 0]), (5, .sl 30 p.2 0 (fcS C x p.1).length none), (8, clsA n C), (9, .int .i64 n), (10, .int .i64 p.1)],
 [(0, .row 0 1 true (.lst [.int .u64 x])), (30, .row p.2 1 true (.fn (fcS C x p.1).length (fun k => .int .i64 ((fcS C x p.1).getD k 0))))]⟩, fun p => p.1 ≤ n, fun p => n - p.1⟩
def rsN (A : List AtomG) (l c : Int) : Nat → Nat
 | 0 => 0
 | i + 1 => if andNotI .u64 l (atR (A.getD i atomD) c) == 0 then rsN A l c i + 1 else rsN A l c i
def invRs (A : List AtomG) (l c : Int) : Inv := ⟨Nat × Nat, 40, fun p => ⟨[(0, atsW A), (1, .fn (.func 73) [] [.ptr 1 0 0 0, .ptr 2 0 0 0]), (5, .sl 30 p.2 0 (rsN A l c p.1) none), (8, atsW A), (9, .int .i64 A.length), (10, .int .i64 p.1)],
 [(1, .row 0 1 true (.lst [.int .u64 l])), (2, .row 0 1 true (.lst [.int .u64 c])), (30, .row p.2 1 true (.fn (rsN A l c p.1) (fun _ => .undef)))]⟩, fun p => p.1 ≤ A.length, fun p => A.length - p.1⟩
noncomputable def ERs (x : NodeG) (w : Int) (hs : List HaveG) (es : List AggG) (A : List AtomG) (e s l c : Int) : Env := mkG Tryd.prog gN (tblOf [(57, cAt [qA x w hs es] (.int .i64 e)), (71, cAt [nodeA 16 x] (.tup [atsW A, .int .i64 s]))])
 (fun f b => if f = 72 ∧ b = 0 then some (invRs A l c) else none) 0
def invHs (L : List Int) (x : Int) : Inv := ⟨Nat, 20, fun i => ⟨[(0, iqA L), (1, .int .i64 x), (5, .int .i64 i)], []⟩, fun i => i ≤ L.length ∧ ∀ j, j < i → L.getD j 0 ≠ x, fun i => L.length - i⟩
def iOf : AV → Int
 | .int _ n => n
 | _ => 0
def isI : AV → Bool
 | .int .i64 _ => true
 | _ => false
def intL (x : AV) : List Int := elsOf iOf x
def cHas : Ctr
 | [x, .int .i64 i] => some (isEls isI x && decide ((intL x).length ≤ 1000), .bool (decide (i ∈ intL x)))
 | _ => none
noncomputable def cSeF (m : Nat) (C : Cls) (S : Int → List Int) : Ctr
 | [c, .int .u64 x] => some (atB [c] [clsA m C], .tup [iqA (S x), .int .i64 0])
 | _ => none
noncomputable def cRsF (x : NodeG) (w : Int) (hs : List HaveG) (es : List AggG) (V : Int → Int → Bool) : Ctr
 | [q, .int .u64 l, .int .u64 c] => some (atB [q] [qA x w hs es], .tup [.bool (V l c), .int .i64 0])
 | _ => none
def jnF (C : Cls) : Nat → Int
 | 0 => 0
 | i + 1 => orI .u64 (jnF C i) (C.L i)
def invFS (l : List Int) (m : Nat) (C : Cls) (a lb pt : Int) (S T : List Int) : Inv := ⟨Nat, 60, fun i => ⟨[(1, iqA l), (2, .int .u64 a), (4, .int .u64 lb), (5, .int .u64 pt), (13, clsA m C), (14, iqA S), (16, iqA T), (18, .int .u64 (jnF C i)), (19, .int .i64 i)], []⟩, fun i => i ≤ m, fun i => m - i⟩
noncomputable def tblFS (n : Int) (m : Nat) (C : Cls) (S : Int → List Int) (l : List Int) (x : NodeG) (w : Int) (hs : List HaveG) (es : List AggG) (V : Int → Int → Bool) : List (Nat × Ctr) :=
 [(40, cAt [.int .i64 n] (cfgA m C)), (27, cSeF m C S), (41, cHas), (21, cAt [iqA l] (qA x w hs es)), (42, cRsF x w hs es V), (26, litCtr [([], .bool true)])]
noncomputable def EFS (n : Int) (m : Nat) (C : Cls) (S : Int → List Int) (l : List Int) (x : NodeG) (w : Int) (hs : List HaveG) (es : List AggG) (V : Int → Int → Bool) (a b lb pt : Int) : Env :=
 mkG Tryd.prog gN (tblOf (tblFS n m C S l x w hs es V)) (fun f i => if f = 8 ∧ i = 0 then some (invFS l m C a lb pt (S a) (S (orI .u64 a b))) else none) 0
theorem sees_vc (n : Nat) (C : Cls) (x : Int) : (vcFun (mkG Tryd.prog gN (tblOf []) (fun f b => if f = 62 ∧ b = 0 then some (invSe n C x) else none) 0) 20 27 [clsA n C, .int .u64 x] .nil 0 (retP 3 (.tup [iqA (fcS C x n), .int .i64 0]))).sat = ( VB (decide ((↑n : Int) > (8 : Int))) ((fcS C x n).length = (0 : Nat) ∧ EqI (6 : Int) (0 : Int) ∧ True) ((∃ (i : Nat × Nat), i.fst.le n ∧ ((n = n ∧ (∀ (i : Nat), i < n → (C.L i = C.L i ∧ C.S i = C.S i ∧ C.R i = C.R i ∧ True) ∧ (3 : Nat) = (3 : Nat)) ∧ (false = true → false = true)) ∧ (Fn.func (63 : Nat) = Fn.func (63 : FuncId) ∧ True ∧ ((0 : Nat) = (0 : Nat) ∧ (0 : Nat) = (0 : Nat) ∧ (0 : Nat) = (0 : Nat)) ∧ True) ∧ ((fcS C x i.fst).length = (0 : Nat) ∧ i.snd = i.snd ∧ (fcS C x i.fst).length = (0 : Nat)) ∧ (n = n ∧ (∀ (i : Nat), i < n → (C.L i = C.L i ∧ C.S i = C.S i ∧ C.R i = C.R i ∧ True) ∧ (3 : Nat) = (3 : Nat)) ∧ (false = true → false = true)) ∧ (↑n : Int) = (↑n : Int) ∧ (0 : Int) = (↑i.fst : Int) ∧ True) ∧ ((0 : Nat) = (0 : Nat) ∧ (true = true → true = true) ∧ (x = x ∧ (1 : Nat) = (1 : Nat)) ∧ True) ∧ (fcS C x i.fst).length = (0 : Nat) ∧ True) ∧ ∀ (i : Nat × Nat), i.fst.le n → VB (decide ((↑i.fst : Int) < (↑n : Int))) (NB (decide ((0 : Int) ≤ (↑i.fst : Int) ∧ (↑i.fst : Int) < (↑n : Int))) (VB (andNotI IntKind.u64 (C.L (↑i.fst : Int).toNat) x == (0 : Int)) (NB (true && decide (i.snd = i.snd) && room ((fcS C x i.fst).length + (1 : Nat)) (8 : Nat)) (∃ (i' : Nat × Nat), i'.fst.le n ∧ (invSe n C x).μ i' < (invSe n C x).μ i ∧ ((n = n ∧ (∀ (i : Nat), i < n → (C.L i = C.L i ∧ C.S i = C.S i ∧ C.R i = C.R i ∧ True) ∧ (3 : Nat) = (3 : Nat)) ∧ (false = true → false = true)) ∧ (Fn.func (63 : FuncId) = Fn.func (63 : FuncId) ∧ True ∧ ((0 : Nat) = (0 : Nat) ∧ (0 : Nat) = (0 : Nat) ∧ (0 : Nat) = (0 : Nat)) ∧ True) ∧ (i.snd + (1 : Nat) = i'.snd ∧ (0 : Nat) = (0 : Nat) ∧ (fcS C x i.fst).length + (1 : Nat) = (fcS C x i'.fst).length ∧ (@Eq (Option Nat) none none ∨ @Eq (Option Nat) none none)) ∧ (n = n ∧ (∀ (i : Nat), i < n → (C.L i = C.L i ∧ C.S i = C.S i ∧ C.R i = C.R i ∧ True) ∧ (3 : Nat) = (3 : Nat)) ∧ (false = true → false = true)) ∧ (↑n : Int) = (↑n : Int) ∧ IntKind.i64.wrap ((↑i.fst : Int) + (1 : Int)) = (↑i'.fst : Int) ∧ True) ∧ ((0 : Nat) = (0 : Nat) ∧ (true = true → true = true) ∧ (x = x ∧ (1 : Nat) = (1 : Nat)) ∧ True) ∧ (i.snd + (1 : Nat) = i'.snd ∧ (true = true → true = true) ∧ (fcS C x i.fst).length + (1 : Nat) = (fcS C x i'.fst).length ∧ ∀ (i_1 : Nat), i_1 < (fcS C x i.fst).length + (1 : Nat) → (if i_1 < (fcS C x i.fst).length then AV.int IntKind.i64 ((fcS C x i.fst).getD ((0 : Nat) + i_1) (0 : Int)) else ((Sq.lst [AV.int IntKind.i64 (↑i.fst : Int)]).sub (0 : Nat) (1 : Nat)).get (i_1 - (fcS C x i.fst).length)).sub (AV.int IntKind.i64 ((fcS C x i'.fst).getD i_1 (0 : Int))) ∧ (if i_1 < (fcS C x i.fst).length then AV.int IntKind.i64 ((fcS C x i.fst).getD ((0 : Nat) + i_1) (0 : Int)) else ((Sq.lst [AV.int IntKind.i64 (↑i.fst : Int)]).sub (0 : Nat) (1 : Nat)).get (i_1 - (fcS C x i.fst).length)).cells.length = [AV.int IntKind.i64 ((fcS C x i'.fst).getD i_1 (0 : Int))].length) ∧ True)) (∃ (i' : Nat × Nat), i'.fst.le n ∧ (invSe n C x).μ i' < (invSe n C x).μ i ∧ ((n = n ∧ (∀ (i : Nat), i < n → (C.L i = C.L i ∧ C.S i = C.S i ∧ C.R i = C.R i ∧ True) ∧ (3 : Nat) = (3 : Nat)) ∧ (false = true → false = true)) ∧ (Fn.func (63 : FuncId) = Fn.func (63 : FuncId) ∧ True ∧ ((0 : Nat) = (0 : Nat) ∧ (0 : Nat) = (0 : Nat) ∧ (0 : Nat) = (0 : Nat)) ∧ True) ∧ (i.snd = i'.snd ∧ (0 : Nat) = (0 : Nat) ∧ (fcS C x i.fst).length = (fcS C x i'.fst).length ∧ (@Eq (Option Nat) none none ∨ @Eq (Option Nat) none none)) ∧ (n = n ∧ (∀ (i : Nat), i < n → (C.L i = C.L i ∧ C.S i = C.S i ∧ C.R i = C.R i ∧ True) ∧ (3 : Nat) = (3 : Nat)) ∧ (false = true → false = true)) ∧ (↑n : Int) = (↑n : Int) ∧ IntKind.i64.wrap ((↑i.fst : Int) + (1 : Int)) = (↑i'.fst : Int) ∧ True) ∧ ((0 : Nat) = (0 : Nat) ∧ (true = true → true = true) ∧ (x = x ∧ (1 : Nat) = (1 : Nat)) ∧ True) ∧ (i.snd = i'.snd ∧ (true = true → true = true) ∧ (fcS C x i.fst).length = (fcS C x i'.fst).length ∧ ∀ (i_1 : Nat), i_1 < (fcS C x i.fst).length → (fcS C x i.fst).getD i_1 (0 : Int) = (fcS C x i'.fst).getD i_1 (0 : Int) ∧ (1 : Nat) = (1 : Nat)) ∧ True))) (NB (decide (i.snd = i.snd) && true) (((fcS C x i.fst).length = (fcS C x n).length ∧ (∀ (i_1 : Nat), i_1 < (fcS C x i.fst).length → (fcS C x i.fst).getD ((0 : Nat) + i_1) (0 : Int) = (fcS C x n).getD i_1 (0 : Int) ∧ (1 : Nat) = (1 : Nat)) ∧ (false = true → decide (none = some (fcS C x i.fst).length) = true)) ∧ EqI (0 : Int) (0 : Int) ∧ True)))) := by
 kernel_rfl
theorem reads_vc (x : NodeG) (w : Int) (hs : List HaveG) (es : List AggG) (A : List AtomG) (e s l c : Int) (r : Bool) (e' : Int) : (vcFun (ERs x w hs es A e s l c) 20 42 [qA x w hs es, .int .u64 l, .int .u64 c] .nil 0 (retP 3 (.tup [.bool r, .int .i64 e']))).sat = ( NB (atB [qA x w hs es] [qA x w hs es]) (VB (e != (0 : Int)) (false = r ∧ e = e' ∧ True) (NB (atB [nodeA (16 : Nat) x] [nodeA (16 : Nat) x]) ((∃ (i : Nat × Nat), i.fst.le A.length ∧ ((atsW A).sub (atsW A) ∧ (Fn.func (73 : Nat) = Fn.func (73 : FuncId) ∧ True ∧ ((0 : Nat) = (0 : Nat) ∧ (0 : Nat) = (0 : Nat) ∧ (0 : Nat) = (0 : Nat)) ∧ ((0 : Nat) = (0 : Nat) ∧ (0 : Nat) = (0 : Nat) ∧ (0 : Nat) = (0 : Nat)) ∧ True) ∧ (rsN A l c i.fst = (0 : Nat) ∧ i.snd = i.snd ∧ rsN A l c i.fst = (0 : Nat)) ∧ (atsW A).sub (atsW A) ∧ (↑A.length : Int) = (↑A.length : Int) ∧ (0 : Int) = (↑i.fst : Int) ∧ True) ∧ ((0 : Nat) = (0 : Nat) ∧ (true = true → true = true) ∧ (l = l ∧ (1 : Nat) = (1 : Nat)) ∧ True) ∧ ((0 : Nat) = (0 : Nat) ∧ (true = true → true = true) ∧ (c = c ∧ (1 : Nat) = (1 : Nat)) ∧ True) ∧ rsN A l c i.fst = (0 : Nat) ∧ True) ∧ ∀ (i : Nat × Nat), i.fst.le A.length → VB (decide ((↑i.fst : Int) < (↑A.length : Int))) (NB (decide ((0 : Int) ≤ (↑i.fst : Int) ∧ (↑i.fst : Int) < (↑A.length : Int))) (VB (A.getD (↑i.fst : Int).toNat atomD).snd.fst (VB (andNotI IntKind.u64 l (A.getD (↑i.fst : Int).toNat atomD).snd.snd.fst == (0 : Int)) (NB (true && decide (i.snd = i.snd) && room (rsN A l c i.fst + (1 : Nat)) (8 : Nat)) (∃ (i' : Nat × Nat), i'.fst.le A.length ∧ (invRs A l c).μ i' < (invRs A l c).μ i ∧ ((atsW A).sub (atsW A) ∧ (Fn.func (73 : FuncId) = Fn.func (73 : FuncId) ∧ True ∧ ((0 : Nat) = (0 : Nat) ∧ (0 : Nat) = (0 : Nat) ∧ (0 : Nat) = (0 : Nat)) ∧ ((0 : Nat) = (0 : Nat) ∧ (0 : Nat) = (0 : Nat) ∧ (0 : Nat) = (0 : Nat)) ∧ True) ∧ (i.snd + (1 : Nat) = i'.snd ∧ (0 : Nat) = (0 : Nat) ∧ rsN A l c i.fst + (1 : Nat) = rsN A l c i'.fst ∧ (@Eq (Option Nat) none none ∨ @Eq (Option Nat) none none)) ∧ (atsW A).sub (atsW A) ∧ (↑A.length : Int) = (↑A.length : Int) ∧ IntKind.i64.wrap ((↑i.fst : Int) + (1 : Int)) = (↑i'.fst : Int) ∧ True) ∧ ((0 : Nat) = (0 : Nat) ∧ (true = true → true = true) ∧ (l = l ∧ (1 : Nat) = (1 : Nat)) ∧ True) ∧ ((0 : Nat) = (0 : Nat) ∧ (true = true → true = true) ∧ (c = c ∧ (1 : Nat) = (1 : Nat)) ∧ True) ∧ (i.snd + (1 : Nat) = i'.snd ∧ (true = true → true = true) ∧ rsN A l c i.fst + (1 : Nat) = rsN A l c i'.fst ∧ ∀ (i_1 : Nat), i_1 < rsN A l c i.fst + (1 : Nat) → (if i_1 < rsN A l c i.fst then AV.undef else ((Sq.lst [AV.int IntKind.i64 (↑i.fst : Int)]).sub (0 : Nat) (1 : Nat)).get (i_1 - rsN A l c i.fst)).sub AV.undef ∧ (if i_1 < rsN A l c i.fst then AV.undef else ((Sq.lst [AV.int IntKind.i64 (↑i.fst : Int)]).sub (0 : Nat) (1 : Nat)).get (i_1 - rsN A l c i.fst)).cells.length = [AV.undef].length) ∧ True)) (∃ (i' : Nat × Nat), i'.fst.le A.length ∧ (invRs A l c).μ i' < (invRs A l c).μ i ∧ ((atsW A).sub (atsW A) ∧ (Fn.func (73 : FuncId) = Fn.func (73 : FuncId) ∧ True ∧ ((0 : Nat) = (0 : Nat) ∧ (0 : Nat) = (0 : Nat) ∧ (0 : Nat) = (0 : Nat)) ∧ ((0 : Nat) = (0 : Nat) ∧ (0 : Nat) = (0 : Nat) ∧ (0 : Nat) = (0 : Nat)) ∧ True) ∧ (i.snd = i'.snd ∧ (0 : Nat) = (0 : Nat) ∧ rsN A l c i.fst = rsN A l c i'.fst ∧ (@Eq (Option Nat) none none ∨ @Eq (Option Nat) none none)) ∧ (atsW A).sub (atsW A) ∧ (↑A.length : Int) = (↑A.length : Int) ∧ IntKind.i64.wrap ((↑i.fst : Int) + (1 : Int)) = (↑i'.fst : Int) ∧ True) ∧ ((0 : Nat) = (0 : Nat) ∧ (true = true → true = true) ∧ (l = l ∧ (1 : Nat) = (1 : Nat)) ∧ True) ∧ ((0 : Nat) = (0 : Nat) ∧ (true = true → true = true) ∧ (c = c ∧ (1 : Nat) = (1 : Nat)) ∧ True) ∧ (i.snd = i'.snd ∧ (true = true → true = true) ∧ rsN A l c i.fst = rsN A l c i'.fst ∧ ∀ (i_1 : Nat), i_1 < rsN A l c i.fst → True ∧ (1 : Nat) = (1 : Nat)) ∧ True)) (VB (andNotI IntKind.u64 l c == (0 : Int)) (NB (true && decide (i.snd = i.snd) && room (rsN A l c i.fst + (1 : Nat)) (8 : Nat)) (∃ (i' : Nat × Nat), i'.fst.le A.length ∧ (invRs A l c).μ i' < (invRs A l c).μ i ∧ ((atsW A).sub (atsW A) ∧ (Fn.func (73 : FuncId) = Fn.func (73 : FuncId) ∧ True ∧ ((0 : Nat) = (0 : Nat) ∧ (0 : Nat) = (0 : Nat) ∧ (0 : Nat) = (0 : Nat)) ∧ ((0 : Nat) = (0 : Nat) ∧ (0 : Nat) = (0 : Nat) ∧ (0 : Nat) = (0 : Nat)) ∧ True) ∧ (i.snd + (1 : Nat) = i'.snd ∧ (0 : Nat) = (0 : Nat) ∧ rsN A l c i.fst + (1 : Nat) = rsN A l c i'.fst ∧ (@Eq (Option Nat) none none ∨ @Eq (Option Nat) none none)) ∧ (atsW A).sub (atsW A) ∧ (↑A.length : Int) = (↑A.length : Int) ∧ IntKind.i64.wrap ((↑i.fst : Int) + (1 : Int)) = (↑i'.fst : Int) ∧ True) ∧ ((0 : Nat) = (0 : Nat) ∧ (true = true → true = true) ∧ (l = l ∧ (1 : Nat) = (1 : Nat)) ∧ True) ∧ ((0 : Nat) = (0 : Nat) ∧ (true = true → true = true) ∧ (c = c ∧ (1 : Nat) = (1 : Nat)) ∧ True) ∧ (i.snd + (1 : Nat) = i'.snd ∧ (true = true → true = true) ∧ rsN A l c i.fst + (1 : Nat) = rsN A l c i'.fst ∧ ∀ (i_1 : Nat), i_1 < rsN A l c i.fst + (1 : Nat) → (if i_1 < rsN A l c i.fst then AV.undef else ((Sq.lst [AV.int IntKind.i64 (↑i.fst : Int)]).sub (0 : Nat) (1 : Nat)).get (i_1 - rsN A l c i.fst)).sub AV.undef ∧ (if i_1 < rsN A l c i.fst then AV.undef else ((Sq.lst [AV.int IntKind.i64 (↑i.fst : Int)]).sub (0 : Nat) (1 : Nat)).get (i_1 - rsN A l c i.fst)).cells.length = [AV.undef].length) ∧ True)) (∃ (i' : Nat × Nat), i'.fst.le A.length ∧ (invRs A l c).μ i' < (invRs A l c).μ i ∧ ((atsW A).sub (atsW A) ∧ (Fn.func (73 : FuncId) = Fn.func (73 : FuncId) ∧ True ∧ ((0 : Nat) = (0 : Nat) ∧ (0 : Nat) = (0 : Nat) ∧ (0 : Nat) = (0 : Nat)) ∧ ((0 : Nat) = (0 : Nat) ∧ (0 : Nat) = (0 : Nat) ∧ (0 : Nat) = (0 : Nat)) ∧ True) ∧ (i.snd = i'.snd ∧ (0 : Nat) = (0 : Nat) ∧ rsN A l c i.fst = rsN A l c i'.fst ∧ (@Eq (Option Nat) none none ∨ @Eq (Option Nat) none none)) ∧ (atsW A).sub (atsW A) ∧ (↑A.length : Int) = (↑A.length : Int) ∧ IntKind.i64.wrap ((↑i.fst : Int) + (1 : Int)) = (↑i'.fst : Int) ∧ True) ∧ ((0 : Nat) = (0 : Nat) ∧ (true = true → true = true) ∧ (l = l ∧ (1 : Nat) = (1 : Nat)) ∧ True) ∧ ((0 : Nat) = (0 : Nat) ∧ (true = true → true = true) ∧ (c = c ∧ (1 : Nat) = (1 : Nat)) ∧ True) ∧ (i.snd = i'.snd ∧ (true = true → true = true) ∧ rsN A l c i.fst = rsN A l c i'.fst ∧ ∀ (i_1 : Nat), i_1 < rsN A l c i.fst → True ∧ (1 : Nat) = (1 : Nat)) ∧ True)))) (decide ((↑(rsN A l c i.fst) : Int) > (0 : Int)) = r ∧ (0 : Int) = e' ∧ True))))) := by
 kernel_rfl
theorem has_vc (L : List Int) (x : Int) (r : Bool) : (vcFun (mkG Tryd.prog gN (tblOf []) (fun f b => if f = 41 ∧ b = 0 then some (invHs L x) else none) 0) 20 41 [iqA L, .int .i64 x] .nil 0 (retP 3 (.bool r))).sat = ( (∃ (i : Nat), (i ≤ L.length ∧ ∀ (j : Nat), j < i → L.getD j (0 : Int) ≠ x) ∧ ((L.length = L.length ∧ (∀ (i : Nat), i < L.length → L.getD i (0 : Int) = L.getD i (0 : Int) ∧ (1 : Nat) = (1 : Nat)) ∧ (false = true → false = true)) ∧ x = x ∧ (0 : Int) = (↑i : Int) ∧ True) ∧ True) ∧ ∀ (i : Nat), (i ≤ L.length ∧ ∀ (j : Nat), j < i → L.getD j (0 : Int) ≠ x) → VB (decide ((↑i : Int) < (↑L.length : Int))) (NB (decide ((0 : Int) ≤ (↑i : Int) ∧ (↑i : Int) < (↑L.length : Int))) (VB (L.getD (↑i : Int).toNat (0 : Int) == x) (true = r) (∃ (i' : Nat), (i' ≤ L.length ∧ ∀ (j : Nat), j < i' → L.getD j (0 : Int) ≠ x) ∧ (invHs L x).μ i' < (invHs L x).μ i ∧ ((L.length = L.length ∧ (∀ (i : Nat), i < L.length → L.getD i (0 : Int) = L.getD i (0 : Int) ∧ (1 : Nat) = (1 : Nat)) ∧ (false = true → false = true)) ∧ x = x ∧ IntKind.i64.wrap ((↑i : Int) + (1 : Int)) = (↑i' : Int) ∧ True) ∧ True))) (false = r)) := by
 kernel_rfl
theorem fsees_vc (n : Int) (m : Nat) (C : Cls) (S : Int → List Int) (l : List Int) (x : NodeG) (w : Int) (hs : List HaveG) (es : List AggG) (V : Int → Int → Bool) (a b lb pt : Int) : (vcFun (EFS n m C S l x w hs es V a b lb pt) 40 8 [.int .i64 n, iqA l, .int .u64 a, .int .u64 b, .int .u64 lb, .int .u64 pt] .nil 0 (isBool true)).sat = ( NB (atB [AV.int IntKind.i64 n] [AV.int IntKind.i64 n]) (NB (atB [AV.rof m (fun (j : Nat) => clA C j) false] [clsA m C]) (NB (atB [AV.rof m (fun (j : Nat) => clA C j) false] [clsA m C]) (VB (false || decide ((↑(S a).length : Int) > (↑(S (orI IntKind.u64 a b)).length : Int))) (false = true) ((∃ (i : Nat), i.le m ∧ ((l.length = l.length ∧ (∀ (i : Nat), i < l.length → l.getD i (0 : Int) = l.getD i (0 : Int) ∧ (1 : Nat) = (1 : Nat)) ∧ (false = true → false = true)) ∧ a = a ∧ lb = lb ∧ pt = pt ∧ (m = m ∧ (∀ (i : Nat), i < m → (C.L i = C.L i ∧ C.S i = C.S i ∧ C.R i = C.R i ∧ True) ∧ (3 : Nat) = (3 : Nat)) ∧ (false = true → false = true)) ∧ ((S a).length = (S a).length ∧ (∀ (i : Nat), i < (S a).length → (S a).getD i (0 : Int) = (S a).getD i (0 : Int) ∧ (1 : Nat) = (1 : Nat)) ∧ (false = true → false = true)) ∧ ((S (orI IntKind.u64 a b)).length = (S (orI IntKind.u64 a b)).length ∧ (∀ (i : Nat), i < (S (orI IntKind.u64 a b)).length → (S (orI IntKind.u64 a b)).getD i (0 : Int) = (S (orI IntKind.u64 a b)).getD i (0 : Int) ∧ (1 : Nat) = (1 : Nat)) ∧ (false = true → false = true)) ∧ (0 : Int) = jnF C i ∧ (0 : Int) = (↑i : Int) ∧ True) ∧ True) ∧ ∀ (i : Nat), i.le m → VB (decide ((↑i : Int) < (↑m : Int))) (NB (decide ((0 : Int) ≤ (↑i : Int) ∧ (↑i : Int) < (↑m : Int))) (NB (decide ((0 : Int) ≤ (↑i : Int) ∧ (↑i : Int) < (↑m : Int))) (NB (isEls isI (AV.rof (S a).length (fun (i : Nat) => AV.int IntKind.i64 ((S a).getD i (0 : Int))) false) && decide ((intL (AV.rof (S a).length (fun (i : Nat) => AV.int IntKind.i64 ((S a).getD i (0 : Int))) false)).length ≤ (1000 : Nat))) (NB (impB (isW false !decide ((↑i : Int) ∈ intL (AV.rof (S a).length (fun (i : Nat) => AV.int IntKind.i64 ((S a).getD i (0 : Int))) false)) == (andNotI IntKind.u64 (C.L (↑i : Int).toNat) a == (0 : Int))) (isEls isI (AV.rof (S a).length (fun (i : Nat) => AV.int IntKind.i64 ((S a).getD i (0 : Int))) false) && decide ((intL (AV.rof (S a).length (fun (i : Nat) => AV.int IntKind.i64 ((S a).getD i (0 : Int))) false)).length ≤ (1000 : Nat)))) (NB (impB (isW false !decide ((↑i : Int) ∈ intL (AV.rof (S a).length (fun (i : Nat) => AV.int IntKind.i64 ((S a).getD i (0 : Int))) false)) == (andNotI IntKind.u64 (C.L (↑i : Int).toNat) a == (0 : Int)) && isW true (decide ((↑i : Int) ∈ intL (AV.rof (S a).length (fun (i : Nat) => AV.int IntKind.i64 ((S a).getD i (0 : Int))) false)))) (isEls isI (AV.rof (S (orI IntKind.u64 a b)).length (fun (i : Nat) => AV.int IntKind.i64 ((S (orI IntKind.u64 a b)).getD i (0 : Int))) false) && decide ((intL (AV.rof (S (orI IntKind.u64 a b)).length (fun (i : Nat) => AV.int IntKind.i64 ((S (orI IntKind.u64 a b)).getD i (0 : Int))) false)).length ≤ (1000 : Nat)))) (VB (!decide ((↑i : Int) ∈ intL (AV.rof (S a).length (fun (i : Nat) => AV.int IntKind.i64 ((S a).getD i (0 : Int))) false)) == (andNotI IntKind.u64 (C.L (↑i : Int).toNat) a == (0 : Int)) || decide ((↑i : Int) ∈ intL (AV.rof (S a).length (fun (i : Nat) => AV.int IntKind.i64 ((S a).getD i (0 : Int))) false)) && !decide ((↑i : Int) ∈ intL (AV.rof (S (orI IntKind.u64 a b)).length (fun (i : Nat) => AV.int IntKind.i64 ((S (orI IntKind.u64 a b)).getD i (0 : Int))) false))) (false = true) (∃ (i' : Nat), i'.le m ∧ (invFS l m C a lb pt (S a) (S (orI IntKind.u64 a b))).μ i' < (invFS l m C a lb pt (S a) (S (orI IntKind.u64 a b))).μ i ∧ ((l.length = l.length ∧ (∀ (i : Nat), i < l.length → l.getD i (0 : Int) = l.getD i (0 : Int) ∧ (1 : Nat) = (1 : Nat)) ∧ (false = true → false = true)) ∧ a = a ∧ lb = lb ∧ pt = pt ∧ (m = m ∧ (∀ (i : Nat), i < m → (C.L i = C.L i ∧ C.S i = C.S i ∧ C.R i = C.R i ∧ True) ∧ (3 : Nat) = (3 : Nat)) ∧ (false = true → false = true)) ∧ ((S a).length = (S a).length ∧ (∀ (i : Nat), i < (S a).length → (S a).getD i (0 : Int) = (S a).getD i (0 : Int) ∧ (1 : Nat) = (1 : Nat)) ∧ (false = true → false = true)) ∧ ((S (orI IntKind.u64 a b)).length = (S (orI IntKind.u64 a b)).length ∧ (∀ (i : Nat), i < (S (orI IntKind.u64 a b)).length → (S (orI IntKind.u64 a b)).getD i (0 : Int) = (S (orI IntKind.u64 a b)).getD i (0 : Int) ∧ (1 : Nat) = (1 : Nat)) ∧ (false = true → false = true)) ∧ orI IntKind.u64 (jnF C i) (C.L (↑i : Int).toNat) = jnF C i' ∧ IntKind.i64.wrap ((↑i : Int) + (1 : Int)) = (↑i' : Int) ∧ True) ∧ True))))))) (NB (atB [AV.rof m (fun (j : Nat) => clA C j) false] [clsA m C]) (VB ((0 : Int) != (0 : Int) || (↑(S (jnF C i)).length : Int) != (↑m : Int)) (false = true) (NB (atB [AV.rof l.length (fun (i : Nat) => AV.int IntKind.i64 (l.getD i (0 : Int))) false] [iqA l]) (NB (atB [qA x w hs es] [qA x w hs es]) (NB (atB [qA x w hs es] [qA x w hs es]) (((true && (!V lb a || V (andI IntKind.u64 lb pt) a) && true) == true) = true))))))))))) := by
 kernel_rfl
end Go.Proofs.YtamcloifhjafcaaDoor
namespace Go.Proofs.YtamcloifhjafcaaDoor
open Pw Go
set_option maxRecDepth 100000
set_option linter.unusedSimpArgs false
theorem fcS_len (C : Cls) (x : Int) : ∀ i, (fcS C x i).length ≤ i
 | 0 => Nat.le_refl _
 | i + 1 => by
  have := fcS_len C x i
  simp only [fcS]
  split
  ·rw [List.length_append]; simp; omega
  ·omega
theorem mem_fcS (C : Cls) (x : Int) (j : Int) : ∀ i, j ∈ fcS C x i ↔ ∃ q : Nat, q < i ∧ j = q ∧ fcB C x q = true
 | 0 => by simp [fcS]
 | i + 1 => by
  have ih := mem_fcS C x j i
  simp only [fcS]
  split
  ·rename_i hb
   rw [List.mem_append, ih]
   constructor
   ·rintro (⟨q, h1, h2, h3⟩ | h)
    ·exact ⟨q, by omega, h2, h3⟩
    ·exact ⟨i, by omega, by simpa using h, hb⟩
   ·rintro ⟨q, h1, h2, h3⟩
    rcases Nat.lt_or_ge q i with h | h
    ·exact .inl ⟨q, h, h2, h3⟩
    ·obtain rfl : q = i := by omega
     exact .inr (by simp [h2])
  ·rename_i hb
   rw [ih]
   constructor
   ·rintro ⟨q, h1, h2, h3⟩; exact ⟨q, by omega, h2, h3⟩
   ·rintro ⟨q, h1, h2, h3⟩
    rcases Nat.lt_or_ge q i with h | h
    ·exact ⟨q, h, h2, h3⟩
    ·obtain rfl : q = i := by omega
     exact absurd h3 hb
theorem has_sat (L : List Int) (x : Int) (hl : L.length ≤ 1000) : (vcFun (mkG Tryd.prog gN (tblOf []) (fun f b => if f = 41 ∧ b = 0 then some (invHs L x) else none) 0) 20 41 [iqA L, .int .i64 x] .nil 0 (retP 3 (.bool (decide (x ∈ L))))).sat := by
 rw [has_vc]
 simp only [and_self, true_and, and_true, implies_true, Bool.false_eq_true, false_implies]
 refine ⟨⟨0, ⟨Nat.zero_le _, fun j hj => by omega⟩, rfl⟩, fun i ⟨hi, hn⟩ => VB_intro (fun hlt => ?_) (fun hge => ?_)⟩
 ·rw [decide_eq_true_eq] at hlt
  refine NB_intro (by rw [decide_eq_true_eq]; omega) (VB_intro (fun he => ?_) (fun he => ?_))
  ·rw [beq_iff_eq, Int.toNat_natCast] at he
   have : x ∈ L := by
    rw [← he, List.getD_eq_getElem?_getD, List.getElem?_eq_getElem (by omega)]
    exact List.getElem_mem _
   simp [this]
  ·refine ⟨i + 1, ⟨by omega, fun j hj => ?_⟩, by simp only [invHs]; omega, by rw [wrap_i64_id (by omega) (by omega)]; rfl⟩
   rcases Nat.lt_or_ge j i with h | h
   ·exact hn j h
   ·obtain rfl : j = i := by omega
    intro e
    rw [Int.toNat_natCast, e] at he
    simp at he
 ·rw [decide_eq_false_iff_not] at hge
  have : x ∉ L := by
   intro hx
   obtain ⟨j, hj, e⟩ := List.getElem_of_mem hx
   refine hn j (by omega) ?_
   rw [List.getD_eq_getElem?_getD, List.getElem?_eq_getElem hj]
   exact e
  simp [this]
theorem sees_sat (n : Nat) (C : Cls) (x : Int) (hn : n ≤ 8) : (vcFun (mkG Tryd.prog gN (tblOf []) (fun f b => if f = 62 ∧ b = 0 then some (invSe n C x) else none) 0) 20 27 [clsA n C, .int .u64 x] .nil 0 (retP 3 (.tup [iqA (fcS C x n), .int .i64 0]))).sat := by
 rw [sees_vc]
 simp only [EqI, and_self, true_and, and_true, implies_true, Bool.false_eq_true, false_implies, or_self, NB_t, Bool.true_and, decide_true, Bool.and_true]
 refine VB_intro (fun h => by rw [decide_eq_true_eq] at h; omega) (fun _ => ?_)
 refine ⟨⟨(0, 0), Nat.zero_le _, ⟨rfl, rfl⟩, rfl⟩, fun ⟨i, g⟩ hi => ?_⟩
 have hi : i ≤ n := hi
 have hL := fcS_len C x i
 refine VB_intro (fun hlt => ?_) (fun hge => ?_)
 ·rw [decide_eq_true_eq] at hlt
  simp only at hlt
  have hi1 : i + 1 ≤ n := by omega
  have hw : IntKind.i64.wrap ((i : Int) + 1) = ((i + 1 : Nat) : Int) := by rw [wrap_i64_id (by omega) (by omega)]; rfl
  refine NB_intro (by rw [decide_eq_true_eq]; simp only; omega) (VB_intro (fun hb => ?_) (fun hb => ?_))
  ·have hb' : fcB C x i = true := by simpa [fcB] using hb
   have hs : fcS C x (i + 1) = fcS C x i ++ [(i : Int)] := by simp only [fcS, hb', if_true]
   refine NB_intro (by simp [room]; omega) ⟨(i + 1, g + 1), hi1, by simp only [invSe]; omega, ⟨⟨rfl, by simp only [hs, List.length_append, List.length_singleton]⟩, hw⟩, rfl, by simp only [hs, List.length_append, List.length_singleton], ?_⟩
   simp only [hs, Nat.zero_add]
   exact sb_one (F := fun z => AV.int .i64 z) (L := fcS C x i) (a := (i : Int)) (d := 0) (fun z => int_sub _ _) ⟨int_sub _ _, rfl⟩
  ·have hb' : ¬ fcB C x i = true := by simpa [fcB] using hb
   have hs : fcS C x (i + 1) = fcS C x i := by simp only [fcS, hb', if_false]; rfl
   refine ⟨(i + 1, g), hi1, by simp only [invSe]; omega, ⟨⟨rfl, by simp only [hs]⟩, hw⟩, rfl, by simp only [hs], ?_⟩
   simp only [hs, implies_true]
 ·rw [decide_eq_false_iff_not] at hge
  simp only at hge
  obtain rfl : i = n := by omega
  exact ⟨rfl, fun q _ => by simp only [Nat.zero_add]⟩
theorem an0 (a b : Int) : (andNotI .u64 a b == 0) = decide (bv a &&& ~~~(bv b) = 0#64) := by
 rw [andNotI_bv, Bool.eq_iff_iff, beq_iff_eq, decide_eq_true_eq]
 constructor
 ·intro h
  apply BitVec.eq_of_toNat_eq
  rw [BitVec.toNat_zero]; omega
 ·intro h
  rw [h]; rfl
theorem an_mono {x a b : BitVec 64} (h : x &&& ~~~a = 0#64) : x &&& ~~~(a ||| b) = 0#64 := by
 have : x &&& ~~~(a ||| b) = (x &&& ~~~a) &&& ~~~b := by
  apply BitVec.eq_of_getLsbD_eq
  intro i hi
  simp only [BitVec.getLsbD_and, BitVec.getLsbD_or, BitVec.getLsbD_not, hi, decide_true, Bool.true_and]
  cases x.getLsbD i <;> cases a.getLsbD i <;> cases b.getLsbD i <;> rfl
 rw [this, h, BitVec.zero_and]
theorem an_self (x a : BitVec 64) : x &&& ~~~(a ||| x) = 0#64 := by
 apply BitVec.eq_of_getLsbD_eq
 intro i hi
 simp only [BitVec.getLsbD_and, BitVec.getLsbD_or, BitVec.getLsbD_not, BitVec.getLsbD_zero, hi, decide_true, Bool.true_and]
 cases x.getLsbD i <;> cases a.getLsbD i <;> rfl
theorem an_left {x p r : BitVec 64} (h : x &&& ~~~r = 0#64) : (x &&& p) &&& ~~~r = 0#64 := by
 have : (x &&& p) &&& ~~~r = (x &&& ~~~r) &&& p := by
  apply BitVec.eq_of_getLsbD_eq
  intro i hi
  simp only [BitVec.getLsbD_and, BitVec.getLsbD_not, hi, decide_true, Bool.true_and]
  cases x.getLsbD i <;> cases p.getLsbD i <;> cases r.getLsbD i <;> rfl
 rw [this, h, BitVec.zero_and]
theorem andI_bv (a b : Int) : andI .u64 a b = ((bv a &&& bv b).toNat : Int) := wrapN _
theorem bv_and (a b : Int) : bv (andI .u64 a b) = bv a &&& bv b := by rw [andI_bv, bv_nat]
theorem fcB_or {C : Cls} {a b : Int} {j : Nat} (h : fcB C a j = true) : fcB C (orI .u64 a b) j = true := by
 unfold fcB at h ⊢
 rw [an0, decide_eq_true_eq] at h ⊢
 rw [bv_or]; exact an_mono h
theorem fcS_or (C : Cls) (a b : Int) : ∀ i, (fcS C a i).length ≤ (fcS C (orI .u64 a b) i).length
 | 0 => Nat.le_refl _
 | i + 1 => by
  have := fcS_or C a b i
  simp only [fcS]
  by_cases h : fcB C a i = true
  ·rw [if_pos h, if_pos (fcB_or h), List.length_append, List.length_append]; simp; omega
  ·rw [if_neg h]
   split
   ·rw [List.length_append]; omega
   ·exact this
theorem fcB_jn (C : Cls) {j : Nat} : ∀ i, j < i → fcB C (jnF C i) j = true
 | i + 1, hj => by
  rw [jnF]
  by_cases h : j < i
  ·exact fcB_or (fcB_jn C i h)
  ·obtain rfl : j = i := by omega
   unfold fcB
   rw [an0, decide_eq_true_eq, bv_or]; exact an_self _ _
theorem fcS_all {C : Cls} {a : Int} : ∀ i, (∀ j, j < i → fcB C a j = true) → (fcS C a i).length = i
 | 0, _ => rfl
 | i + 1, h => by
  simp only [fcS, h i (Nat.lt_succ_self i), if_true, List.length_append, fcS_all i (fun j hj => h j (by omega))]
  rfl
theorem rsN_mono (A : List AtomG) (l p c : Int) : ∀ i, rsN A l c i ≤ rsN A (andI .u64 l p) c i
 | 0 => Nat.le_refl _
 | i + 1 => by
  have := rsN_mono A l p c i
  simp only [rsN, an0, decide_eq_true_eq]
  by_cases h : bv l &&& ~~~(bv (atR (A.getD i atomD) c)) = 0#64
  ·rw [if_pos h, if_pos (by rw [bv_and]; exact an_left h)]; omega
  ·rw [if_neg h]
   split <;> omega
theorem rsN_le (A : List AtomG) (l c : Int) : ∀ i, rsN A l c i ≤ i
 | 0 => Nat.le_refl _
 | i + 1 => by
  have := rsN_le A l c i
  simp only [rsN]
  split <;> omega
theorem reads_sat (x : NodeG) (w : Int) (hs : List HaveG) (es : List AggG) (A : List AtomG) (hA : A.length ≤ 1000000) (s l c : Int) :
  (vcFun (ERs x w hs es A 0 s l c) 20 42 [qA x w hs es, .int .u64 l, .int .u64 c] .nil 0 (retP 3 (.tup [.bool (decide ((rsN A l c A.length : Int) > 0)), .int .i64 0]))).sat := by
 rw [reads_vc]
 simp only [EqI, atsWR, and_self, true_and, and_true, implies_true, Bool.false_eq_true, false_implies, or_self, NB_t, Bool.true_and, decide_true, Bool.and_true]
 refine NB_intro (atB_self _) (VB_intro (fun h => absurd h (by simp)) (fun _ => NB_intro (atB_self _) ⟨⟨(0, 0), Nat.zero_le _, ⟨rfl, rfl⟩, rfl⟩, fun ⟨i, g⟩ hi => ?_⟩))
 have hi : i ≤ A.length := hi
 have hL := rsN_le A l c i
 refine VB_intro (fun hlt => ?_) (fun hge => ?_)
 ·rw [decide_eq_true_eq] at hlt
  simp only at hlt
  have hi1 : i + 1 ≤ A.length := by omega
  have hw : IntKind.i64.wrap ((i : Int) + 1) = ((i + 1 : Nat) : Int) := by rw [wrap_i64_id (by omega) (by omega)]; rfl
  have hr : room (rsN A l c i + 1) 8 = true := by simp [room]; omega
  have yes : ∀ hb : (andNotI .u64 l (atR (A.getD i atomD) c) == 0) = true, rsN A l c (i + 1) = rsN A l c i + 1 := fun hb => by simp only [rsN, hb, if_true]
  have no : ∀ hb : ¬ (andNotI .u64 l (atR (A.getD i atomD) c) == 0) = true, rsN A l c (i + 1) = rsN A l c i := fun hb => by simp only [rsN]; rw [if_neg hb]
  simp only [Int.toNat_natCast]
  have hun : ∀ q, q < rsN A l c i + 1 → (if q < rsN A l c i then AV.undef else ((Sq.lst [AV.int .i64 (i : Int)]).sub 0 1).get (q - rsN A l c i)).sub AV.undef ∧
    (if q < rsN A l c i then AV.undef else ((Sq.lst [AV.int .i64 (i : Int)]).sub 0 1).get (q - rsN A l c i)).cells.length = [AV.undef].length :=
   sb_app (f := fun _ => .undef) (G := fun _ => .undef) (fun q _ => ⟨un_sub _, rfl⟩) ⟨un_sub _, rfl⟩
  refine NB_intro (by rw [decide_eq_true_eq]; omega) (VB_intro (fun hb => ?_) (fun hb => ?_))
  ·have ha : atR (A.getD i atomD) c = (A.getD i atomD).2.2.1 := if_pos hb
   rw [ha] at yes no
   refine VB_intro (fun h1 => NB_intro hr ⟨(i + 1, g + 1), hi1, by simp only [invRs]; omega, ⟨⟨rfl, (yes h1).symm⟩, hw⟩, rfl, (yes h1).symm, hun⟩) (fun h1 => ?_)
   have h1 := no (by rw [h1]; simp)
   exact ⟨(i + 1, g), hi1, by simp only [invRs]; omega, ⟨⟨rfl, h1.symm⟩, hw⟩, rfl, h1.symm⟩
  ·have ha : atR (A.getD i atomD) c = c := if_neg (by rw [hb]; simp)
   rw [ha] at yes no
   refine VB_intro (fun h1 => NB_intro hr ⟨(i + 1, g + 1), hi1, by simp only [invRs]; omega, ⟨⟨rfl, (yes h1).symm⟩, hw⟩, rfl, (yes h1).symm, hun⟩) (fun h1 => ?_)
   have h1 := no (by rw [h1]; simp)
   exact ⟨(i + 1, g), hi1, by simp only [invRs]; omega, ⟨⟨rfl, h1.symm⟩, hw⟩, rfl, h1.symm⟩
 ·rw [decide_eq_false_iff_not] at hge
  simp only at hge
  obtain rfl : i = A.length := by omega
  rfl
end Go.Proofs.YtamcloifhjafcaaDoor
namespace Go.Proofs.YtamcloifhjafcaaDoor
open Pw Go
set_option maxRecDepth 100000
set_option linter.unusedSimpArgs false
theorem has_ok : PureG Tryd.prog gN 41 cHas := by
 intro args nd v he hnd
 unfold cHas at he
 split at he <;> cases he
 rename_i x i
 simp only [Bool.and_eq_true, decide_eq_true_eq] at hnd
 refine PureC.args (args' := [iqA (intL x), .int .i64 i]) rfl (fun k hk => ?_) (pure_vcG (d := 3) mix (tblG_nil _ _) (has_sat (intL x) i hnd.2))
 match k with
 | 0 => exact els_sub (h := isI) (of := iOf) (A := fun z => .int .i64 z) (d := 0) (fun y hy => by
   cases y with
   | int k n => cases k <;> first | exact ⟨int_sub _ _, rfl⟩ | cases hy
   | _ => cases hy) hnd.1
 | 1 => exact int_sub _ _
theorem seesF_ok (m : Nat) (C : Cls) (hm : m ≤ 8) : PureG Tryd.prog gN 27 (cSeF m C fun x => fcS C x m) := by
 intro args nd v he hnd
 unfold cSeF at he
 split at he <;> cases he
 rename_i c x
 have hqa : [c] = [clsA m C] := by simpa [atB] using hnd
 cases hqa
 exact pure_vcG (d := 3) mix (tblG_nil _ _) (sees_sat m C x hm)
theorem readsF_ok {x : NodeG} (w : Int) {hs : List HaveG} {es : List AggG} (hq : LtW x hs es) (h0 : wfE x w hs es = 0) :
  PureG Tryd.prog gN 42 (cRsF x w hs es fun l c => decide ((rsN (atomsL 8 x) l c (atomsL 8 x).length : Int) > 0)) := by
 intro args nd v he hnd
 unfold cRsF at he
 split at he <;> cases he
 rename_i q l c
 have hqa : [q] = [qA x w hs es] := by simpa [atB] using hnd
 cases hqa
 have hA : (atomsL 8 x).length ≤ 1000 := Nat.le_trans (AN_leW x) hq.lv
 have hw := wf_pure w hq
 rw [h0] at hw
 exact pure_vcG (d := 3) mix (tblG_cons (cAt_ok hw) (tblG_cons (cAt_ok (at16W (atomsI_pure x hq.lit hq.few))) (tblG_nil _ _))) (reads_sat x w hs es _ (by omega) (sndE x) l c)
theorem config_pure (n : Int) (h1 : -9223372036854775808 ≤ n) (h2 : n ≤ 9223372036854775807) : PureC Tryd.prog gN 40 [.int .i64 n] (cfgA (2 + n % 1099511627776 % 4).toNat (cfC (n % 1099511627776))) := by
 refine pure_vcE (E := ECf (n % 1099511627776)) (k := 20) (d := 3) mix ?_ (config_sat n h1 h2)
 refine ⟨(mkG_ctr (P := Tryd.prog) (gl := gN) (inv := fun _ _ => none) (n := 0) (tblG_cons mod_ok (tblG_cons ?_ (tblG_nil _ _)))).1, itr_none rfl⟩
 intro args nd v he hnd
 unfold cLab at he
 split at he <;> cases he
 exact pure_vcG (d := 3) mix (tblG_nil _ _) labels_sat
noncomputable def EFSx (n : Int) (l : List Int) (a b lb pt : Int) : Env :=
 EFS n (2 + n % 1099511627776 % 4).toNat (cfC (n % 1099511627776)) (fun x => fcS (cfC (n % 1099511627776)) x (2 + n % 1099511627776 % 4).toNat) l (kqX l) (kqW l) (kqHs l) (kqEs l)
  (fun l' c => decide ((rsN (atomsL 8 (kqX l)) l' c (atomsL 8 (kqX l)).length : Int) > 0)) a b lb pt
theorem EFS_ok (n : Int) (h1 : -9223372036854775808 ≤ n) (h2 : n ≤ 9223372036854775807) (l : List Int) (hl : ok64 l) (a b lb pt : Int) : CtrOK (EFSx n l a b lb pt) :=
 mkG_ctr (tblG_cons (cAt_ok (config_pure n h1 h2)) (tblG_cons (seesF_ok _ _ (by omega)) (tblG_cons has_ok (tblG_cons (cAt_ok (query_pure l hl)) (tblG_cons (readsF_ok _ (LtW_kq l) (wf_kq l)) (tblG_cons awake11_ok (tblG_nil _ _)))))))
theorem fsees_sat (n : Int) (l : List Int) (a b lb pt : Int) : (vcFun (EFSx n l a b lb pt) 40 8 [.int .i64 n, iqA l, .int .u64 a, .int .u64 b, .int .u64 lb, .int .u64 pt] .nil 0 (isBool true)).sat := by
 refine (fsees_vc n _ _ _ l _ _ _ _ _ a b lb pt).mpr ?_
 have hm8 : (2 + n % 1099511627776 % 4).toNat ≤ 8 := by omega
 generalize (2 + n % 1099511627776 % 4).toNat = m at hm8 ⊢
 generalize cfC (n % 1099511627776) = C
 have hin : ∀ x, intL (AV.rof (fcS C x m).length (fun i => AV.int .i64 ((fcS C x m).getD i 0)) false) = fcS C x m := by
  intro x
  show elsOf iOf (.rof _ _ _) = _
  simp only [elsOf, iOf]
  apply List.ext_getElem
  ·simp
  ·intro i h1 h2; simp [List.getD, h2]
 have hIs : ∀ x, (isEls isI (AV.rof (fcS C x m).length (fun i => AV.int .i64 ((fcS C x m).getD i 0)) false) && decide ((fcS C x m).length ≤ 1000)) = true := by
  intro x
  have := fcS_len C x m
  simp only [isEls, isI, List.all_eq_true, implies_true, Bool.and_eq_true, decide_eq_true_eq, true_and]
  omega
 have hmem : ∀ x (i : Nat), i < m → decide ((i : Int) ∈ fcS C x m) = (andNotI .u64 (C.L i) x == 0) := by
  intro x i hi
  rw [Bool.eq_iff_iff, decide_eq_true_eq, mem_fcS]
  constructor
  ·rintro ⟨q, h1, h2, h3⟩
   obtain rfl : i = q := by omega
   exact h3
  ·intro h; exact ⟨i, hi, rfl, h⟩
 have hle : decide (((fcS C a m).length : Int) > ((fcS C (orI .u64 a b) m).length : Int)) = false := by
  have := fcS_or C a b m
  rw [decide_eq_false_iff_not]; omega
 have hat : ∀ (x : List AV), atB x x = true := fun x => atB_self x
 have hI2 : ∀ b : Bool, impB b true = true := fun b => by cases b <;> rfl
 simp only [hIs, hin, hle, hI2, Bool.false_or, VB_f, NB_t, EqI, and_self, true_and, and_true, implies_true, Bool.false_eq_true, false_implies]
 refine NB_intro (hat _) (NB_intro (hat _) (NB_intro (hat _) ⟨⟨0, Nat.zero_le _, rfl, rfl⟩, fun i hi => ?_⟩))
 have hi : i ≤ m := hi
 refine VB_intro (fun hlt => ?_) (fun hge => ?_)
 ·rw [decide_eq_true_eq] at hlt
  have hlt : i < m := by omega
  have hw : IntKind.i64.wrap ((i : Int) + 1) = ((i + 1 : Nat) : Int) := by rw [wrap_i64_id (by omega) (by omega)]; rfl
  have h1 := hmem a i hlt
  have h2 := hmem (orI .u64 a b) i hlt
  have hc : (!decide ((i : Int) ∈ fcS C a m) == (andNotI .u64 (C.L (i : Int).toNat) a == 0) || decide ((i : Int) ∈ fcS C a m) && !decide ((i : Int) ∈ fcS C (orI .u64 a b) m)) = false := by
   rw [h1, h2, Int.toNat_natCast]
   have h3 : (andNotI .u64 (C.L i) a == 0) = true → (andNotI .u64 (C.L i) (orI .u64 a b) == 0) = true := fun h => fcB_or (C := C) (j := i) h
   cases h4 : (andNotI .u64 (C.L i) a == 0)
   ·rfl
   ·rw [h3 h4]; rfl
  refine NB_intro (by rw [decide_eq_true_eq]; omega) (NB_intro (by rw [decide_eq_true_eq]; omega) ?_)
  rw [hc, VB_f]
  exact ⟨i + 1, hlt, by simp only [invFS]; omega, by rw [jnF, Int.toNat_natCast], hw⟩
 ·rw [decide_eq_false_iff_not] at hge
  obtain rfl : i = m := by omega
  have hlen : (fcS C (jnF C i) i).length = i := fcS_all i fun j hj => fcB_jn C i hj
  refine NB_intro (hat _) ?_
  rw [hlen]
  refine VB_intro (fun h => by simp at h) (fun _ => NB_intro (hat _) (NB_intro (hat _) (NB_intro (hat _) ?_)))
  have := rsN_mono (atomsL 8 (kqX l)) lb pt a (atomsL 8 (kqX l)).length
  generalize rsN (atomsL 8 (kqX l)) lb a (atomsL 8 (kqX l)).length = p at this ⊢
  generalize rsN (atomsL 8 (kqX l)) (andI .u64 lb pt) a (atomsL 8 (kqX l)).length = q at this ⊢
  simp
  omega
end Go.Proofs.YtamcloifhjafcaaDoor
