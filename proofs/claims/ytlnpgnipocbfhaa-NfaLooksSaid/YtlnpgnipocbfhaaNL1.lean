/- TREES 1: slots, lines and trees as data. -/
import Derived.Test.YtlnpgnipocbfhaaRows
import Derived.Test.YtlnpgnipocbfhaaPwG5
import Derived.KernelRfl
namespace Go.Proofs.Ytlnpgnipocbfhaa
open Pw Go
set_option maxRecDepth 100000
set_option linter.unusedSimpArgs false
theorem mix:Try.prog.follows .mixedOrders=true:=by kernel_rfl
def gU:Nat→AV:=fun _=>.undef
abbrev SlotG:=Int×List Int×Unit
abbrev SlotG.gds (s:SlotG):List Int:=s.2.1
abbrev slotD':SlotG:=(0,[],())
abbrev TwigG:=SlotG×Int×List Int×Bool×Int×Unit
abbrev TwigG.slot (t:TwigG):SlotG:=t.1
abbrev TwigG.par (t:TwigG):Int:=t.2.1
abbrev TwigG.kids (t:TwigG):List Int:=t.2.2.1
abbrev TwigG.ends (t:TwigG):Bool:=t.2.2.2.1
abbrev TwigG.line (t:TwigG):Int:=t.2.2.2.2.1
abbrev twigD:TwigG:=(slotD',0,[],false,0,())
def intsA (l:List Int):AV:=.rof l.length (fun k=>.int .i64 (l.getD k 0)) false
def slotA (s:SlotG):AV:=.agg [.int .i64 s.1,intsA s.gds]
def slotsA (l:List SlotG):AV:=.rof l.length (fun k=>slotA (l.getD k slotD')) false
def lineA (l:List SlotG):AV:=.agg [slotsA l]
def linesA (ls:List (List SlotG)):AV:=.rof ls.length (fun k=>lineA (ls.getD k [])) false
def twigA (t:TwigG):AV:=.agg [.int .i64 t.slot.1,intsA t.slot.gds,.int .i64 t.par,intsA t.kids,.bool t.ends,.int .i64 t.line]
def twigsA (t:List TwigG):AV:=.rof t.length (fun k=>twigA (t.getD k twigD)) false
def treeA (t:List TwigG):AV:=.agg [twigsA t]
def isI64:AV→Bool
 | .int .i64 _=>true
 | _=>false
def i64Of:AV→Int
 | .int _ n=>n
 | _=>0
theorem isI64_eq {x:AV} (h:isI64 x=true):x=.int .i64 (i64Of x):=by
 cases x <;> simp only [isI64,Bool.false_eq_true] at h
 rename_i k n
 cases k <;> first|rfl|(simp at h)
def intsB (n:Nat) (f:Nat→AV):Bool:=(List.range n).all fun i=>isI64 (f i)
def intsOf' (n:Nat) (f:Nat→AV):List Int:=(List.range n).map fun i=>i64Of (f i)
theorem intsOf_len (n:Nat) (f:Nat→AV):(intsOf' n f).length=n:=by simp [intsOf']
theorem intsOf_get {n:Nat} {f:Nat→AV} {i:Nat} (hi:i<n):(intsOf' n f).getD i 0=i64Of (f i):=by simp [intsOf',List.getD,hi]
theorem ints_sub {n:Nat} {f:Nat→AV} {ex:Bool} (h:intsB n f=true):(AV.rof n f ex).sub (intsA (intsOf' n f)):=by
 refine ⟨(intsOf_len n f).symm,fun i hi=>?_,fun h=>by cases h⟩
 have:=List.all_eq_true.1 h i (by simpa using hi)
 show (f i).sub (.int .i64 ((intsOf' n f).getD i 0))∧_
 rw [intsOf_get hi,isI64_eq this]
 simp [AV.sub,AV.cells,i64Of]
theorem intsB_self (l:List Int):intsB l.length (fun k=>.int .i64 (l.getD k 0))=true:=by simp [intsB,isI64]
theorem intsOf_self (l:List Int):intsOf' l.length (fun k=>.int .i64 (l.getD k 0))=l:=by
 refine List.ext_getElem (by simp [intsOf']) fun i h1 h2=>?_
 simp [intsOf',i64Of,List.getD,h2]
theorem sub_ints (l:List Int):(intsA l).sub (intsA l):=⟨rfl,fun i _=>⟨by simp [AV.sub],rfl⟩,fun h=>h⟩
noncomputable def asB (args canon:List AV):Bool:=@decide (AV.subL args canon) (Classical.propDecidable _)
theorem asB_t {a b:List AV} (h:AV.subL a b):asB a b=true:=by simp [asB,h]
theorem asB_i {a b:List AV}:asB a b=true ↔ AV.subL a b:=by simp [asB]
noncomputable def cAs (canon:List AV) (v:AV):Ctr:=fun args=>some (asB args canon,v)
theorem cAs_ok {g:Nat} {canon:List AV} {v:AV} (h:PureC Try.prog gU g canon v):PureF Try.prog g (cAs canon v):=by
 intro args nd u he hnd
 simp only [cAs,Option.some.injEq,Prod.mk.injEq] at he
 obtain ⟨rfl,rfl⟩:=he
 have hs:=asB_i.1 hnd
 obtain ⟨h1,h2⟩:=subL_at _ _ hs
 exact PureC.args h1 (fun i hi=>h2 i (by omega)) h
theorem PureC.result {P:Program} {gl:Nat→AV} {f:Nat} {args:List AV} {v v':AV} (h:PureC P gl f args v) (hs:v.sub v'):PureC P gl f args v':=fun M W vals hG hM hA=>by
 obtain ⟨hf,hc⟩:=h M W vals hG hM hA
 exact ⟨hf,hc.mono fun e W' ⟨u,M',k1,k2,k3⟩=>⟨u,M',k1,k2.sub _ hs,k3⟩⟩
def kg (s:SlotG) (j:Nat):Int:=if j<s.gds.length then IntKind.i8.wrap (IntKind.i64.wrap (s.gds.getD j 0+1)) else 0
def keyA (s:SlotG):AV:=.agg [.int .i64 s.1,.int .i8 (kg s 0),.int .i8 (kg s 1),.int .i8 (kg s 2),.int .i8 (kg s 3),.int .i8 (kg s 4),.int .i8 (kg s 5),.int .i8 (kg s 6),.int .i8 (kg s 7),.int .i8 (kg s 8),.int .i8 (kg s 9),.int .i8 (kg s 10),.int .i8 (kg s 11),.int .i8 (kg s 12)]
def keyL (s:SlotG):List Int:=[s.1,kg s 0,kg s 1,kg s 2,kg s 3,kg s 4,kg s 5,kg s 6,kg s 7,kg s 8,kg s 9,kg s 10,kg s 11,kg s 12]
def kgF (n:Nat) (f:Nat→AV) (j:Nat):Int:=if j<n then IntKind.i8.wrap (IntKind.i64.wrap (i64Of (f j)+1)) else 0
def keyF (a:Int) (n:Nat) (f:Nat→AV):AV:=.agg [.int .i64 a,.int .i8 (kgF n f 0),.int .i8 (kgF n f 1),.int .i8 (kgF n f 2),.int .i8 (kgF n f 3),.int .i8 (kgF n f 4),.int .i8 (kgF n f 5),.int .i8 (kgF n f 6),.int .i8 (kgF n f 7),.int .i8 (kgF n f 8),.int .i8 (kgF n f 9),.int .i8 (kgF n f 10),.int .i8 (kgF n f 11),.int .i8 (kgF n f 12)]
theorem kgF_ints {n:Nat} {f:Nat→AV} (j:Nat):kg (0,intsOf' n f,()) j=kgF n f j:=by
 unfold kg kgF
 simp only [SlotG.gds,intsOf_len]
 split
 ·rw [intsOf_get (by assumption)]
 ·rfl
def cOf:Ctr
 | [.agg [.int .i64 a,.rof n f _]]=>some (decide (n≤13)&&intsB n f,keyF a n f)
 | _=>none
def cCloneI:Ctr
 | [.rof n f _]=>some (decide (n≤1000000)&&intsB n f,.rof n (fun i=>.int .i64 (i64Of (f i))) false)
 | _=>none
def outN (a n:Int):Bool:=decide (n<0)||decide (n≥a)
def outS (a:Int) (s:SlotG):Bool:=outN a s.1||s.gds.any (outN a)
def ascB (l:List Int):Bool:=(List.range (l.length - 1)).all fun i=>decide (l.getD i 0<l.getD (i+1) 0)
def chkL (a:Int) (l:List SlotG):Int :=
 if l.length=0∨0<(l.getD 0 slotD').gds.length then 3
 else if a<0∨12<a then 2
 else if l.any (outS a) then 2
 else if l.all (fun s=>ascB s.gds) then 0 else 3
def cAnyOut:Ctr
 | [.rof n f _,.fn (.func g) [] [.rptr (.int .i64 a) 0]]=>some (decide (n≤1000000)&&decide (g=62)&&intsB n f,.bool (((List.range n).map fun i=>i64Of (f i)).any (outN a)))
 | _=>none
end Go.Proofs.Ytlnpgnipocbfhaa
