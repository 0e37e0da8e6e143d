/- TREES 1: slots, lines and trees as data. -/
import Derived.Test.YtlnpgnipocbfhaaGreatDoorRows
import Derived.Test.YtlnpgnipocbfhaaGreatDoorPwG5
import Derived.KernelRfl
namespace Go.Proofs.YtlnpgnipocbfhaaGreatDoor
open Pw Go
set_option maxRecDepth 100000
theorem mix:Tryz.prog.follows .mixedOrders=true:=by kernel_rfl
def gU:Nat->AV:=fun _=>.undef
abbrev SlotG:=Int×List Int×Unit
abbrev SlotG.gds (s:SlotG):List Int:=s.2.1
abbrev slotD':SlotG:=(0,[],())
abbrev TwigG:=SlotG×Int×List Int×Bool×Int×Unit
abbrev TwigG.slot (t:TwigG):SlotG:=t.1
abbrev TwigG.par (t:TwigG):Int:=t.2.1
abbrev TwigG.kids (t:TwigG):List Int:=t.2.2.1
abbrev TwigG.ends (t:TwigG):Bool:=t.2.2.2.1
abbrev TwigG.line (t:TwigG):Int:=t.2.2.2.2.1
abbrev twigD:TwigG:=(slotD',0,[],false,0,())
def intsA (l:List Int):AV:=.rof l.length (fun k=>.int .i64 (l.getD k 0)) false
def slotA (s:SlotG):AV:=.agg [.int .i64 s.1,intsA s.gds]
def slotsA (l:List SlotG):AV:=.rof l.length (fun k=>slotA (l.getD k slotD')) false
def lineA (l:List SlotG):AV:=.agg [slotsA l]
def linesA (ls:List (List SlotG)):AV:=.rof ls.length (fun k=>lineA (ls.getD k [])) false
def twigA (t:TwigG):AV:=.agg [.int .i64 t.slot.1,intsA t.slot.gds,.int .i64 t.par,intsA t.kids,.bool t.ends,.int .i64 t.line]
def twigsA (t:List TwigG):AV:=.rof t.length (fun k=>twigA (t.getD k twigD)) false
def treeA (t:List TwigG):AV:=.agg [twigsA t]
def isI64:AV->Bool
 | .int .i64 _=>true
 | _=>false
def i64Of:AV->Int
 | .int _ n=>n
 | _=>0
theorem isI64_eq {x:AV} (h:isI64 x=true):x=.int .i64 (i64Of x):=by
 cases x <;> simp only [isI64,Bool.false_eq_true] at h
 rename_i k n;cases k <;> first|rfl|(simp at h)
def intsB (n:Nat) (f:Nat->AV):Bool:=(List.range n).all fun i=>isI64 (f i)
def intsOf' (n:Nat) (f:Nat->AV):List Int:=(List.range n).map fun i=>i64Of (f i)
theorem intsOf_len (n:Nat) (f:Nat->AV):(intsOf' n f).length=n:=by simp [intsOf']
theorem intsOf_get {n:Nat} {f:Nat->AV} {i:Nat} (hi:i<n):(intsOf' n f).getD i 0=i64Of (f i):=by simp [intsOf',List.getD,hi]
theorem ints_sub {n:Nat} {f:Nat->AV} {ex:Bool} (h:intsB n f=true):(AV.rof n f ex).sub (intsA (intsOf' n f)):=by
 refine ⟨(intsOf_len n f).symm,fun i hi=>?_,fun h=>by cases h⟩
 have:=List.all_eq_true.1 h i (by simpa using hi)
 show (f i).sub (.int .i64 ((intsOf' n f).getD i 0))/\_;rw [intsOf_get hi,isI64_eq this];simp [AV.sub,AV.cells,i64Of]
theorem intsB_self (l:List Int):intsB l.length (fun k=>.int .i64 (l.getD k 0))=true:=by simp [intsB,isI64]
theorem intsOf_self (l:List Int):intsOf' l.length (fun k=>.int .i64 (l.getD k 0))=l:=by
 refine List.ext_getElem (by simp [intsOf']) fun i h1 h2=>?_
 simp [intsOf',i64Of,List.getD,h2]
theorem sub_ints (l:List Int):(intsA l).sub (intsA l):=⟨rfl,fun i _=>⟨by simp [AV.sub],rfl⟩,fun h=>h⟩
noncomputable def asB (args canon:List AV):Bool:=@decide (AV.subL args canon) (Classical.propDecidable _)
theorem asB_t {a b:List AV} (h:AV.subL a b):asB a b=true:=by simp [asB,h]
theorem asB_i {a b:List AV}:asB a b=true ↔ AV.subL a b:=by simp [asB]
noncomputable def cAs (canon:List AV) (v:AV):Ctr:=fun args=>some (asB args canon,v)
theorem cAs_ok {g:Nat} {canon:List AV} {v:AV} (h:PureC Tryz.prog gU g canon v):PureF Tryz.prog g (cAs canon v):=by
 intro args nd u he hnd;simp only [cAs,Option.some.injEq,Prod.mk.injEq] at he;obtain ⟨rfl,rfl⟩:=he;have hs:=asB_i.1 hnd;obtain ⟨h1,h2⟩:=subL_at _ _ hs;exact PureC.args h1 (fun i hi=>h2 i (by omega)) h
noncomputable def cAsIf (ok:Bool) (canon:List AV) (v:AV):Ctr:=fun args=>some (ok&&asB args canon,v)
theorem PureC.result {P:Program} {gl:Nat->AV} {f:Nat} {args:List AV} {v v':AV} (h:PureC P gl f args v) (hs:v.sub v'):PureC P gl f args v':=fun M W vals hG hM hA=>by
 obtain ⟨hf,hc⟩:=h M W vals hG hM hA;exact ⟨hf,hc.mono fun e W' ⟨u,M',k1,k2,k3⟩=>⟨u,M',k1,k2.sub _ hs,k3⟩⟩
def kg (s:SlotG) (j:Nat):Int:=if j<s.gds.length then IntKind.i8.wrap (IntKind.i64.wrap (s.gds.getD j 0+1)) else 0
def keyA (s:SlotG):AV:=.agg [.int .i64 s.1,.int .i8 (kg s 0),.int .i8 (kg s 1),.int .i8 (kg s 2),.int .i8 (kg s 3),.int .i8 (kg s 4),.int .i8 (kg s 5),.int .i8 (kg s 6),.int .i8 (kg s 7),.int .i8 (kg s 8),.int .i8 (kg s 9),.int .i8 (kg s 10),.int .i8 (kg s 11),.int .i8 (kg s 12)]
def keyL (s:SlotG):List Int:=[s.1,kg s 0,kg s 1,kg s 2,kg s 3,kg s 4,kg s 5,kg s 6,kg s 7,kg s 8,kg s 9,kg s 10,kg s 11,kg s 12]
def kgF (n:Nat) (f:Nat->AV) (j:Nat):Int:=if j<n then IntKind.i8.wrap (IntKind.i64.wrap (i64Of (f j)+1)) else 0
def keyF (a:Int) (n:Nat) (f:Nat->AV):AV:=.agg [.int .i64 a,.int .i8 (kgF n f 0),.int .i8 (kgF n f 1),.int .i8 (kgF n f 2),.int .i8 (kgF n f 3),.int .i8 (kgF n f 4),.int .i8 (kgF n f 5),.int .i8 (kgF n f 6),.int .i8 (kgF n f 7),.int .i8 (kgF n f 8),.int .i8 (kgF n f 9),.int .i8 (kgF n f 10),.int .i8 (kgF n f 11),.int .i8 (kgF n f 12)]
theorem kgF_ints {n:Nat} {f:Nat->AV} (j:Nat):kg (0,intsOf' n f,()) j=kgF n f j:=by
 unfold kg kgF;simp only [SlotG.gds,intsOf_len];split
 ·rw [intsOf_get (by assumption)]
 ·rfl
def cOf:Ctr
 | [.agg [.int .i64 a,.rof n f _]]=>some (decide (n<=13)&&intsB n f,keyF a n f)
 | _=>none
def cCloneI:Ctr
 | [.rof n f _]=>some (decide (n<=1000000)&&intsB n f,.rof n (fun i=>.int .i64 (i64Of (f i))) false)
 | _=>none
def outN (a n:Int):Bool:=decide (n<0)||decide (n>=a)
def outS (a:Int) (s:SlotG):Bool:=outN a s.1||s.gds.any (outN a)
def ascB (l:List Int):Bool:=(List.range (l.length - 1)).all fun i=>decide (l.getD i 0<l.getD (i+1) 0)
def chkL (a:Int) (l:List SlotG):Int :=
 if l.length=0\/0<(l.getD 0 slotD').gds.length then 3
 else if a<0\/12<a then 2
 else if l.any (outS a) then 2
 else if l.all (fun s=>ascB s.gds) then 0 else 3
def cAnyOut:Ctr
 | [.rof n f _,.fn (.func g) [] [.rptr (.int .i64 a) 0]]=>some (decide (n<=1000000)&&decide (g=98)&&intsB n f,.bool (((List.range n).map fun i=>i64Of (f i)).any (outN a)))
 | _=>none
abbrev StG:=(Int×Int×Unit)×Int×Int×Int×Int×Unit
abbrev StG.lb (e:StG):Int:=e.1.1
abbrev StG.no (e:StG):Int:=e.1.2.1
abbrev StG.od (e:StG):Int:=e.2.1
abbrev StG.tk (e:StG):Int:=e.2.2.1
abbrev StG.kd (e:StG):Int:=e.2.2.2.1
abbrev StG.vl (e:StG):Int:=e.2.2.2.2.1
def stA (e:StG):AV:=.agg [.int .u64 e.lb,.int .u64 e.no,.int .u64 e.od,.int .u64 e.tk,.int .i64 e.kd,.int .i64 e.vl]
def evA (l k v:Int):AV:=.agg [.int .u64 l,.int .i64 k,.int .i64 v]
def soundS (no od tk kd:Int):Int:=if no<1\/1099511627776<no then 2 else if kd<0\/26<=kd then 11 else if od<1\/1099511627776<od\/1099511627776<tk then 2 else 0
noncomputable def ENo:Env:=mkE Tryz.prog (tblOf []) (fun _ _=>none)
theorem soundI_vc (l no od tk kd vl r:Int):(vcFun ENo 20 77 [.agg [.int .u64 l,.int .u64 no,.int .u64 od,.int .u64 tk,.int .i64 kd,.int .i64 vl]] .nil 0 (retP 3 (.int .i64 r))).sat=( VB (decide (no<(1:Int))||decide (no > (1099511627776:Int))) ((2:Int)=r) (VB (decide (kd<(0:Int))||decide (kd>=(26:Int))) ((11:Int)=r) (VB (true&&(decide (od<(1:Int))||decide (od > (1099511627776:Int))||decide (tk > (1099511627776:Int)))) ((2:Int)=r) ((0:Int)=r)))):=by
 kernel_rfl
theorem soundR_vc (l no od tk kd vl r:Int):(vcFun ENo 20 82 [.agg [.int .u64 l,.int .u64 no,.int .u64 od,.int .u64 tk,.int .i64 kd,.int .i64 vl]] .nil 0 (retP 3 (.int .i64 r))).sat=( VB (decide (no<(1:Int))||decide (no > (1099511627776:Int))) ((2:Int)=r) (VB (decide (kd<(0:Int))||decide (kd>=(26:Int))) ((11:Int)=r) (VB (decide (od<(1:Int))||decide (od > (1099511627776:Int))||decide (tk > (1099511627776:Int))) ((2:Int)=r) ((0:Int)=r)))):=by
 kernel_rfl
theorem evOfI_vc (l no od tk kd vl:Int):(vcFun ENo 20 79 [.agg [.int .u64 l,.int .u64 no,.int .u64 od,.int .u64 tk,.int .i64 kd,.int .i64 vl]] .nil 0 (retP 3 (evA l kd vl))).sat=( l=l/\kd=kd/\vl=vl/\True):=by
 kernel_rfl
theorem evOfR_vc (l no od tk kd vl:Int):(vcFun ENo 20 126 [.agg [.int .u64 l,.int .u64 no,.int .u64 od,.int .u64 tk,.int .i64 kd,.int .i64 vl]] .nil 0 (retP 3 (evA l kd vl))).sat=( l=l/\kd=kd/\vl=vl/\True):=by
 kernel_rfl
theorem ENo_ok:CtrOK ENo:=mkE_ctr (tbl_nil _)
def cSound:Ctr
 | [.agg [.int .u64 _,.int .u64 no,.int .u64 od,.int .u64 tk,.int .i64 kd,.int .i64 _]]=>some (true,.int .i64 (soundS no od tk kd))
 | _=>none
def cEvOf:Ctr
 | [.agg [.int .u64 l,.int .u64 _,.int .u64 _,.int .u64 _,.int .i64 kd,.int .i64 vl]]=>some (true,evA l kd vl)
 | _=>none
theorem soundI_ok:PureF Tryz.prog 77 cSound:=by
 intro args nd v h hnd;unfold cSound at h;split at h <;> cases h
 refine PureC.of_vc (E:=ENo) (k:=20) (d:=3) mix ENo_ok ((soundI_vc _ _ _ _ _ _ _).mpr ?_)
 repeat' (first
  | (with_reducible refine VB_intro (fun h=>?_) (fun h=>?_) <;> try simp only [h,VB_t,VB_f,NB_t,Bool.not_true,Bool.not_false,Bool.true_and,Bool.false_and,Bool.and_true,Bool.and_false])
  | (with_reducible refine NB_intro' ?_ (fun h=>?_)))
 all_goals try simp only [isW_t,isW_f,impB_t,impB_f,beq_iff_eq,bne_iff_ne,Bool.not_eq_eq_eq_not,Bool.not_true,Bool.not_false,Bool.and_eq_true,Bool.and_eq_false_iff,Bool.or_eq_true,Bool.or_eq_false_iff,beq_eq_false_iff_ne,decide_eq_true_eq,decide_eq_false_iff_not,EqI] at *
 all_goals try simp (disch:=omega) only [wrap_i64_id,wrap_u64_id,Int.add_sub_cancel] at *
 all_goals try simp (disch:=omega) only [wrap_i64_id,wrap_u64_id,Int.add_sub_cancel] at *
 all_goals try simp (disch:=omega) only [wrap_i64_id,wrap_u64_id,Int.add_sub_cancel] at *
 all_goals try simp (disch:=omega) only [wrap_i64_id,wrap_u64_id,Int.add_sub_cancel] at *
 all_goals try grind (splits:=20) [soundS]
theorem soundR_ok:PureF Tryz.prog 82 cSound:=by
 intro args nd v h hnd;unfold cSound at h;split at h <;> cases h
 refine PureC.of_vc (E:=ENo) (k:=20) (d:=3) mix ENo_ok ((soundR_vc _ _ _ _ _ _ _).mpr ?_)
 repeat' (first
  | (with_reducible refine VB_intro (fun h=>?_) (fun h=>?_) <;> try simp only [h,VB_t,VB_f,NB_t,Bool.not_true,Bool.not_false,Bool.true_and,Bool.false_and,Bool.and_true,Bool.and_false])
  | (with_reducible refine NB_intro' ?_ (fun h=>?_)))
 all_goals try simp only [isW_t,isW_f,impB_t,impB_f,beq_iff_eq,bne_iff_ne,Bool.not_eq_eq_eq_not,Bool.not_true,Bool.not_false,Bool.and_eq_true,Bool.and_eq_false_iff,Bool.or_eq_true,Bool.or_eq_false_iff,beq_eq_false_iff_ne,decide_eq_true_eq,decide_eq_false_iff_not,EqI] at *
 all_goals try simp (disch:=omega) only [wrap_i64_id,wrap_u64_id,Int.add_sub_cancel] at *
 all_goals try simp (disch:=omega) only [wrap_i64_id,wrap_u64_id,Int.add_sub_cancel] at *
 all_goals try simp (disch:=omega) only [wrap_i64_id,wrap_u64_id,Int.add_sub_cancel] at *
 all_goals try simp (disch:=omega) only [wrap_i64_id,wrap_u64_id,Int.add_sub_cancel] at *
 all_goals try grind (splits:=20) [soundS]
theorem evOfI_ok:PureF Tryz.prog 79 cEvOf:=by
 intro args nd v h hnd;unfold cEvOf at h;split at h <;> cases h
 exact PureC.of_vc (E:=ENo) (k:=20) (d:=3) mix ENo_ok ((evOfI_vc _ _ _ _ _ _).mpr (by simp))
theorem evOfR_ok:PureF Tryz.prog 126 cEvOf:=by
 intro args nd v h hnd;unfold cEvOf at h;split at h <;> cases h
 exact PureC.of_vc (E:=ENo) (k:=20) (d:=3) mix ENo_ok ((evOfR_vc _ _ _ _ _ _).mpr (by simp))
end Go.Proofs.YtlnpgnipocbfhaaGreatDoor
