/- TREES 6: what nfa.Of makes. -/
import Derived.Test.YtlnpgnipocbfhaaGreatDoorNL2
namespace Go.Proofs.YtlnpgnipocbfhaaGreatDoor
open Pw Go
set_option maxRecDepth 100000
def isSlot:AV->Bool
 | .agg [.int .i64 _,.rof n f _]=>intsB n f
 | _=>false
def slotOf:AV->SlotG
 | .agg [.int _ a,.rof n f _]=>(a,intsOf' n f,())
 | _=>slotD'
def slotsB (n:Nat) (f:Nat->AV):Bool:=(List.range n).all fun i=>isSlot (f i)
def slotsOf' (n:Nat) (f:Nat->AV):List SlotG:=(List.range n).map fun i=>slotOf (f i)
theorem slot_self (s:SlotG):slotOf (slotA s)=s:=by
 obtain ⟨a,l,u⟩:=s;show (a,intsOf' l.length (fun k=>.int .i64 (l.getD k 0)),())=_
 rw [intsOf_self]
theorem isSlot_self (s:SlotG):isSlot (slotA s)=true:=intsB_self s.gds
theorem slotsOf_len (n:Nat) (f:Nat->AV):(slotsOf' n f).length=n:=by simp [slotsOf']
theorem slotsOf_get {n:Nat} {f:Nat->AV} {i:Nat} (hi:i<n):(slotsOf' n f).getD i slotD'=slotOf (f i):=by simp [slotsOf',List.getD,hi]
theorem slotsB_self (l:List SlotG):slotsB l.length (fun k=>slotA (l.getD k slotD'))=true:=by
 rw [slotsB,List.all_eq_true];exact fun i _=>isSlot_self _
theorem slotsOf_self (l:List SlotG):slotsOf' l.length (fun k=>slotA (l.getD k slotD'))=l:=by
 refine List.ext_getElem (by simp [slotsOf']) fun i h1 h2=>?_
 simp [slotsOf',List.getD,h2,slot_self]
theorem slot_sub {x:AV} (h:isSlot x=true):x.sub (slotA (slotOf x))/\x.cells.length=(slotA (slotOf x)).cells.length:=by
 unfold isSlot at h;split at h
 ·rename_i a n f ex;exact ⟨⟨by simp [AV.sub,slotOf],ints_sub h,trivial⟩,rfl⟩
 ·cases h
theorem slots_sub {n:Nat} {f:Nat->AV} {ex:Bool} (h:slotsB n f=true):(AV.rof n f ex).sub (slotsA (slotsOf' n f)):=by
 refine ⟨(slotsOf_len n f).symm,fun i hi=>?_,fun h=>by cases h⟩
 have:=List.all_eq_true.1 h i (by simpa using hi)
 show (f i).sub (slotA ((slotsOf' n f).getD i slotD'))/\(f i).cells.length=(slotA ((slotsOf' n f).getD i slotD')).cells.length;rw [slotsOf_get hi];exact slot_sub this
def cChk:Ctr
 | [.agg [.rof n f _],.int .i64 a]=>some (slotsB n f&&fewS (slotsOf' n f),.int .i64 (chkL a (slotsOf' n f)))
 | _=>none
theorem chk_ok:PureF Tryz.prog 50 cChk:=by
 intro args nd v he hnd;unfold cChk at he;split at he <;> cases he
 rename_i n f ex a;simp only [Bool.and_eq_true] at hnd;refine PureC.args (args':=[lineA (slotsOf' n f),.int .i64 a]) rfl (fun i hi=>?_) (chk_pure _ a hnd.2)
 match i,hi with
 | 0,_=>exact ⟨slots_sub hnd.1,trivial⟩
 | 1,_=>exact rfl
def lineLen:AV->Nat
 | .agg [.rof n _ _]=>n
 | _=>0
def isLineL:AV->Bool
 | .agg [.rof n f _]=>slotsB n f
 | _=>false
def lineOf:AV->List SlotG
 | .agg [.rof n f _]=>slotsOf' n f
 | _=>[]
theorem lineOf_len (x:AV):(lineOf x).length=lineLen x:=by
 unfold lineOf lineLen;split <;> simp [slotsOf_len]
theorem line_sub {x:AV} (h:isLineL x=true):x.sub (lineA (lineOf x))/\x.cells.length=(lineA (lineOf x)).cells.length:=by
 unfold isLineL at h;split at h
 ·exact ⟨⟨slots_sub h,trivial⟩,rfl⟩
 ·cases h
def linesOf' (n:Nat) (f:Nat->AV):List (List SlotG):=(List.range n).map fun i=>lineOf (f i)
theorem linesOf_len (n:Nat) (f:Nat->AV):(linesOf' n f).length=n:=by simp [linesOf']
theorem linesOf_get {n:Nat} {f:Nat->AV} {i:Nat} (hi:i<n):(linesOf' n f).getD i []=lineOf (f i):=by simp [linesOf',List.getD,hi]
theorem lines_sub {n:Nat} {f:Nat->AV} {ex:Bool} (h:((List.range n).all fun i=>isLineL (f i))=true):(AV.rof n f ex).sub (linesA (linesOf' n f)):=by
 refine ⟨(linesOf_len n f).symm,fun i hi=>?_,fun h=>by cases h⟩
 have:=List.all_eq_true.1 h i (by simpa using hi)
 show (f i).sub (lineA ((linesOf' n f).getD i []))/\(f i).cells.length=(lineA ((linesOf' n f).getD i [])).cells.length;rw [linesOf_get hi];exact line_sub this
def invLg (ls:List (List SlotG)):Inv:=⟨Nat,20,fun i=>⟨[(0,linesA ls),(1,.fn (.func 49) [] []),(7,.int .i64 ls.length),(8,.int .i64 i)],[]⟩,fun i=>i<=ls.length/\∀ j,j<i->(ls.getD j []).length<=12,fun i=>ls.length - i⟩
noncomputable def ELg (ls:List (List SlotG)):Env:=mkE Tryz.prog (tblOf []) (fun f b=>if f=97/\b=0 then some (invLg ls) else none)
def cLong:Ctr
 | [.rof n f _,.fn (.func g) [] []]=>some (decide (n<=1000000)&&decide (g=49)&&(List.range n).all (fun i=>isLineL (f i)),.bool ((List.range n).any fun i=>decide (12<lineLen (f i))))
 | _=>none
def findKid (t:List TwigG) (ks:List Int) (key:List Int):Option Int:=ks.find? fun k=>decide (keyL (t.getD k.toNat twigD).slot=key)
def addTwig (t:List TwigG) (a:Nat) (s:SlotG):List TwigG :=
 (t.set a ((t.getD a twigD).slot,(t.getD a twigD).par,(t.getD a twigD).kids++[(t.length:Int)],(t.getD a twigD).ends,(t.getD a twigD).line,()))++[(s,(a:Int),[],false,-1,())]
def stepSlot (p:List TwigG×Nat) (s:SlotG):List TwigG×Nat :=
 match findKid p.1 (p.1.getD p.2 twigD).kids (keyL s) with
 | some k=>(p.1,k.toNat)
 | none=>(addTwig p.1 p.2 s,p.1.length)
def endTwig (t:List TwigG) (a:Nat) (n:Int):List TwigG :=
 t.set a ((t.getD a twigD).slot,(t.getD a twigD).par,(t.getD a twigD).kids,true,n,())
def addLine (t:List TwigG) (l:List SlotG) (n:Nat):Option (List TwigG) :=
 if ((l.foldl stepSlot (t,0)).1.getD (l.foldl stepSlot (t,0)).2 twigD).ends then none
 else some (endTwig (l.foldl stepSlot (t,0)).1 (l.foldl stepSlot (t,0)).2 n)
def rootT:List TwigG:=[(slotD',0,[],false,-1,())]
def trN (ls:List (List SlotG)):Nat->Option (List TwigG)
 | 0=>some rootT
 | n+1=>match trN ls n with
  | none=>none
  | some t=>addLine t (ls.getD n []) n
def kidHas (t:List TwigG) (i:Nat) (key:List Int):Bool:=(findKid t (t.getD i twigD).kids key).isSome
def kidVal (t:List TwigG) (i:Nat) (key:List Int):AV:=.int .i64 ((findKid t (t.getD i twigD).kids key).getD 0)
def kidLen (t:List TwigG) (i:Nat):Nat:=(t.getD i twigD).kids.length
def twigQ (k:Nat) (x:TwigG):AV:=.agg [.int .i64 x.slot.1,intsA x.slot.gds,.int .i64 x.par,.gro 40 k x.kids.length (fun q=>.int .i64 (x.kids.getD q 0)),.bool x.ends,.int .i64 x.line]
def keyZ:AV:=.agg [.int .i64 0,.int .i8 0,.int .i8 0,.int .i8 0,.int .i8 0,.int .i8 0,.int .i8 0,.int .i8 0,.int .i8 0,.int .i8 0,.int .i8 0,.int .i8 0,.int .i8 0,.int .i8 0]
def rowsQ (t:List TwigG):List (Nat×Blk) :=
 [(0,.row 0 1 true (.lst [.agg [.nils]])),(20,.row (t.length - 1) 6 false (.fn t.length fun k=>twigQ k (t.getD k twigD))),
  (21,.row 0 1 false (.lst [.agg [.sl 20 (t.length - 1) 0 t.length none]])),(22,.fam (.maps keyZ (.int .i64 0) t.length (kidHas t) (kidVal t))),
  (23,.row (t.length - 1) 1 false (.fn t.length fun k=>.fmap 22 k)),(40,.fam (.rows 1 (kidLen t)))]
def goodT (t:List TwigG) (n:Nat):Prop:=1<=t.length/\t.length<=n/\(∀ j,j<t.length->∀ k∈(t.getD j twigD).kids,0<=k/\k<t.length)/\∀ j,j<t.length->(t.getD j twigD).kids.length<=t.length
def invOf0 (ls:List (List SlotG)):Inv:=⟨Nat,20,fun i=>⟨[(0,linesA ls),(2,.ptr 0 0 0 0),(29,linesA ls),(30,.int .i64 ls.length),(31,.int .i64 i)],[(0,.row 0 1 true (.lst [.agg [.nils]]))]⟩,fun i=>i<=ls.length/\∀ j,j<i->chkL 12 (ls.getD j [])=0,fun i=>ls.length - i⟩
def invOf2 (ls:List (List SlotG)):Inv:=⟨Nat×List TwigG,50,fun p=>⟨[(2,.ptr 0 0 0 0),(7,.ptr 21 0 0 0),(8,.sl 23 (p.2.length - 1) 0 p.2.length none),(47,linesA ls),(48,.int .i64 ls.length),(49,.int .i64 p.1)],rowsQ p.2⟩,fun p=>p.1<=ls.length/\trN ls p.1=some p.2/\goodT p.2 (1+12 * p.1),fun p=>ls.length - p.1⟩
def invOf4 (ls:List (List SlotG)) (i:Int):Inv:=⟨Nat×List TwigG×Nat,60,fun p=>⟨[(2,.ptr 0 0 0 0),(7,.ptr 21 0 0 0),(8,.sl 23 (p.2.1.length - 1) 0 p.2.1.length none),(9,.int .i64 i),(11,.int .i64 p.2.2),(47,linesA ls),(48,.int .i64 ls.length),(49,.int .i64 i),(55,slotsA (ls.getD i.toNat [])),(56,.int .i64 (ls.getD i.toNat []).length),(57,.int .i64 p.1)],rowsQ p.2.1⟩,
 fun p=>p.1<=(ls.getD i.toNat []).length/\(∃ t0,trN ls i.toNat=some t0/\((ls.getD i.toNat []).take p.1).foldl stepSlot (t0,0)=(p.2.1,p.2.2))/\goodT p.2.1 (1+12 * i.toNat+p.1)/\p.2.2<p.2.1.length,fun p=>(ls.getD i.toNat []).length - p.1⟩
noncomputable def EOf (ls:List (List SlotG)):Env:={ mkE Tryz.prog (tblOf [(48,cLong),(50,cChk),(51,cOf),(52,cCloneI)]) (fun f b=>if f=12 then (if b=0 then some (invOf0 ls) else if b=2 then some (invOf2 ls) else none) else none) with
 invS:=fun f c s=>if f=12/\c=4 then (match s.tmf 49 with|.int _ i=>some (invOf4 ls i)|_=>none) else none
 fzs:=fun f=>if f=12 then [2000000045,1000111022] else [] }
end Go.Proofs.YtlnpgnipocbfhaaGreatDoor
