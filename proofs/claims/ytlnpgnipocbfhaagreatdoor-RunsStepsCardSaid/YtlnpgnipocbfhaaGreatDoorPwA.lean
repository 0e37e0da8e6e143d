/- ENGINE, part A: abstract values, abstract memory, what an operation does to them. -/
import Derived.Calls
import Derived.Orders
import Derived.Laws.Cells
import GoSem.ClaimData
import Derived.Laws.CopyRow
import Derived.Laws.Sem
import Derived.Laws.World
import Derived.Laws.AppendOwn
import Derived.RangeFuncIn
namespace Pw
open Go
inductive AV where
 | undef
 | int (k:IntKind) (n:Int)
 | bool (b:Bool)
 | str (s:List UInt8)
 | nils
 | nilp
 | nilf
 | nilm
 | ptr (b g i j:Nat)
 | rptr (x:AV) (j:Nat)
 | sl (b g i len:Nat) (cap:Option Nat)
 | rol (l:List AV) (ex:Bool)
 | rof (n:Nat) (f:Nat->AV) (ex:Bool)
 | fn (f:Fn) (first cap:List AV)
 | map (b:Nat)
 | yld (b:Nat)
 | sla (b g i j len:Nat)
 | gro (b i n:Nat) (f:Nat->AV)
 | fmap (b i:Nat)
 | agg (l:List AV)
 | tup (l:List AV)
 | opt (m:Bool) (j:Nat) (want:Bool) (x:AV)
 deriving Inhabited
mutual
def mergeAV (p:Prop) [Decidable p] (x y:AV):AV :=
 match x,y with
 | .agg l,.agg m=>if l.length=m.length then .agg (mergeL p l m) else (if p then .agg l else .agg m)
 | .int k a,.int k' b=>if k=k' then .int k (if p then a else b) else (if p then .int k a else .int k' b)
 | .bool a,.bool b=>.bool (if p then a else b)
 | .str a,.str b=>.str (if p then a else b)
 | .rof n f true,.rof n' f' true=>.rof (if p then n else n') (fun q=>if p then f q else f' q) true
 | .rof n f false,.rof n' f' false=>.rof (if p then n else n') (fun q=>if p then f q else f' q) false
 | .gro b i n f,.gro b' i' n' f'=>if b=b' then .gro b (if p then i else i') (if p then n else n') (fun q=>if p then f q else f' q) else (if p then .gro b i n f else .gro b' i' n' f')
 | .fmap b i,.fmap b' i'=>if b=b' then .fmap b (if p then i else i') else (if p then .fmap b i else .fmap b' i')
 | x,y=>if p then x else y
def mergeL (p:Prop) [Decidable p]:List AV->List AV->List AV
 | x::l,y::m=>mergeAV p x y::mergeL p l m
 | _,_=>[]
end
mutual
theorem mergeAV_t {p:Prop} [Decidable p] (h:p):∀ x y:AV,mergeAV p x y=x
 | .agg l,y=>by
  cases y with
  | agg m =>
   rw [mergeAV];split
   ·rename_i hl; rw [mergeL_t h l m hl]
   ·simp [h]
  | _=>simp [mergeAV,h]
 | .rof n f ex,y=>by
  cases y with
  | rof n' f' ex'=>cases ex <;> cases ex' <;> simp [mergeAV,h]
  | _=>cases ex <;> simp [mergeAV,h]
 | .int k a,y=>by cases y <;> simp [mergeAV,h]
 | .bool b,y=>by cases y <;> simp [mergeAV,h]
 | .str s,y=>by cases y <;> simp [mergeAV,h]
 | .gro b i n f,y=>by cases y <;> simp [mergeAV,h]
 | .fmap b i,y=>by cases y <;> simp [mergeAV,h]
 | .undef,y|.nils,y|.nilp,y|.nilf,y|.nilm,y|.ptr ..,y|.rptr ..,y|.sl ..,y|.rol ..,y|.fn ..,y|.map _,y|.yld _,y|.sla ..,y|.tup _,y|.opt ..,y=>by cases y <;> simp [mergeAV,h]
theorem mergeL_t {p:Prop} [Decidable p] (h:p):∀ l m:List AV,l.length=m.length->mergeL p l m=l
 | [],m,hl=>by cases m <;> simp_all [mergeL]
 | x::l,[],hl=>by simp at hl
 | x::l,y::m,hl=>by
  simp only [mergeL,mergeAV_t h x y];rw [mergeL_t h l m (by simpa using hl)]
end
mutual
theorem mergeAV_f {p:Prop} [Decidable p] (h:¬ p):∀ x y:AV,mergeAV p x y=y
 | .agg l,y=>by
  cases y with
  | agg m =>
   rw [mergeAV];split
   ·rename_i hl; rw [mergeL_f h l m hl]
   ·simp [h]
  | _=>simp [mergeAV,h]
 | .rof n f ex,y=>by
  cases y with
  | rof n' f' ex'=>cases ex <;> cases ex' <;> simp [mergeAV,h]
  | _=>cases ex <;> simp [mergeAV,h]
 | .int k a,y=>by cases y <;> simp [mergeAV,h]
 | .bool b,y=>by cases y <;> simp [mergeAV,h]
 | .str s,y=>by cases y <;> simp [mergeAV,h]
 | .gro b i n f,y=>by cases y <;> simp [mergeAV,h]
 | .fmap b i,y=>by cases y <;> simp [mergeAV,h]
 | .undef,y|.nils,y|.nilp,y|.nilf,y|.nilm,y|.ptr ..,y|.rptr ..,y|.sl ..,y|.rol ..,y|.fn ..,y|.map _,y|.yld _,y|.sla ..,y|.tup _,y|.opt ..,y=>by cases y <;> simp [mergeAV,h]
theorem mergeL_f {p:Prop} [Decidable p] (h:¬ p):∀ l m:List AV,l.length=m.length->mergeL p l m=m
 | [],m,hl=>by cases m <;> simp_all [mergeL]
 | x::l,[],hl=>by simp at hl
 | x::l,y::m,hl=>by
  simp only [mergeL,mergeAV_f h x y];rw [mergeL_f h l m (by simpa using hl)]
end
theorem mergeAV_eq (p:Prop) [Decidable p] (x y:AV):mergeAV p x y=if p then x else y:=by
 by_cases h:p
 ·rw [mergeAV_t h,if_pos h]
 ·rw [mergeAV_f h,if_neg h]
inductive Sq where
 | lst (l:List AV)
 | fn (n:Nat) (f:Nat->AV)
 deriving Inhabited
def Sq.len:Sq->Nat
 | .lst l=>l.length
 | .fn n _=>n
def Sq.get:Sq->Nat->AV
 | .lst l,i=>l.getD i .undef
 | .fn _ f,i=>f i
def intsOf:List AV->Option (IntKind×List Int)
 | []=>none
 | x::l=>match x with
  | .int k n=>match l with
   | []=>some (k,[n])
   | y::m=>match intsOf (y::m) with
    | some (k',ns)=>if k=k' then some (k,n::ns) else none
    | none=>none
  | _=>none
def Sq.getL (s:Sq) (i:Nat):AV :=
 match s with
 | .lst (x::y::l)=>match intsOf (x::y::l) with
  | some (k,ns)=>.int k (ns.getD i 0)
  | none=>s.get i
 | _=>s.get i
theorem intsOf_ok:∀ (l:List AV) {k:IntKind} {ns:List Int},intsOf l=some (k,ns)->∀ i,i<l.length->l.getD i .undef=.int k (ns.getD i 0)
 | [],_,_,h,_,_=>by simp [intsOf] at h
 | [x],k,ns,h,i,hi=>by
  have:i=0:=by simpa using hi
  subst this;cases x <;> simp [intsOf] at h
  obtain ⟨rfl,rfl⟩:=h;rfl
 | x::y::m,k,ns,h,i,hi=>by
  cases x <;> simp only [intsOf] at h <;> try (cases h; done)
  rename_i k0 n0;split at h
  ·rename_i k' ns' hm;split at h
   ·rename_i hk;cases h;subst hk;cases i with
    | zero=>rfl
    | succ i =>
     have:=intsOf_ok (y::m) hm i (by simpa using hi)
     simpa using this
   ·cases h
  ·cases h
theorem Sq.getL_eq {s:Sq} {i:Nat} (hi:i<s.len):s.getL i=s.get i:=by
 unfold Sq.getL;split
 ·rename_i x y l;split
  ·rename_i k ns hm;exact (intsOf_ok _ hm i hi).symm
  ·rfl
 ·rfl
def Sq.set:Sq->Nat->AV->Sq
 | .lst l,i,x=>.lst (l.set i x)
 | .fn n f,i,x=>.fn n (fun k=>mergeAV (k=i) x (f k))
def Sq.sub:Sq->Nat->Nat->Sq
 | .lst l,i,len=>.lst ((l.drop i).take len)
 | .fn _ f,i,len=>.fn len (fun k=>f (i+k))
def Sq.app:Sq->Sq->Sq
 | .lst [],t=>t
 | .lst l,.lst m=>.lst (l++m)
 | s,t=>.fn (s.len+t.len) (fun k=>if k<s.len then s.get k else t.get (k - s.len))
def Sq.ro:Sq->Bool->AV
 | .lst l,ex=>.rol l ex
 | .fn n f,ex=>.rof n f ex
inductive T (α:Type) where
 | nil
 | node (v:α) (l r:T α)
def T.get {α:Type} (d:α):T α->Nat->α
 | .nil,_=>d
 | .node v l r,i=>if i=0 then v else if i % 2=1 then l.get d (i / 2) else r.get d (i / 2 - 1)
def T.path {α:Type} (d:α):Nat->Nat->α->T α
 | 0,_,_=>.nil
 | f+1,i,x=>if i=0 then .node x .nil .nil else if i % 2=1 then .node d (T.path d f (i / 2) x) .nil else .node d .nil (T.path d f (i / 2 - 1) x)
def T.set {α:Type} (d:α):T α->Nat->α->T α
 | .nil,i,x=>T.path d (i+1) i x
 | .node v l r,i,x=>if i=0 then .node x l r else if i % 2=1 then .node v (l.set d (i / 2) x) r else .node v l (r.set d (i / 2 - 1) x)
structure AbsS where
 P:Program
 l:Nat
 len:Nat
 el:Nat->List AV
 n0:Nat
 M0:Nat->Nat->Option Value
 Φ:Nat->(Nat->Prop)->(Nat->Prop)->World->Prop
 Ψ:Nat->(Nat->Prop)->(Nat->Prop)->World->Prop
structure KM where
 sh:AV
 z:AV
 has:List Int->Bool
 val:List Int->AV
inductive Fam where
 | rows (sz:Nat) (len:Nat->Nat)
 | maps (sh z:AV) (n:Nat) (has:Nat->List Int->Bool) (val:Nat->List Int->AV)
inductive LSt where
 | ready
 | busy
 | done (c:Code)
 | mp (es:List (AV×AV))
 | mf (m:List UInt8->Bool)
 | mk (m:KM)
 | abs (k:Nat) (on:Bool) (sp:AbsS)
structure LoopB where
 n:Nat
 tm:T AV
 fn:FuncId
 params:Array Tmp
 assign:Code
 body:Code
def noRec:LoopB:=⟨0,.nil,0,#[],.skip,.skip⟩
def slotD:Nat:=4000
inductive Blk where
 | dead
 | row (g sz:Nat) (pu:Bool) (s:Sq)
 | loop (st:LSt) (r:LoopB)
 | fam (d:Fam)
 deriving Inhabited
def AV.cells:AV->List AV
 | .agg l=>l
 | x=>[x]
def AV.isCell:AV->Bool
 | .undef|.agg _|.tup _|.opt ..=>false
 | _=>true
def AV.isPureCell:AV->Bool
 | .int ..|.bool _|.str _|.nils|.nilp|.nilf|.nilm|.rptr ..|.rol ..|.rof ..=>true
 | .fn _ [] []=>true
 | _=>false
def AV.isPure:AV->Bool
 | .agg l=>l.all AV.isPureCell
 | .tup l=>l.all fun|.agg m=>m.all AV.isPureCell|x=>x.isPureCell
 | x=>x.isPureCell
def AV.okElem (sz:Nat):AV->Bool
 | .agg l=>l.length==sz&&l.all AV.isCell
 | x=>sz==1&&x.isCell
def AV.ids:AV->List Nat
 | .ptr b ..|.sl b ..|.map b|.yld b|.sla b ..|.gro b ..|.fmap b _=>[b]
 | .agg l|.tup l=>idsL l
 | .fn _ a b=>idsL a++idsL b
 | .opt _ _ _ x=>x.ids
 | _=>[]
where idsL:List AV->List Nat
 | []=>[]
 | x::r=>x.ids++idsL r
def avCell:Value->AV
 | .int k n=>.int k n
 | .bool b=>.bool b
 | .string ⟨⟨l⟩⟩=>.str l
 | .pointer none=>.nilp
 | .nilFunc=>.nilf
 | .map none=>.nilm
 | .slice none l c=>if l=0/\c=0 then .nils else .undef
 | .func f a b=>if a.size=0/\b.size=0 then .fn f [] [] else .undef
 | _=>.undef
def avOf:Value->AV
 | .agg cs=>.agg (cs.toList.map avCell)
 | v=>avCell v
def isAggT (P:Program) (t:TypeId):Bool :=
 match P.underlying t with
 | some (.struct _)|some (.array _ _)=>true
 | _=>false
def zeroAV (P:Program) (t:TypeId):Option AV:=((P.info? t).bind (·.zero)).map avOf
structure SR where
 need:Bool
 v:AV
 eff:List (Nat×Blk)
 ob:Option Prop:=none
def ok1 (v:AV):Option SR:=some ⟨true,v,[],none⟩
def okN (b:Bool) (v:AV):Option SR:=some ⟨b,v,[],none⟩
def splice (cells:List AV) (j:Nat) (xs:List AV):List AV:=cells.take j++xs++cells.drop (j+xs.length)
def partAV (P:Program) (t:TypeId) (x:AV) (j:Nat):Option AV :=
 if (P.underlying t).isNone then none else
 if isAggT P t then
  let n:=P.cellsOf t
  if j+n<=x.cells.length then some (.agg ((x.cells.drop j).take n)) else none
 else (x.cells)[j]?
def oneAV:AV->Option AV
 | .agg [z]=>some z
 | .agg _=>none
 | z=>some z
def putAV (x:AV) (j:Nat) (y:AV):Option AV :=
 match x with
 | .agg l=>if j+y.cells.length<=l.length then some (.agg (splice l j y.cells)) else none
 | _=>if j=0 then oneAV y else none
def partOK:AV->Bool
 | .agg _=>true
 | x=>x.isCell
def fillAV (place:Nat->Option (Nat×Nat)) (cells:List AV):List (Nat×AV)->Option (List AV)
 | []=>some cells
 | (i,v)::rest =>
  match place i with
  | none=>none
  | some (off,size) =>
   if partOK v/\v.cells.length=size/\off+v.cells.length<=cells.length then fillAV place (splice cells off v.cells) rest else none
def elemsOf (hp:Nat->Blk):AV->Option (Sq×Bool)
 | .rol l _=>some (.lst l,true)
 | .rof n f _=>some (.fn n f,true)
 | .nils=>some (.lst [],true)
 | .gro _ _ n f=>some (.fn n f,true)
 | .sl b g i len _ =>
  match hp b with
  | .row g' _ _ s=>some (s.sub i len,decide (g=g'))
  | _=>none
 | _=>none
def lenAV:AV->Option Nat
 | .rol l _=>some l.length
 | .rof n _ _=>some n
 | .nils=>some 0
 | .sl _ _ _ len _=>some len
 | .gro _ _ n _=>some n
 | .sla _ _ _ _ len=>some len
 | _=>none
def shlI (k:IntKind) (a y:Int):Int:=k.wrap (a * 2 ^ (min y.toNat k.bits))
def shrI (k:IntKind) (a y:Int):Int:=a.fdiv (2 ^ (min y.toNat k.bits))
def andI (k:IntKind) (x y:Int):Int:=k.wrap ((BitVec.ofInt k.bits x &&& BitVec.ofInt k.bits y).toNat)
def orI (k:IntKind) (x y:Int):Int:=k.wrap ((BitVec.ofInt k.bits x ||| BitVec.ofInt k.bits y).toNat)
def xorI (k:IntKind) (x y:Int):Int:=k.wrap ((BitVec.ofInt k.bits x ^^^ BitVec.ofInt k.bits y).toNat)
def andNotI (k:IntKind) (x y:Int):Int:=k.wrap ((BitVec.ofInt k.bits x &&& ~~~(BitVec.ofInt k.bits y)).toNat)
def eqCell:AV->AV->Option Bool
 | .int k a,.int k' b=>if k=k' then some (a==b) else none
 | .bool a,.bool b=>some (a==b)
 | .str a,.str b=>some (a==b)
 | _,_=>none
def eqCells:List AV->List AV->Option Bool
 | [],[]=>some true
 | x::l,y::m=>match eqCell x y,eqCells l m with|some a,some b=>some (a&&b)|_,_=>none
 | _,_=>none
def tiles (P:Program) (c:Nat):List Field->Nat->Bool
 | [],k=>k==c
 | f::fs,k=>f.offset==k&&tiles P c fs (k+P.cellsOf f.type)
def plainEq (P:Program):Nat->TypeId->Bool
 | 0,_=>false
 | d+1,t =>
  match P.underlying t with
  | some .bool|some (.int _)|some .string=>P.cellsOf t==1
  | some (.struct fs) => fs.toList.all (fun f => f.name != "_" && plainEq P d f.type) && !P.stoodInHeld t && tiles P (P.cellsOf t) fs.toList 0
  | some (.array n e)=>plainEq P d e&&P.cellsOf t==n * P.cellsOf e
  | _=>false
def kindsOK (P:Program):Nat->TypeId->List AV->Bool
 | 0,_,_=>false
 | d+1,t,l =>
  match P.underlying t with
  | some .bool=>(match l with|[.bool _]=>true|_=>false)
  | some (.int k)=>(match l with|[.int k' _]=>k==k'|_=>false)
  | some .string=>(match l with|[.str _]=>true|_=>false)
  | some (.struct fs)=>fs.toList.all fun f=>kindsOK P d f.type ((l.drop f.offset).take (P.cellsOf f.type))
  | some (.array n e)=>(List.range' 0 n).all fun i=>kindsOK P d e ((l.drop (i * P.cellsOf e)).take (P.cellsOf e))
  | _=>false
def cmpInt (op:BinOp) (a b:Int):Option Bool :=
 match op with
 | .eql=>some (a==b)
 | .neq=>some (a !=b)
 | .lss=>some (decide (a<b))
 | .leq=>some (decide (a<=b))
 | .gtr=>some (decide (a > b))
 | .geq=>some (decide (a>=b))
 | _=>none
def nilIs (P:Program) (t:TypeId) (x y:AV):Option (Bool×Bool) :=
 match P.underlying t with
 | some (.slice _) =>
  match x,y with
  | .nils,.nils=>some (true,true)
  | .sl _ _ _ len c,.nils=>some (decide (1<=len)||(match c with|some (_+1)=>true|_=>false),false)
  | .rol l _,.nils=>some (decide (1<=l.length),false)
  | .rof n _ _,.nils=>some (decide (1<=n),false)
  | _,_=>none
 | some (.pointer _) =>
  match x,y with
  | .nilp,.nilp=>some (true,true)
  | .ptr ..,.nilp=>some (true,false)
  | .rptr ..,.nilp=>some (true,false)
  | _,_=>none
 | some (.func ..) =>
  match x,y with
  | .nilf,.nilf=>some (true,true)
  | .fn ..,.nilf=>some (true,false)
  | .yld _,.nilf=>some (true,false)
  | _,_=>none
 | _=>none
def nilAV (P:Program) (op:BinOp) (t:TypeId) (x y:AV):Option SR :=
 match nilIs P t x y with
 | some (nd,b) =>
  match op with
  | .eql=>okN nd (.bool b)
  | .neq=>okN nd (.bool (!b))
  | _=>none
 | none=>none
def binAV (P:Program) (op:BinOp) (t:TypeId) (x y:AV):Option SR :=
 match x,y with
 | .int k a,.int k' b =>
  match op with
  | .shl=>okN (decide (0<=b)) (.int k (shlI k a b))
  | .shr=>okN (decide (0<=b)) (.int k (shrI k a b))
  | _ =>
   if k=k' then
    match op with
    | .add=>ok1 (.int k (k.wrap (a+b)))
    | .sub=>ok1 (.int k (k.wrap (a - b)))
    | .mul=>ok1 (.int k (k.wrap (a * b)))
    | .quo=>okN (b !=0) (.int k (k.wrap (a.tdiv b)))
    | .rem=>okN (b !=0) (.int k (a.tmod b))
    | .and=>ok1 (.int k (andI k a b))
    | .or=>ok1 (.int k (orI k a b))
    | .xor=>ok1 (.int k (xorI k a b))
    | .andNot=>ok1 (.int k (andNotI k a b))
    | op=>(cmpInt op a b).bind fun r=>ok1 (.bool r)
   else none
 | .str a,.str b =>
  match op with
  | .add=>okN (decide ((a.length+b.length:Int)<=9223372036854775807)) (.str (a++b))
  | .eql=>ok1 (.bool (a==b))
  | .neq=>ok1 (.bool (!(a==b)))
  | .lss=>ok1 (.bool (Op.bytesLess a b))
  | .leq=>ok1 (.bool (Op.bytesLess a b||a==b))
  | .gtr=>ok1 (.bool (!(Op.bytesLess a b||a==b)))
  | .geq=>ok1 (.bool (!Op.bytesLess a b))
  | _=>none
 | .bool a,.bool b =>
  match P.underlying t,op with
  | some .bool,.eql=>ok1 (.bool (a==b))
  | some .bool,.neq=>ok1 (.bool (!(a==b)))
  | _,_=>none
 | .agg l,.agg m =>
  if plainEq P 20 t&&isAggT P t&&l.length==P.cellsOf t&&kindsOK P 20 t l then
   match op with
   | .eql=>(eqCells l m).bind fun r=>ok1 (.bool r)
   | .neq=>(eqCells l m).bind fun r=>ok1 (.bool (!r))
   | _=>none
  else none
 | x,y=>nilAV P op t x y
def Sq.sized (sz:Nat):Sq->Bool
 | .lst l=>l.all fun x=>x.cells.length==sz
 | .fn _ f=>(f 0).cells.length==sz
def bound (d:Nat):Option AV->Option (Int×Bool)
 | none=>some (d,true)
 | some (.int _ n)=>some (n,false)
 | _=>none
def sliceAV (P:Program) (hp:Nat->Blk) (t:TypeId) (x:AV) (lo hi mx:Option AV):Option SR :=
 match P.underlying t,x with
 | some .string,.str s =>
  match mx with
  | some _=>none
  | none =>
   (bound 0 lo).bind fun (l,_)=>(bound s.length hi).bind fun (h,_) =>
    okN (decide (0<=l/\l<=h/\h<=s.length)) (.str ((s.drop l.toNat).take (h.toNat - l.toNat)))
 | some (.slice e),.rol s ex =>
  if (P.underlying e).isSome&&(Sq.lst s).sized (P.cellsOf e) then
  (bound 0 lo).bind fun (l,_)=>(bound s.length hi).bind fun (h,hn) =>
  match mx with
  | none=>okN (decide (0<=l/\l<=h/\h<=s.length)) (.rol ((s.drop l.toNat).take (h.toNat - l.toNat)) (ex&&hn))
  | some m=>(bound 0 (some m)).bind fun (mm,_)=>if hn then none else okN (decide (0<=l/\l<=h/\h=mm/\h<=s.length)) (.rol ((s.drop l.toNat).take (h.toNat - l.toNat)) true)
  else none
 | some (.slice e),.rof n f ex =>
  if (P.underlying e).isSome&&(Sq.fn n f).sized (P.cellsOf e) then
  (bound 0 lo).bind fun (l,_)=>(bound n hi).bind fun (h,hn) =>
  match mx with
  | none=>okN (decide (0<=l/\l<=h/\h<=n)) (.rof (h.toNat - l.toNat) (fun k=>f (l.toNat+k)) (ex&&hn))
  | some m=>(bound 0 (some m)).bind fun (mm,_)=>if hn then none else okN (decide (0<=l/\l<=h/\h=mm/\h<=n)) (.rof (h.toNat - l.toNat) (fun k=>f (l.toNat+k)) true)
  else none
 | some (.slice e),.nils =>
  if (P.underlying e).isSome then
  (bound 0 lo).bind fun (l,_)=>(bound 0 hi).bind fun (h,hn) =>
  match mx with
  | none=>okN (decide (l=0/\h=0)) .nils
  | some m=>(bound 0 (some m)).bind fun (mm,_)=>if hn then none else okN (decide (l=0/\h=0/\mm=0)) .nils
  else none
 | some (.slice e),.sl b g i len c =>
  match hp b with
  | .row g' sz _ _ =>
   if sz=P.cellsOf e then
    (bound 0 lo).bind fun (l,_)=>(bound len hi).bind fun (h,hn) =>
    match mx with
    | none=>okN (decide (g=g')&&decide (0<=l/\l<=h/\h<=len)) (.sl b g (i+l.toNat) (h.toNat - l.toNat) (c.map (· - l.toNat)))
    | some m=>(bound 0 (some m)).bind fun (mm,_)=>if hn then none else okN (decide (g=g')&&decide (0<=l/\l<=h/\h=mm/\h<=len)) (.sl b g (i+l.toNat) (h.toNat - l.toNat) (some (mm.toNat - l.toNat)))
   else none
  | _=>none
 | some (.array n e),.rptr y j =>
  match lo,hi,mx with
  | none,none,none =>
   if P.cellsOf e==1&&(P.underlying e).isSome&&decide (j+n<=y.cells.length)&&decide (1<=n)&&decide (n<=65536)&&((y.cells.drop j).take n).all AV.isCell then ok1 (.rol ((y.cells.drop j).take n) true) else none
  | _,_,_=>none
 | some (.array n e),.ptr b g i j =>
  match lo,hi,mx with
  | none,none,none =>
   match hp b with
   | .row g' sz _ _=>if P.cellsOf e==1&&(P.underlying e).isSome&&decide (j+n<=sz)&&decide (1<=n)&&decide (n<=65536) then okN (decide (g=g')) (.sla b g i j n) else none
   | _=>none
  | _,_,_=>none
 | _,_=>none
def indexAddrAV (P:Program) (hp:Nat->Blk) (t:TypeId) (x ix:AV):Option SR :=
 match P.underlying t,x,ix with
 | some (.slice e),.rol l _,.int _ i=>if (P.underlying e).isSome&&(Sq.lst l).sized (P.cellsOf e) then okN (decide (0<=i/\i<l.length)) (.rptr ((Sq.lst l).getL i.toNat) 0) else none
 | some (.slice e),.rof n f _,.int _ i=>if (P.underlying e).isSome&&(Sq.fn n f).sized (P.cellsOf e) then okN (decide (0<=i/\i<n)) (.rptr (f i.toNat) 0) else none
 | some (.slice e),.sl b g i0 len _,.int _ i =>
  match hp b with
  | .row g' sz _ _=>if sz=P.cellsOf e then okN (decide (g=g')&&decide (0<=i/\i<len)) (.ptr b g (i0+i.toNat) 0) else none
  | _=>none
 | some (.array n e),.ptr b g i0 j,.int _ i=>if 1<=P.cellsOf e then okN (decide (0<=i/\i<n)) (.ptr b g i0 (j+i.toNat * P.cellsOf e)) else none
 | some (.array n e),.rptr x j,.int _ i=>if 1<=P.cellsOf e then okN (decide (0<=i/\i<n)) (.rptr x (j+i.toNat * P.cellsOf e)) else none
 | _,_,_=>none
def indexAV (P:Program) (t:TypeId) (x ix:AV):Option SR :=
 match P.underlying t,x,ix with
 | some .string,.str s,.int _ i=>okN (decide (0<=i/\i<s.length)) (.int .u8 ((s.getD i.toNat 0).toNat))
 | some (.array n e),.agg l,.int _ i=>(partAV P e (.agg l) (i.toNat * P.cellsOf e)).bind fun v=>okN (decide (0<=i/\i<n)) v
 | _,_,_=>none
def byteAV:AV->UInt8
 | .int _ n=>UInt8.ofNat n.toNat
 | _=>0
def isU8:AV->Bool
 | .int .u8 _=>true
 | _=>false
def strOf:Sq->Option SR
 | .lst l=>if l.all isU8 then ok1 (.str (l.map byteAV)) else none
 | .fn n f=>some { need:=true,v:=.str ((List.range n).map fun i=>byteAV (f i)),eff:=[],ob:=some (∀ i,i<n->isU8 (f i)=true) }
def convertAV (P:Program) (hp:Nat->Blk) (s d:TypeId) (x:AV):Option SR :=
 match P.underlying s,P.underlying d,x with
 | some _,some (.int k),.int _ n=>ok1 (.int k (k.wrap n))
 | some _,some .string,.str l=>ok1 (.str l)
 | some _,some (.slice e),.str l =>
  match P.underlying e with
  | some (.int .u8)=>okN (decide (l.length<=9223372036854775807)) (.rof l.length (fun i=>.int .u8 ((l.getD i 0).toNat)) false)
  | _=>none
 | some (.slice e),some .string,x =>
  match P.underlying e with
  | some (.int .u8)=>(elemsOf hp x).bind fun q=>(strOf q.1).map fun r=>{ r with need:=q.2 }
  | _=>none
 | _,_,_=>none
def puOf (hp:Nat->Blk):AV->Bool
 | .sl b _ _ _ _=>match hp b with|.row _ _ pu _=>pu|_=>false
 | _=>true
def room (n by_:Nat):Bool:=decide (n * by_<=140737488355328/\n<=9223372036854775807)
def rowSz (hp:Nat->Blk) (b:Nat):Nat:=match hp b with|.row _ sz _ _=>sz|_=>0
structure Itr where
 nd:Bool
 len:Nat
 el:Nat->List AV
 v1:AV
 v2:AV
def sizedAV (hp:Nat->Blk) (x:AV) (q:Sq) (sz:Nat):Bool:=match x with|.sl b _ _ _ _=>rowSz hp b==sz|_=>q.sized sz
def okZero (P:Program) (e:TypeId) (sz:Nat):Bool:=match zeroAV P e with|some z=>z.okElem sz|none=>false
def appendAV (P:Program) (ts:TypeId) (hp:Nat->Blk) (fr:Nat) (s x:AV):Option SR :=
 match P.underlying ts with
 | some (.slice e) =>
  (match x with
   | .str l=>(match P.underlying e with|some (.int .u8)=>some (Sq.fn l.length fun i=>.int .u8 ((l.getD i 0).toNat),true)|_=>none)
   | x=>elemsOf hp x).bind fun (xs,okx) =>
   let sz:=P.cellsOf e
   let by_:=P.bytesOf e
   let pu:=puOf hp x&&puOf hp s
   if sizedAV hp x xs sz&&decide (1<=sz)&&okZero P e sz then
    (elemsOf hp s).bind fun (q,oks) =>
    if sizedAV hp s q sz then
     let m:=xs.len
     let rm:=room (q.len+m) by_
     match s with
     | .nils=>(match xs with
      | .lst []=>some ⟨okx&&rm,.nils,[],none⟩
      | xs=>some ⟨okx&&rm,.sl fr 0 0 m none,[(fr,.row 0 sz pu xs)],none⟩)
     | .rol _ true|.rof _ _ true=>some ⟨okx&&rm&&(m !=0||q.len==0),.sl fr 0 0 (q.len+m) none,[(fr,.row 0 sz pu (q.app xs))],none⟩
     | .sl b g _ _ none=>if rowSz hp b=sz then some ⟨okx&&oks&&rm,.sl b (g+1) 0 (q.len+m) none,[(b,.row (g+1) sz pu (q.app xs))],none⟩ else none
     | .sl _ _ _ _ (some c)=>some ⟨okx&&oks&&rm&&(c==q.len)&&(m !=0||q.len==0),.sl fr 0 0 (q.len+m) none,[(fr,.row 0 sz pu (q.app xs))],none⟩
     | _=>none
    else none
   else none
 | _=>none
def Sq.put:Sq->Nat->Nat->Sq->Sq
 | .lst l,i,n,.lst m=>.lst (l.take i++m.take n++l.drop (i+n))
 | s,i,n,xs=>.fn s.len (fun k=>if i<=k/\k<i+n then xs.get (k - i) else s.get k)
def copyAV (P:Program) (hp:Nat->Blk) (t:TypeId) (d x:AV):Option SR :=
 match P.underlying t with
 | some (.slice e) =>
  (elemsOf hp x).bind fun (xs,okx) =>
   match d with
   | .sl b g i len _ =>
    match hp b with
    | .row g' sz pu s =>
     if sz=P.cellsOf e/\sizedAV hp x xs (P.cellsOf e)=true/\1<=P.cellsOf e then
      some ⟨okx&&decide (g=g'),.int .i64 (min xs.len len:Nat),[(b,.row g' sz (pu&&puOf hp x) (s.put i (min xs.len len) xs))],none⟩
     else none
    | _=>none
   | .sla b g i j len =>
    match hp b with
    | .row g' sz pu s =>
     if P.cellsOf e=1/\sizedAV hp x xs 1=true/\((List.range (min xs.len len)).map xs.get).all AV.isCell=true/\i<s.len then
      match s.get i with
      | .agg l=>if j+min xs.len len<=l.length then some ⟨okx&&decide (g=g'),.int .i64 (min xs.len len:Nat),[(b,.row g' sz (pu&&puOf hp x) (s.set i (.agg (splice l j ((List.range (min xs.len len)).map xs.get)))))],none⟩ else none
      | _=>none
     else none
    | _=>none
   | _=>none
 | _=>none
def appendG (P:Program) (ts:TypeId) (hp:Nat->Blk) (s x:AV):Option SR :=
 match s with
 | .gro b i n f =>
  match P.underlying ts with
  | some (.slice e) =>
   match hp b with
   | .fam (.rows sz len) =>
    match elemsOf hp x with
    | some (.lst [y],okx) =>
     if sz=P.cellsOf e/\1<=sz/\okZero P e sz=true/\sizedAV hp x (.lst [y]) sz=true/\puOf hp x=true then
      some ⟨okx&&room (n+1) (P.bytesOf e)&&decide (n=len i),.gro b i (n+1) (fun q=>mergeAV (q<n) (f q) y),[(b,.fam (.rows sz fun k=>if k=i then n+1 else len k))],none⟩
     else none
    | _=>none
   | _=>none
  | _=>none
 | _=>none
def appendZ (P:Program) (ts:TypeId) (hp:Nat->Blk) (fr:Nat) (s x:AV):Option (Bool×AV) :=
 match s,x with
 | .rol l true,.rof n f ex =>
  match appendAV P ts hp fr (.rol l true) (.rof n f ex) with
  | some ⟨nd,.sl b' g' 0 m none,[(b,.row g _ true (.fn _ F))],none⟩=>if b=fr/\b'=fr/\g'=g then some (n==0||nd,.rof m F false) else none
  | _=>none
 | _,_=>none
def isGro:AV->Bool
 | .gro ..=>true
 | _=>false
def AV.deg:AV->AV
 | .gro _ _ n f=>.rof n f false
 | x=>x
def minI (a b:Int):Int:=if b<a then b else a
def maxI (a b:Int):Int:=if b > a then b else a
def srcOK (P:Program) (t:TypeId):Bool :=
 match P.underlying t with
 | none=>false
 | some (.int _)=>false
 | _=>true
theorem srcOK_spec {P:Program} {t:TypeId} (h:srcOK P t=true):∃ d,P.underlying t=some d/\∀ k,d≠.int k:=by
 unfold srcOK at h;split at h
 ·cases h
 ·cases h
 ·rename_i x h1 h2;cases hu:P.underlying t with
  | none=>exact absurd hu h1
  | some d=>exact ⟨d,rfl,fun k hk=>h2 k (by rw [hu,hk])⟩
def builtinAV (P:Program) (b:Builtin) (ts:List TypeId) (hp:Nat->Blk) (fr:Nat) (args:List AV):Option SR :=
 match b,ts,args with
 | .len,t::_,[x] =>
  match P.underlying t,x with
  | some .string,.str s=>ok1 (.int .i64 s.length)
  | some (.array n _),_=>ok1 (.int .i64 n)
  | some (.pointer a),_=>(match P.underlying a with|some (.array n _)=>ok1 (.int .i64 n)|_=>none)
  | some (.slice _),x=>(lenAV x).bind fun n=>ok1 (.int .i64 n)
  | _,_=>none
 | .append,[t,t2],[s,x]=>if srcOK P t2 then (match isGro s with|true=>appendG P t hp s x|false=>appendAV P t hp fr s x) else none
 | .copy,t::_,[d,x]=>copyAV P hp t d x
 | .min,_,[.int k a,.int k' b]=>if k=k' then ok1 (.int k (minI a b)) else none
 | .max,_,[.int k a,.int k' b]=>if k=k' then ok1 (.int k (maxI a b)) else none
 | _,_,_=>none
def keyFit (P:Program) (kt:TypeId) (x:AV):Bool :=
 (match x with|.agg _=>isAggT P kt|x=>!isAggT P kt&&x.isCell)&&x.cells.length==P.cellsOf kt&&kindsOK P 20 kt x.cells&&(match eqCells x.cells x.cells with|some _=>true|none=>false)
def findAV (k:List AV):List (AV×AV)->Nat->Option (Option Nat)
 | [],_=>some none
 | e::r,i =>
  match eqCells k e.1.cells with
  | some true=>some (some i)
  | some false=>findAV k r (i+1)
  | none=>none
def mapEs (hp:Nat->Blk):AV->Option (List (AV×AV))
 | .nilm=>some []
 | .map b=>match hp b with|.loop (.mp es) _=>some es|_=>none
 | _=>none
def mfOf (hp:Nat->Blk):AV->Option (List UInt8->Bool)
 | .map b=>match hp b with|.loop (.mf m) _=>some m|_=>none
 | _=>none
def lookS:List (AV×AV)->List UInt8->Bool
 | [],_=>false
 | (.str k,.bool v)::r,s=>if k=s then v else lookS r s
 | _::r,s=>lookS r s
def sbB (es:List (AV×AV)):Bool:=es.all fun e=>match e with|(.str _,.bool _)=>true|_=>false
def zfB (P:Program) (et:TypeId):Bool:=match zeroAV P et with|some (.bool b)=>!b|_=>false
def lookupF (P:Program) (t:TypeId) (m:List UInt8->Bool) (ix:AV) (ok:Bool):Option SR :=
 match P.underlying t with
 | some (.map kt et) =>
  match ix,ok with
  | .str s,false=>if plainEq P 20 kt&&keyFit P kt (.str [])&&zfB P et then ok1 (.bool (m s)) else none
  | _,_=>none
 | _=>none
def mapUpdateF (P:Program) (t:TypeId) (b:Nat) (m:List UInt8->Bool) (r:LoopB) (ix v:AV):Option SR :=
 match P.underlying t with
 | some (.map kt _) =>
  match ix,v with
  | .str s,.bool c=>if plainEq P 20 kt&&keyFit P kt (.str []) then some ⟨true,.undef,[(b,.loop (.mf fun k=>if s=k then c else m k) r)],none⟩ else none
  | _,_=>none
 | _=>none
def intCells:List AV->Option (List Int)
 | []=>some []
 | x::l=>match x with
  | .int _ n=>match intCells l with
   | some ns=>some (n::ns)
   | none=>none
  | _=>none
def sameK:List AV->List AV->Bool
 | [],[]=>true
 | x::l,y::m=>match x with
  | .int k _=>match y with
   | .int k' _=>decide (k=k')&&sameK l m
   | _=>false
  | _=>false
 | _,_=>false
def sameShape (x y:AV):Bool :=
 match x with
 | .agg l=>match y with
  | .agg m=>sameK l m
  | _=>false
 | x=>match y with
  | .agg _=>false
  | y=>sameK [x] [y]
def zIs (P:Program) (et:TypeId) (z:AV):Bool :=
 match zeroAV P et with
 | some (.int k n)=>match z with|.int k' m=>decide (k=k')&&decide (n=m)|_=>false
 | some (.bool b)=>match z with|.bool c=>b==c|_=>false
 | _=>false
def lookupK (P:Program) (t:TypeId) (m:KM) (ix:AV) (ok:Bool):Option SR :=
 match P.underlying t with
 | some (.map kt et) =>
  match intCells ix.cells with
  | some ks=>if plainEq P 20 kt&&keyFit P kt ix&&zIs P et m.z&&sameShape ix m.sh then (match ok with|true=>ok1 (.tup [m.val ks,.bool (m.has ks)])|false=>ok1 (m.val ks)) else none
  | none=>none
 | _=>none
def isLit:AV->Bool
 | .int ..|.bool _=>true
 | _=>false
def KM.put (m:KM) (ks:List Int) (v:AV):KM:=⟨m.sh,m.z,fun q=>if q=ks then true else m.has q,fun q=>mergeAV (q=ks) v (m.val q)⟩
def updateK (P:Program) (t:TypeId) (m:KM) (ix v:AV):Option KM :=
 match P.underlying t with
 | some (.map kt _) =>
  match intCells ix.cells with
  | some ks=>if plainEq P 20 kt&&keyFit P kt ix&&isLit v&&sameShape ix m.sh then some (m.put ks v) else none
  | none=>none
 | _=>none
def mkOf (hp:Nat->Blk):AV->Option (Bool×KM)
 | .map b=>match hp b with|.loop (.mk m) _=>some (true,m)|_=>none
 | .fmap b i=>match hp b with|.fam (.maps sh z n has val)=>some (decide (i<n),⟨sh,z,has i,val i⟩)|_=>none
 | _=>none
def lookupAV0 (P:Program) (hp:Nat->Blk) (t:TypeId) (x ix:AV) (ok:Bool):Option SR :=
 match P.underlying t with
 | some (.map kt et) =>
  if plainEq P 20 kt&&keyFit P kt ix then
   (zeroAV P et).bind fun z=>(mapEs hp x).bind fun es =>
   if es.all (fun e=>keyFit P kt e.1) then
    (findAV ix.cells es 0).bind fun r =>
     match r,ok with
     | some i,true=>ok1 (.tup [(es.getD i (.undef,.undef)).2,.bool true])
     | some i,false=>ok1 (es.getD i (.undef,.undef)).2
     | none,true=>ok1 (.tup [z,.bool false])
     | none,false=>ok1 z
   else none
  else none
 | _=>none
def lookupAV (P:Program) (hp:Nat->Blk) (t:TypeId) (x ix:AV) (ok:Bool):Option SR :=
 match mfOf hp x with
 | some m=>lookupF P t m ix ok
 | none=>match mkOf hp x with
  | some (nd,m)=>(lookupK P t m ix ok).map fun r=>{ r with need:=nd }
  | none=>lookupAV0 P hp t x ix ok
def mapUpdateAV0 (P:Program) (hp:Nat->Blk) (t:TypeId) (x ix v:AV):Option SR :=
 match P.underlying t,x with
 | some (.map kt _),.map b =>
  if plainEq P 20 kt&&keyFit P kt ix then
   match hp b with
   | .loop (.mp es) r =>
    if es.all (fun e=>keyFit P kt e.1) then
     (findAV ix.cells es 0).bind fun q =>
      match q with
      | some i=>some ⟨true,.undef,[(b,.loop (.mp (es.set i (ix,v))) r)],none⟩
      | none=>some ⟨true,.undef,[(b,.loop (.mp (es++[(ix,v)])) r)],none⟩
    else none
   | _=>none
  else none
 | _,_=>none
def mfAt (hp:Nat->Blk):AV->Option (Nat×(List UInt8->Bool)×LoopB)
 | .map b=>match hp b with|.loop (.mf m) r=>some (b,m,r)|_=>none
 | _=>none
def mkAt (hp:Nat->Blk):AV->Option (Bool×Nat×KM×(KM->Blk))
 | .map b=>match hp b with|.loop (.mk m) r=>some (true,b,m,fun m'=>.loop (.mk m') r)|_=>none
 | .fmap b i=>match hp b with
  | .fam (.maps sh z n has val)=>some (decide (i<n),b,⟨sh,z,has i,val i⟩,fun m'=>.fam (.maps sh z n (fun k q=>if k=i then m'.has q else has k q) (fun k q=>mergeAV (k=i) (m'.val q) (val k q))))
  | _=>none
 | _=>none
def mapUpdateAV (P:Program) (hp:Nat->Blk) (t:TypeId) (x ix v:AV):Option SR :=
 match mfAt hp x with
 | some (b,m,r)=>mapUpdateF P t b m r ix v
 | none=>match mkAt hp x with
  | some (nd,b,m,g)=>(updateK P t m ix v).map fun m'=>⟨nd,.undef,[(b,g m')],none⟩
  | none=>mapUpdateAV0 P hp t x ix v
def setAll (l:List AV):List (Nat×AV)->List AV
 | []=>l
 | (i,x)::r=>setAll (l.set i x) r
def stepOp (P:Program) (op:Op) (ev:Operand->AV) (hp:Nat->Blk) (fr:Nat):Option SR :=
 match op with
 | .move x|.assign x=>ok1 (ev x)
 | .alloc t=>(zeroAV P t).bind fun z=>if z.okElem (P.cellsOf t)&&decide (1<=P.cellsOf t) then some ⟨true,.ptr fr 0 0 0,[(fr,.row 0 (P.cellsOf t) z.isPure (.lst [z]))],none⟩ else none
 | .box t x=>if (ev x).okElem (P.cellsOf t)&&decide (1<=P.cellsOf t) then some ⟨true,.ptr fr 0 0 0,[(fr,.row 0 (P.cellsOf t) (ev x).isPure (.lst [ev x]))],none⟩ else none
 | .build t parts =>
  (zeroAV P t).bind fun z =>
  match P.underlying t,z with
  | some (.struct fs),.agg zc =>
   if fs.toList.all (fun f=>(P.info? f.type).isSome) then
    (fillAV (fun i=>(fs.toList[i]?).map fun f=>(f.offset,P.cellsOf f.type)) zc (parts.toList.map fun q=>(q.1,ev q.2))).bind fun cs=>ok1 (.agg cs)
   else none
  | some (.array _ e),.agg zc =>
   if (P.info? e).isSome then
    (fillAV (fun i=>some (i * P.cellsOf e,P.cellsOf e)) zc (parts.toList.map fun q=>(q.1,ev q.2))).bind fun cs=>ok1 (.agg cs)
   else none
  | _,_=>none
 | .buildSlice t len parts =>
  match P.underlying t with
  | some (.slice e) =>
   (zeroAV P e).bind fun z =>
   let l:=setAll (List.replicate len z) (parts.toList.map fun q=>(q.1,ev q.2))
   if z.okElem (P.cellsOf e)&&decide (len * P.cellsOf e<=16777216)&&decide (1<=P.cellsOf e)&&parts.toList.all (fun p=>decide (p.1<len)&&(ev p.2).okElem (P.cellsOf e)) then
    some ⟨true,.sl fr 0 0 len (some len),[(fr,.row 0 (P.cellsOf e) (l.all AV.isPure) (.lst l))],none⟩
   else none
  | _=>none
 | .load t p =>
  match ev p with
  | .ptr b g i j =>
   match hp b with
   | .row g' _ _ s=>(partAV P t (s.getL i) j).bind fun v=>okN (decide (g=g')) v
   | _=>none
  | .rptr x j=>(partAV P t x j).bind ok1
  | _=>none
 | .store t p x =>
  match ev p with
  | .ptr b g i j =>
   match hp b with
   | .row g' sz pu s =>
    if (ev x).okElem (P.cellsOf t)/\1<=P.cellsOf t then
     (putAV (s.get i) j (ev x)).bind fun y=>some ⟨decide (g=g'),.undef,[(b,.row g' sz (pu&&(ev x).isPure) (s.set i y))],none⟩
    else none
   | _=>none
  | _=>none
 | .nilCheck x =>
  match ev x with
  | .ptr ..|.rptr ..|.fn (.func _) _ _=>ok1 (ev x)
  | _=>none
 | .binOp op t x y _=>binAV P op t (ev x) (ev y)
 | .unOp .not _ x=>match ev x with|.bool b=>ok1 (.bool (!b))|_=>none
 | .unOp .neg _ x=>match ev x with|.int k n=>ok1 (.int k (k.wrap (0 - n)))|_=>none
 | .convert s d x=>convertAV P hp s d (ev x)
 | .makeFunc f first cap=>ok1 (.fn f (first.toList.map ev) (cap.toList.map ev))
 | .makeSlice t l c =>
  match P.underlying t,ev l,ev c with
  | some (.slice e),.int .i64 n,.int .i64 m =>
   (zeroAV P e).bind fun z=>if z.okElem (P.cellsOf e)&&decide (1<=P.cellsOf e) then
    some ⟨decide (0<=n/\n=m/\n * (P.bytesOf e:Int)<=140737488355328/\n<=9223372036854775807),.sl fr 0 0 n.toNat (some n.toNat),[(fr,.row 0 (P.cellsOf e) z.isPure (.fn n.toNat fun _=>z))],none⟩ else none
  | _,_,_=>none
 | .slice t x lo hi mx=>sliceAV P hp t (ev x).deg (lo.map ev) (hi.map ev) (mx.map ev)
 | .fieldAddr t x f =>
  match P.underlying t with
  | some (.struct fs) =>
   (fs.toList[f]?).bind fun fd=>if P.cellsOf fd.type=0 then none else
    match ev x with
    | .ptr b g i j=>ok1 (.ptr b g i (j+fd.offset))
    | .rptr y j=>ok1 (.rptr y (j+fd.offset))
    | _=>none
  | _=>none
 | .field t x f =>
  match P.underlying t with
  | some (.struct fs) =>
   (fs.toList[f]?).bind fun fd =>
    match ev x with
    | .agg l=>(partAV P fd.type (.agg l) fd.offset).bind ok1
    | _=>none
  | _=>none
 | .indexAddr t x ix=>indexAddrAV P hp t (ev x).deg (ev ix)
 | .index t x ix=>indexAV P t (ev x) (ev ix)
 | .extract x i=>match ev x with|.tup l=>(l[i]?).bind ok1|_=>none
 | .call { callee:=.builtin b,args,argTypes }=>builtinAV P b argTypes.toList hp fr (args.toList.map ev)
 | .makeMap _ none=>some ⟨true,.map fr,[(fr,.loop (.mp []) noRec)],none⟩
 | .lookup t x ix ok=>lookupAV P hp t (ev x) (ev ix) ok
 | .mapUpdate t m k v|.insert t m k v=>mapUpdateAV P hp t (ev m) (ev k) (ev v)
 | _=>none
structure St where
 tm:T AV
 hp:T Blk
 nx:Nat
def St.ev (gl:Nat->AV) (s:St):Operand->AV
 | .tmp t=>s.tm.get .undef t
 | .const v=>avOf v
 | .global g=>gl g
 | .func f=>.fn (.func f) [] []
def St.put (s:St) (dst:Option Tmp) (v:AV):St :=
 match dst with
 | some d=>{ s with tm:=s.tm.set .undef d v }
 | none=>s
def St.hpf (s:St):Nat->Blk:=fun b=>s.hp.get .dead b
def setEff (hp:T Blk):List (Nat×Blk)->T Blk
 | []=>hp
 | (b,x)::r=>setEff (hp.set .dead b x) r
def newOf (nx:Nat):List (Nat×Blk)->Nat
 | []=>nx
 | (b,_)::r=>newOf (if nx<=b then b+1 else nx) r
inductive Ex where
 | normal
 | exit (id:Nat)
 | ret
inductive VT:Type 1 where
 | fail (why:Nat) (pos:String)
 | leaf (p:Prop)
 | leafB (b:Bool)
 | need (b:Bool) (t:VT)
 | vb (b:Bool) (t e:VT)
 | both (t e:VT)
 | all (ι:Type) (f:ι->VT)
 | imp (p:Prop) (t:VT)
 | and (p:Prop) (t:VT)
def NB (b:Bool) (p:Prop):Prop:=match b with|true=>p|false=>False
def VB (b:Bool) (p q:Prop):Prop:=match b with|true=>p|false=>q
def VT.sat:VT->Prop
 | .fail _ _=>False
 | .leaf p=>p
 | .leafB b=>b=true
 | .need b t=>NB b t.sat
 | .vb b t e=>VB b t.sat e.sat
 | .both t e=>t.sat/\e.sat
 | .all ι f=>∀ i:ι,(f i).sat
 | .imp p t=>p->t.sat
 | .and p t=>p/\t.sat
def VT.chk:VT->Bool
 | .leafB b=>b
 | .need b t=>match b with|true=>t.chk|false=>false
 | .vb b t e=>match b with|true=>t.chk|false=>e.chk
 | .both t e=>t.chk&&e.chk
 | _=>false
inductive Out where
 | ret (need:Bool) (v:AV) (eff:List (Nat×Blk))
 | ite (b:Bool) (t e:Out)
structure Spec where
 fr:List (Nat×AV)
 hp:List (Nat×Blk)
structure Inv where
 ι:Type
 nx:Nat
 st:ι->Spec
 pre:ι->Prop
 μ:ι->Nat
inductive Mode where
 | top
 | nodef
 | round (b:Nat)
structure Env where
 P:Program
 gl:Nat->AV
 ctr:FuncId->List AV->(Nat->Blk)->Nat->Option Out
 inv:FuncId->Nat->Option Inv
 fuelL:Nat
 cl:Bool
 md:Mode:=.top
 itr:FuncId->List AV->List AV->Option Itr:=fun _ _ _=>none
 invS:FuncId->Nat->St->Option Inv:=fun _ _ _=>none
 fz:List Tmp:=[]
 fzs:FuncId->List Tmp:=fun _=>[]
 nq:Bool:=false
 po:Bool:=false
 itrY:FuncId->Nat->List AV->Option Itr:=fun _ _ _=>none
def Env.at (E:Env) (md:Mode):Env:=⟨E.P,E.gl,E.ctr,E.inv,E.fuelL,E.cl,md,E.itr,E.invS,[],E.fzs,E.nq,E.po,E.itrY⟩
def Env.sel (E:Env) (f:FuncId):Env:=⟨E.P,E.gl,E.ctr,E.inv,E.fuelL,E.cl,E.md,E.itr,E.invS,E.fzs f,E.fzs,E.nq,E.po,E.itrY⟩
def Env.invAt (E:Env) (f:FuncId) (l:Nat) (s:St):Option Inv:=match E.inv f l with|some I=>some I|none=>E.invS f l s
def T.list {α:Type} (keep:α->Bool):T α->List (Nat×α)
 | .nil=>[]
 | .node v l r=>(match keep v with|true=>[(0,v)]|false=>[])++((T.list keep l).map (fun p=>(2 * p.1+1,p.2))++(T.list keep r).map (fun p=>(2 * p.1+2,p.2)))
def keepBlk:Blk->Bool
 | .row ..=>true
 | .loop (.abs ..) _=>true
 | .loop (.mk _) _=>true
 | .fam _=>true
 | _=>false
inductive Callee where
 | fn (f:FuncId)
 | dfn (f:FuncId)
 | rnd (b:Nat)
abbrev CallH:=Callee->List AV->T Blk->Nat->(AV->T Blk->Nat->VT)->VT
def forceN (n:Nat) (K:Nat->VT):VT:=match n with|0=>K 0|m+1=>K (m+1)
def AV.force0:AV->(AV->VT)->VT
 | .int k n,K=>match n with|.ofNat m=>forceN m fun m=>K (.int k (.ofNat m))|.negSucc m=>forceN m fun m=>K (.int k (.negSucc m))
 | .bool b,K=>match b with|true=>K (.bool true)|false=>K (.bool false)
 | .agg l,K=>K (.agg l)
 | .str s,K=>K (.str s)
 | x,K=>K x
def forceT:List AV->(List AV->VT)->VT
 | [],K=>K []
 | x::l,K=>AV.force0 x fun x=>forceT l fun l=>K (x::l)
mutual
def AV.force (cl:Bool):AV->(AV->VT)->VT
 | .int k n,K=>match cl with
  | true=>match n with|.ofNat m=>forceN m fun m=>K (.int k (.ofNat m))|.negSucc m=>forceN m fun m=>K (.int k (.negSucc m))
  | false=>K (.int k n)
 | .bool b,K=>match cl with|true=>(match b with|true=>K (.bool true)|false=>K (.bool false))|false=>K (.bool b)
 | .agg l,K=>AV.forceL cl l fun l=>K (.agg l)
 | .tup l,K=>AV.forceL cl l fun l=>K (.tup l)
 | .rol l ex,K=>AV.forceL cl l fun l=>K (.rol l ex)
 | .rptr x j,K=>match cl with|true=>AV.force true x fun x=>K (.rptr x j)|false=>K (.rptr x j)
 | .fn f a b,K=>AV.forceL cl a fun a=>AV.forceL cl b fun b=>K (.fn f a b)
 | .opt m j w x,K=>AV.force cl x fun x=>K (.opt m j w x)
 | .undef,K=>K .undef
 | .str s,K=>K (.str s)
 | .nils,K=>K .nils
 | .nilp,K=>K .nilp
 | .nilf,K=>K .nilf
 | .nilm,K=>K .nilm
 | .ptr b g i j,K=>K (.ptr b g i j)
 | .sl b g i len cap,K=>K (.sl b g i len cap)
 | .rof n f ex,K=>match cl with|true=>forceT ((List.range n).map f) fun l=>K (.rol l ex)|false=>K (.rof n f ex)
 | .map b,K=>K (.map b)
 | .yld b,K=>K (.yld b)
 | .sla b g i j len,K=>K (.sla b g i j len)
 | .gro b i n f,K=>K (.gro b i n f)
 | .fmap b i,K=>K (.fmap b i)
def AV.forceL (cl:Bool):List AV->(List AV->VT)->VT
 | [],K=>K []
 | x::l,K=>AV.force cl x fun x=>AV.forceL cl l fun l=>K (x::l)
end
def Blk.force (cl:Bool):Blk->(Blk->VT)->VT
 | .dead,K=>K .dead
 | .loop st r,K=>K (.loop st r)
 | .fam d,K=>K (.fam d)
 | .row g sz pu (.lst l),K=>AV.forceL cl l fun l=>match pu with|true=>K (.row g sz true (.lst l))|false=>K (.row g sz false (.lst l))
 | .row g sz pu (.fn n f),K=>match cl with
  | true=>forceT ((List.range n).map f) fun l=>match pu with|true=>K (.row g sz true (.lst l))|false=>K (.row g sz false (.lst l))
  | false=>match pu with|true=>K (.row g sz true (.fn n f))|false=>K (.row g sz false (.fn n f))
def T.pathK {α:Type} (d:α):Nat->Nat->α->(T α->VT)->VT
 | 0,_,_,K=>K .nil
 | f+1,i,x,K=>if i=0 then K (.node x .nil .nil) else if i % 2=1 then T.pathK d f (i / 2) x fun t=>K (.node d t .nil) else T.pathK d f (i / 2 - 1) x fun t=>K (.node d .nil t)
def T.setK {α:Type} (d:α):T α->Nat->α->(T α->VT)->VT
 | .nil,i,x,K=>T.pathK d (i+1) i x K
 | .node v l r,i,x,K=>if i=0 then K (.node x l r) else if i % 2=1 then l.setK d (i / 2) x fun l=>K (.node v l r) else r.setK d (i / 2 - 1) x fun r=>K (.node v l r)
def effK (cl:Bool) (hp:T Blk):List (Nat×Blk)->(T Blk->VT)->VT
 | [],K=>K hp
 | (b,x)::r,K=>x.force cl fun x=>hp.setK .dead b x fun hp=>effK cl hp r K
def putK (cl:Bool) (s:St) (dst:Option Tmp) (v:AV) (K:St->VT):VT :=
 match dst with
 | some d=>v.force cl fun v=>s.tm.setK .undef d v fun tm=>K ⟨tm,s.hp,s.nx⟩
 | none=>K s
def notAbs:Blk->Bool
 | .loop (.abs ..) _=>false
 | _=>true
def notFam:Blk->Bool
 | .fam _=>false
 | _=>true
def noAbs:T Blk->Bool
 | .nil=>true
 | .node v l r=>notAbs v&&(noAbs l&&noAbs r)
def effOK (hp:Nat->Blk) (nx:Nat) (eff:List (Nat×Blk)):Bool :=
 eff.all fun p=>(decide (nx<=p.1)||(match hp p.1 with|.row ..=>notFam p.2|.loop (.mp _) _=>notFam p.2|.loop (.mf _) _=>notFam p.2|.loop (.mk _) _=>notFam p.2|.fam _=>!notFam p.2|_=>false))&&notAbs p.2
def okR (hp:T Blk) (R:List Nat):Bool:=R.all fun b=>notAbs (hp.get .dead b)&&notFam (hp.get .dead b)
def maskK (hp:T Blk):List Nat->(T Blk->VT)->VT
 | [],K=>K hp
 | b::r,K=>hp.setK .dead b .dead fun hp=>maskK hp r K
def backK (old:T Blk) (hp:T Blk):List Nat->(T Blk->VT)->VT
 | [],K=>K hp
 | b::r,K=>hp.setK .dead b (old.get .dead b) fun hp=>backK old hp r K
def outVT (cl:Bool) (hp:T Blk) (nx:Nat) (K:AV->T Blk->Nat->VT):Out->VT
 | .ret need v eff=>.need need (match effOK (fun b=>hp.get .dead b) nx eff with
  | true=>effK cl hp eff fun hp=>forceN (newOf nx eff) fun nx=>K v hp nx
  | false => .fail 22 "")
 | .ite b t e=>.vb b (outVT cl hp nx K t) (outVT cl hp nx K e)
def isW (want c:Bool):Bool:=match want with|true=>c|false=>!c
def impB (m need:Bool):Bool:=match need with|true=>true|false=>!m
def strip (asg:List Nat) (gs:List (Nat×Bool)) (t:Nat):AV->AV
 | .opt _ j w x=>if asg.contains t&&gs.contains (j,w) then x else .undef
 | x=>x
def stripO (asg:List Nat) (gs:List (Nat×Bool)) (ev:Operand->AV):Operand->AV
 | .tmp t=>strip asg gs t (ev (.tmp t))
 | x=>ev x
def evOf (gl:Nat->AV) (tm:Nat->AV):Operand->AV
 | .tmp t=>tm t
 | .const v=>avOf v
 | .global g=>gl g
 | .func f=>.fn (.func f) [] []
def guards (ops:Array Oper) (asg:List Nat) (tm:Nat->AV):Nat->Nat×Bool->Option (List (Nat×Bool)×Bool)
 | 0,_=>none
 | n+1,(j,want) =>
  match (ops[j]?).bind (·.dst) with
  | some t =>
   if asg.contains t then
    match tm t with
    | .bool c=>some ([(j,want)],isW want c)
    | .opt m j' w' (.bool c)=>(guards ops asg tm n (j',w')).bind fun (l,_)=>some ((j,want)::l,m&&isW want c)
    | _=>none
   else none
  | none=>none
def pickAV (a c:Operand) (b:Bool) (x y:AV):Option AV :=
 match x,y with
 | .bool x,.bool y =>
  match a,c with
  | .const (.bool true),_=>some (.bool (b||y))
  | _,.const (.bool false)=>some (.bool (b&&x))
  | _,_=>some (.bool (bif b then x else y))
 | _,_=>none
structure GD where
 g:Nat×Bool
 l:List (Nat×Bool)
 m:Bool
def gsOf:Option GD->List (Nat×Bool)
 | none=>[]
 | some d=>d.l
def AV.clean:AV->AV
 | .opt ..=>.undef
 | x=>x
def wrapG:Option GD->AV->AV
 | none,v=>v.clean
 | some d,v=>.opt d.m d.g.1 d.g.2 v
def needG (gd:Option GD) (b:Bool) (t:VT):VT :=
 match gd with
 | none=>.need b t
 | some d=>.need (impB d.m b) t
def obG (gd:Option GD) (ob:Option Prop) (t:VT):VT :=
 match ob with
 | none=>t
 | some p=>match gd with
  | none=>.and p t
  | some d=>.and (d.m=true->p) t
def offG (cl:Bool) (s:St) (dst:Option Tmp) (d:GD) (K:St->VT):VT:=putK cl s dst (.opt d.m d.g.1 d.g.2 (.bool false)) K
def splitG (cl:Bool) (gd:Option GD) (s:St) (dst:Option Tmp) (K:St->VT) (t:VT):VT :=
 match gd with
 | none=>t
 | some d=>.vb d.m t (offG cl s dst d K)
inductive Target where
 | op
 | fn (f:FuncId) (args:List AV)
 | rnd (b:Nat) (args:List AV)
 | bad
def targetOf (op:Op) (ev:Operand->AV):Target :=
 match op with
 | .call { callee:=.value f,args,.. } =>
  match ev f with
  | .fn (.func g) first cap=>.fn g (first++args.toList.map ev++cap)
  | .yld b=>.rnd b (args.toList.map ev)
  | _=>.bad
 | .call { callee:=.builtin _,.. }=>.op
 | .call _=>.bad
 | _=>.op
def evOp:Op->Bool
 | .call { callee:=.builtin .len,.. }=>false
 | .call { callee:=.builtin .min,.. }=>false
 | .call { callee:=.builtin .max,.. }=>false
 | .call _=>true
 | .store ..|.alloc _|.box ..|.buildSlice ..|.makeSlice ..|.makeMap ..|.mapUpdate ..|.insert ..=>true
 | _=>false
def opSR (P:Program) (gl:Nat->AV) (ops:Array Oper) (asg:List Nat) (gs:List (Nat×Bool)) (o:Oper) (tm:Nat->AV) (hp:Nat->Blk) (nx:Nat):Option SR :=
 match o.op with
 | .pick (.tmp t) a b =>
  match stripO asg gs (evOf gl tm) (.tmp t),ops.toList.findIdx? (fun q=>q.dst==some t) with
  | .bool c,some j=>(pickAV a b c (stripO asg ((j,true)::gs) (evOf gl tm) a) (stripO asg ((j,false)::gs) (evOf gl tm) b)).bind ok1
  | _,_=>none
 | .pick ..=>none
 | op=>stepOp P op (stripO asg gs (evOf gl tm)) hp nx
def St.tmf (s:St):Nat->AV:=fun t=>s.tm.get .undef t
def vcQuiet (E:Env) (ops:Array Oper) (asg:List Nat) (o:Oper) (gd:Option GD) (s:St) (K:St->VT):VT :=
 match opSR E.P E.gl ops asg (gsOf gd) o s.tmf s.hpf s.nx with
 | some ⟨nd,v,[],ob⟩=>needG gd nd (obG gd ob (putK E.cl s o.dst (wrapG gd v) K))
 | _=>splitG E.cl gd s o.dst K (.fail 4 o.pos)
inductive EvI where
 | pure
 | eff (W:List Nat)
def fzEx (c:Option Nat) (m:Nat):Bool:=match c with|none=>false|some k=>Nat.beq k m
def fzOf (fz:List Tmp) (dst:Option Tmp) (nx:Nat) (v:AV) (eff:List (Nat×Blk)):Option AV :=
 match fz with
 | []=>none
 | t::l =>
  match dst with
  | some d=>match (t::l).contains d with
   | true=>match eff,v with
    | [(b,.row g _ pu s)],.sl b' g' 0 m c=>match decide (b=nx/\b'=nx/\g'=g/\pu=true) with|true=>some ((s.sub 0 m).ro (fzEx c m))|false=>none
    | _,_=>none
   | false=>none
  | none=>none
inductive MkD where
 | fam
 | join (b:Nat)
 | mk
def mkDir:List Tmp->Tmp->Option MkD
 | [],_=>none
 | x::l,d=>bif x==2000000000+d then some .fam else bif x==3000000000+d then some .mk else bif Nat.ble 1000000000 x&&Nat.blt x 2000000000&&((x - 1000000000) / 1000==d) then some (.join ((x - 1000000000) % 1000)) else mkDir l d
def zeroKM (sh z:AV):KM:=⟨sh,z,fun _=>false,fun _=>z⟩
def mkEff (P:Program) (hp:T Blk) (nx:Nat) (op:Op) (fz:List Tmp) (dst:Option Tmp):Option (Option (AV×List (Nat×Blk))) :=
 match fz with
 | []=>none
 | x::l =>
  match op with
  | .makeMap t none =>
   match dst with
   | some d =>
    match mkDir (x::l) d with
    | some q =>
     match P.underlying t with
     | some (.map kt et) =>
      match zeroAV P et,zeroAV P kt with
      | some z,some sh =>
       match isLit z&&(intCells sh.cells).isSome with
       | true =>
        match q with
        | .fam=>match noAbs hp with|true=>some (some (.fmap nx 0,[(nx,.fam (.maps sh z 1 (fun _ _=>false) fun _ _=>z))]))|false=>some none
        | .join b=>match hp.get .dead b with
         | .fam (.maps sh' z' n has val)=>match sameShape sh sh'&&zIs P et z' with
          | true=>some (some (.fmap b n,[(b,.fam (.maps sh' z' (n+1) (fun k q=>if k=n then false else has k q) fun k q=>mergeAV (k=n) z' (val k q)))]))
          | false=>some none
         | _=>some none
        | .mk=>some (some (.map nx,[(nx,.loop (.mk (zeroKM sh z)) noRec)]))
       | false=>some none
      | _,_=>some none
     | _=>some none
    | none=>none
   | none=>none
  | _=>none
def evSR (E:Env) (o:Oper) (ev:Operand->AV) (s:St):Option SR :=
 match mkEff E.P s.hp s.nx o.op E.fz o.dst with
 | some (some (v,eff))=>some ⟨true,v,eff,none⟩
 | some none=>none
 | none=>stepOp E.P o.op ev s.hpf s.nx
def apZ (E:Env) (o:Oper) (ev:Operand->AV) (s:St):Option (Bool×AV) :=
 match E.fz with
 | []=>none
 | t::l=>match o.dst with
  | none=>none
  | some d=>match (t::l).contains (6000000000+d) with
   | false=>none
   | true=>match o.op with
    | .call c=>match c.callee,c.argTypes.toList,c.args.toList with
     | .builtin .append,[ts,t2],[q,x]=>match srcOK E.P t2 with
      | true=>appendZ E.P ts s.hpf s.nx (ev q) (ev x)
      | false=>none
     | _,_,_=>none
    | _=>none
def vcEvent (E:Env) (call:CallH) (R:List Nat) (asg:List Nat) (o:Oper) (gd:Option GD) (s:St) (K:EvI->St->VT):VT :=
 let ev:=stripO asg (gsOf gd) (evOf E.gl s.tmf)
 match targetOf o.op ev with
 | .bad=>splitG E.cl gd s o.dst (K .pure) (.fail 3 o.pos)
 | .fn f args =>
  AV.forceL E.cl args fun args =>
   match E.ctr f args s.hpf s.nx with
   | some (.ret nd v [])=>needG gd nd (putK E.cl s o.dst (wrapG gd v) (K .pure))
   | _=>splitG E.cl gd s o.dst (K .pure) (match okR s.hp R with
    | true=>maskK s.hp R fun hp=>call (.fn f) args hp s.nx fun v hp nx=>backK s.hp hp R fun hp=>putK E.cl ⟨s.tm,hp,nx⟩ o.dst v.clean (K .pure)
    | false=>.fail 24 o.pos)
 | .rnd b args =>
  AV.forceL E.cl args fun args =>
   splitG E.cl gd s o.dst (K .pure) (match okR s.hp R with
    | true=>maskK s.hp R fun hp=>call (.rnd b) args hp s.nx fun v hp nx=>backK s.hp hp R fun hp=>putK E.cl ⟨s.tm,hp,nx⟩ o.dst v.clean (K .pure)
    | false=>.fail 24 o.pos)
 | .op =>
  splitG E.cl gd s o.dst (K .pure)
   (match apZ E o ev s with
   | some (nd,v')=>.need nd (forceN (s.nx+1) fun nx=>putK E.cl ⟨s.tm,s.hp,nx⟩ o.dst v'.clean (K .pure))
   | none =>
   match evSR E o ev s with
   | some ⟨nd,v,eff,none⟩=>.need nd (match effOK s.hpf s.nx eff with
    | true=>match fzOf E.fz o.dst s.nx v eff with
     | some v'=>forceN (s.nx+1) fun nx=>putK E.cl ⟨s.tm,s.hp,nx⟩ o.dst v'.clean (K .pure)
     | none=>effK E.cl s.hp eff fun hp=>forceN (newOf s.nx eff) fun nx=>putK E.cl ⟨s.tm,hp,nx⟩ o.dst v.clean (K (.eff (eff.map (·.1))))
    | false=>.fail 23 o.pos)
   | _=>.fail 5 o.pos)
def topId:AV->List Nat
 | .ptr b _ _ _=>[b]
 | .sl b _ _ _ _=>[b]
 | .sla b _ _ _ _=>[b]
 | .map b=>[b]
 | .fmap b _=>[b]
 | _=>[]
def rdIds (op:Op) (ev:Operand->AV):List Nat :=
 match op with
 | .load _ p=>topId (ev p)
 | .slice _ x _ _ _=>topId (ev x)
 | .indexAddr _ x _=>topId (ev x)
 | .convert _ _ x=>topId (ev x)
 | .lookup _ x _ _=>topId (ev x)
 | _=>[]
structure Foot where
 ix:Nat
 rd:List Nat
def disj (a b:List Nat):Bool:=a.all fun x=>!b.contains x
def restR (pr:List (List Nat)) (lg:List Foot) (i:Nat):List Nat:=(lg.filter fun d=>!(pr.getD i []).contains d.ix).flatMap (·.rd)
def evB (R:List Nat):EvI->Bool
 | .pure=>true
 | .eff W=>disj R W
def dfL:AV->List AV
 | .opt _ _ _ (.tup l)=>l
 | _=>[]
def deferOf:Op->Option Call
 | .defer c=>some c
 | _=>none
def isNone' {α:Type}:Option α->Bool
 | none=>true
 | some _=>false
def isTop:Mode->Bool
 | .top=>true
 | _=>false
def vcDefer (E:Env) (c:Call) (o:Oper) (dr:Bool) (s:St) (K:St->VT):VT :=
 match !dr&&isTop E.md&&isNone' o.guard&&isNone' o.dst with
 | true =>
  match c.callee with
  | .value f =>
   match evOf E.gl s.tmf f with
   | .fn (.func g) first cap=>AV.force E.cl (.fn (.func g) (first++c.args.toList.map (evOf E.gl s.tmf)) cap) fun x=>s.tm.setK .undef slotD (.opt true 0 false (.tup (x::dfL (s.tmf slotD)))) fun tm=>K ⟨tm,s.hp,s.nx⟩
   | _=>.fail 31 o.pos
  | _=>.fail 32 o.pos
 | false=>.fail 33 o.pos
def dstOK (n:Nat) (asg:List Nat):Option Tmp->Bool
 | none=>true
 | some t=>decide (t<n)&&!asg.contains t
def gdOf (ops:Array Oper) (asg:List Nat) (tm:Nat->AV) (o:Oper):Option (Option GD) :=
 match o.guard with
 | none=>some none
 | some g=>(guards ops asg tm 20 g).map fun (l,m)=>some ⟨g,l,m⟩
def nilQ (P:Program) (t:TypeId) (x y:AV):Option Nat :=
 match P.underlying t with
 | some (.slice _) =>
  match x,y with
  | .rof n _ _,.nils=>some n
  | _,_=>none
 | _=>none
def havocOf (dr nq:Bool) (gd:Option GD) (P:Program) (ev:Operand->AV) (op:Op):Option (Bool×Nat) :=
 match nq with
 | false=>none
 | true=>match dr with
  | true=>none
  | false=>match gd with
   | some _=>none
   | none=>match op with
    | .binOp .eql t x y _=>(nilQ P t (ev x) (ev y)).map fun k=>(false,k)
    | .binOp .neq t x y _=>(nilQ P t (ev x) (ev y)).map fun k=>(true,k)
    | _=>none
theorem havoc_dr (nq:Bool) (gd:Option GD) (P:Program) (ev:Operand->AV) (op:Op):havocOf true nq gd P ev op=none:=by
 unfold havocOf;cases nq <;> rfl
def forceLn:List Nat->(List Nat->VT)->VT
 | [],K=>K []
 | x::l,K=>forceN x fun x=>forceLn l fun l=>K (x::l)
def uniq:List Nat->List Nat
 | []=>[]
 | x::l=>bif l.contains x then uniq l else x::uniq l
def Sq.map (h:AV->AV):Sq->Sq
 | .lst l=>.lst (l.map h)
 | .fn n f=>.fn n (fun k=>h (f k))
def elF (f:AV->AV):AV->AV
 | .agg l=>.agg (l.map f)
 | y=>f y
def puS (pu:Bool) (f:AV->AV) (q:Sq):Sq:=match pu with|true=>q|false=>q.map f
def puE (pu:Bool) (f:AV->AV) (y:AV):AV:=match pu with|true=>y|false=>f y
def frzC:Nat->(Nat->Blk)->AV->AV
 | 0,_,x=>bif x.isPureCell then x else .undef
 | d+1,hp,x =>
  match x with
  | .sl b g i len c =>
   match hp b with
   | .row g' _ pu s=>if g=g' then (puS pu (elF (frzC d hp)) (s.sub i len)).ro (decide (c=some len)) else .undef
   | _=>.undef
  | .ptr b g i j =>
   match hp b with
   | .row g' _ pu s=>if g=g'/\i<s.len then .rptr (puE pu (elF (frzC d hp)) (s.get i)) j else .undef
   | _=>.undef
  | .fn f a b=>.fn f (a.map (frzC d hp)) (b.map (frzC d hp))
  | .gro _ _ n f=>.rof n f false
  | x=>bif x.isPureCell then x else .undef
def frzE (d:Nat) (hp:Nat->Blk):AV->AV
 | .agg l=>.agg (l.map (frzC d hp))
 | y=>frzC d hp y
def frz (d:Nat) (hp:Nat->Blk):AV->AV
 | .tup l=>.tup (l.map (frzE d hp))
 | y=>frzE d hp y
def frzXC (d:Nat) (hp:Nat->Blk):AV->AV
 | .sl b _ i len c =>
  match d with
  | 0=>.undef
  | d+1 =>
   match hp b with
   | .row _ _ pu s=>(puS pu (elF (frzC d hp)) (s.sub i len)).ro (decide (c=some len))
   | _=>.undef
 | x=>frzC d hp x
def gensC (hp:Nat->Blk):AV->Bool
 | .sl b g _ _ _=>match hp b with|.row g' _ _ _=>decide (g=g')|_=>true
 | _=>true
def gensCL (hp:Nat->Blk):List AV->Bool
 | []=>true
 | x::l=>gensC hp x&&gensCL hp l
def frzXE (d:Nat) (hp:Nat->Blk):AV->AV
 | .agg l=>.agg (l.map (frzXC d hp))
 | y=>frzXC d hp y
def gensE (hp:Nat->Blk):AV->Bool
 | .agg l=>gensCL hp l
 | y=>gensC hp y
def gensEL (hp:Nat->Blk):List AV->Bool
 | []=>true
 | x::l=>gensE hp x&&gensEL hp l
def frzX (d:Nat) (hp:Nat->Blk):AV->AV
 | .tup l=>.tup (l.map (frzXE d hp))
 | y=>frzXE d hp y
def gensX (hp:Nat->Blk):AV->Bool
 | .tup l=>gensEL hp l
 | y=>gensE hp y
def gensAll (hp:Nat->Blk):List AV->Bool
 | []=>true
 | x::l=>gensX hp x&&gensAll hp l
def onlyR (R:List Nat) (hp:Nat->Blk):Nat->Blk:=fun b=>match hp b with|.row g sz pu s=>(match R.contains b with|true=>.row g sz pu s|false=>.dead)|_=>.dead
def idsAll (l:List AV):List Nat:=AV.ids.idsL l
def isRow:Blk->Bool
 | .row ..=>true
 | _=>false
def rowIds:Blk->List Nat
 | .row _ _ false (.lst l)=>AV.ids.idsL l
 | _=>[]
def idsD:Nat->(Nat->Blk)->List Nat->List Nat
 | 0,_,l=>uniq l
 | d+1,hp,l=>uniq (l++idsD d hp (l.flatMap fun b=>rowIds (hp b)))
def frzAt (fz:List Tmp) (dr:Bool) (gd:Option GD) (dst:Option Tmp):Bool :=
 match dr with
 | true=>false
 | false=>match gd with
  | some _=>false
  | none=>match dst with
   | some d=>fz.contains d
   | none=>false
theorem frzAt_dr (fz:List Tmp) (gd:Option GD) (dst:Option Tmp):frzAt fz true gd dst=false:=rfl
def vcQuietZ (E:Env) (ev:Operand->AV) (o:Oper) (s:St) (K:St->VT):VT :=
 match stepOp E.P o.op ev s.hpf s.nx with
 | some ⟨nd,v,[],ob⟩=>.need nd (obG none ob (forceLn (idsD 3 s.hpf (idsAll [v])) fun R=>.need (gensX (onlyR R s.hpf) v&&R.all fun c=>isRow (s.hp.get .dead c))
   (maskK s.hp R fun hp=>putK E.cl ⟨s.tm,hp,s.nx⟩ o.dst (frzX 9 (onlyR R s.hpf) v).clean K)))
 | _=>.fail 62 o.pos
def fzRg (l:List Tmp) (id:Nat):List Tmp:=(l.filter fun x=>x / 10000==id+1).map (· % 10000)
def fzPre (l:List Tmp) (id:Nat):List Tmp:=(l.filter fun x=>x / 10000==400000+id+1).map (· % 10000)
def frzY (d:Nat) (hp:Nat->Blk):AV->AV
 | .ptr b _ i j =>
  match d with
  | 0=>.undef
  | d+1 =>
   match hp b with
   | .row _ _ pu s=>.rptr (puE pu (frzXE d hp) (s.get i)) j
   | _=>.undef
 | x=>frzX d hp x
def gensY (hp:Nat->Blk):AV->Bool
 | .ptr b g i _ =>
  match hp b with
  | .row g' _ pu s=>decide (g=g')&&decide (i<s.len)&&(match pu with|true=>true|false=>gensE hp (s.get i))
  | _=>true
 | x=>gensX hp x
def vcFz1 (cl:Bool) (t:Tmp) (s:St) (K:St->VT):VT :=
 match t==slotD with
 | true => .fail 65 ""
 | false=>forceLn (idsD 3 s.hpf (idsAll [s.tmf t])) fun R=>.need (gensY (onlyR R s.hpf) (s.tmf t)&&R.all fun c=>isRow (s.hp.get .dead c))
   (maskK s.hp R fun hp=>putK cl ⟨s.tm,hp,s.nx⟩ (some t) (frzY 25 (onlyR R s.hpf) (s.tmf t)).clean K)
def vcFzL (cl:Bool):List Tmp->St->(St->VT)->VT
 | [],s,K=>K s
 | t::l,s,K=>vcFz1 cl t s fun s=>vcFzL cl l s K
def vcOne (E:Env) (n:Nat) (call:CallH) (ops:Array Oper) (dr:Bool) (pr:List (List Nat)) (next:List Nat->List Foot->St->VT) (i:Nat) (asg:List Nat) (lg:List Foot) (s:St):VT :=
 match ops[i]? with
 | none => .fail 6 ""
 | some o =>
  match dstOK n asg o.dst with
  | false=>.fail 7 o.pos
  | true =>
   match gdOf ops asg s.tmf o with
   | none=>.fail 8 o.pos
   | some gd =>
    match evOp o.op with
    | true=>vcEvent E call (match dr with|true=>restR pr lg i|false=>[]) asg o gd s fun inf s' =>
      match evB (match dr with|true=>restR pr lg i|false=>[]) inf with
      | true=>next (o.dst.toList++asg) lg s'
      | false=>.fail 10 o.pos
    | false =>
     match deferOf o.op with
     | none =>
      match havocOf dr E.nq gd E.P (stripO asg (gsOf gd) (evOf E.gl s.tmf)) o.op with
      | some (neg,k)=>.all Bool fun b=>.imp (b=true->k=0) (putK E.cl s o.dst (.bool (Bool.xor neg b)) fun s'=>next (o.dst.toList++asg) (⟨i,[]⟩::lg) s')
      | none=>match frzAt E.fz dr gd o.dst with
       | true=>vcQuietZ E (stripO asg (gsOf gd) (evOf E.gl s.tmf)) o s fun s'=>next (o.dst.toList++asg) (⟨i,[]⟩::lg) s'
       | false=>vcQuiet E ops asg o gd s fun s' =>
        next (o.dst.toList++asg) (⟨i,rdIds o.op (stripO asg (gsOf gd) (evOf E.gl s.tmf))⟩::lg) s'
     | some c=>vcDefer E c o dr s fun s'=>next asg lg s'
def evAt (ops:Array Oper) (i:Nat):Bool:=match ops[i]? with|some o=>evOp o.op|none=>false
def altsOf (ops:Array Oper) (pr:List (List Nat)) (i:Nat) (rest:List Nat):List Nat :=
 match evAt ops i with
 | true=>rest.filter fun j=>evAt ops j&&(pr.getD j []).all fun k=>!(i::rest).contains k
 | false=>[]
def bothL:List VT->VT->VT
 | [],t=>t
 | x::l,t=>.both x (bothL l t)
def vcOps (E:Env) (n:Nat) (call:CallH) (ops:Array Oper) (dr:Bool) (pr:List (List Nat)) (lo:Bool):Nat->List Nat->List Nat->List Foot->St->(St->VT)->VT
 | 0, l, _, _, s, K => match l with | [] => K s | _ :: _ => .fail 6 ""
 | f+1,l,asg,lg,s,K =>
  match l with
  | []=>K s
  | i::rest =>
   bothL (match lo with
    | true=>(altsOf ops pr i rest).map fun j=>vcOne E n call ops dr pr (fun asg lg s=>vcOps E n call ops dr pr lo f ((i::rest).erase j) asg lg s K) j asg lg s
    | false=>[]) (vcOne E n call ops dr pr (fun asg lg s=>vcOps E n call ops dr pr lo f rest asg lg s K) i asg lg s)
def afterOf (o:Oper):List Nat:=o.after.toList.filterMap fun e=>if Region.binds .any e then some e.on else none
def predsOf:List Oper->List (List Nat)->List (List Nat)
 | [],acc=>acc
 | o::r,acc=>predsOf r (acc++[uniq ((afterOf o).flatMap fun j=>j::acc.getD j [])])
def readyL (af:List (List Nat)) (done:List Nat) (i:Nat):Bool:=!done.contains i&&(af.getD i []).all fun j=>done.contains j
def canonL (ops:Array Oper) (af:List (List Nat)):Nat->List Nat->List Nat
 | 0,_=>[]
 | f+1,done =>
  let rs:=(List.range ops.size).filter (readyL af done)
  match rs.find? fun i=>match ops[i]? with|some o=>!evOp o.op|none=>false with
  | some i=>i::canonL ops af f (i::done)
  | none=>match rs with
   | i::_=>i::canonL ops af f (i::done)
   | []=>[]
def canon (ops:Array Oper):List Nat:=canonL ops (ops.toList.map afterOf) ops.size []
def pairB (ops:Array Oper) (pr:List (List Nat)) (i j:Nat):Bool :=
 match ops[i]?,ops[j]? with
 | some oi,some oj=>!(pr.getD i []).contains j&&((pr.getD j []).contains i||(!evOp oi.op&&oi.apart ops oj))
 | _,_=>false
def pairL (ops:Array Oper) (pr:List (List Nat)) (lo:Bool) (i j:Nat):Bool:=pairB ops pr i j||(lo&&evAt ops i&&evAt ops j&&!(pr.getD i []).contains j)
def orderB (ops:Array Oper) (pr:List (List Nat)) (lo:Bool):List Nat->Bool
 | []=>true
 | i::r=>(r.all fun j=>pairL ops pr lo i j)&&!r.contains i&&decide (i<ops.size)&&orderB ops pr lo r
def aftL:List Oper->Nat->Bool
 | [],_=>true
 | o::r,i=>(afterOf o).all (fun j=>decide (j<i))&&aftL r (i+1)
def forceLL:List (List Nat)->(List (List Nat)->VT)->VT
 | [],K=>K []
 | x::l,K=>forceLn x fun x=>forceLL l fun l=>K (x::l)
def pureEv (E:Env) (op:Op) (ev:Operand->AV):Option (Bool×AV) :=
 match targetOf op ev with
 | .fn f args=>match args.all AV.isPure with
  | true=>match E.ctr f args (fun _=>.dead) 0 with
   | some (.ret nd v [])=>match v.isPure with
    | true=>some (nd,v)
    | false=>none
   | _=>none
  | false=>none
 | _=>none
def fzEv (E:Env) (o:Oper) (ev:Operand->AV):Option (Bool×AV) :=
 match o.op with
 | .buildSlice ..=>match o.op.operands.toList.all fun x=>(ev x).isPure with
  | true=>match stepOp E.P o.op ev (fun _=>.dead) 0 with
   | some ⟨nd,v,eff,none⟩=>match fzOf E.fz o.dst 0 v eff with
    | some v'=>some (nd,v')
    | none=>none
   | _=>none
  | false=>none
 | _=>none
def indEv (E:Env) (o:Oper) (gd:Option GD) (ev:Operand->AV):Option (Bool×AV) :=
 match pureEv E o.op ev with
 | some q=>some q
 | none=>match gd with
  | none=>fzEv E o ev
  | some _=>none
def readyIn (pr:List (List Nat)) (l:List Nat) (i:Nat):Bool:=(pr.getD i []).all fun k=>!l.contains k
def qLike (E:Env) (ops:Array Oper) (asg:List Nat) (s:St) (i:Nat):Bool :=
 match ops[i]? with
 | none=>false
 | some o=>match evOp o.op with
  | false=>true
  | true=>match gdOf ops asg s.tmf o with
   | none=>false
   | some gd=>match indEv E o gd (stripO asg (gsOf gd) (evOf E.gl s.tmf)) with
    | some _=>true
    | none=>false
def vcOneF (E:Env) (n:Nat) (ops:Array Oper) (next:List Nat->List Foot->St->VT) (i:Nat) (asg:List Nat) (lg:List Foot) (s:St):VT :=
 match ops[i]? with
 | none => .fail 6 ""
 | some o =>
  match dstOK n asg o.dst with
  | false=>.fail 7 o.pos
  | true =>
   match gdOf ops asg s.tmf o with
   | none=>.fail 8 o.pos
   | some gd =>
    match evOp o.op with
    | false=>match deferOf o.op with
     | none=>vcQuiet E ops asg o gd s fun s'=>next (o.dst.toList++asg) (⟨i,rdIds o.op (stripO asg (gsOf gd) (evOf E.gl s.tmf))⟩::lg) s'
     | some _=>.fail 33 o.pos
    | true=>match indEv E o gd (stripO asg (gsOf gd) (evOf E.gl s.tmf)) with
     | some (nd,v)=>needG gd nd (putK E.cl s o.dst (wrapG gd v) fun s'=>next (o.dst.toList++asg) (⟨i,[]⟩::lg) s')
     | none=>.fail 64 o.pos
def vcFree (E:Env) (n:Nat) (call:CallH) (ops:Array Oper) (pr:List (List Nat)):Nat->List Nat->List Nat->List Foot->St->(St->VT)->VT
 | 0, l, _, _, s, K => match l with | [] => K s | _ :: _ => .fail 6 ""
 | f+1,l,asg,lg,s,K =>
  match l with
  | []=>K s
  | i0::r0 =>
   match (i0::r0).find? fun i=>readyIn pr (i0::r0) i&&qLike E ops asg s i with
   | some i=>vcOneF E n ops (fun asg lg s=>forceLn ((i0::r0).erase i) fun l=>vcFree E n call ops pr f l asg lg s K) i asg lg s
   | none =>
    match (i0::r0).filter (readyIn pr (i0::r0)) with
    | [] => .fail 63 ""
    | i::r=>bothL (r.map fun j=>vcOne E n call ops true pr (fun asg lg s=>forceLn ((i0::r0).erase j) fun l=>vcFree E n call ops pr f l asg lg s K) j asg lg s)
      (vcOne E n call ops true pr (fun asg lg s=>forceLn ((i0::r0).erase i) fun l=>vcFree E n call ops pr f l asg lg s K) i asg lg s)
def freeB (ops:Array Oper) (pr:List (List Nat)):Bool :=
 (List.range ops.size).all fun j=>(List.range j).all fun i=>(pr.getD j []).contains i||(match ops[i]?,ops[j]? with|some oi,some oj=>oi.apart ops oj|_,_=>false)
def vcRegion (E:Env) (n:Nat) (call:CallH) (ops:Array Oper) (draw:Bool) (K:St->VT) (s:St):VT :=
 match draw with
 | false=>vcOps E n call ops false [] false ops.size (List.range ops.size) [] [] s K
 | true =>
  match E.po with
  | true=>forceLL (predsOf ops.toList []) fun pr =>
   match aftL ops.toList 0&&freeB ops pr with
   | true=>vcFree E n call ops pr ops.size (List.range ops.size) [] [] s K
   | false => .fail 9 "po"
  | false =>
  forceLn (canon ops) fun cn=>forceLL (predsOf ops.toList []) fun pr =>
  match decide (cn.length=ops.size)&&aftL ops.toList 0&&(List.range ops.size).all (fun i=>cn.contains i) with
  | true =>
   match orderB ops pr false cn with
   | true=>vcOps E n call ops true pr false ops.size cn [] [] s K
   | false =>
    match orderB ops pr true cn with
    | true=>vcOps E n call ops true pr true ops.size cn [] [] s K
    | false => .fail 9 ""
  | false => .fail 9 ""
def unroll (body:(Ex->St->VT)->St->VT):Nat->(Ex->St->VT)->St->VT
 | 0, _, _ => (.fail 11 "")
 | n+1,K,s=>body (fun e s'=>match e with|.normal=>unroll body n K s'|e=>K e s') s
def Spec.tmT (l:List (Nat×AV)):T AV:=l.foldl (fun t p=>t.set .undef p.1 p.2) .nil
def Spec.hpT (l:List (Nat×Blk)):T Blk:=l.foldl (fun t p=>t.set .dead p.1 p.2) .nil
def Spec.mk' (s:Spec) (nx:Nat):St:=⟨Spec.tmT s.fr,Spec.hpT s.hp,nx⟩
mutual
def AV.sub:AV->AV->Prop
 | _,.undef=>True
 | .int k n,.int k' m=>if k=k' then n=m else False
 | .bool a,.bool b=>a=b
 | .str a,.str b=>a=b
 | .nils,.nils=>True
 | .nilp,.nilp=>True
 | .nilf,.nilf=>True
 | .nilm,.nilm=>True
 | .yld b,.yld b'=>b=b'
 | .map b,.map b'=>b=b'
 | .fmap b i,.fmap b' i'=>b=b'/\i=i'
 | .gro b i n f,.gro b' i' n' f'=>b=b'/\i=i'/\n=n'/\∀ q,q<n->AV.sub (f q) (f' q)/\(f q).cells.length=(f' q).cells.length
 | .gro _ _ n f,.rof n' f' ex'=>n=n'/\(∀ q,q<n->AV.sub (f q) (f' q)/\(f q).cells.length=(f' q).cells.length)/\ex'=false
 | .nils,.gro _ _ n _=>n=0
 | .opt _ _ _ x,.opt _ _ _ y=>AV.sub x y
 | .nils,.rol [] _=>True
 | .nils,.rof n _ _=>n=0
 | .ptr b g i j,.ptr b' g' i' j'=>if b=b' then (g=g'/\i=i'/\j=j') else False
 | .sl b g i len c,.sl b' g' i' len' c'=>if b=b' then (g=g'/\i=i'/\len=len'/\(c=c'\/c'=none)) else False
 | .fn f a b,.fn f' a' b'=>f=f'/\AV.subL a a'/\AV.subL b b'
 | .agg l,.agg m=>AV.subL l m
 | .tup l,.tup m=>AV.subL l m
 | .rptr x j,.rptr y j'=>(AV.sub x y/\x.cells.length=y.cells.length)/\j=j'
 | .rol l ex,.rol m ex'=>AV.subE l m/\(ex'=true->ex=true)
 | .rol l ex,.rof n f ex'=>l.length=n/\AV.subF l 0 f/\(ex'=true->ex=true)
 | .rof n f ex,.rof n' f' ex'=>n=n'/\(∀ i,i<n->AV.sub (f i) (f' i)/\(f i).cells.length=(f' i).cells.length)/\(ex'=true->ex=true)
 | _,_=>False
def AV.subL:List AV->List AV->Prop
 | [],[]=>True
 | x::l,y::m=>AV.sub x y/\AV.subL l m
 | _,_=>False
def AV.subE:List AV->List AV->Prop
 | [],[]=>True
 | x::l,y::m=>(AV.sub x y/\x.cells.length=y.cells.length)/\AV.subE l m
 | _,_=>False
def AV.subF:List AV->Nat->(Nat->AV)->Prop
 | [],_,_=>True
 | x::l,k,f=>(AV.sub x (f k)/\x.cells.length=(f k).cells.length)/\AV.subF l (k+1) f
end
def Sq.sub':Sq->Sq->Prop
 | .lst l,.lst m=>AV.subE l m
 | .lst l,.fn n f=>l.length=n/\AV.subF l 0 f
 | .fn n f,.fn m f'=>n=m/\∀ i,i<n->AV.sub (f i) (f' i)/\(f i).cells.length=(f' i).cells.length
 | .fn _ _,.lst _=>False
def KM.sub (m m':KM):Prop:=m.sh=m'.sh/\m.z=m'.z/\∀ q,m.has q=m'.has q/\m.val q=m'.val q
def Blk.sub:Blk->Blk->Prop
 | _,.dead=>True
 | .row g sz pu s,.row g' sz' pu' s'=>if sz=sz' then (g=g'/\(pu'=true->pu=true)/\s.sub' s') else False
 | .loop (.abs k on sp) _,.loop (.abs k' on' sp') _=>k=k'/\on=on'/\sp=sp'
 | .loop (.mp es) _,.loop (.mf m) _=>NB (sbB es) (∀ s,lookS es s=m s)
 | .loop (.mf m) _,.loop (.mf m') _=>∀ s,m s=m' s
 | .loop (.mk m) _,.loop (.mk m') _=>m.sub m'
 | .fam (.rows sz len),.fam (.rows sz' len')=>sz=sz'/\∀ i,len i=len' i
 | .fam (.maps sh z n has val),.fam (.maps sh' z' n' has' val')=>sh=sh'/\z=z'/\n=n'/\∀ i,i<n->∀ q,has i q=has' i q/\val i q=val' i q
 | _,_=>False
mutual
def AV.idsB (nx:Nat):AV->Bool
 | .ptr b _ _ _=>decide (b<nx)
 | .sl b _ _ _ _=>decide (b<nx)
 | .map b=>decide (b<nx)
 | .yld b=>decide (b<nx)
 | .sla b _ _ _ _=>decide (b<nx)
 | .gro b _ _ _=>decide (b<nx)
 | .fmap b _=>decide (b<nx)
 | .opt _ _ _ x=>AV.idsB nx x
 | .fn _ a b=>AV.idsBL nx a&&AV.idsBL nx b
 | .agg l=>AV.idsBL nx l
 | .tup l=>AV.idsBL nx l
 | _=>true
def AV.idsBL (nx:Nat):List AV->Bool
 | []=>true
 | x::l=>AV.idsB nx x&&AV.idsBL nx l
end
def Blk.idsB (nx:Nat):Blk->Bool
 | .row _ _ true _=>true
 | .row _ _ false (.lst l)=>AV.idsBL nx l
 | .row _ _ false (.fn _ _)=>true
 | .dead=>true
 | .loop (.abs ..) _=>true
 | .loop (.mf _) _=>true
 | .loop (.mk _) _=>true
 | .loop ..=>false
 | .fam _=>true
def Blk.idsQ (nx:Nat) (y:Blk) (p:Prop):Prop :=
 match y with
 | .row _ _ false (.fn n f)=>(∀ k,k<n->AV.idsB nx (f k)=true)/\p
 | _=>p
def rowIs (g:Nat):Blk->Prop
 | .row g' _ _ s=>g=g'/\s.len=0
 | _=>False
def slotMeets (nx:Nat) (hp':Nat->Blk) (x y:AV):Prop :=
 match x,y with
 | .nils,.sl b g i len c=>NB (decide (nx<=b)&&decide (i=0)&&c.isNone) (len=0/\rowIs g (hp' b))
 | x,y=>x.sub y
def cellN:List AV->List AV->Bool
 | x::l,y::m=>(match y with|.sl ..=>(match x with|.nils=>true|_=>false)|_=>false)||cellN l m
 | _,_=>false
def cellsM (nx:Nat) (hp':Nat->Blk):List AV->List AV->Prop
 | [],[]=>True
 | x::l,y::m=>slotMeets nx hp' x y/\cellsM nx hp' l m
 | _,_=>False
def blkMeets (nx b:Nat) (hp':Nat->Blk) (x y:Blk):Prop :=
 match x,y with
 | .row g sz _ (.lst [.nils]),.row g' sz' pu' (.lst [.sl b2 g2 i len c])=>NB (decide (nx<=b2)&&decide (i=0)&&c.isNone&&!pu') (g=g'/\sz=sz'/\len=0/\rowIs g2 (hp' b2))
 | .row g sz _ (.lst [.agg l]),.row g' sz' pu' (.lst [.agg m]) =>
  match cellN l m with
  | true=>NB (!pu') (g=g'/\sz=sz'/\cellsM nx hp' l m)
  | false=>Blk.sub x y
 | .dead,.row _ sz pu s=>NB (decide (nx<=b)&&pu&&decide (1<=sz)) (s.len=0)
 | .dead,.fam (.rows sz len)=>NB (decide (nx<=b)&&decide (1<=sz)) (∀ i,len i=0)
 | x,y=>x.sub y
def Spec.frMeets (s:St) (nx:Nat) (hp':Nat->Blk):List (Nat×AV)->Prop
 | []=>True
 | (t,y)::r=>NB (y.idsB nx) (slotMeets s.nx hp' (s.tm.get .undef t) y)/\Spec.frMeets s nx hp' r
def Spec.hpMeets (s:St) (nx:Nat) (hp':Nat->Blk):List (Nat×Blk)->Prop
 | []=>True
 | (b,y)::r=>NB (y.idsB nx&&decide (b<nx)) (y.idsQ nx (blkMeets s.nx b hp' (s.hpf b) y))/\Spec.hpMeets s nx hp' r
def isUndef:AV->Bool
 | .undef=>true
 | _=>false
def isDf:AV->Bool
 | .opt _ _ _ (.tup _)=>true
 | _=>false
def nodupKeys {α:Type}:List (Nat×α)->Bool
 | []=>true
 | (b,_)::r=>r.all (fun p=>p.1 !=b)&&nodupKeys r
def Spec.met (p:Spec) (nx:Nat) (s:St):Prop :=
 NB (nodupKeys p.fr&&nodupKeys p.hp&&((p.fr.any (fun q=>q.1==slotD)||isUndef (s.tmf slotD))&&p.fr.all (fun q=>q.1 !=slotD||isDf q.2))&&(p.hp.all (fun q=>notFam q.2)||noAbs s.hp)) (Spec.frMeets s nx (p.mk' nx).hpf p.fr/\Spec.hpMeets s nx (p.mk' nx).hpf p.hp)
def firstReg:Code->Option Nat
 | .region id _ _=>some id
 | .seq a _=>firstReg a
 | .scope c=>firstReg c
 | .block _ c=>firstReg c
 | _=>none
def loopIds:T Blk->List Nat
 | .nil=>[]
 | .node v l r=>(match v with|.loop (.abs ..) _=>[]|.loop (.mp _) _=>[]|.loop (.mf _) _=>[]|.loop (.mk _) _=>[]|.loop ..=>[0]|_=>[])++((loopIds l).map (fun i=>2 * i+1)++(loopIds r).map (fun i=>2 * i+2))
def stEq:LSt->LSt->Bool
 | .ready,.ready=>true
 | .busy,.busy=>true
 | _,_=>false
def loopSame:Blk->Blk->Bool
 | .loop st _,.loop st' _=>stEq st st'
 | _,_=>false
def isLoop:Blk->Bool
 | .loop (.mp _) _=>false
 | .loop (.mf _) _=>false
 | .loop (.mk _) _=>false
 | .loop (.abs ..) _=>false
 | .loop ..=>true
 | _=>false
def keepOK (hp0:T Blk) (keep:List Nat) (nx:Nat) (hp:T Blk):Bool:=keep.all fun b=>decide (b<nx)&&loopSame (hp0.get .dead b) (hp.get .dead b)
def keepT (hp0:T Blk):List Nat->T Blk->T Blk
 | [],t=>t
 | b::r,t=>keepT hp0 r (t.set .dead b (hp0.get .dead b))
def Spec.mkO (p:Spec) (nx:Nat) (hp0:T Blk) (keep:List Nat):St:=⟨Spec.tmT p.fr,keepT hp0 keep (Spec.hpT p.hp),nx⟩
def modeB (md:Mode) (hp:T Blk):Bool :=
 match md with
 | .top=>true
 | .nodef=>false
 | .round b=>isLoop (hp.get .dead b)
def clearD (tm:T AV) (K:T AV->VT):VT :=
 match dfL (tm.get .undef slotD) with
 | []=>K tm
 | _=>tm.setK .undef slotD .undef K
def rangeK (b:Nat) (s:St) (K:Ex->St->VT) (hp:T Blk) (nx:Nat):VT :=
 match hp.get .dead b with
 | .loop st _=>hp.setK .dead b .dead fun hp =>
  match st with
  | .ready=>K .normal ⟨s.tm,hp,nx⟩
  | .done .ret=>K .ret ⟨s.tm,hp,nx⟩
  | .done (.exit id)=>K (.exit id) ⟨s.tm,hp,nx⟩
  | _ => .fail 41 ""
 | _ => .fail 42 ""
def vcCode (E:Env) (n:Nat) (f:FuncId) (call:CallH):Code->Option Nat->(Ex->St->VT)->St->VT
 | .skip,_,K,s=>K .normal s
 | .label _,_,K,s=>K .normal s
 | .ret,_,K,s=>K .ret s
 | .exit id,_,K,s=>K (.exit id) s
 | .region id ops draw,_,K,s=>vcFzL E.cl (fzPre (E.fzs f) id) s fun s=>vcRegion (E.sel f) n call ops draw (fun s=>vcFzL E.cl (fzRg (E.fzs f) id) s (K .normal)) s
 | .seq a b,_,K,s =>
  match (firstReg b).bind (fun r=>E.invAt f (100000+r) s) with
  | some I=>forceLn (loopIds s.hp) fun kp=>.both (vcCode E n f call a none (fun e s'=>match e with|.normal=>.need (decide (s'.nx<=I.nx)&&keepOK s.hp kp I.nx s'.hp) (.leaf (∃ i,I.pre i/\(I.st i).met I.nx s'))|.exit id=>K (.exit id) s'|.ret=>K .ret s') s)
    (.all I.ι fun i=>.imp (I.pre i) (vcCode E n f call b none K ((I.st i).mkO I.nx s.hp kp)))
  | none=>vcCode E n f call a none (fun e s'=>match e with|.normal=>vcCode E n f call b none K s'|.exit id=>K (.exit id) s'|.ret=>K .ret s') s
 | .cond c a b, _, K, s => match evOf E.gl s.tmf c with | .bool t => .vb t (vcCode E n f call a none K s) (vcCode E n f call b none K s) | _ => (.fail 12 "")
 | .block id c,_,K,s=>vcCode E n f call c (some id) (fun e s'=>match e with|.exit id'=>if id'=id then K .normal s' else K (.exit id') s'|.normal=>K .normal s'|.ret=>K .ret s') s
 | .loop c,lk,K,s =>
  match lk.bind (fun l=>E.invAt f l s) with
  | some I=>forceLn (loopIds s.hp) fun kp=>.need (decide (s.nx<=I.nx)&&keepOK s.hp kp I.nx s.hp) (.and (∃ i,I.pre i/\(I.st i).met I.nx s) (.all I.ι fun i=>.imp (I.pre i)
    (vcCode E n f call c none (fun e s'=>match e with|.normal=>.need (keepOK s.hp kp I.nx s'.hp) (.leaf (∃ i',I.pre i'/\I.μ i'<I.μ i/\(I.st i').met I.nx s'))|.exit id=>K (.exit id) s'|.ret=>K .ret s') ((I.st i).mkO I.nx s.hp kp))))
  | none=>unroll (fun K' s'=>vcCode E n f call c none K' s') E.fuelL K s
 | .scope c,_,K,s=>vcCode E n f call c none K s
 | .rangeFunc g ps assign body,_,K,s =>
  match evOf E.gl s.tmf g with
  | .fn (.func h) first cap =>
   match modeB E.md s.hp with
   | true=>forceN s.nx fun b=>clearD s.tm fun tm=>s.hp.setK .dead b (.loop .ready ⟨n,tm,f,ps,assign,body⟩) fun hp=>forceN (b+1) fun nx =>
     AV.forceL E.cl (first++.yld b::cap) fun args =>
     call (.fn h) args hp nx fun _ hp nx=>rangeK b s K hp nx
   | false => .fail 43 ""
  | _ => .fail 44 ""
 | _, _, _, _ => (.fail 13 "")
def argsK (cl:Bool) (tm:T AV):List AV->Nat->(T AV->VT)->VT
 | [],_,K=>K tm
 | x::r,k,K=>x.force cl fun x=>tm.setK .undef k x fun tm=>argsK cl tm r (k+1) K
def setArgsK (cl:Bool):List (Tmp×AV)->T AV->(T AV->VT)->VT
 | [],tm,K=>K tm
 | (t,x)::r,tm,K=>x.force cl fun x=>tm.setK .undef t x fun tm=>setArgsK cl r tm K
def resAV (E:Env) (s:St):ResultVar->Option AV
 | .tmp t=>some (s.tm.get .undef t)
 | .cell a t =>
  match s.tm.get .undef a with
  | .ptr b g i j =>
   match s.hpf b with
   | .row g' _ _ q=>if g=g' then (match decide (i<q.len) with|true=>partAV E.P t (q.get i) j|false=>none) else none
   | _=>none
  | _=>none
def resAVs (E:Env) (s:St):List ResultVar->Option (List AV)
 | []=>some []
 | x::r=>match resAV E s x,resAVs E s r with|some a,some l=>some (a::l)|_,_=>none
def tupAV:List AV->AV
 | [x]=>x
 | l=>.tup l
def vcEnd (call:CallH):List AV->St->(St->VT)->VT
 | [],s,K=>K s
 | .fn (.func g) first cap::l,s,K=>call (.dfn g) (first++cap) s.hp s.nx fun _ hp nx=>vcEnd call l ⟨s.tm,hp,nx⟩ K
 | _ :: _, _, _ => .fail 34 ""
def vcRes (E:Env) (fn:Func) (K:AV->T Blk->Nat->VT) (s:St):VT :=
 match resAVs E s fn.results.toList with
 | some l=>(tupAV l).force E.cl fun v=>K v s.hp s.nx
 | none => (.fail 16 "")
def vcBody (E:Env) (call:CallH) (f:FuncId) (args:List AV) (hp:T Blk) (nx:Nat) (K:AV->T Blk->Nat->VT):VT :=
 match E.P.funcs[f]? with
 | some fn =>
  match fn.body with
  | some c =>
   match decide (args.length <= fn.ntmps) && decide (fn.ntmps <= slotD) && !(fn.name == "runtime.NumGoroutine") with
   | true =>
    argsK E.cl .nil args 0 fun tm =>
    vcCode E fn.ntmps f call c none (fun e s =>
     match e with
     | .exit _ => (.fail 15 "")
     | _=>clearD s.tm fun tm=>vcEnd call (dfL (s.tmf slotD)) ⟨tm,s.hp,s.nx⟩ (vcRes E fn K)) ⟨tm,hp,nx⟩
   | false => (.fail 17 "")
  | none => (.fail 18 "")
 | none => (.fail 19 "")
def vcRoundEnd (b:Nat) (K:AV->T Blk->Nat->VT) (e:Ex) (s:St):VT :=
 match s.hp.get .dead b with
 | .loop .busy r =>
  match e with
  | .normal=>s.hp.setK .dead b (.loop .ready r) fun hp=>K (.bool true) hp s.nx
  | .ret=>s.hp.setK .dead b (.loop (.done .ret) r) fun hp=>K (.bool false) hp s.nx
  | .exit id=>s.hp.setK .dead b (.loop (.done (.exit id)) r) fun hp=>K (.bool false) hp s.nx
 | _ => .fail 55 ""
def vcRound (E:Env) (call:CallH) (b:Nat) (args:List AV) (hp:T Blk) (nx:Nat) (K:AV->T Blk->Nat->VT):VT :=
 match hp.get .dead b with
 | .loop .ready r =>
  match decide (args.length=r.params.size)&&r.params.toList.all (fun t=>decide (t<r.n)) with
  | true=>setArgsK E.cl (r.params.toList.zip args) r.tm fun tm =>
   vcCode E r.n r.fn call r.assign none (fun e s =>
    match e with
    | .normal =>
     match s.hp.get .dead b with
     | .loop .ready r'=>s.hp.setK .dead b (.loop .busy r') fun hp=>vcCode E r.n r.fn call r.body none (vcRoundEnd b K) ⟨s.tm,hp,s.nx⟩
     | _ => .fail 51 ""
    | _ => .fail 52 "") ⟨tm, hp, nx⟩
  | false => .fail 53 ""
 | _ => .fail 54 ""
def vcCall (E:Env):Nat->CallH
 | 0, _, _, _, _, _ => (.fail 14 "")
 | n+1,c,args,hp,nx,K =>
  let call:CallH:=fun c as hp nx K =>
   match c with
   | .fn g =>
    match E.ctr g as (fun b=>hp.get .dead b) nx with
    | some out=>outVT E.cl hp nx K out
    | none =>
     vcCall E n (.fn g) as hp nx K
   | .dfn g=>vcCall E n (.dfn g) as hp nx K
   | .rnd b=>vcCall E n (.rnd b) as hp nx K
  match c with
  | .fn f=>vcBody (E.at .top) call f args hp nx K
  | .dfn f=>vcBody (E.at .nodef) call f args hp nx K
  | .rnd b=>vcRound (E.at (.round b)) call b args hp nx K
def vcFun (E:Env) (n:Nat) (f:FuncId) (args:List AV) (hp:T Blk) (nx:Nat) (K:AV->T Blk->Nat->VT):VT:=vcCall E n (.fn f) args hp nx K
def isBool (b:Bool):AV->T Blk->Nat->VT
 | .bool x,_,_=>.leafB (x==b)
 | _, _, _ => (.fail 20 "")
structure Loc where
 B:Nat
 o:Nat
 csz:Nat
 sz:Nat
 n:Nat
 virt:Bool
 rc:Option Loop
abbrev Mem:=Nat->Nat->Option Value
abbrev Rho:=Nat->Nat->Option Loc
inductive RelP (M:Mem):Value->AV->Prop
 | undef (v:Value):RelP M v .undef
 | opt (v:Value) (m:Bool) (j:Nat) (w:Bool) (x:AV):RelP M v (.opt m j w x)
 | int (k:IntKind) (n:Int):RelP M (.int k n) (.int k n)
 | bool (b:Bool):RelP M (.bool b) (.bool b)
 | str (l:List UInt8):RelP M (.string ⟨⟨l⟩⟩) (.str l)
 | nilp:RelP M (.pointer none) .nilp
 | nils:RelP M (.slice none 0 0) .nils
 | nilf:RelP M .nilFunc .nilf
 | nilm:RelP M (.map none) .nilm
 | rptr (B o j:Nat) (x:AV) (vals:Nat->Value) (hm:∀ i,i<x.cells.length->M B (o+i)=some (vals i))
   (hr:∀ i,i<x.cells.length->RelP M (vals i) (x.cells.getD i .undef)):RelP M (.pointer (some ⟨B,o+j,none⟩)) (.rptr x j)
 | rol (B o cap sz:Nat) (l:List AV) (ex:Bool) (vals:Nat->Nat->Value) (hc:l.length<=cap) (hcm:cap<=maxLen) (hex:ex=true->cap=l.length)
   (hz:∀ i,i<l.length->(l.getD i .undef).cells.length=sz)
   (hm:∀ i j,i<l.length->j<sz->M B (o+i * sz+j)=some (vals i j))
   (hr:∀ i j,i<l.length->j<sz->RelP M (vals i j) ((l.getD i .undef).cells.getD j .undef)):RelP M (.slice (some ⟨B,o,none⟩) l.length cap) (.rol l ex)
 | rof (B o cap sz n:Nat) (f:Nat->AV) (ex:Bool) (vals:Nat->Nat->Value) (hc:n<=cap) (hcm:cap<=maxLen) (hex:ex=true->cap=n)
   (hz:∀ i,i<n->(f i).cells.length=sz)
   (hm:∀ i j,i<n->j<sz->M B (o+i * sz+j)=some (vals i j))
   (hr:∀ i j,i<n->j<sz->RelP M (vals i j) ((f i).cells.getD j .undef)):RelP M (.slice (some ⟨B,o,none⟩) n cap) (.rof n f ex)
 | rol0 (a:Option Addr) (cap:Nat) (ex:Bool) (hcm:cap<=maxLen) (hex:ex=true->cap=0) (hn:a=none->cap=0):RelP M (.slice a 0 cap) (.rol [] ex)
 | rof0 (a:Option Addr) (cap:Nat) (f:Nat->AV) (ex:Bool) (hcm:cap<=maxLen) (hex:ex=true->cap=0) (hn:a=none->cap=0):RelP M (.slice a 0 cap) (.rof 0 f ex)
 | groN (b i:Nat) (f:Nat->AV):RelP M (.slice none 0 0) (.gro b i 0 f)
 | fn (f:Fn):RelP M (.func f #[] #[]) (.fn f [] [])
 | fnc (f:Fn) (fs cs:Array Value) (fl cl:List AV) (h1:fs.size=fl.length) (h2:cs.size=cl.length)
   (hr1:∀ i,i<fl.length->RelP M (fs.getD i undef) (fl.getD i .undef)) (hr2:∀ i,i<cl.length->RelP M (cs.getD i undef) (cl.getD i .undef)):RelP M (.func f fs cs) (.fn f fl cl)
 | agg (cs:Array Value) (l:List AV) (h:cs.size=l.length) (hr:∀ i,i<l.length->RelP M (cs.getD i undef) (l.getD i .undef)):RelP M (.agg cs) (.agg l)
 | tup (cs:Array Value) (l:List AV) (h:cs.size=l.length) (hr:∀ i,i<l.length->RelP M (cs.getD i undef) (l.getD i .undef)):RelP M (.tuple cs) (.tup l)
def code (i l:Nat):Nat:=(i+l) * (i+l)+i
theorem code_inj {i l i' l':Nat} (h:code i l=code i' l'):i=i'/\l=l':=by
 unfold code at h;have key:∀ s s' i i':Nat,i<=s->i'<=s'->s * s+i=s' * s'+i'->s<=s':=by
  intro s s' i i' h1 h2 h3;rcases Nat.lt_or_ge s' s with h4|h4
  ·have h5:(s'+1) * (s'+1)<=s * s:=Nat.mul_le_mul h4 h4;have h6:(s'+1) * (s'+1)=s' * s'+s'+s'+1:=by rw [Nat.add_mul,Nat.mul_add]; omega
   omega
  ·exact h4
 have h1:=key _ _ i i' (by omega) (by omega) h
 have h2:=key _ _ i' i (by omega) (by omega) h.symm
 have h3:i+l=i'+l':=by omega
 rw [h3] at h;omega
inductive Rel (ρ:Rho) (M:Mem):Value->AV->Prop
 | pure {v:Value} {x:AV} (h:RelP M v x):Rel ρ M v x
 | ptr (L:Loc) (b g i j:Nat) (h:ρ b g=some L) (hi:i<L.n):Rel ρ M (.pointer (some ⟨L.B,L.o+i * L.sz+j,none⟩)) (.ptr b g i j)
 | sl (L:Loc) (b g i len cap:Nat) (c:Option Nat) (h:ρ b g=some L) (hv:L.virt=false) (hl:len<=cap) (hc:∀ k,c=some k->cap=k)
   (hb:L.o+(i+cap) * L.sz<=L.csz) (hcm:cap<=maxLen) (hn:i+len<=L.n):Rel ρ M (.slice (some ⟨L.B,L.o+i * L.sz,none⟩) len cap) (.sl b g i len c)
 | slv (L:Loc) (a:Option Addr) (b g i:Nat) (c:Option Nat) (h:ρ b g=some L) (hc:∀ k,c=some k->k=0):Rel ρ M (.slice a 0 0) (.sl b g i 0 c)
 | yld (L:Loc) (b:Nat) (h:ρ b 0=some L):Rel ρ M (.func (.yield L.B) #[] #[]) (.yld b)
 | map (L:Loc) (b:Nat) (h:ρ b 0=some L):Rel ρ M (.map (some L.B)) (.map b)
 | fmap (L:Loc) (b i:Nat) (h:ρ b i=some L):Rel ρ M (.map (some L.B)) (.fmap b i)
 | gro {v:Value} (b i n:Nat) (f:Nat->AV) (h:RelP M v (.rof n f false)) (h0:n=0->v=.slice none 0 0)
   (hn:0<n->∃ (L:Loc) (cap:Nat),ρ b (code i n)=some L/\v=.slice (some ⟨L.B,L.o,none⟩) n cap/\L.o+cap * L.sz<=L.csz/\∀ q,q<n->(f q).cells.length=L.sz):Rel ρ M v (.gro b i n f)
 | sla (L:Loc) (b g i j len:Nat) (h:ρ b g=some L) (hi:i<L.n) (hj:j+len<=L.sz):Rel ρ M (.slice (some ⟨L.B,L.o+i * L.sz+j,none⟩) len len) (.sla b g i j len)
 | fn (f:Fn) (fs cs:Array Value) (fl cl:List AV) (h1:fs.size=fl.length) (h2:cs.size=cl.length)
   (hr1:∀ i,i<fl.length->Rel ρ M (fs.getD i undef) (fl.getD i .undef)) (hr2:∀ i,i<cl.length->Rel ρ M (cs.getD i undef) (cl.getD i .undef)):Rel ρ M (.func f fs cs) (.fn f fl cl)
 | agg (cs:Array Value) (l:List AV) (h:cs.size=l.length) (hr:∀ i,i<l.length->Rel ρ M (cs.getD i undef) (l.getD i .undef)):Rel ρ M (.agg cs) (.agg l)
 | tup (cs:Array Value) (l:List AV) (h:cs.size=l.length) (hr:∀ i,i<l.length->Rel ρ M (cs.getD i undef) (l.getD i .undef)):Rel ρ M (.tuple cs) (.tup l)
theorem Rel.undef {ρ M} (v:Value):Rel ρ M v .undef:=.pure (.undef v)
theorem RelP.mono {M M':Mem} (h:∀ B i v,M B i=some v->M' B i=some v) {v:Value} {x:AV} (hr:RelP M v x):RelP M' v x:=by
 induction hr with
 | undef v=>exact .undef v
 | opt v m j w x=>exact .opt v m j w x
 | int k n=>exact .int k n
 | bool b=>exact .bool b
 | str l=>exact .str l
 | nilp=>exact .nilp
 | nils=>exact .nils
 | nilf=>exact .nilf
 | nilm=>exact .nilm
 | rptr B o j x vals hm hr ih=>exact .rptr B o j x vals (fun i hi=>h _ _ _ (hm i hi)) ih
 | rol B o cap sz l ex vals hc hcm hex hz hm hr ih=>exact .rol B o cap sz l ex vals hc hcm hex hz (fun i j hi hj=>h _ _ _ (hm i j hi hj)) ih
 | rof B o cap sz n f ex vals hc hcm hex hz hm hr ih=>exact .rof B o cap sz n f ex vals hc hcm hex hz (fun i j hi hj=>h _ _ _ (hm i j hi hj)) ih
 | rol0 a cap ex h1 h2 h3=>exact .rol0 a cap ex h1 h2 h3
 | rof0 a cap f ex h1 h2 h3=>exact .rof0 a cap f ex h1 h2 h3
 | groN b i f=>exact .groN b i f
 | fn f=>exact .fn f
 | fnc f fs cs fl cl h1 h2 _ _ ih1 ih2=>exact .fnc f fs cs fl cl h1 h2 ih1 ih2
 | agg cs l hs hr ih=>exact .agg cs l hs ih
 | tup cs l hs hr ih=>exact .tup cs l hs ih
def RExt (ρ ρ':Rho):Prop:=∀ b g L,ρ b g=some L->ρ' b g=some L
def MExt (M M':Mem):Prop:=∀ B i v,M B i=some v->M' B i=some v
theorem RExt.refl (ρ:Rho):RExt ρ ρ:=fun _ _ _ h=>h
theorem MExt.refl (M:Mem):MExt M M:=fun _ _ _ h=>h
theorem RExt.trans {a b c:Rho} (h:RExt a b) (k:RExt b c):RExt a c:=fun _ _ _ x=>k _ _ _ (h _ _ _ x)
theorem MExt.trans {a b c:Mem} (h:MExt a b) (k:MExt b c):MExt a c:=fun _ _ _ x=>k _ _ _ (h _ _ _ x)
theorem Rel.mono {ρ ρ':Rho} {M M':Mem} (hρ:RExt ρ ρ') (hM:MExt M M') {v:Value} {x:AV} (hr:Rel ρ M v x):Rel ρ' M' v x:=by
 induction hr with
 | pure h=>exact .pure (h.mono hM)
 | ptr L b g i j h hi=>exact .ptr L b g i j (hρ _ _ _ h) hi
 | sl L b g i len cap c h hv hl hc hb hcm hn=>exact .sl L b g i len cap c (hρ _ _ _ h) hv hl hc hb hcm hn
 | slv L a b g i c h hc=>exact .slv L a b g i c (hρ _ _ _ h) hc
 | yld L b h=>exact .yld L b (hρ _ _ _ h)
 | sla L b g i j len h hi hj=>exact .sla L b g i j len (hρ _ _ _ h) hi hj
 | map L b h=>exact .map L b (hρ _ _ _ h)
 | fmap L b i h=>exact .fmap L b i (hρ _ _ _ h)
 | gro b i n f h h0 hn=>exact .gro b i n f (h.mono hM) h0 fun h1=>let ⟨L,cap,k1,k2⟩:=hn h1; ⟨L,cap,hρ _ _ _ k1,k2⟩
 | fn f fs cs fl cl h1 h2 _ _ ih1 ih2=>exact .fn f fs cs fl cl h1 h2 ih1 ih2
 | agg cs l h _ ih=>exact .agg cs l h ih
 | tup cs l h _ ih=>exact .tup cs l h ih
theorem Rel.oneCell {ρ M} {v:Value} {x:AV} (h:Rel ρ M v x) (hx:x.isCell=true):v.oneCell'=true:=by
 cases h with
 | pure h=>cases h <;> first|rfl|(simp [AV.isCell] at hx)
 | ptr|sl|slv|fn|yld|map|sla|fmap=>rfl
 | gro b i n f h=>cases h <;> rfl
 | agg=>simp [AV.isCell] at hx
 | tup=>simp [AV.isCell] at hx
theorem oneCell_cells {v:Value} (h:v.oneCell'=true):v.cells=#[v]:=by
 cases v <;> first|rfl|(simp [Value.oneCell'] at h)
theorem cells_isCell {x:AV} (h:x.isCell=true):x.cells=[x]:=by
 cases x <;> first|rfl|(simp [AV.isCell] at h)
theorem Rel.aggInv {ρ M} {v:Value} {l:List AV} (h:Rel ρ M v (.agg l)):∃ cs,v=.agg cs/\cs.size=l.length/\∀ i,i<l.length->Rel ρ M (cs.getD i Go.undef) (l.getD i .undef):=by
 cases h with
 | pure h=>cases h with|agg cs l hs hr=>exact ⟨cs,rfl,hs,fun i hi=>.pure (hr i hi)⟩
 | agg cs l hs hr=>exact ⟨cs,rfl,hs,hr⟩
theorem Rel.tupInv {ρ M} {v:Value} {l:List AV} (h:Rel ρ M v (.tup l)):∃ cs,v=.tuple cs/\cs.size=l.length/\∀ i,i<l.length->Rel ρ M (cs.getD i Go.undef) (l.getD i .undef):=by
 cases h with
 | pure h=>cases h with|tup cs l hs hr=>exact ⟨cs,rfl,hs,fun i hi=>.pure (hr i hi)⟩
 | tup cs l hs hr=>exact ⟨cs,rfl,hs,hr⟩
theorem Rel.intInv {ρ M} {v:Value} {k n} (h:Rel ρ M v (.int k n)):v=.int k n:=by cases h with|pure h=>cases h; rfl
theorem Rel.boolInv {ρ M} {v:Value} {b} (h:Rel ρ M v (.bool b)):v=.bool b:=by cases h with|pure h=>cases h; rfl
theorem Rel.strInv {ρ M} {v:Value} {s} (h:Rel ρ M v (.str s)):v=.string ⟨⟨s⟩⟩:=by cases h with|pure h=>cases h; rfl
theorem Rel.ptrInv {ρ M} {v:Value} {b g i j} (h:Rel ρ M v (.ptr b g i j)):∃ L,ρ b g=some L/\v=.pointer (some ⟨L.B,L.o+i * L.sz+j,none⟩)/\i<L.n:=by
 cases h with
 | pure h=>cases h
 | ptr L _ _ _ _ h hi=>exact ⟨L,h,rfl,hi⟩
theorem Rel.yldInv {ρ M} {v:Value} {b} (h:Rel ρ M v (.yld b)):∃ L,ρ b 0=some L/\v=.func (.yield L.B) #[] #[]:=by
 cases h with
 | pure h=>cases h
 | yld L _ h=>exact ⟨L,h,rfl⟩
theorem Rel.slaInv {ρ M} {v:Value} {b g i j len} (h:Rel ρ M v (.sla b g i j len)):∃ L,ρ b g=some L/\v=.slice (some ⟨L.B,L.o+i * L.sz+j,none⟩) len len/\i<L.n/\j+len<=L.sz:=by
 cases h with
 | pure h=>cases h
 | sla L _ _ _ _ _ h hi hj=>exact ⟨L,h,rfl,hi,hj⟩
theorem Rel.mapInv {ρ M} {v:Value} {b} (h:Rel ρ M v (.map b)):∃ L,ρ b 0=some L/\v=.map (some L.B):=by
 cases h with
 | pure h=>cases h
 | map L _ h=>exact ⟨L,h,rfl⟩
theorem Rel.fmapInv {ρ M} {v:Value} {b i} (h:Rel ρ M v (.fmap b i)):∃ L,ρ b i=some L/\v=.map (some L.B):=by
 cases h with
 | pure h=>cases h
 | fmap L _ _ h=>exact ⟨L,h,rfl⟩
theorem Rel.groInv {ρ M} {v:Value} {b i n f} (h:Rel ρ M v (.gro b i n f)):RelP M v (.rof n f false)/\(n=0->v=.slice none 0 0) /\
  (0<n->∃ (L:Loc) (cap:Nat),ρ b (code i n)=some L/\v=.slice (some ⟨L.B,L.o,none⟩) n cap/\L.o+cap * L.sz<=L.csz/\∀ q,q<n->(f q).cells.length=L.sz):=by
 cases h with
 | pure h =>
  cases h with
  | groN=>exact ⟨.rof0 none 0 f false (by simp [maxLen]) (fun _=>rfl) (fun _=>rfl),fun _=>rfl,fun h=>absurd h (Nat.lt_irrefl 0)⟩
 | gro _ _ _ _ h h0 hn=>exact ⟨h,h0,hn⟩
theorem Rel.deg {ρ M} {v:Value} {x:AV} (h:Rel ρ M v x):Rel ρ M v x.deg:=by
 cases x <;> first|exact h|exact .pure h.groInv.1
theorem Rel.nilmInv {ρ M} {v:Value} (h:Rel ρ M v .nilm):v=.map none:=by cases h with|pure h=>cases h; rfl
theorem Rel.fnInv {ρ M} {v:Value} {f fl cl} (h:Rel ρ M v (.fn f fl cl)):∃ fs cs,v=.func f fs cs/\fs.size=fl.length/\cs.size=cl.length /\
  (∀ i,i<fl.length->Rel ρ M (fs.getD i Go.undef) (fl.getD i .undef))/\(∀ i,i<cl.length->Rel ρ M (cs.getD i Go.undef) (cl.getD i .undef)):=by
 cases h with
 | pure h =>
  cases h with
  | fn=>exact ⟨#[],#[],rfl,rfl,rfl,fun i hi=>by simp at hi,fun i hi=>by simp at hi⟩
  | fnc _ fs cs _ _ h1 h2 hr1 hr2=>exact ⟨fs,cs,rfl,h1,h2,fun i hi=>.pure (hr1 i hi),fun i hi=>.pure (hr2 i hi)⟩
 | fn f fs cs fl cl h1 h2 h3 h4=>exact ⟨fs,cs,rfl,h1,h2,h3,h4⟩
theorem Rel.elem {ρ M} {v:Value} {x:AV} {sz:Nat} (h:Rel ρ M v x) (hx:x.okElem sz=true) :
  v.cells.size=sz/\x.cells.length=sz/\∀ j,j<sz->((v.cells.getD j Go.undef).oneCell'=true/\Rel ρ M (v.cells.getD j Go.undef) (x.cells.getD j .undef)):=by
 have one:∀ (y:AV),x=y->y.isCell=true->sz=1->v.cells.size=sz/\x.cells.length=sz/\∀ j,j<sz->((v.cells.getD j Go.undef).oneCell'=true/\Rel ρ M (v.cells.getD j Go.undef) (x.cells.getD j .undef)):=by
  intro y hy hc hs;subst hy; subst hs;have h1:=h.oneCell hc;rw [oneCell_cells h1,cells_isCell hc];refine ⟨rfl,rfl,fun j hj=>?_⟩
  have:j=0:=by omega
  subst this;exact ⟨h1,h⟩
 cases x with
 | agg l =>
  obtain ⟨cs,rfl,hs,hr⟩:=h.aggInv;simp only [AV.okElem,Bool.and_eq_true,beq_iff_eq,List.all_eq_true] at hx;refine ⟨by simp [Value.cells]; omega,hx.1,fun j hj=>?_⟩
  have hj':j<l.length:=by omega
  have h2:=hr j hj';refine ⟨h2.oneCell (hx.2 _ ?_),h2⟩;have e:l.getD j .undef=l[j]:=by simp [List.getD,hj']
  rw [e];exact List.getElem_mem hj'
 | undef=>simp [AV.okElem,AV.isCell] at hx
 | tup l=>simp [AV.okElem,AV.isCell] at hx
 | opt m j w x=>simp [AV.okElem,AV.isCell] at hx
 | _=>simp only [AV.okElem,Bool.and_eq_true,beq_iff_eq] at hx; exact one _ rfl hx.2 hx.1
def cvA:AV->Value
 | .int k n=>.int k n
 | .bool b=>.bool b
 | .str s=>.string ⟨⟨s⟩⟩
 | _=>undef
def vOf (agg:Bool) (l:List AV):Value:=match agg with|true=>.agg (l.map cvA).toArray|false=>cvA (l.getD 0 .undef)
def vAV:AV->Value
 | .agg l=>vOf true l
 | x=>vOf false [x]
end Pw
namespace Pw
open Go
def RowOK (ρ:Rho) (M:Mem) (w:World) (b g sz:Nat) (pu:Bool) (s:Sq):Prop :=
 ∃ L,ρ b g=some L/\L.sz=sz/\(1<=sz/\s.len=L.n) /\
  ((L.virt=true/\s.len=0) \/
   (L.virt=false/\∃ c e,w.heap[L.B]?=some (.cells c e (0,0))/\c.size=L.csz/\L.o+s.len * sz<=L.csz/\(∀ i,M L.B i=none) /\
    ∀ i,i<s.len->(s.get i).cells.length=sz/\∀ j,j<sz->∃ v,c[L.o+i * sz+j]?=some v/\v.oneCell'=true /\
     Rel ρ M v ((s.get i).cells.getD j .undef)/\(pu=true->RelP M v ((s.get i).cells.getD j .undef))))
theorem heap_lt {w:World} {B:Nat} {o:Obj} (h:w.heap[B]?=some o):B<w.heap.size:=(Array.getElem?_eq_some_iff.1 h).1
def stOK:LSt->LoopState->Option Code->Prop
 | .ready,s,p=>s=.ready/\p=none
 | .busy,s,_=>s=.busy
 | .done c,s,p=>s=.done/\p=some c
 | .mp _,_,_=>False
 | .mf _,_,_=>False
 | .mk _,_,_=>False
 | .abs ..,_,_=>False
def EntOK (ρ:Rho) (M:Mem) (es':Array MapEntry) (es:List (AV×AV)):Prop :=
 es'.size=es.length/\∀ i,i<es.length->∃ e,es'[i]?=some e/\e.key=vAV (es.getD i (.undef,.undef)).1/\Rel ρ M e.val (es.getD i (.undef,.undef)).2
theorem EntOK.mono {ρ ρ':Rho} {M M':Mem} (hρ:RExt ρ ρ') (hM:MExt M M') {es':Array MapEntry} {es:List (AV×AV)} (h:EntOK ρ M es' es):EntOK ρ' M' es' es :=
 ⟨h.1,fun i hi=>by obtain ⟨e,e1,e2,e3⟩:=h.2 i hi; exact ⟨e,e1,e2,e3.mono hρ hM⟩⟩
def RecOK (ρ:Rho) (M:Mem) (w:World) (b:Nat) (st:LSt) (r:LoopB):Prop :=
 ∃ L lp s p,ρ b 0=some L/\L.rc=some lp/\w.heap[L.B]?=some (.loop { lp with state:=s,pending:=p })/\stOK st s p /\
  lp.params=r.params/\lp.assign=r.assign/\lp.body=r.body/\lp.tmps.size=r.n/\r.n<=slotD/\dfL (r.tm.get .undef slotD)=[]/\∀ t,Rel ρ M (lp.tmps.getD t undef) (r.tm.get .undef t)
def SBok (es:List (AV×AV)) (m:List UInt8->Bool):Prop:=sbB es=true/\∀ s,lookS es s=m s
def lookK (z:AV):List (AV×AV)->List Int->Bool×AV
 | [],_=>(false,z)
 | e::r,q=>if intCells e.1.cells=some q then (true,e.2) else lookK z r q
def KMok (es:List (AV×AV)) (m:KM):Prop:=(∀ e∈es,sameShape e.1 m.sh=true/\isLit e.2=true)/\isLit m.z=true/\∀ q,lookK m.z es q=(m.has q,m.val q)
def mpSt (st:LSt) (es:List (AV×AV)):Prop:=st=.mp es\/(∃ m,st=.mf m/\SBok es m)\/∃ m,st=.mk m/\KMok es m
theorem mpSt.notRec {st:LSt} {es:List (AV×AV)} (h:mpSt st es):(∃ es,st=.mp es)\/(∃ m,st=.mf m)\/∃ m,st=.mk m:=by
 rcases h with h|⟨m,h,_⟩|⟨m,h,_⟩
 ·exact .inl ⟨_,h⟩
 ·exact .inr (.inl ⟨_,h⟩)
 ·exact .inr (.inr ⟨_,h⟩)
def MapOK (ρ:Rho) (M:Mem) (w:World) (b:Nat) (st:LSt):Prop :=
 ∃ L es es' c,mpSt st es/\ρ b 0=some L/\L.rc=none/\w.heap[L.B]?=some (.map es' c)/\EntOK ρ M es' es
def AbsOK (ρ:Rho) (w:World) (b:Nat) (st:LSt):Prop :=
 ∃ L k on sp lp,st=.abs k on sp/\ρ b 0=some L/\L.rc=none/\L.B=sp.l/\w.heap[L.B]?=some (.loop lp)
def LoopOK (ρ:Rho) (M:Mem) (w:World) (b:Nat) (st:LSt) (r:LoopB):Prop:=RecOK ρ M w b st r\/MapOK ρ M w b st\/AbsOK ρ w b st
inductive LM where
 | loop (l:Loop)
 | map (es:Array MapEntry) (c:Nat)
def LM.obj:LM->Obj
 | .loop l=>.loop l
 | .map es c=>.map es c
theorem LoopOK.at {ρ M w b st r} (h:LoopOK ρ M w b st r):∃ (L:Loc) (x:LM),ρ b 0=some L/\w.heap[L.B]?=some x.obj:=by
 rcases h with ⟨L,lp,s,p,h1,h2,h3,_⟩|⟨L,es,es',c,h0,h1,h2,h3,_⟩|⟨L,k,on,sp,lp,h0,h1,_,_,h3⟩
 ·exact ⟨L,.loop _,h1,h3⟩
 ·exact ⟨L,.map es' c,h1,h3⟩
 ·exact ⟨L,.loop lp,h1,h3⟩
def LSt.isRec:LSt->Bool
 | .mp _=>false
 | .mf _=>false
 | .mk _=>false
 | .abs ..=>false
 | _=>true
theorem LoopOK.record {ρ M w b st r} (h:LoopOK ρ M w b st r) (hst:st.isRec=true):RecOK ρ M w b st r:=by
 rcases h with h|⟨L,es,es',c,h0,_⟩|⟨L,k,on,sp,lp,h0,_⟩
 ·exact h
 ·rcases h0.notRec with ⟨_,e⟩|⟨_,e⟩|⟨_,e⟩ <;> (rw [e] at hst; cases hst)
 ·rw [h0] at hst; cases hst
theorem LoopOK.mapOK {ρ M w b es r} (h:LoopOK ρ M w b (.mp es) r):∃ L es1 es' c,LSt.mp es=.mp es1/\ρ b 0=some L/\L.rc=none/\w.heap[L.B]?=some (.map es' c)/\EntOK ρ M es' es1:=by
 rcases h with ⟨L,lp,s,p,_,_,_,h4,_⟩|⟨L,es1,es',c,h0,h1⟩|⟨L,k,on,sp,lp,h0,_⟩
 ·exact h4.elim
 ·rcases h0 with h0|⟨m,h0,_⟩|⟨m,h0,_⟩
  ·exact ⟨L,es1,es',c,h0,h1⟩
  ·cases h0
  ·cases h0
 ·cases h0
theorem LoopOK.mfOK {ρ M w b m r} (h:LoopOK ρ M w b (.mf m) r):∃ L es es' c,SBok es m/\ρ b 0=some L/\L.rc=none/\w.heap[L.B]?=some (.map es' c)/\EntOK ρ M es' es:=by
 rcases h with ⟨L,lp,s,p,_,_,_,h4,_⟩|⟨L,es1,es',c,h0,h1⟩|⟨L,k,on,sp,lp,h0,_⟩
 ·exact h4.elim
 ·rcases h0 with h0|⟨m',h0,h2⟩|⟨m',h0,h2⟩
  ·cases h0
  ·cases h0;exact ⟨L,es1,es',c,h2,h1⟩
  ·cases h0
 ·cases h0
theorem LoopOK.mkOK {ρ M w b m r} (h:LoopOK ρ M w b (.mk m) r):∃ L es es' c,KMok es m/\ρ b 0=some L/\L.rc=none/\w.heap[L.B]?=some (.map es' c)/\EntOK ρ M es' es:=by
 rcases h with ⟨L,lp,s,p,_,_,_,h4,_⟩|⟨L,es1,es',c,h0,h1⟩|⟨L,k,on,sp,lp,h0,_⟩
 ·exact h4.elim
 ·rcases h0 with h0|⟨m',h0,h2⟩|⟨m',h0,h2⟩
  ·cases h0
  ·cases h0
  ·cases h0;exact ⟨L,es1,es',c,h2,h1⟩
 ·cases h0
theorem LoopOK.absOK {ρ M w b k on sp r} (h:LoopOK ρ M w b (.abs k on sp) r):AbsOK ρ w b (.abs k on sp):=by
 rcases h with ⟨L,lp,s,p,_,_,_,h4,_⟩|⟨L,es,es',c,h0,_⟩|h
 ·exact h4.elim
 ·rcases h0.notRec with ⟨_,e⟩|⟨_,e⟩|⟨_,e⟩ <;> cases e
 ·exact h
structure HOK (ρ:Rho) (M:Mem) (hp:Nat->Blk) (w:World):Prop where
 mem:∀ B i v,M B i=some v->w.cell? ⟨B,i,none⟩=some v/\v.oneCell'=true
 row:∀ b g sz pu s,hp b=.row g sz pu s->RowOK ρ M w b g sz pu s
 inj:∀ b b' g g' sz sz' pu pu' s s' L L',hp b=.row g sz pu s->hp b'=.row g' sz' pu' s'->ρ b g=some L->ρ b' g'=some L'->L.virt=false->L'.virt=false->L.B=L'.B->b=b'
 gen:∀ b g sz pu s,hp b=.row g sz pu s->∀ g',g<g'->ρ b g'=none
 loop:∀ b st r,hp b=.loop st r->LoopOK ρ M w b st r
 linj:∀ b b' st st' r r' L L',hp b=.loop st r->hp b'=.loop st' r'->ρ b 0=some L->ρ b' 0=some L'->L.B=L'.B->b=b'
def marksOf:List Deferred->List Nat
 | []=>[]
 | d::r=>match d.target with|.collected b=>b::marksOf r|_=>marksOf r
def DfL (ρ:Rho) (M:Mem):List Deferred->List AV->Prop
 | [],l=>l=[]
 | d::ds,l=>match d.target with
  | .collected _=>DfL ρ M ds l
  | .fn f cap=>match l with|x::l'=>Rel ρ M (.func f d.args cap) x/\DfL ρ M ds l'|[]=>False
  | _=>False
structure Base where
 U:Nat->Prop
 M0:Mem
 cur:Bool
 nod:Bool
structure Keep (U:Nat->Prop) (w0 w:World):Prop where
 os:w.os=w0.os
 tape:w.tape=w0.tape
 output:w.output=w0.output
 size:w0.heap.size<=w.heap.size
 block:∀ B,U B->B<w0.heap.size->w.heap[B]?=w0.heap[B]?
theorem Keep.refl (U:Nat->Prop) (w:World):Keep U w w:=⟨rfl,rfl,rfl,Nat.le_refl _,fun _ _ _=>rfl⟩
def MemOK (M:Mem) (W:World):Prop:=∀ B i v,M B i=some v->W.cell? ⟨B,i,none⟩=some v/\v.oneCell'=true
def ArgsP (M:Mem) (vals:Array Value) (args:List AV):Prop:=vals.size=args.length/\∀ i,i<args.length->RelP M (vals.getD i undef) (args.getD i .undef)
def AbsS.Stable (sp:AbsS):Prop :=
 ∀ k C T w w',Keep (fun B=>C B\/T B\/B<sp.n0) w w'->(sp.Φ k C T w->sp.Φ k C T w')/\(sp.Ψ k C T w->sp.Ψ k C T w')
def YieldX (P:Program) (l:Nat) (vals:Array Value) (w:World) (R:Ending->World->Prop):Prop :=
 ∃ f tmps assign body,(Instr.yield l vals).run P w=.ok (.round l f tmps assign body) w/\RoundIn Fence.wide 0 P l f tmps assign body w R
def AbsS.Law (sp:AbsS):Prop :=
 ∀ k C T W M vals,k<sp.len->sp.Φ k C T W->MemOK M W->(∀ B i v,M B i=some v->¬ C B)->(∀ B i v,M B i=some v->B<sp.n0->sp.M0 B i=some v)->(∀ B,T B->∃ i v,M B i=some v)->(∀ B,C B->B<W.heap.size)->sp.n0<=W.heap.size->ArgsP M vals (sp.el k) ->
  YieldX sp.P sp.l vals W fun e W'=>∃ C' T':Nat->Prop,(∀ B,C' B->C B\/W.heap.size<=B)/\(∀ B,T' B->∃ i v,M B i=some v)/\C' sp.l/\(∀ B,C' B->B<W'.heap.size)/\Keep (fun B=>¬ C B) W W'/\(∃ lp,W'.heap[sp.l]?=some (.loop lp)) /\
   ((e=.returned (.bool true)/\sp.Φ (k+1) C' T' W')\/(e=.returned (.bool false)/\sp.Ψ (k+1) C' T' W'))
structure AbsAt (U:Base) (w0:World) (ρ:Rho) (M:Mem) (hp:Nat->Blk) (mk:List Nat) (w:World) (b k:Nat) (on:Bool) (sp:AbsS) (C T:Nat->Prop):Prop where
 stab:sp.Stable
 law:sp.Law
 n0:sp.n0<=w.heap.size
 lt:∀ B,C B->B<w.heap.size
 now:bif on then sp.Φ k C T w else sp.Ψ k C T w
 row:∀ b' g sz pu s L,hp b'=.row g sz pu s->ρ b' g=some L->L.virt=false->¬ C L.B/\sp.n0<=L.B
 loop:∀ b' st r L,b'≠b->hp b'=.loop st r->ρ b' 0=some L->¬ C L.B/\sp.n0<=L.B
 only:∀ b' k' on' sp' r',hp b'=.loop (.abs k' on' sp') r'->b'=b
 me:C sp.l
 mem:∀ B i v,M B i=some v->¬ C B
 memB:∀ B i v,M B i=some v->B<sp.n0->sp.M0 B i=some v
 tm:∀ B,T B->∃ i v,M B i=some v
 marks:∀ r∈mk,¬ C r/\sp.n0<=r
 own:∀ B,C B->U.U B->w0.heap.size<=B
def ExtA (U:Base) (w0:World) (ρ:Rho) (M:Mem) (hp:Nat->Blk) (mk:List Nat) (w:World):Prop :=
 ∀ b k on sp r,hp b=.loop (.abs k on sp) r->∃ C T,AbsAt U w0 ρ M hp mk w b k on sp C T
def FamRow (U:Base) (w0:World) (ρ:Rho) (M:Mem) (w:World) (b sz i l:Nat) (L:Loc):Prop :=
 ρ b (code i l)=some L/\L.sz=sz/\(∃ c e,w.heap[L.B]?=some (.cells c e (0,0))/\c.size=L.csz)/\(∀ q,q<l * sz->∃ v,M L.B (L.o+q)=some v) /\
  (∀ k,L.o+l * sz<=k->M L.B k=none)/\(U.U L.B->w0.heap.size<=L.B)
def FamMap (U:Base) (w0:World) (ρ:Rho) (M:Mem) (hp:Nat->Blk) (mk:List Nat) (w:World) (b i:Nat) (m:KM) (L:Loc):Prop :=
 ρ b i=some L/\(∃ es es' c,w.heap[L.B]?=some (.map es' c)/\EntOK (fun _ _=>none) M es' es/\KMok es m)/\(U.U L.B->w0.heap.size<=L.B) /\
  (∀ b' g sz pu s L',hp b'=.row g sz pu s->ρ b' g=some L'->L'.virt=false->L'.B≠L.B)/\(∀ b' st r L',hp b'=.loop st r->ρ b' 0=some L'->L'.B≠L.B)/\(∀ r∈mk,r≠L.B)
def FamB (ρ:Rho) (b:Nat):Fam->Nat->Prop
 | .rows _ len,B=>∃ i L,0<len i/\ρ b (code i (len i))=some L/\L.B=B
 | .maps _ _ n _ _,B=>∃ i L,i<n/\ρ b i=some L/\L.B=B
def FamAt (U:Base) (w0:World) (ρ:Rho) (M:Mem) (hp:Nat->Blk) (mk:List Nat) (w:World) (b:Nat):Fam->Prop
 | .rows sz len=>1<=sz/\(∀ i,0<len i->∃ L,FamRow U w0 ρ M w b sz i (len i) L)/\(∀ i l,len i<l->ρ b (code i l)=none) /\
   ∀ i i' L L',0<len i->0<len i'->ρ b (code i (len i))=some L->ρ b (code i' (len i'))=some L'->L.B=L'.B->i=i'
 | .maps sh z n has val=>(∀ i,i<n->∃ L,FamMap U w0 ρ M hp mk w b i ⟨sh,z,has i,val i⟩ L)/\(∀ i,n<=i->ρ b i=none) /\
   ∀ i i' L L',i<n->i'<n->ρ b i=some L->ρ b i'=some L'->L.B=L'.B->i=i'
def ExtF (U:Base) (w0:World) (ρ:Rho) (M:Mem) (hp:Nat->Blk) (mk:List Nat) (w:World):Prop :=
 ∀ b d,hp b=.fam d->(∀ b' k on sp r,hp b'≠.loop (.abs k on sp) r)/\FamAt U w0 ρ M hp mk w b d/\∀ b' d' B,b'≠b->hp b'=.fam d'->FamB ρ b d B->¬ FamB ρ b' d' B
def Ext (U:Base) (w0:World) (ρ:Rho) (M:Mem) (hp:Nat->Blk) (mk:List Nat) (w:World):Prop:=ExtA U w0 ρ M hp mk w/\ExtF U w0 ρ M hp mk w
theorem FamB.congr {ρ ρ':Rho} {b:Nat} (h:∀ g,ρ' b g=ρ b g) {d:Fam} {B:Nat} (hb:FamB ρ' b d B):FamB ρ b d B:=by
 cases d with
 | rows sz len=>obtain ⟨i,L,h1,h2,h3⟩:=hb; exact ⟨i,L,h1,by rw [<- h]; exact h2,h3⟩
 | maps sh z n has val=>obtain ⟨i,L,h1,h2,h3⟩:=hb; exact ⟨i,L,h1,by rw [<- h]; exact h2,h3⟩
def Mine (ρ:Rho) (hp:Nat->Blk) (mk:List Nat) (B:Nat):Prop :=
 (∃ b g sz pu s L,hp b=.row g sz pu s/\ρ b g=some L/\L.virt=false/\L.B=B)\/(∃ b st r L,hp b=.loop st r/\(∀ k on sp,st≠.abs k on sp)/\ρ b 0=some L/\L.B=B)\/B∈mk
structure SRel (U:Base) (w0:World) (n:Nat) (ρ:Rho) (M:Mem) (tm0:Nat->AV) (hp:Nat->Blk) (nx:Nat) (a:Act) (w:World):Prop where
 size:a.tmps.size=n
 tm:∀ t,Rel ρ M (a.tmps.getD t undef) (tm0 t)
 hok:HOK ρ M hp w
 dead:∀ b,nx<=b->hp b=.dead
 free:∀ b g,nx<=b->ρ b g=none
 keep:Keep U.U w0 w
 memN:∀ B i v,M B i=some v->U.M0 B i=some v\/w0.heap.size<=B\/¬ U.U B
 memE:MExt U.M0 M
 own:∀ b g sz pu s L,hp b=.row g sz pu s->ρ b g=some L->L.virt=false->U.U L.B->w0.heap.size<=L.B
 nle:n<=slotD
 ownL:∀ b st r L,hp b=.loop st r->ρ b 0=some L->U.U L.B->w0.heap.size<=L.B
 defers:DfL ρ M a.defers (dfL (tm0 slotD))
 marks:(marksOf a.defers).Nodup/\∀ r∈marksOf a.defers,w.heap[r]?=some (.deferred (some []))
 mown:U.cur=true->∀ r∈marksOf a.defers,U.U r->w0.heap.size<=r
 nod:U.nod=true->a.defers=[]
 ext:Ext U w0 ρ M hp (marksOf a.defers) w
theorem Ext.step {U U':Base} {w0 w0':World} {ρ ρ':Rho} {M M':Mem} {hp hp':Nat->Blk} {mk mk':List Nat} {w w':World} (h:Ext U w0 ρ M hp mk w) (hmine:∀ B,Mine ρ hp mk B->∀ i v,M B i≠some v)
  (hos:w'.os=w.os) (htape:w'.tape=w.tape) (hout:w'.output=w.output) (hsz:w.heap.size<=w'.heap.size)
  (hloop:∀ b k on sp r,hp' b=.loop (.abs k on sp) r->∃ r',hp b=.loop (.abs k on sp) r')
  (hrow:∀ b g sz pu s L,hp' b=.row g sz pu s->ρ' b g=some L->L.virt=false->w.heap.size<=L.B\/∃ b0 g0 sz0 pu0 s0 L0,hp b0=.row g0 sz0 pu0 s0/\ρ b0 g0=some L0/\L0.virt=false/\L0.B=L.B)
  (hlp:∀ b st r L,hp' b=.loop st r->ρ' b 0=some L->w.heap.size<=L.B\/∃ st0 r0 L0,hp b=.loop st0 r0/\ρ b 0=some L0/\L0.B=L.B)
  (hE:MExt M M') (hM:∀ B i v,M' B i=some v->M B i=some v\/w.heap.size<=B\/Mine ρ hp mk B)
  (hmk:∀ r∈mk',r∈mk\/w.heap.size<=r)
  (hU:∀ B,U'.U B->B<w0'.heap.size->U.U B/\B<w0.heap.size)
  (hfam:∀ b d,hp' b=.fam d->hp b=.fam d/\∀ g,ρ' b g=ρ b g)
  (hw:∀ B,B<w.heap.size->w'.heap[B]?=w.heap[B]?\/Mine ρ hp mk B):Ext U' w0' ρ' M' hp' mk' w':=by
 refine ⟨?_,fun b d e=>?_⟩
 case refine_2 =>
  obtain ⟨e0,hρb⟩:=hfam b d e;obtain ⟨hna,hat,hdis⟩:=h.2 b d e0;refine ⟨fun b' k on sp r e'=>(by obtain ⟨r',e1⟩:=hloop b' k on sp r e'; exact hna b' k on sp r' e1),?_,fun b' d' B hne e' h1 h2=>?_⟩
  case refine_2 =>
   obtain ⟨e0',hρb'⟩:=hfam b' d' e';exact hdis b' d' B hne e0' (h1.congr hρb) (h2.congr hρb')
  have hUn:∀ B,(U.U B->w0.heap.size<=B)->U'.U B->w0'.heap.size<=B:=fun B h1 h2=>by
   rcases Nat.lt_or_ge B w0'.heap.size with h3|h3
   ·obtain ⟨h4,h5⟩:=hU B h2 h3;have:=h1 h4;omega
   ·exact h3
  cases d with
  | rows sz len =>
   obtain ⟨a1,a2,a3,a4⟩:=hat;refine ⟨a1,fun i hi=>?_,fun i l hl=>by rw [hρb]; exact a3 i l hl,fun i i' L L' h1 h2 h3 h4=>a4 i i' L L' h1 h2 (by rw [<- hρb]; exact h3) (by rw [<- hρb]; exact h4)⟩
   obtain ⟨L,b1,b2,⟨c,ce,b3,b4⟩,b5,b6,b7⟩:=a2 i hi;have hpos:0<len i * sz:=Nat.mul_pos hi a1;obtain ⟨v0,hv0⟩:=b5 0 hpos;have hnm:¬ Mine ρ hp mk L.B:=fun hm=>hmine L.B hm _ _ hv0
   have hlt:=heap_lt b3;refine ⟨L,by rw [hρb]; exact b1,b2,⟨c,ce,?_,b4⟩,fun q hq=>?_,fun k hk=>?_,hUn _ b7⟩
   ·rcases hw L.B hlt with h1|h1
    ·rw [h1]; exact b3
    ·exact absurd h1 hnm
   ·obtain ⟨v,hv⟩:=b5 q hq;exact ⟨v,hE _ _ _ hv⟩
   ·cases hm:M' L.B k with
    | none=>rfl
    | some v =>
     rcases hM L.B k v hm with h1|h1|h1
     ·rw [b6 k hk] at h1; cases h1
     ·omega
     ·exact absurd h1 hnm
  | maps sh z nn has val =>
   obtain ⟨a1,a2,a3⟩:=hat;refine ⟨fun i hi=>?_,fun i hi=>by rw [hρb]; exact a2 i hi,fun i i' L L' h1 h2 h3 h4=>a3 i i' L L' h1 h2 (by rw [<- hρb]; exact h3) (by rw [<- hρb]; exact h4)⟩
   obtain ⟨L,b1,⟨es,es',c,b2,b3,b4⟩,b5,b6,b7,b8⟩:=a1 i hi;have hlt:=heap_lt b2;have hnm:¬ Mine ρ hp mk L.B:=by
    rintro (⟨b',g,sz,pu,s,L',e1,e2,e3,e4⟩|⟨b',st,r,L',e1,e2,e3,e4⟩|hm)
    ·exact b6 b' g sz pu s L' e1 e2 e3 e4
    ·exact b7 b' st r L' e1 e3 e4
    ·exact b8 _ hm rfl
   refine ⟨L,by rw [hρb]; exact b1,⟨es,es',c,?_,b3.mono (RExt.refl _) hE,b4⟩,hUn _ b5,fun b' g sz pu s L' e1 e2 e3=>?_,fun b' st r L' e1 e2=>?_,fun q hq=>?_⟩
   ·rcases hw L.B hlt with h1|h1
    ·rw [h1]; exact b2
    ·exact absurd h1 hnm
   ·rcases hrow b' g sz pu s L' e1 e2 e3 with h4|⟨b0,g0,sz0,pu0,s0,L0,k1,k2,k3,k4⟩
    ·omega
    ·rw [<- k4]; exact b6 b0 g0 sz0 pu0 s0 L0 k1 k2 k3
   ·rcases hlp b' st r L' e1 e2 with h4|⟨st0,r0,L0,k1,k2,k3⟩
    ·omega
    ·rw [<- k3]; exact b7 b' st0 r0 L0 k1 k2
   ·rcases hmk q hq with h1|h1
    ·exact b8 q h1
    ·omega
 intro b k on sp r e;obtain ⟨r',e'⟩:=hloop b k on sp r e;obtain ⟨C,T,hC⟩:=h.1 b k on sp r' e';have notMine:∀ B,Mine ρ hp mk B->¬ C B/\sp.n0<=B:=by
  rintro B (⟨b1,g1,sz1,pu1,s1,L1,e1,e2,e3,rfl⟩|⟨b1,st1,r1,L1,e1,e2,e3,rfl⟩|hm)
  ·exact hC.row b1 g1 sz1 pu1 s1 L1 e1 e2 e3
  ·exact hC.loop b1 st1 r1 L1 (fun hb=>by subst hb; rw [e'] at e1; cases e1; exact e2 _ _ _ rfl) e1 e3
  ·exact hC.marks B hm
 have hk:Keep (fun B=>C B\/T B\/B<sp.n0) w w':=⟨hos,htape,hout,hsz,fun B hB hlt=>by
  rcases hw B hlt with h1|h1
  ·exact h1
  ·obtain ⟨h2,h3⟩:=notMine B h1;rcases hB with h4|h4|h4
   ·exact absurd h4 h2
   ·obtain ⟨i,v,h5⟩:=hC.tm B h4;exact absurd h5 (hmine B h1 i v)
   ·omega⟩
 have fresh:∀ B,w.heap.size<=B->¬ C B/\sp.n0<=B:=fun B hB=>⟨fun hc=>by have:=hC.lt B hc; omega,by have:=hC.n0; omega⟩
 have new:∀ B i v,M' B i=some v->M B i=some v\/(¬ C B/\sp.n0<=B):=fun B i v hm=>by
  rcases hM B i v hm with h1|h1|h1
  ·exact .inl h1
  ·exact .inr (fresh B h1)
  ·exact .inr (notMine B h1)
 refine ⟨C,T,hC.stab,hC.law,Nat.le_trans hC.n0 hsz,fun B hB=>Nat.lt_of_lt_of_le (hC.lt B hB) hsz,?_,fun b' g sz pu s L h1 h2 h3=>?_,fun b' st r2 L hne h1 h2=>?_,fun b' k' on' sp' r2 h1=>?_,hC.me,fun B i v hm=>?_,fun B i v hm hlt=>?_,fun B hB=>?_,fun q hq=>?_,fun B hB hU'=>?_⟩
 ·have:=hC.stab k C T w w' hk;have hn:=hC.now;cases on
  ·exact this.2 hn
  ·exact this.1 hn
 ·rcases hrow b' g sz pu s L h1 h2 h3 with h4|⟨b0,g0,sz0,pu0,s0,L0,k1,k2,k3,k4⟩
  ·exact fresh _ h4
  ·rw [<- k4]; exact hC.row b0 g0 sz0 pu0 s0 L0 k1 k2 k3
 ·rcases hlp b' st r2 L h1 h2 with h4|⟨st0,r0,L0,k1,k2,k3⟩
  ·exact fresh _ h4
  ·rw [<- k3]; exact hC.loop b' st0 r0 L0 hne k1 k2
 ·obtain ⟨r3,h2⟩:=hloop b' k' on' sp' r2 h1;exact hC.only b' k' on' sp' r3 h2
 ·rcases new B i v hm with h1|h1
  ·exact hC.mem B i v h1
  ·exact h1.1
 ·rcases new B i v hm with h1|h1
  ·exact hC.memB B i v h1 hlt
  ·omega
 ·obtain ⟨i,v,h1⟩:=hC.tm B hB;exact ⟨i,v,hE B i v h1⟩
 ·rcases hmk q hq with h1|h1
  ·exact hC.marks q h1
  ·exact fresh q h1
 ·rcases Nat.lt_or_ge B w0'.heap.size with h1|h1
  ·obtain ⟨h2,h3⟩:=hU B hU' h1;have:=hC.own B hB h2;omega
  ·exact h1
theorem DfL.mono {ρ ρ':Rho} {M M':Mem} (hρ:RExt ρ ρ') (hM:MExt M M'):∀ {ds:List Deferred} {l:List AV},DfL ρ M ds l->DfL ρ' M' ds l
 | [],_,h=>h
 | d::ds,l,h=>by
  unfold DfL at h ⊢;split
  ·rename_i e; rw [e] at h; exact DfL.mono hρ hM h
  ·rename_i e;rw [e] at h;cases l with
   | nil=>exact h
   | cons x l=>exact ⟨h.1.mono hρ hM,DfL.mono hρ hM h.2⟩
  ·rename_i e1 e2;split at h
   ·rename_i e; exact absurd e (e1 _)
   ·rename_i e; exact absurd e (e2 _ _)
   ·exact h
theorem LoopOK.mono {ρ ρ':Rho} {M M':Mem} {w w':World} {b:Nat} {st:LSt} {r:LoopB} (h:LoopOK ρ M w b st r) (hρ:RExt ρ ρ') (hM:MExt M M') (hw:∀ L,ρ b 0=some L->∀ (lp:LM),w.heap[L.B]?=some lp.obj->w'.heap[L.B]?=some lp.obj):LoopOK ρ' M' w' b st r:=by
 rcases h with ⟨L,lp,s,p,h1,h2,h3,h4,h5,h6,h7,h8,h9,h10,h11⟩|⟨L,es,es',c,h0,h1,h2,h3,h4⟩|⟨L,k,on,sp,lp,h0,h1,h2,h3,h4⟩
 ·exact .inl ⟨L,lp,s,p,hρ _ _ _ h1,h2,hw L h1 (.loop _) h3,h4,h5,h6,h7,h8,h9,h10,fun t=>(h11 t).mono hρ hM⟩
 ·exact .inr (.inl ⟨L,es,es',c,h0,hρ _ _ _ h1,h2,hw L h1 (.map es' c) h3,h4.mono hρ hM⟩)
 ·exact .inr (.inr ⟨L,k,on,sp,lp,h0,hρ _ _ _ h1,h2,h3,hw L h1 (.loop lp) h4⟩)
theorem HOK.mem_lt {ρ M hp w} (h:HOK ρ M hp w) {B i v} (hm:M B i=some v):B<w.heap.size :=
 World.block_lt_of_cell? w ⟨B,i,none⟩ (h.mem B i v hm).1
theorem cell_congr {w w':World} {B:Nat} (h:w'.heap[B]?=w.heap[B]?) (i:Nat):w'.cell? ⟨B,i,none⟩=w.cell? ⟨B,i,none⟩:=by
 simp [World.cell?,h]
theorem HOK.upd {ρ ρ':Rho} {M:Mem} {hp hp':Nat->Blk} {w w':World} (h:HOK ρ M hp w) (b g sz:Nat) (pu:Bool) (s:Sq) (L:Loc)
  (hρ:RExt ρ ρ') (hρ':∀ b' g',¬ (b'=b/\g'=g)->ρ' b' g'=ρ b' g') (hL:ρ' b g=some L)
  (hb:hp' b=.row g sz pu s) (hb':∀ b',b'≠b->hp' b'=hp b')
  (hrow:RowOK ρ' M w' b g sz pu s)
  (hcase:L.virt=true\/w.heap.size<=L.B\/∃ g0 sz0 pu0 s0 L0,hp b=.row g0 sz0 pu0 s0/\ρ b g0=some L0/\L0.virt=false/\L0.B=L.B)
  (hgen:∀ g',g<g'->ρ b g'=none)
  (hw:∀ B,B<w.heap.size->(L.virt=true\/B≠L.B)->w'.heap[B]?=w.heap[B]?):HOK ρ' M hp' w':=by
 have hM:∀ B i v,M B i=some v->L.virt=true\/B≠L.B:=by
  intro B i v hm;rcases hcase with h1|h1|⟨g0,sz0,pu0,s0,L0,h2,h3,h4,h5⟩
  ·exact .inl h1
  ·exact .inr (by have:=h.mem_lt hm; omega)
  ·obtain ⟨L1,e1,_,_,h6⟩:=h.row b g0 sz0 pu0 s0 h2;rw [h3] at e1; cases e1;rcases h6 with h6|⟨_,c,e,_,_,_,h7,_⟩
   ·rw [h4] at h6; cases h6.1
   ·refine .inr fun e=>?_
    rw [e,<- h5,h7] at hm; cases hm
 have other:∀ b' g' sz' pu' s' L',b'≠b->hp b'=.row g' sz' pu' s'->ρ b' g'=some L'->L'.virt=false->(L.virt=true\/L'.B≠L.B)/\L'.B<w.heap.size:=by
  intro b' g' sz' pu' s' L' hne h1 h2 h3;obtain ⟨L1,e1,_,_,h6⟩:=h.row b' g' sz' pu' s' h1;rw [h2] at e1; cases e1;rcases h6 with h6|⟨_,c,e,h7,_,_,_,_⟩
  ·rw [h3] at h6; cases h6.1
  have hlt:=heap_lt h7;refine ⟨?_,hlt⟩;rcases hcase with h4|h4|⟨g0,sz0,pu0,s0,L0,h8,h9,h10,h11⟩
  ·exact .inl h4
  ·exact .inr (by omega)
  ·refine .inr fun e=>hne ?_
   exact h.inj b' b g' g0 sz' sz0 pu' pu0 s' s0 L' L0 h1 h8 h2 h9 h3 h10 (by rw [e,h11])
 have lother:∀ b' st r L',hp b'=.loop st r->ρ b' 0=some L'->b'≠b->L'.B<w.heap.size/\(L.virt=true\/L'.B≠L.B):=by
  intro b' st r L' h1 h2 hne;obtain ⟨L1,lp,e1,e3⟩:=(h.loop b' st r h1).at
  rw [h2] at e1; cases e1;have hlt:=heap_lt e3;refine ⟨hlt,?_⟩;rcases hcase with h4|h4|⟨g0,sz0,pu0,s0,L0,h8,h9,h10,h11⟩
  ·exact .inl h4
  ·exact .inr (by omega)
  ·refine .inr fun e=>?_
   obtain ⟨L1,f1,_,_,f2⟩:=h.row b g0 sz0 pu0 s0 h8;rw [h9] at f1; cases f1;rcases f2 with f2|⟨_,c,e',f3,_⟩
   ·rw [h10] at f2; cases f2.1
   ·rw [h11,<- e,e3] at f3; cases lp <;> cases f3
 have lne:∀ b' st r,hp' b'=.loop st r->b'≠b/\hp b'=.loop st r:=by
  intro b' st r h1;have hne:b'≠b:=fun e=>by rw [e,hb] at h1; cases h1
  exact ⟨hne,by rw [<- hb' b' hne]; exact h1⟩
 refine ⟨fun B i v hm=>?_,fun b' g' sz' pu' s' h1=>?_,?_,?_,fun b' st r h1=>?_,?_⟩
 ·have:=h.mem B i v hm;rw [cell_congr (hw B (h.mem_lt hm) (hM B i v hm))];exact this
 ·by_cases hbb:b'=b
  ·subst hbb;rw [hb] at h1; cases h1;exact hrow
  ·rw [hb' b' hbb] at h1;obtain ⟨L1,e1,e2,e3,h6⟩:=h.row b' g' sz' pu' s' h1;refine ⟨L1,hρ _ _ _ e1,e2,e3,?_⟩;rcases h6 with h6|⟨hv,c,e,h7,h8,h9,h10,h11⟩
   ·exact .inl h6
   ·have ho:=other b' g' sz' pu' s' L1 hbb h1 e1 hv;refine .inr ⟨hv,c,e,?_,h8,h9,h10,fun i hi=>⟨(h11 i hi).1,fun j hj=>?_⟩⟩
    ·rw [hw L1.B ho.2 ho.1]; exact h7
    ·obtain ⟨v,k1,k2,k3,k4⟩:=(h11 i hi).2 j hj;exact ⟨v,k1,k2,k3.mono hρ (MExt.refl M),k4⟩
 ·intro b1 b2 g1 g2 sz1 sz2 pu1 pu2 s1 s2 L1 L2 h1 h2 e1 e2 v1 v2 hB;by_cases hb1:b1=b <;> by_cases hb2:b2=b
  ·rw [hb1,hb2]
  ·subst hb1;rw [hb] at h1; cases h1;rw [hb' b2 hb2] at h2;rw [hL] at e1; cases e1;have e2':ρ b2 g2=some L2:=by rw [<- hρ' b2 g2 (fun x=>hb2 x.1)]; exact e2
   have ho:=other b2 g2 sz2 pu2 s2 L2 hb2 h2 e2' v2;rcases ho.1 with h3|h3
   ·rw [v1] at h3; cases h3
   ·exact absurd hB.symm h3
  ·subst hb2;rw [hb] at h2; cases h2;rw [hb' b1 hb1] at h1;rw [hL] at e2; cases e2;have e1':ρ b1 g1=some L1:=by rw [<- hρ' b1 g1 (fun x=>hb1 x.1)]; exact e1
   have ho:=other b1 g1 sz1 pu1 s1 L1 hb1 h1 e1' v1;rcases ho.1 with h3|h3
   ·rw [v2] at h3; cases h3
   ·exact absurd hB h3
  ·rw [hb' b1 hb1] at h1;rw [hb' b2 hb2] at h2;have e1':ρ b1 g1=some L1:=by rw [<- hρ' b1 g1 (fun x=>hb1 x.1)]; exact e1
   have e2':ρ b2 g2=some L2:=by rw [<- hρ' b2 g2 (fun x=>hb2 x.1)]; exact e2
   exact h.inj b1 b2 g1 g2 sz1 sz2 pu1 pu2 s1 s2 L1 L2 h1 h2 e1' e2' v1 v2 hB
 ·intro b' g' sz' pu' s' h1 g'' hg;by_cases hbb:b'=b
  ·subst hbb;rw [hb] at h1; cases h1;rw [hρ' _ _ (fun x=>by omega)]
   exact hgen g'' hg
  ·rw [hb' b' hbb] at h1;rw [hρ' _ _ (fun x=>hbb x.1)]
   exact h.gen b' g' sz' pu' s' h1 g'' hg
 ·obtain ⟨hne,h2⟩:=lne b' st r h1;refine (h.loop b' st r h2).mono hρ (MExt.refl M) fun L' hL' lp e=>?_
  obtain ⟨k1,k2⟩:=lother b' st r L' h2 hL' hne;rw [hw L'.B k1 k2]; exact e
 ·intro b1 b2 st1 st2 r1 r2 L1 L2 h1 h2 e1 e2 hB;obtain ⟨n1,k1⟩:=lne b1 st1 r1 h1;obtain ⟨n2,k2⟩:=lne b2 st2 r2 h2;rw [hρ' b1 0 (fun x=>n1 x.1)] at e1
  rw [hρ' b2 0 (fun x=>n2 x.1)] at e2
  exact h.linj b1 b2 st1 st2 r1 r2 L1 L2 k1 k2 e1 e2 hB
def updH (hp:Nat->Blk) (b:Nat) (x:Blk):Nat->Blk:=fun k=>if k=b then x else hp k
def updR (ρ:Rho) (b g:Nat) (L:Loc):Rho:=fun b' g'=>if b'=b/\g'=g then some L else ρ b' g'
theorem updR_same (ρ:Rho) (b g:Nat) (L:Loc):updR ρ b g L b g=some L:=by simp [updR]
theorem updR_ne (ρ:Rho) (b g:Nat) (L:Loc) {b' g':Nat} (h:¬ (b'=b/\g'=g)):updR ρ b g L b' g'=ρ b' g':=by simp [updR,h]
theorem updR_ext {ρ:Rho} {b g:Nat} (L:Loc) (h:ρ b g=none):RExt ρ (updR ρ b g L):=by
 intro b' g' L' h';by_cases hc:b'=b/\g'=g
 ·rw [hc.1,hc.2,h] at h'; cases h'
 ·rw [updR_ne _ _ _ _ hc]; exact h'
end Pw
namespace Pw
open Go
def setEffF (hp:Nat->Blk):List (Nat×Blk)->Nat->Blk
 | []=>hp
 | (b,x)::r=>setEffF (updH hp b x) r
structure RX (ρ ρ':Rho) (hp:Nat->Blk) (nx:Nat):Prop where
 ext:RExt ρ ρ'
 dead:∀ b g,b<nx->hp b=.dead->ρ' b g=ρ b g
theorem RX.refl (ρ:Rho) (hp:Nat->Blk) (nx:Nat):RX ρ ρ hp nx:=⟨RExt.refl ρ,fun _ _ _ _=>rfl⟩
theorem RX.upd {ρ:Rho} {hp:Nat->Blk} {nx b g:Nat} {L:Loc} (h:RExt ρ (updR ρ b g L)) (hb:nx<=b\/hp b≠.dead):RX ρ (updR ρ b g L) hp nx :=
 ⟨h,fun b' g' h1 h2=>updR_ne _ _ _ _ (fun e=>by
  rcases hb with hb|hb
  ·omega
  ·exact hb (e.1▸h2))⟩
def OpOut (P:Program) (o:Oper) (U:Base) (w0:World) (n:Nat) (ρ:Rho) (M:Mem) (tm:Nat->AV) (hp:Nat->Blk) (nx:Nat) (a:Act) (w:World) (v:AV) (eff:List (Nat×Blk)):Prop :=
 ∃ u w' ρ' M',((execOp a.eval o).run P w=.ok (.value u) w'\/((execOp a.eval o).run P w=.ok .skip w'/\u=undef)) /\
  RX ρ ρ' hp nx/\MExt M M'/\Rel ρ' M' u v/\SRel U w0 n ρ' M' tm (setEffF hp eff) (newOf nx eff) a w'
section
variable {P:Program} {o:Oper} {U:Base} {w0:World} {n:Nat} {ρ:Rho} {M:Mem} {tm:Nat->AV} {hp:Nat->Blk} {nx:Nat} {a:Act} {w:World}
theorem OpOut.same (h:SRel U w0 n ρ M tm hp nx a w) {u:Value} {v:AV} (hr:(execOp a.eval o).run P w=.ok (.value u) w) (hv:Rel ρ M u v) :
  OpOut P o U w0 n ρ M tm hp nx a w v [] :=
 ⟨u,w,ρ,M,.inl hr,RX.refl ρ hp nx,MExt.refl M,hv,h⟩
theorem SRel.mine_mem (h:SRel U w0 n ρ M tm hp nx a w):∀ B,Mine ρ hp (marksOf a.defers) B->∀ i v,M B i≠some v:=by
 rintro B (⟨b,g,sz,pu,s,L,e1,e2,e3,rfl⟩|⟨b,st,r,L,e1,e2,e3,rfl⟩|hm) i v hv
 ·obtain ⟨L1,f1,_,_,f4⟩:=h.hok.row b g sz pu s e1;rw [e2] at f1; cases f1;rcases f4 with f4|⟨_,c,e,_,_,_,f5,_⟩
  ·rw [e3] at f4; cases f4.1
  ·rw [f5 i] at hv; cases hv
 ·obtain ⟨L1,lp,f1,f3⟩:=(h.hok.loop b st r e1).at
  rw [e3] at f1; cases f1;have:=(h.hok.mem L.B i v hv).1;cases lp <;> simp [World.cell?,f3,LM.obj] at this
 ·have h1:=h.marks.2 B hm;have:=(h.hok.mem B i v hv).1;simp [World.cell?,h1] at this
theorem SRel.extStep (h:SRel U w0 n ρ M tm hp nx a w) {U':Base} {w0':World} {ρ':Rho} {M':Mem} {hp':Nat->Blk} {mk':List Nat} {w':World}
  (hos:w'.os=w.os) (htape:w'.tape=w.tape) (hout:w'.output=w.output) (hsz:w.heap.size<=w'.heap.size)
  (hloop:∀ b k on sp r,hp' b=.loop (.abs k on sp) r->∃ r',hp b=.loop (.abs k on sp) r')
  (hrow:∀ b g sz pu s L,hp' b=.row g sz pu s->ρ' b g=some L->L.virt=false->w.heap.size<=L.B\/∃ b0 g0 sz0 pu0 s0 L0,hp b0=.row g0 sz0 pu0 s0/\ρ b0 g0=some L0/\L0.virt=false/\L0.B=L.B)
  (hlp:∀ b st r L,hp' b=.loop st r->ρ' b 0=some L->w.heap.size<=L.B\/∃ st0 r0 L0,hp b=.loop st0 r0/\ρ b 0=some L0/\L0.B=L.B)
  (hE:MExt M M') (hM:∀ B i v,M' B i=some v->M B i=some v\/w.heap.size<=B)
  (hmk:∀ r∈mk',r∈marksOf a.defers\/w.heap.size<=r)
  (hU:∀ B,U'.U B->B<w0'.heap.size->U.U B/\B<w0.heap.size)
  (hfam:∀ b d,hp' b=.fam d->hp b=.fam d/\∀ g,ρ' b g=ρ b g)
  (hw:∀ B,B<w.heap.size->w'.heap[B]?=w.heap[B]?\/Mine ρ hp (marksOf a.defers) B):Ext U' w0' ρ' M' hp' mk' w' :=
 h.ext.step h.mine_mem hos htape hout hsz hloop hrow hlp hE (fun B i v hm=>(hM B i v hm).elim .inl fun h1=>.inr (.inl h1)) hmk hU hfam hw
theorem Ext.same' {U:Base} {c d:Bool} {w0:World} {ρ:Rho} {M:Mem} {hp:Nat->Blk} {mk:List Nat} {w:World} (h:Ext U w0 ρ M hp mk w) (hmine:∀ B,Mine ρ hp mk B->∀ i v,M B i≠some v):Ext ⟨U.U,U.M0,c,d⟩ w0 ρ M hp [] w :=
 h.step hmine rfl rfl rfl (Nat.le_refl _) (fun _ _ _ _ r e=>⟨r,e⟩) (fun b g sz pu s L h1 h2 h3=>.inr ⟨b,g,sz,pu,s,L,h1,h2,h3,rfl⟩) (fun _ st r L h1 h2=>.inr ⟨st,r,L,h1,h2,rfl⟩) (MExt.refl M) (fun _ _ _ hm=>.inl hm) (fun _ hr=>by cases hr) (fun _ h1 h2=>⟨h1,h2⟩) (fun _ _ e=>⟨e,fun _=>rfl⟩) (fun _ _=>.inl rfl)
theorem SRel.extGrow (h:SRel U w0 n ρ M tm hp nx a w) {M':Mem} {w':World} (hos:w'.os=w.os) (htape:w'.tape=w.tape) (hout:w'.output=w.output) (hsz:w.heap.size<=w'.heap.size)
  (hE:MExt M M') (hM:∀ B i v,M' B i=some v->M B i=some v\/w.heap.size<=B) (hw:∀ B,B<w.heap.size->w'.heap[B]?=w.heap[B]?):Ext U w0 ρ M' hp (marksOf a.defers) w' :=
 h.extStep hos htape hout hsz (fun _ _ _ _ r e=>⟨r,e⟩) (fun b g sz pu s L h1 h2 h3=>.inr ⟨b,g,sz,pu,s,L,h1,h2,h3,rfl⟩) (fun _ st r L h1 h2=>.inr ⟨st,r,L,h1,h2,rfl⟩) hE hM (fun _ hr=>.inl hr) (fun _ h1 h2=>⟨h1,h2⟩) (fun _ _ e=>⟨e,fun _=>rfl⟩) (fun B hB=>.inl (hw B hB))
theorem SRel.upd (h:SRel U w0 n ρ M tm hp nx a w) {ρ':Rho} {w':World} (b g sz:Nat) (pu:Bool) (s:Sq) (L:Loc)
  (hρ:RExt ρ ρ') (hρ':∀ b' g',¬ (b'=b/\g'=g)->ρ' b' g'=ρ b' g') (hL:ρ' b g=some L)
  (hrow:RowOK ρ' M w' b g sz pu s)
  (hcase:L.virt=true\/w.heap.size<=L.B\/∃ g0 sz0 pu0 s0 L0,hp b=.row g0 sz0 pu0 s0/\ρ b g0=some L0/\L0.virt=false/\L0.B=L.B)
  (hgen:∀ g',g<g'->ρ b g'=none)
  (hos:w'.os=w.os) (htape:w'.tape=w.tape) (hout:w'.output=w.output) (hsz:w.heap.size<=w'.heap.size)
  (hw:∀ B,B<w.heap.size->(L.virt=true\/B≠L.B)->w'.heap[B]?=w.heap[B]?) :
  SRel U w0 n ρ' M tm (updH hp b (.row g sz pu s)) (newOf nx [(b,.row g sz pu s)]) a w' where
 size:=h.size
 tm:=fun t=>(h.tm t).mono hρ (MExt.refl M)
 hok:=h.hok.upd b g sz pu s L hρ hρ' hL (by simp [updH]) (fun b' hb'=>by simp [updH,hb']) hrow hcase hgen hw
 dead:=fun b' hb'=>by
  simp only [newOf] at hb';have h1:b'≠b:=by split at hb' <;> omega
  have h2:nx<=b':=by split at hb' <;> omega
  simp only [updH,if_neg h1];exact h.dead b' h2
 free:=fun b' g' hb'=>by
  simp only [newOf] at hb';have h1:b'≠b:=by split at hb' <;> omega
  have h2:nx<=b':=by split at hb' <;> omega
  rw [hρ' b' g' (fun x=>h1 x.1)]
  exact h.free b' g' h2
 keep:=by
  refine ⟨hos.trans h.keep.os,htape.trans h.keep.tape,hout.trans h.keep.output,Nat.le_trans h.keep.size hsz,fun B hU hB=>?_⟩
  have hlt:B<w.heap.size:=Nat.lt_of_lt_of_le hB h.keep.size;rw [hw B hlt ?_]
  ·exact h.keep.block B hU hB
  ·rcases hcase with h1|h1|⟨g0,sz0,pu0,s0,L0,h2,h3,h4,h5⟩
   ·exact .inl h1
   ·exact .inr (by omega)
   ·refine .inr fun e=>?_
    have:=h.own b g0 sz0 pu0 s0 L0 h2 h3 h4 (by rw [h5,<- e]; exact hU)
    omega
 memN:=h.memN
 memE:=h.memE
 own:=fun b' g' sz' pu' s' L' h1 h2 h3 h4=>by
  by_cases hb:b'=b
  ·subst hb;simp only [updH,if_true] at h1;cases h1;rw [hL] at h2; cases h2;rcases hcase with h5|h5|⟨g0,sz0,pu0,s0,L0,h6,h7,h8,h9⟩
   ·rw [h3] at h5; cases h5
   ·exact Nat.le_trans h.keep.size h5
   ·rw [<- h9]; exact h.own b' g0 sz0 pu0 s0 L0 h6 h7 h8 (by rw [h9]; exact h4)
  ·simp only [updH,if_neg hb] at h1;rw [hρ' b' g' (fun x=>hb x.1)] at h2
   exact h.own b' g' sz' pu' s' L' h1 h2 h3 h4
 nle:=h.nle
 ownL:=fun b' st r L' h1 h2 h3=>by
  have hne:b'≠b:=fun e=>by rw [e] at h1; simp [updH] at h1
  simp only [updH,if_neg hne] at h1;rw [hρ' b' 0 (fun x=>hne x.1)] at h2
  exact h.ownL b' st r L' h1 h2 h3
 defers:=h.defers.mono hρ (MExt.refl M)
 marks:=⟨h.marks.1,fun r hr=>by
  have h1:=h.marks.2 r hr;rw [hw r (heap_lt h1) ?_]
  ·exact h1
  ·rcases hcase with h4|h4|⟨g0,sz0,pu0,s0,L0,h8,h9,h10,h11⟩
   ·exact .inl h4
   ·exact .inr (by have:=heap_lt h1; omega)
   ·refine .inr fun e=>?_
    obtain ⟨L1,f1,_,_,f2⟩:=h.hok.row b g0 sz0 pu0 s0 h8;rw [h9] at f1; cases f1;rcases f2 with f2|⟨_,c,e',f3,_⟩
    ·rw [h10] at f2; cases f2.1
    ·rw [h11,<- e,h1] at f3; cases f3⟩
 mown:=h.mown
 nod:=h.nod
 ext:=by
  refine h.extStep hos htape hout hsz (fun b' k on sp r e=>?_) (fun b' g' sz' pu' s' L' h1 h2 h3=>?_) (fun b' st r L' h1 h2=>?_) (MExt.refl M) (fun _ _ _ hm=>.inl hm) (fun r hr=>.inl hr) (fun _ h1 h2=>⟨h1,h2⟩) (fun b' d e=>?_) (fun B hB=>?_)
  case refine_4 =>
   have hne:b'≠b:=fun e1=>by rw [e1] at e; simp [updH] at e
   simp only [updH,if_neg hne] at e;exact ⟨e,fun g'=>hρ' b' g' (fun x=>hne x.1)⟩
  ·simp only [updH] at e;split at e
   ·cases e
   ·exact ⟨r,e⟩
  ·by_cases hbb:b'=b
   ·subst hbb;simp only [updH,if_true] at h1;cases h1;rw [hL] at h2; cases h2;rcases hcase with h5|h5|h5
    ·rw [h3] at h5; cases h5
    ·exact .inl h5
    ·obtain ⟨g0,sz0,pu0,s0,L0,k1,k2,k3,k4⟩:=h5;exact .inr ⟨b',g0,sz0,pu0,s0,L0,k1,k2,k3,k4⟩
   ·simp only [updH,if_neg hbb] at h1;rw [hρ' b' g' (fun x=>hbb x.1)] at h2
    exact .inr ⟨b',g',sz',pu',s',L',h1,h2,h3,rfl⟩
  ·have hne:b'≠b:=fun e=>by rw [e] at h1; simp [updH] at h1
   simp only [updH,if_neg hne] at h1;rw [hρ' b' 0 (fun x=>hne x.1)] at h2
   exact .inr ⟨st,r,L',h1,h2,rfl⟩
  ·by_cases hv:L.virt=true\/B≠L.B
   ·exact .inl (hw B hB hv)
   ·refine .inr ?_;have h1:B=L.B:=Classical.byContradiction fun hn=>hv (.inr hn)
    rcases hcase with h5|h5|⟨g0,sz0,pu0,s0,L0,k1,k2,k3,k4⟩
    ·exact absurd (.inl h5) hv
    ·omega
    ·exact .inl ⟨b,g0,sz0,pu0,s0,L0,k1,k2,k3,by rw [k4,h1]⟩
theorem SRel.rowLoc (h:SRel U w0 n ρ M tm hp nx a w) {b g sz pu s} (hb:hp b=.row g sz pu s):RowOK ρ M w b g sz pu s:=h.hok.row b g sz pu s hb
theorem info_of_underlying {t:TypeId} {d:TypeDesc} (h:P.underlying t=some d):∃ i,P.info? t=some i:=by
 unfold Program.underlying at h;cases hi:P.info? t with
 | none=>rw [hi] at h; cases h
 | some i=>exact ⟨i,rfl⟩
theorem info_of_cells {t:TypeId} (h:1<=P.cellsOf t):∃ i,P.info? t=some i/\i.size=P.cellsOf t:=by
 unfold Program.cellsOf at *;cases hi:P.info? t with
 | none=>rw [hi] at h; simp at h
 | some i=>exact ⟨i,rfl,by simp⟩
theorem run_sizeOf' {t:TypeId} {i:TypeInfo} (h:P.info? t=some i) (w:World):(Go.sizeOf t).run P w=.ok (P.cellsOf t) w:=by
 simp [Go.sizeOf,typeInfo,h,Program.cellsOf]
theorem SRel.alloc (h:SRel U w0 n ρ M tm hp nx a w) (sz:Nat) (pu:Bool) (s:Sq) (c:Array Value) (e:TypeId) (w1:World) (hd:w1.heap=w.heap) (hos:w1.os=w.os) (htape:w1.tape=w.tape) (hout:w1.output=w.output)
  (h1:1<=sz) (hsz:s.len * sz<=c.size)
  (hc:∀ i,i<s.len->(s.get i).cells.length=sz/\∀ j,j<sz->∃ v,c[i * sz+j]?=some v/\v.oneCell'=true /\
     Rel ρ M v ((s.get i).cells.getD j .undef)/\(pu=true->RelP M v ((s.get i).cells.getD j .undef))) :
  SRel U w0 n (updR ρ nx 0 ⟨w.heap.size,0,c.size,sz,s.len,false,none⟩) M tm (updH hp nx (.row 0 sz pu s)) (newOf nx [(nx,.row 0 sz pu s)]) a (w1.alloc (.cells c e)):=by
 have hfree:∀ g,ρ nx g=none:=fun g=>h.free nx g (Nat.le_refl _)
 have hext:=updR_ext ⟨w.heap.size,0,c.size,sz,s.len,false,none⟩ (hfree 0);refine h.upd nx 0 sz pu s ⟨w.heap.size,0,c.size,sz,s.len,false,none⟩ hext (fun b' g' hne=>updR_ne _ _ _ _ hne) (updR_same _ _ _ _)
  ⟨_,updR_same _ _ _ _,rfl,⟨h1,rfl⟩,.inr ⟨rfl,c,e,?_,rfl,by simpa using hsz,?_,?_⟩⟩ (.inr (.inl (Nat.le_refl _))) (fun g' _=>hfree g') hos htape hout (by simp [hd]) ?_
 ·have:=heap_alloc_new w1 (.cells c e); rw [hd] at this; exact this
 ·intro i;cases hm:M w.heap.size i with
  | none=>rfl
  | some v=>have:=h.hok.mem_lt hm; omega
 ·intro i hi;refine ⟨(hc i hi).1,fun j hj=>?_⟩
  obtain ⟨v,k1,k2,k3,k4⟩:=(hc i hi).2 j hj;exact ⟨v,by simpa using k1,k2,k3.mono hext (MExt.refl M),k4⟩
 ·intro B hB _;rw [heap_alloc_old w1 _ B (by rw [hd]; exact hB),hd]
end
end Pw
