/- ENGINE, part A: abstract values, abstract memory, what an operation does to them. -/
import Derived.Calls
namespace Pw
open Go

inductive AV where
  | undef
  | int (k : IntKind) (n : Int)
  | bool (b : Bool)
  | str (s : List UInt8)
  | nils
  | nilp
  | nilf
  | nilm
  | ptr (b g i j : Nat)
  | rptr (x : AV) (j : Nat)
  | sl (b g i len : Nat) (cap : Option Nat)
  | rol (l : List AV) (ex : Bool)
  | rof (n : Nat) (f : Nat → AV) (ex : Bool)
  | fn (f : Fn) (first cap : List AV)
  | map (b : Nat)
  | agg (l : List AV)
  | tup (l : List AV)
  | opt (m : Bool) (j : Nat) (want : Bool) (x : AV)
  deriving Inhabited

/-- A row's content: a list, or a function with a length. -/
inductive Sq where
  | lst (l : List AV)
  | fn (n : Nat) (f : Nat → AV)
  deriving Inhabited

def Sq.len : Sq → Nat
  | .lst l => l.length
  | .fn n _ => n
def Sq.get : Sq → Nat → AV
  | .lst l, i => l.getD i .undef
  | .fn _ f, i => f i
def Sq.set : Sq → Nat → AV → Sq
  | .lst l, i, x => .lst (l.set i x)
  | .fn n f, i, x => .fn n (fun k => if k = i then x else f k)
/-- len elements from i on -/
def Sq.sub : Sq → Nat → Nat → Sq
  | .lst l, i, len => .lst ((l.drop i).take len)
  | .fn _ f, i, len => .fn len (fun k => f (i + k))
def Sq.app : Sq → Sq → Sq
  | .lst [], t => t
  | .lst l, .lst m => .lst (l ++ m)
  | s, t => .fn (s.len + t.len) (fun k => if k < s.len then s.get k else t.get (k - s.len))
def Sq.ro : Sq → Bool → AV
  | .lst l, ex => .rol l ex
  | .fn n f, ex => .rof n f ex

inductive Blk where
  | dead
  | row (g sz : Nat) (pu : Bool) (s : Sq)
  deriving Inhabited

def AV.cells : AV → List AV
  | .agg l => l
  | x => [x]

def AV.isCell : AV → Bool
  | .undef | .agg _ | .tup _ | .opt .. => false
  | _ => true

/-- Pure: no handle of the call's own memory in it. -/
def AV.isPureCell : AV → Bool
  | .int .. | .bool _ | .str _ | .nils | .nilp | .nilf | .nilm | .rptr .. | .rol .. | .rof .. => true
  | .fn _ [] [] => true
  | _ => false
def AV.isPure : AV → Bool
  | .agg l => l.all AV.isPureCell
  | .tup l => l.all fun | .agg m => m.all AV.isPureCell | x => x.isPureCell
  | x => x.isPureCell

def AV.okElem (sz : Nat) : AV → Bool
  | .agg l => l.length == sz && l.all AV.isCell
  | x => sz == 1 && x.isCell

def AV.ids : AV → List Nat
  | .ptr b .. | .sl b .. | .map b => [b]
  | .agg l | .tup l => idsL l
  | .fn _ a b => idsL a ++ idsL b
  | .opt _ _ _ x => x.ids
  | _ => []
where idsL : List AV → List Nat
  | [] => []
  | x :: r => x.ids ++ idsL r

/-! ### A tree of slots -/
inductive T (α : Type) where
  | nil
  | node (v : α) (l r : T α)
def T.get {α : Type} (d : α) : T α → Nat → α
  | .nil, _ => d
  | .node v l r, i => if i = 0 then v else if i % 2 = 1 then l.get d (i / 2) else r.get d (i / 2 - 1)
def T.path {α : Type} (d : α) : Nat → Nat → α → T α
  | 0, _, _ => .nil
  | f + 1, i, x => if i = 0 then .node x .nil .nil else if i % 2 = 1 then .node d (T.path d f (i / 2) x) .nil else .node d .nil (T.path d f (i / 2 - 1) x)
def T.set {α : Type} (d : α) : T α → Nat → α → T α
  | .nil, i, x => T.path d (i + 1) i x
  | .node v l r, i, x => if i = 0 then .node x l r else if i % 2 = 1 then .node v (l.set d (i / 2) x) r else .node v l (r.set d (i / 2 - 1) x)

/-! ### Values of the model, as abstract ones -/
def avCell : Value → AV
  | .int k n => .int k n
  | .bool b => .bool b
  | .string ⟨⟨l⟩⟩ => .str l
  | .pointer none => .nilp
  | .nilFunc => .nilf
  | .map none => .nilm
  | .slice none l c => if l = 0 ∧ c = 0 then .nils else .undef
  | .func f a b => if a.size = 0 ∧ b.size = 0 then .fn f [] [] else .undef
  | _ => .undef
def avOf : Value → AV
  | .agg cs => .agg (cs.toList.map avCell)
  | v => avCell v

def isAggT (P : Program) (t : TypeId) : Bool :=
  match P.underlying t with
  | some (.struct _) | some (.array _ _) => true
  | _ => false
def zeroAV (P : Program) (t : TypeId) : Option AV := ((P.info? t).bind (·.zero)).map avOf

/-- What a step asks, gives, and does to memory. -/
structure SR where
  need : Bool
  v : AV
  eff : List (Nat × Blk)
  ob : Option Prop := none

def ok1 (v : AV) : Option SR := some ⟨true, v, [], none⟩
def okN (b : Bool) (v : AV) : Option SR := some ⟨b, v, [], none⟩

def splice (cells : List AV) (j : Nat) (xs : List AV) : List AV := cells.take j ++ xs ++ cells.drop (j + xs.length)

/-- The part of type t at cell j of an element. -/
def partAV (P : Program) (t : TypeId) (x : AV) (j : Nat) : Option AV :=
  if (P.underlying t).isNone then none else
  if isAggT P t then
    let n := P.cellsOf t
    if j + n ≤ x.cells.length then some (.agg ((x.cells.drop j).take n)) else none
  else (x.cells)[j]?

def oneAV : AV → Option AV
  | .agg [z] => some z
  | .agg _ => none
  | z => some z
def putAV (x : AV) (j : Nat) (y : AV) : Option AV :=
  match x with
  | .agg l => if j + y.cells.length ≤ l.length then some (.agg (splice l j y.cells)) else none
  | _ => if j = 0 then oneAV y else none

def partOK : AV → Bool
  | .agg _ => true
  | x => x.isCell
def fillAV (place : Nat → Option (Nat × Nat)) (cells : List AV) : List (Nat × AV) → Option (List AV)
  | [] => some cells
  | (i, v) :: rest =>
    match place i with
    | none => none
    | some (off, size) =>
      if partOK v ∧ v.cells.length = size ∧ off + v.cells.length ≤ cells.length then fillAV place (splice cells off v.cells) rest else none

def seqOf : AV → Option (Sq × Bool)
  | .rol l ex => some (.lst l, ex)
  | .rof n f ex => some (.fn n f, ex)
  | .nils => some (.lst [], true)
  | _ => none

/-- The elements that a slice value holds; the bool says that the handle is of today. -/
def elemsOf (hp : Nat → Blk) : AV → Option (Sq × Bool)
  | .rol l _ => some (.lst l, true)
  | .rof n f _ => some (.fn n f, true)
  | .nils => some (.lst [], true)
  | .sl b g i len _ =>
    match hp b with
    | .row g' _ _ s => some (s.sub i len, decide (g = g'))
    | .dead => none
  | _ => none

def lenAV : AV → Option Nat
  | .rol l _ => some l.length
  | .rof n _ _ => some n
  | .nils => some 0
  | .sl _ _ _ len _ => some len
  | _ => none

def bitsAV (op : BinOp) (k : IntKind) (x y : Int) : Option Int :=
  let a := BitVec.ofInt k.bits x
  let b := BitVec.ofInt k.bits y
  match op with
  | .and => some (k.wrap ((a &&& b).toNat))
  | .or => some (k.wrap ((a ||| b).toNat))
  | .xor => some (k.wrap ((a ^^^ b).toNat))
  | .andNot => some (k.wrap ((a &&& ~~~b).toNat))
  | _ => none

def shlI (k : IntKind) (a y : Int) : Int := k.wrap (a * 2 ^ (min y.toNat k.bits))
def shrI (k : IntKind) (a y : Int) : Int := a.fdiv (2 ^ (min y.toNat k.bits))
def andI (k : IntKind) (x y : Int) : Int := k.wrap ((BitVec.ofInt k.bits x &&& BitVec.ofInt k.bits y).toNat)
def orI (k : IntKind) (x y : Int) : Int := k.wrap ((BitVec.ofInt k.bits x ||| BitVec.ofInt k.bits y).toNat)
def xorI (k : IntKind) (x y : Int) : Int := k.wrap ((BitVec.ofInt k.bits x ^^^ BitVec.ofInt k.bits y).toNat)
def andNotI (k : IntKind) (x y : Int) : Int := k.wrap ((BitVec.ofInt k.bits x &&& ~~~(BitVec.ofInt k.bits y)).toNat)

def eqCell : AV → AV → Option Bool
  | .int k a, .int k' b => if k = k' then some (a == b) else none
  | .bool a, .bool b => some (a == b)
  | .str a, .str b => some (a == b)
  | _, _ => none
def eqCells : List AV → List AV → Option Bool
  | [], [] => some true
  | x :: l, y :: m => match eqCell x y, eqCells l m with | some a, some b => some (a && b) | _, _ => none
  | _, _ => none

/-- A type whose values are compared cell by cell: scalars, and structs and arrays of such, no blank field. -/
def tiles (P : Program) (c : Nat) : List Field → Nat → Bool
  | [], k => k == c
  | f :: fs, k => f.offset == k && tiles P c fs (k + P.cellsOf f.type)
def plainEq (P : Program) : Nat → TypeId → Bool
  | 0, _ => false
  | d + 1, t =>
    match P.underlying t with
    | some .bool | some (.int _) | some .string => P.cellsOf t == 1
    | some (.struct fs) => fs.toList.all (fun f => f.name != "_" && plainEq P d f.type) && !P.stoodInHeld t && tiles P (P.cellsOf t) fs.toList 0
    | some (.array n e) => plainEq P d e && P.cellsOf t == n * P.cellsOf e
    | _ => false

/-- The cells are of the kinds that the type says. -/
def kindsOK (P : Program) : Nat → TypeId → List AV → Bool
  | 0, _, _ => false
  | d + 1, t, l =>
    match P.underlying t with
    | some .bool => (match l with | [.bool _] => true | _ => false)
    | some (.int k) => (match l with | [.int k' _] => k == k' | _ => false)
    | some .string => (match l with | [.str _] => true | _ => false)
    | some (.struct fs) => fs.toList.all fun f => kindsOK P d f.type ((l.drop f.offset).take (P.cellsOf f.type))
    | some (.array n e) => (List.range' 0 n).all fun i => kindsOK P d e ((l.drop (i * P.cellsOf e)).take (P.cellsOf e))
    | _ => false

def cmpInt (op : BinOp) (a b : Int) : Option Bool :=
  match op with
  | .eql => some (a == b)
  | .neq => some (a != b)
  | .lss => some (decide (a < b))
  | .leq => some (decide (a ≤ b))
  | .gtr => some (decide (a > b))
  | .geq => some (decide (a ≥ b))
  | _ => none

def binAV (P : Program) (op : BinOp) (t : TypeId) (x y : AV) : Option SR :=
  match x, y with
  | .int k a, .int k' b =>
    match op with
    | .shl => okN (decide (0 ≤ b)) (.int k (shlI k a b))
    | .shr => okN (decide (0 ≤ b)) (.int k (shrI k a b))
    | _ =>
      if k = k' then
        match op with
        | .add => ok1 (.int k (k.wrap (a + b)))
        | .sub => ok1 (.int k (k.wrap (a - b)))
        | .mul => ok1 (.int k (k.wrap (a * b)))
        | .quo => okN (b != 0) (.int k (k.wrap (a.tdiv b)))
        | .rem => okN (b != 0) (.int k (a.tmod b))
        | .and => ok1 (.int k (andI k a b))
        | .or => ok1 (.int k (orI k a b))
        | .xor => ok1 (.int k (xorI k a b))
        | .andNot => ok1 (.int k (andNotI k a b))
        | op => (cmpInt op a b).bind fun r => ok1 (.bool r)
      else none
  | .str a, .str b =>
    match op with
    | .add => okN (decide ((a.length + b.length : Int) ≤ 9223372036854775807)) (.str (a ++ b))
    | .eql => ok1 (.bool (a == b))
    | .neq => ok1 (.bool (!(a == b)))
    | .lss => ok1 (.bool (Op.bytesLess a b))
    | .leq => ok1 (.bool (Op.bytesLess a b || a == b))
    | .gtr => ok1 (.bool (!(Op.bytesLess a b || a == b)))
    | .geq => ok1 (.bool (!Op.bytesLess a b))
    | _ => none
  | .bool a, .bool b =>
    match P.underlying t, op with
    | some .bool, .eql => ok1 (.bool (a == b))
    | some .bool, .neq => ok1 (.bool (!(a == b)))
    | _, _ => none
  | .agg l, .agg m =>
    if plainEq P 20 t && isAggT P t && l.length == P.cellsOf t && kindsOK P 20 t l then
      match op with
      | .eql => (eqCells l m).bind fun r => ok1 (.bool r)
      | .neq => (eqCells l m).bind fun r => ok1 (.bool (!r))
      | _ => none
    else none
  | _, _ => none

/-- The elements are of size sz (asked of the first alone where they are given by a function). -/
def Sq.sized (sz : Nat) : Sq → Bool
  | .lst l => l.all fun x => x.cells.length == sz
  | .fn _ f => (f 0).cells.length == sz

/-- Bounds of a slice expression: low, high, max; a bound that is written has to lie between. -/
def bound (d : Nat) : Option AV → Option (Int × Bool)
  | none => some (d, true)
  | some (.int _ n) => some (n, false)
  | _ => none

def sliceAV (P : Program) (hp : Nat → Blk) (t : TypeId) (x : AV) (lo hi mx : Option AV) : Option SR :=
  match P.underlying t, x with
  | some .string, .str s =>
    match mx with
    | some _ => none
    | none =>
      (bound 0 lo).bind fun (l, _) => (bound s.length hi).bind fun (h, _) =>
        okN (decide (0 ≤ l ∧ l ≤ h ∧ h ≤ s.length)) (.str ((s.drop l.toNat).take (h.toNat - l.toNat)))
  | some (.slice e), .rol s ex =>
    if (P.underlying e).isSome && (Sq.lst s).sized (P.cellsOf e) then
    (bound 0 lo).bind fun (l, _) => (bound s.length hi).bind fun (h, hn) =>
    match mx with
    | none => okN (decide (0 ≤ l ∧ l ≤ h ∧ h ≤ s.length)) (.rol ((s.drop l.toNat).take (h.toNat - l.toNat)) (ex && hn))
    | some m => (bound 0 (some m)).bind fun (mm, _) => if hn then none else okN (decide (0 ≤ l ∧ l ≤ h ∧ h = mm ∧ h ≤ s.length)) (.rol ((s.drop l.toNat).take (h.toNat - l.toNat)) true)
    else none
  | some (.slice e), .rof n f ex =>
    if (P.underlying e).isSome && (Sq.fn n f).sized (P.cellsOf e) then
    (bound 0 lo).bind fun (l, _) => (bound n hi).bind fun (h, hn) =>
    match mx with
    | none => okN (decide (0 ≤ l ∧ l ≤ h ∧ h ≤ n)) (.rof (h.toNat - l.toNat) (fun k => f (l.toNat + k)) (ex && hn))
    | some m => (bound 0 (some m)).bind fun (mm, _) => if hn then none else okN (decide (0 ≤ l ∧ l ≤ h ∧ h = mm ∧ h ≤ n)) (.rof (h.toNat - l.toNat) (fun k => f (l.toNat + k)) true)
    else none
  | some (.slice e), .nils =>
    if (P.underlying e).isSome then
    (bound 0 lo).bind fun (l, _) => (bound 0 hi).bind fun (h, hn) =>
    match mx with
    | none => okN (decide (l = 0 ∧ h = 0)) .nils
    | some m => (bound 0 (some m)).bind fun (mm, _) => if hn then none else okN (decide (l = 0 ∧ h = 0 ∧ mm = 0)) .nils
    else none
  | some (.slice e), .sl b g i len c =>
    match hp b with
    | .row g' sz _ _ =>
      if sz = P.cellsOf e then
        (bound 0 lo).bind fun (l, _) => (bound len hi).bind fun (h, hn) =>
        match mx with
        | none => okN (decide (g = g') && decide (0 ≤ l ∧ l ≤ h ∧ h ≤ len)) (.sl b g (i + l.toNat) (h.toNat - l.toNat) (c.map (· - l.toNat)))
        | some m => (bound 0 (some m)).bind fun (mm, _) => if hn then none else okN (decide (g = g') && decide (0 ≤ l ∧ l ≤ h ∧ h = mm ∧ h ≤ len)) (.sl b g (i + l.toNat) (h.toNat - l.toNat) (some (mm.toNat - l.toNat)))
      else none
    | _ => none
  | _, _ => none

def indexAddrAV (P : Program) (hp : Nat → Blk) (t : TypeId) (x ix : AV) : Option SR :=
  match P.underlying t, x, ix with
  | some (.slice e), .rol l _, .int _ i => if (P.underlying e).isSome && (Sq.lst l).sized (P.cellsOf e) then okN (decide (0 ≤ i ∧ i < l.length)) (.rptr (l.getD i.toNat .undef) 0) else none
  | some (.slice e), .rof n f _, .int _ i => if (P.underlying e).isSome && (Sq.fn n f).sized (P.cellsOf e) then okN (decide (0 ≤ i ∧ i < n)) (.rptr (f i.toNat) 0) else none
  | some (.slice e), .sl b g i0 len _, .int _ i =>
    match hp b with
    | .row g' sz _ _ => if sz = P.cellsOf e then okN (decide (g = g') && decide (0 ≤ i ∧ i < len)) (.ptr b g (i0 + i.toNat) 0) else none
    | _ => none
  | some (.array n e), .ptr b g i0 j, .int _ i => if 1 ≤ P.cellsOf e then okN (decide (0 ≤ i ∧ i < n)) (.ptr b g i0 (j + i.toNat * P.cellsOf e)) else none
  | some (.array n e), .rptr x j, .int _ i => if 1 ≤ P.cellsOf e then okN (decide (0 ≤ i ∧ i < n)) (.rptr x (j + i.toNat * P.cellsOf e)) else none
  | _, _, _ => none

def indexAV (P : Program) (t : TypeId) (x ix : AV) : Option SR :=
  match P.underlying t, x, ix with
  | some .string, .str s, .int _ i => okN (decide (0 ≤ i ∧ i < s.length)) (.int .u8 ((s.getD i.toNat 0).toNat))
  | some (.array n e), .agg l, .int _ i => (partAV P e (.agg l) (i.toNat * P.cellsOf e)).bind fun v => okN (decide (0 ≤ i ∧ i < n)) v
  | _, _, _ => none

/-- The byte that an element stands for. -/
def byteAV : AV → UInt8
  | .int _ n => UInt8.ofNat n.toNat
  | _ => 0
def isU8 : AV → Bool
  | .int .u8 _ => true
  | _ => false
def strOf : Sq → Option SR
  | .lst l => if l.all isU8 then ok1 (.str (l.map byteAV)) else none
  | .fn n f => some { need := true, v := .str ((List.range n).map fun i => byteAV (f i)), eff := [], ob := some (∀ i, i < n → isU8 (f i) = true) }

def convertAV (P : Program) (hp : Nat → Blk) (s d : TypeId) (x : AV) : Option SR :=
  match P.underlying s, P.underlying d, x with
  | some _, some (.int k), .int _ n => ok1 (.int k (k.wrap n))
  | some _, some .string, .str l => ok1 (.str l)
  | some _, some (.slice e), .str l =>
    match P.underlying e with
    | some (.int .u8) => okN (decide (l.length ≤ 9223372036854775807)) (.rof l.length (fun i => .int .u8 ((l.getD i 0).toNat)) false)
    | _ => none
  | some (.slice e), some .string, x =>
    match P.underlying e with
    | some (.int .u8) => (elemsOf hp x).bind fun q => (strOf q.1).map fun r => { r with need := q.2 }
    | _ => none
  | _, _, _ => none

def puOf (hp : Nat → Blk) : AV → Bool
  | .sl b _ _ _ _ => match hp b with | .row _ _ pu _ => pu | _ => false
  | _ => true

def room (n by_ : Nat) : Bool := decide (n * by_ ≤ 140737488355328 ∧ n ≤ 9223372036854775807)

def rowSz (hp : Nat → Blk) (b : Nat) : Nat := match hp b with | .row _ sz _ _ => sz | .dead => 0
/-- .. of a row, its size says it. -/
def sizedAV (hp : Nat → Blk) (x : AV) (q : Sq) (sz : Nat) : Bool := match x with | .sl b _ _ _ _ => rowSz hp b == sz | _ => q.sized sz
def okZero (P : Program) (e : TypeId) (sz : Nat) : Bool := match zeroAV P e with | some z => z.okElem sz | none => false

def appendAV (P : Program) (ts : TypeId) (hp : Nat → Blk) (fr : Nat) (s x : AV) : Option SR :=
  match P.underlying ts with
  | some (.slice e) =>
    (match x with
      | .str l => (match P.underlying e with | some (.int .u8) => some (Sq.fn l.length fun i => .int .u8 ((l.getD i 0).toNat), true) | _ => none)
      | x => elemsOf hp x).bind fun (xs, okx) =>
      let sz := P.cellsOf e
      let by_ := P.bytesOf e
      let pu := puOf hp x && puOf hp s
      if sizedAV hp x xs sz && decide (1 ≤ sz) && okZero P e sz then
        (elemsOf hp s).bind fun (q, oks) =>
        if sizedAV hp s q sz then
          let m := xs.len
          let rm := room (q.len + m) by_
          match s with
          | .nils => some ⟨okx && rm, .sl fr 0 0 m none, [(fr, .row 0 sz pu xs)], none⟩
          | .rol _ true | .rof _ _ true => some ⟨okx && rm && (m != 0 || q.len == 0), .sl fr 0 0 (q.len + m) none, [(fr, .row 0 sz pu (q.app xs))], none⟩
          | .sl b g _ _ none => if rowSz hp b = sz then some ⟨okx && oks && rm, .sl b (g + 1) 0 (q.len + m) none, [(b, .row (g + 1) sz pu (q.app xs))], none⟩ else none
          | .sl _ _ _ _ (some c) => some ⟨okx && oks && rm && (c == q.len) && (m != 0 || q.len == 0), .sl fr 0 0 (q.len + m) none, [(fr, .row 0 sz pu (q.app xs))], none⟩
          | _ => none
        else none
      else none
  | _ => none

def minI (a b : Int) : Int := if b < a then b else a
def maxI (a b : Int) : Int := if b > a then b else a

/-- what append's second argument may be: a known type, and no integer's (the model reads a string's bytes there) -/
def srcOK (P : Program) (t : TypeId) : Bool :=
  match P.underlying t with
  | none => false
  | some (.int _) => false
  | _ => true

theorem srcOK_spec {P : Program} {t : TypeId} (h : srcOK P t = true) : ∃ d, P.underlying t = some d ∧ ∀ k, d ≠ .int k := by
  unfold srcOK at h
  split at h
  · cases h
  · cases h
  · rename_i x h1 h2
    cases hu : P.underlying t with
    | none => exact absurd hu h1
    | some d => exact ⟨d, rfl, fun k hk => h2 k (by rw [hu, hk])⟩

def builtinAV (P : Program) (b : Builtin) (ts : List TypeId) (hp : Nat → Blk) (fr : Nat) (args : List AV) : Option SR :=
  match b, ts, args with
  | .len, t :: _, [x] =>
    match P.underlying t, x with
    | some .string, .str s => ok1 (.int .i64 s.length)
    | some (.array n _), _ => ok1 (.int .i64 n)
    | some (.pointer a), _ => (match P.underlying a with | some (.array n _) => ok1 (.int .i64 n) | _ => none)
    | some (.slice _), x => (lenAV x).bind fun n => ok1 (.int .i64 n)
    | _, _ => none
  | .append, [t, t2], [s, x] => if srcOK P t2 then appendAV P t hp fr s x else none
  | .min, _, [.int k a, .int k' b] => if k = k' then ok1 (.int k (minI a b)) else none
  | .max, _, [.int k a, .int k' b] => if k = k' then ok1 (.int k (maxI a b)) else none
  | _, _, _ => none

def setAll (l : List AV) : List (Nat × AV) → List AV
  | [] => l
  | (i, x) :: r => setAll (l.set i x) r

def stepOp (P : Program) (op : Op) (ev : Operand → AV) (hp : Nat → Blk) (fr : Nat) : Option SR :=
  match op with
  | .move x | .assign x => ok1 (ev x)
  | .alloc t => (zeroAV P t).bind fun z => if z.okElem (P.cellsOf t) && decide (1 ≤ P.cellsOf t) then some ⟨true, .ptr fr 0 0 0, [(fr, .row 0 (P.cellsOf t) z.isPure (.lst [z]))], none⟩ else none
  | .box t x => if (ev x).okElem (P.cellsOf t) && decide (1 ≤ P.cellsOf t) then some ⟨true, .ptr fr 0 0 0, [(fr, .row 0 (P.cellsOf t) (ev x).isPure (.lst [ev x]))], none⟩ else none
  | .build t parts =>
    (zeroAV P t).bind fun z =>
    match P.underlying t, z with
    | some (.struct fs), .agg zc =>
      if fs.toList.all (fun f => (P.info? f.type).isSome) then
        (fillAV (fun i => (fs.toList[i]?).map fun f => (f.offset, P.cellsOf f.type)) zc (parts.toList.map fun q => (q.1, ev q.2))).bind fun cs => ok1 (.agg cs)
      else none
    | some (.array _ e), .agg zc =>
      if (P.info? e).isSome then
        (fillAV (fun i => some (i * P.cellsOf e, P.cellsOf e)) zc (parts.toList.map fun q => (q.1, ev q.2))).bind fun cs => ok1 (.agg cs)
      else none
    | _, _ => none
  | .buildSlice t len parts =>
    match P.underlying t with
    | some (.slice e) =>
      (zeroAV P e).bind fun z =>
      let l := setAll (List.replicate len z) (parts.toList.map fun q => (q.1, ev q.2))
      if z.okElem (P.cellsOf e) && decide (len * P.cellsOf e ≤ 16777216) && decide (1 ≤ P.cellsOf e) && parts.toList.all (fun p => decide (p.1 < len) && (ev p.2).okElem (P.cellsOf e)) then
        some ⟨true, .sl fr 0 0 len (some len), [(fr, .row 0 (P.cellsOf e) (l.all AV.isPure) (.lst l))], none⟩
      else none
    | _ => none
  | .load t p =>
    match ev p with
    | .ptr b g i j =>
      match hp b with
      | .row g' _ _ s => (partAV P t (s.get i) j).bind fun v => okN (decide (g = g')) v
      | _ => none
    | .rptr x j => (partAV P t x j).bind ok1
    | _ => none
  | .store t p x =>
    match ev p with
    | .ptr b g i j =>
      match hp b with
      | .row g' sz pu s =>
        if (ev x).okElem (P.cellsOf t) ∧ 1 ≤ P.cellsOf t then
          (putAV (s.get i) j (ev x)).bind fun y => some ⟨decide (g = g'), .undef, [(b, .row g' sz (pu && (ev x).isPure) (s.set i y))], none⟩
        else none
      | _ => none
    | _ => none
  | .nilCheck x =>
    match ev x with
    | .ptr .. | .rptr .. | .fn (.func _) _ _ => ok1 (ev x)
    | _ => none
  | .binOp op t x y _ => binAV P op t (ev x) (ev y)
  | .unOp .not _ x => match ev x with | .bool b => ok1 (.bool (!b)) | _ => none
  | .unOp .neg _ x => match ev x with | .int k n => ok1 (.int k (k.wrap (0 - n))) | _ => none
  | .convert s d x => convertAV P hp s d (ev x)
  | .makeFunc f first cap => ok1 (.fn f (first.toList.map ev) (cap.toList.map ev))
  | .makeSlice t l c =>
    match P.underlying t, ev l, ev c with
    | some (.slice e), .int .i64 n, .int .i64 m =>
      (zeroAV P e).bind fun z => if z.okElem (P.cellsOf e) && decide (1 ≤ P.cellsOf e) then
        some ⟨decide (0 ≤ n ∧ n = m ∧ n * (P.bytesOf e : Int) ≤ 140737488355328 ∧ n ≤ 9223372036854775807), .sl fr 0 0 n.toNat (some n.toNat), [(fr, .row 0 (P.cellsOf e) z.isPure (.fn n.toNat fun _ => z))], none⟩ else none
    | _, _, _ => none
  | .slice t x lo hi mx => sliceAV P hp t (ev x) (lo.map ev) (hi.map ev) (mx.map ev)
  | .fieldAddr t x f =>
    match P.underlying t with
    | some (.struct fs) =>
      (fs.toList[f]?).bind fun fd => if P.cellsOf fd.type = 0 then none else
        match ev x with
        | .ptr b g i j => ok1 (.ptr b g i (j + fd.offset))
        | .rptr y j => ok1 (.rptr y (j + fd.offset))
        | _ => none
    | _ => none
  | .field t x f =>
    match P.underlying t with
    | some (.struct fs) =>
      (fs.toList[f]?).bind fun fd =>
        match ev x with
        | .agg l => (partAV P fd.type (.agg l) fd.offset).bind ok1
        | _ => none
    | _ => none
  | .indexAddr t x ix => indexAddrAV P hp t (ev x) (ev ix)
  | .index t x ix => indexAV P t (ev x) (ev ix)
  | .extract x i => match ev x with | .tup l => (l[i]?).bind ok1 | _ => none
  | .call { callee := .builtin b, args, argTypes } => builtinAV P b argTypes.toList hp fr (args.toList.map ev)
  | _ => none

end Pw
