/- ENGINE, part B: the verification conditions of code. -/
import Derived.Test.YtjkkkldkimdajaaDoorPwA
import Derived.Orders
namespace Pw
open Go

structure St where
  tm : T AV
  hp : T Blk
  nx : Nat

def St.ev (gl : Nat → AV) (s : St) : Operand → AV
  | .tmp t => s.tm.get .undef t
  | .const v => avOf v
  | .global g => gl g
  | .func f => .fn (.func f) [] []
def St.put (s : St) (dst : Option Tmp) (v : AV) : St :=
  match dst with
  | some d => { s with tm := s.tm.set .undef d v }
  | none => s
def St.hpf (s : St) : Nat → Blk := fun b => s.hp.get .dead b
def setEff (hp : T Blk) : List (Nat × Blk) → T Blk
  | [] => hp
  | (b, x) :: r => setEff (hp.set .dead b x) r
def newOf (nx : Nat) : List (Nat × Blk) → Nat
  | [] => nx
  | (b, _) :: r => newOf (if nx ≤ b then b + 1 else nx) r

inductive Ex where
  | normal
  | exit (id : Nat)
  | ret

inductive VT : Type 1 where
  | fail (why : Nat) (pos : String)
  | leaf (p : Prop)
  | leafB (b : Bool)
  | need (b : Bool) (t : VT)
  | vb (b : Bool) (t e : VT)
  | both (t e : VT)
  | all (ι : Type) (f : ι → VT)
  | imp (p : Prop) (t : VT)
  | and (p : Prop) (t : VT)

def NB (b : Bool) (p : Prop) : Prop := match b with | true => p | false => False
def VB (b : Bool) (p q : Prop) : Prop := match b with | true => p | false => q
def VT.sat : VT → Prop
  | .fail _ _ => False
  | .leaf p => p
  | .leafB b => b = true
  | .need b t => NB b t.sat
  | .vb b t e => VB b t.sat e.sat
  | .both t e => t.sat ∧ e.sat
  | .all ι f => ∀ i : ι, (f i).sat
  | .imp p t => p → t.sat
  | .and p t => p ∧ t.sat
/-- For closed runs. -/
def VT.chk : VT → Bool
  | .leafB b => b
  | .need b t => match b with | true => t.chk | false => false
  | .vb b t e => match b with | true => t.chk | false => e.chk
  | .both t e => t.chk && e.chk
  | _ => false

inductive Out where
  | ret (need : Bool) (v : AV) (eff : List (Nat × Blk))
  | ite (b : Bool) (t e : Out)

structure Spec where
  fr : List (Nat × AV)
  hp : List (Nat × Blk)
structure Inv where
  ι : Type
  nx : Nat
  st : ι → Spec
  pre : ι → Prop
  μ : ι → Nat

structure Env where
  P : Program
  gl : Nat → AV
  ctr : FuncId → List AV → (Nat → Blk) → Nat → Option Out
  inv : FuncId → Nat → Option Inv
  fuelL : Nat
  cl : Bool

abbrev CallH := FuncId → List AV → T Blk → Nat → (AV → T Blk → Nat → VT) → VT

/-! ### Forcing: what goes on into a state is laid bare first -/
def forceN (n : Nat) (K : Nat → VT) : VT := match n with | 0 => K 0 | m + 1 => K (m + 1)
/-- Scalars alone are laid bare here. -/
def AV.force0 : AV → (AV → VT) → VT
  | .int k n, K => match n with | .ofNat m => forceN m fun m => K (.int k (.ofNat m)) | .negSucc m => forceN m fun m => K (.int k (.negSucc m))
  | .bool b, K => match b with | true => K (.bool true) | false => K (.bool false)
  | .agg l, K => K (.agg l)
  | .str s, K => K (.str s)
  | x, K => K x
def forceT : List AV → (List AV → VT) → VT
  | [], K => K []
  | x :: l, K => AV.force0 x fun x => forceT l fun l => K (x :: l)
mutual
def AV.force (cl : Bool) : AV → (AV → VT) → VT
  | .int k n, K => match cl with
    | true => match n with | .ofNat m => forceN m fun m => K (.int k (.ofNat m)) | .negSucc m => forceN m fun m => K (.int k (.negSucc m))
    | false => K (.int k n)
  | .bool b, K => match cl with | true => (match b with | true => K (.bool true) | false => K (.bool false)) | false => K (.bool b)
  | .agg l, K => AV.forceL cl l fun l => K (.agg l)
  | .tup l, K => AV.forceL cl l fun l => K (.tup l)
  | .rol l ex, K => AV.forceL cl l fun l => K (.rol l ex)
  | .rptr x j, K => AV.force cl x fun x => K (.rptr x j)
  | .fn f a b, K => AV.forceL cl a fun a => AV.forceL cl b fun b => K (.fn f a b)
  | .opt m j w x, K => AV.force cl x fun x => K (.opt m j w x)
  | .undef, K => K .undef
  | .str s, K => K (.str s)
  | .nils, K => K .nils
  | .nilp, K => K .nilp
  | .nilf, K => K .nilf
  | .nilm, K => K .nilm
  | .ptr b g i j, K => K (.ptr b g i j)
  | .sl b g i len cap, K => K (.sl b g i len cap)
  | .rof n f ex, K => match cl with | true => forceT ((List.range n).map f) fun l => K (.rol l ex) | false => K (.rof n f ex)
  | .map b, K => K (.map b)
def AV.forceL (cl : Bool) : List AV → (List AV → VT) → VT
  | [], K => K []
  | x :: l, K => AV.force cl x fun x => AV.forceL cl l fun l => K (x :: l)
end
def Blk.force (cl : Bool) : Blk → (Blk → VT) → VT
  | .dead, K => K .dead
  | .row g sz pu (.lst l), K => AV.forceL cl l fun l => match pu with | true => K (.row g sz true (.lst l)) | false => K (.row g sz false (.lst l))
  | .row g sz pu (.fn n f), K => match cl with
    | true => forceT ((List.range n).map f) fun l => match pu with | true => K (.row g sz true (.lst l)) | false => K (.row g sz false (.lst l))
    | false => match pu with | true => K (.row g sz true (.fn n f)) | false => K (.row g sz false (.fn n f))
def T.pathK {α : Type} (d : α) : Nat → Nat → α → (T α → VT) → VT
  | 0, _, _, K => K .nil
  | f + 1, i, x, K => if i = 0 then K (.node x .nil .nil) else if i % 2 = 1 then T.pathK d f (i / 2) x fun t => K (.node d t .nil) else T.pathK d f (i / 2 - 1) x fun t => K (.node d .nil t)
def T.setK {α : Type} (d : α) : T α → Nat → α → (T α → VT) → VT
  | .nil, i, x, K => T.pathK d (i + 1) i x K
  | .node v l r, i, x, K => if i = 0 then K (.node x l r) else if i % 2 = 1 then l.setK d (i / 2) x fun l => K (.node v l r) else r.setK d (i / 2 - 1) x fun r => K (.node v l r)
def effK (cl : Bool) (hp : T Blk) : List (Nat × Blk) → (T Blk → VT) → VT
  | [], K => K hp
  | (b, x) :: r, K => x.force cl fun x => hp.setK .dead b x fun hp => effK cl hp r K
def putK (cl : Bool) (s : St) (dst : Option Tmp) (v : AV) (K : St → VT) : VT :=
  match dst with
  | some d => v.force cl fun v => s.tm.setK .undef d v fun tm => K ⟨tm, s.hp, s.nx⟩
  | none => K s

/-- Blocks that are written are new, or in use. -/
def effOK (hp : Nat → Blk) (nx : Nat) (eff : List (Nat × Blk)) : Bool :=
  eff.all fun p => decide (nx ≤ p.1) || (match hp p.1 with | .dead => false | .row .. => true)
/-- Some blocks are out of sight. -/
def maskK (hp : T Blk) : List Nat → (T Blk → VT) → VT
  | [], K => K hp
  | b :: r, K => hp.setK .dead b .dead fun hp => maskK hp r K
/-- Those are back. -/
def backK (old : T Blk) (hp : T Blk) : List Nat → (T Blk → VT) → VT
  | [], K => K hp
  | b :: r, K => hp.setK .dead b (old.get .dead b) fun hp => backK old hp r K

def outVT (cl : Bool) (hp : T Blk) (nx : Nat) (K : AV → T Blk → Nat → VT) : Out → VT
  | .ret need v eff => .need need (match effOK (fun b => hp.get .dead b) nx eff with
    | true => effK cl hp eff fun hp => forceN (newOf nx eff) fun nx => K v hp nx
    | false => .fail 22 "")
  | .ite b t e => .vb b (outVT cl hp nx K t) (outVT cl hp nx K e)

def isW (want c : Bool) : Bool := match want with | true => c | false => !c
def impB (m need : Bool) : Bool := match need with | true => true | false => !m

/-- The operand in slot t: under guards 'gs' that are met. -/
def strip (asg : List Nat) (gs : List (Nat × Bool)) (t : Nat) : AV → AV
  | .opt _ j w x => if asg.contains t && gs.contains (j, w) then x else .undef
  | x => x
def stripO (asg : List Nat) (gs : List (Nat × Bool)) (ev : Operand → AV) : Operand → AV
  | .tmp t => strip asg gs t (ev (.tmp t))
  | x => ev x
def evOf (gl : Nat → AV) (tm : Nat → AV) : Operand → AV
  | .tmp t => tm t
  | .const v => avOf v
  | .global g => gl g
  | .func f => .fn (.func f) [] []

/-- Which guards are met if operation j has yielded 'want', and the bool that says so. -/
def guards (ops : Array Oper) (asg : List Nat) (tm : Nat → AV) : Nat → Nat × Bool → Option (List (Nat × Bool) × Bool)
  | 0, _ => none
  | n + 1, (j, want) =>
    match (ops[j]?).bind (·.dst) with
    | some t =>
      if asg.contains t then
        match tm t with
        | .bool c => some ([(j, want)], isW want c)
        | .opt m j' w' (.bool c) => (guards ops asg tm n (j', w')).bind fun (l, _) => some ((j, want) :: l, m && isW want c)
        | _ => none
      else none
    | none => none

def pickAV (a c : Operand) (b : Bool) (x y : AV) : Option AV :=
  match x, y with
  | .bool x, .bool y =>
    match a, c with
    | .const (.bool true), _ => some (.bool (b || y))
    | _, .const (.bool false) => some (.bool (b && x))
    | _, _ => some (.bool (bif b then x else y))
  | _, _ => none

/-- A guard, the guards that are met with it, and the bool that says so. -/
structure GD where
  g : Nat × Bool
  l : List (Nat × Bool)
  m : Bool
def gsOf : Option GD → List (Nat × Bool)
  | none => []
  | some d => d.l
def AV.clean : AV → AV
  | .opt .. => .undef
  | x => x
def wrapG : Option GD → AV → AV
  | none, v => v.clean
  | some d, v => .opt d.m d.g.1 d.g.2 v
def needG (gd : Option GD) (b : Bool) (t : VT) : VT :=
  match gd with
  | none => .need b t
  | some d => .need (impB d.m b) t
def obG (gd : Option GD) (ob : Option Prop) (t : VT) : VT :=
  match ob with
  | none => t
  | some p => match gd with
    | none => .and p t
    | some d => .and (d.m = true → p) t
def offG (cl : Bool) (s : St) (dst : Option Tmp) (d : GD) (K : St → VT) : VT := putK cl s dst (.opt d.m d.g.1 d.g.2 (.bool false)) K
def splitG (cl : Bool) (gd : Option GD) (s : St) (dst : Option Tmp) (K : St → VT) (t : VT) : VT :=
  match gd with
  | none => t
  | some d => .vb d.m t (offG cl s dst d K)

inductive Target where
  | op
  | fn (f : FuncId) (args : List AV)
  | bad
def targetOf (op : Op) (ev : Operand → AV) : Target :=
  match op with
  | .call { callee := .value f, args, .. } =>
    match ev f with
    | .fn (.func g) first cap => .fn g (first ++ args.toList.map ev ++ cap)
    | _ => .bad
  | .call { callee := .builtin _, .. } => .op
  | .call _ => .bad
  | _ => .op

/-- Operations that change memory, or may. -/
def evOp : Op → Bool
  | .call { callee := .builtin .len, .. } => false
  | .call { callee := .builtin .min, .. } => false
  | .call { callee := .builtin .max, .. } => false
  | .call _ => true
  | .store .. | .alloc _ | .box .. | .buildSlice .. | .makeSlice .. => true
  | _ => false

/-- What an operation yields that changes nothing. -/
def opSR (P : Program) (gl : Nat → AV) (ops : Array Oper) (asg : List Nat) (gs : List (Nat × Bool)) (o : Oper) (tm : Nat → AV) (hp : Nat → Blk) (nx : Nat) : Option SR :=
  match o.op with
  | .pick (.tmp t) a b =>
    match stripO asg gs (evOf gl tm) (.tmp t), ops.toList.findIdx? (fun q => q.dst == some t) with
    | .bool c, some j => (pickAV a b c (stripO asg ((j, true) :: gs) (evOf gl tm) a) (stripO asg ((j, false) :: gs) (evOf gl tm) b)).bind ok1
    | _, _ => none
  | .pick .. => none
  | op => stepOp P op (stripO asg gs (evOf gl tm)) hp nx

def St.tmf (s : St) : Nat → AV := fun t => s.tm.get .undef t

def vcQuiet (E : Env) (ops : Array Oper) (asg : List Nat) (o : Oper) (gd : Option GD) (s : St) (K : St → VT) : VT :=
  match opSR E.P E.gl ops asg (gsOf gd) o s.tmf s.hpf s.nx with
  | some ⟨nd, v, [], ob⟩ => needG gd nd (obG gd ob (putK E.cl s o.dst (wrapG gd v) K))
  | _ => splitG E.cl gd s o.dst K (.fail 4 o.pos)

/-- What an event does to memory. -/
inductive EvI where
  | pure
  | eff (W : List Nat)

/-- 'R': what those read that may come behind the event. -/
def vcEvent (E : Env) (call : CallH) (R : List Nat) (asg : List Nat) (o : Oper) (gd : Option GD) (s : St) (K : EvI → St → VT) : VT :=
  let ev := stripO asg (gsOf gd) (evOf E.gl s.tmf)
  match targetOf o.op ev with
  | .bad => splitG E.cl gd s o.dst (K .pure) (.fail 3 o.pos)
  | .fn f args =>
    AV.forceL E.cl args fun args =>
      match E.ctr f args s.hpf s.nx with
      | some (.ret nd v []) => needG gd nd (putK E.cl s o.dst (wrapG gd v) (K .pure))
      | _ => splitG E.cl gd s o.dst (K .pure) (maskK s.hp R fun hp => call f args hp s.nx fun v hp nx => backK s.hp hp R fun hp => putK E.cl ⟨s.tm, hp, nx⟩ o.dst v.clean (K .pure))
  | .op =>
    splitG E.cl gd s o.dst (K .pure)
      (match stepOp E.P o.op ev s.hpf s.nx with
      | some ⟨nd, v, eff, none⟩ => .need nd (match effOK s.hpf s.nx eff with
        | true => effK E.cl s.hp eff fun hp => forceN (newOf s.nx eff) fun nx => putK E.cl ⟨s.tm, hp, nx⟩ o.dst v.clean (K (.eff (eff.map (·.1))))
        | false => .fail 23 o.pos)
      | _ => .fail 5 o.pos)

/-- What an operation reads of memory. -/
def topId : AV → List Nat
  | .ptr b _ _ _ => [b]
  | .sl b _ _ _ _ => [b]
  | _ => []
def rdIds (op : Op) (ev : Operand → AV) : List Nat :=
  match op with
  | .load _ p => topId (ev p)
  | .slice _ x _ _ _ => topId (ev x)
  | .indexAddr _ x _ => topId (ev x)
  | .convert _ _ x => topId (ev x)
  | _ => []
structure Foot where
  ix : Nat
  rd : List Nat

def disj (a b : List Nat) : Bool := a.all fun x => !b.contains x
/-- What those read that may come behind the event i. -/
def restR (pr : List (List Nat)) (lg : List Foot) (i : Nat) : List Nat := (lg.filter fun d => !(pr.getD i []).contains d.ix).flatMap (·.rd)
/-- The event leaves that as it is. -/
def evB (R : List Nat) : EvI → Bool
  | .pure => true
  | .eff W => disj R W

def dstOK (n : Nat) (asg : List Nat) : Option Tmp → Bool
  | none => true
  | some t => decide (t < n) && !asg.contains t
def gdOf (ops : Array Oper) (asg : List Nat) (tm : Nat → AV) (o : Oper) : Option (Option GD) :=
  match o.guard with
  | none => some none
  | some g => (guards ops asg tm 20 g).map fun (l, m) => some ⟨g, l, m⟩

/-- One operation, and then the others. 'dr': the order is drawn; 'pr': who comes before whom. -/
def vcOne (E : Env) (n : Nat) (call : CallH) (ops : Array Oper) (dr : Bool) (pr : List (List Nat)) (next : List Nat → List Foot → St → VT) (i : Nat) (asg : List Nat) (lg : List Foot) (s : St) : VT :=
  match ops[i]? with
  | none => .fail 6 ""
  | some o =>
    match dstOK n asg o.dst with
    | false => .fail 7 o.pos
    | true =>
      match gdOf ops asg s.tmf o with
      | none => .fail 8 o.pos
      | some gd =>
        match evOp o.op with
        | true => vcEvent E call (match dr with | true => restR pr lg i | false => []) asg o gd s fun inf s' =>
            match evB (match dr with | true => restR pr lg i | false => []) inf with
            | true => next (o.dst.toList ++ asg) lg s'
            | false => .fail 10 o.pos
        | false => vcQuiet E ops asg o gd s fun s' =>
            next (o.dst.toList ++ asg) (⟨i, rdIds o.op (stripO asg (gsOf gd) (evOf E.gl s.tmf))⟩ :: lg) s'

def evAt (ops : Array Oper) (i : Nat) : Bool := match ops[i]? with | some o => evOp o.op | none => false
/-- Events that may come up in the place of the event i. -/
def altsOf (ops : Array Oper) (pr : List (List Nat)) (i : Nat) (rest : List Nat) : List Nat :=
  match evAt ops i with
  | true => rest.filter fun j => evAt ops j && (pr.getD j []).all fun k => !(i :: rest).contains k
  | false => []
def bothL : List VT → VT → VT
  | [], t => t
  | x :: l, t => .both x (bothL l t)

/-- 'lo': some events wait for nobody. -/
def vcOps (E : Env) (n : Nat) (call : CallH) (ops : Array Oper) (dr : Bool) (pr : List (List Nat)) (lo : Bool) : Nat → List Nat → List Nat → List Foot → St → (St → VT) → VT
  | 0, l, _, _, s, K => match l with | [] => K s | _ :: _ => .fail 6 ""
  | f + 1, l, asg, lg, s, K =>
    match l with
    | [] => K s
    | i :: rest =>
      bothL (match lo with
        | true => (altsOf ops pr i rest).map fun j => vcOne E n call ops dr pr (fun asg lg s => vcOps E n call ops dr pr lo f ((i :: rest).erase j) asg lg s K) j asg lg s
        | false => []) (vcOne E n call ops dr pr (fun asg lg s => vcOps E n call ops dr pr lo f rest asg lg s K) i asg lg s)

/-! ### The order in which a drawn region is walked: what changes nothing goes first -/
def afterOf (o : Oper) : List Nat := o.after.toList.filterMap fun e => if Region.binds .any e then some e.on else none
/-- Each once. -/
def uniq : List Nat → List Nat
  | [] => []
  | x :: l => bif l.contains x then uniq l else x :: uniq l
/-- Who comes before whom. -/
def predsOf : List Oper → List (List Nat) → List (List Nat)
  | [], acc => acc
  | o :: r, acc => predsOf r (acc ++ [uniq ((afterOf o).flatMap fun j => j :: acc.getD j [])])
def readyL (af : List (List Nat)) (done : List Nat) (i : Nat) : Bool := !done.contains i && (af.getD i []).all fun j => done.contains j
def canonL (ops : Array Oper) (af : List (List Nat)) : Nat → List Nat → List Nat
  | 0, _ => []
  | f + 1, done =>
    let rs := (List.range ops.size).filter (readyL af done)
    match rs.find? fun i => match ops[i]? with | some o => !evOp o.op | none => false with
    | some i => i :: canonL ops af f (i :: done)
    | none => match rs with
      | i :: _ => i :: canonL ops af f (i :: done)
      | [] => []
def canon (ops : Array Oper) : List Nat := canonL ops (ops.toList.map afterOf) ops.size []

/-- i stands before j in the walk. -/
def pairB (ops : Array Oper) (pr : List (List Nat)) (i j : Nat) : Bool :=
  match ops[i]?, ops[j]? with
  | some oi, some oj => !(pr.getD i []).contains j && ((pr.getD j []).contains i || (!evOp oi.op && oi.apart ops oj))
  | _, _ => false
/-- .. or both are events, and j does not come before i. -/
def pairL (ops : Array Oper) (pr : List (List Nat)) (lo : Bool) (i j : Nat) : Bool := pairB ops pr i j || (lo && evAt ops i && evAt ops j && !(pr.getD i []).contains j)
def orderB (ops : Array Oper) (pr : List (List Nat)) (lo : Bool) : List Nat → Bool
  | [] => true
  | i :: r => (r.all fun j => pairL ops pr lo i j) && !r.contains i && decide (i < ops.size) && orderB ops pr lo r
/-- Edges go back. -/
def aftL : List Oper → Nat → Bool
  | [], _ => true
  | o :: r, i => (afterOf o).all (fun j => decide (j < i)) && aftL r (i + 1)

def vcRegion (E : Env) (n : Nat) (call : CallH) (ops : Array Oper) (draw : Bool) (K : St → VT) (s : St) : VT :=
  match draw with
  | false => vcOps E n call ops false [] false ops.size (List.range ops.size) [] [] s K
  | true =>
    match decide ((canon ops).length = ops.size) && aftL ops.toList 0 && (List.range ops.size).all (fun i => (canon ops).contains i) with
    | true =>
      match orderB ops (predsOf ops.toList []) false (canon ops) with
      | true => vcOps E n call ops true (predsOf ops.toList []) false ops.size (canon ops) [] [] s K
      | false =>
        match orderB ops (predsOf ops.toList []) true (canon ops) with
        | true => vcOps E n call ops true (predsOf ops.toList []) true ops.size (canon ops) [] [] s K
        | false => .fail 9 ""
    | false => .fail 9 ""

def unroll (body : (Ex → St → VT) → St → VT) : Nat → (Ex → St → VT) → St → VT
  | 0, _, _ => (.fail 11 "")
  | n + 1, K, s => body (fun e s' => match e with | .normal => unroll body n K s' | e => K e s') s

/-! ### Specifications of states, and states that meet them -/
def Spec.tmT (l : List (Nat × AV)) : T AV := l.foldl (fun t p => t.set .undef p.1 p.2) .nil
def Spec.hpT (l : List (Nat × Blk)) : T Blk := l.foldl (fun t p => t.set .dead p.1 p.2) .nil
def Spec.mk' (s : Spec) (nx : Nat) : St := ⟨Spec.tmT s.fr, Spec.hpT s.hp, nx⟩

mutual
/-- x is at least as well known as y. -/
def AV.sub : AV → AV → Prop
  | _, .undef => True
  | .int k n, .int k' m => if k = k' then n = m else False
  | .bool a, .bool b => a = b
  | .str a, .str b => a = b
  | .nils, .nils => True
  | .nilp, .nilp => True
  | .nilf, .nilf => True
  | .nilm, .nilm => True
  | .nils, .rol [] _ => True
  | .nils, .rof n _ _ => n = 0
  | .ptr b g i j, .ptr b' g' i' j' => if b = b' then (g = g' ∧ i = i' ∧ j = j') else False
  | .sl b g i len c, .sl b' g' i' len' c' => if b = b' then (g = g' ∧ i = i' ∧ len = len' ∧ (c = c' ∨ c' = none)) else False
  | .fn f a b, .fn f' a' b' => f = f' ∧ AV.subL a a' ∧ AV.subL b b'
  | .agg l, .agg m => AV.subL l m
  | .tup l, .tup m => AV.subL l m
  | .rptr x j, .rptr y j' => (AV.sub x y ∧ x.cells.length = y.cells.length) ∧ j = j'
  | .rol l ex, .rol m ex' => AV.subE l m ∧ (ex' = true → ex = true)
  | .rol l ex, .rof n f ex' => l.length = n ∧ AV.subF l 0 f ∧ (ex' = true → ex = true)
  | .rof n f ex, .rof n' f' ex' => n = n' ∧ (∀ i, i < n → AV.sub (f i) (f' i) ∧ (f i).cells.length = (f' i).cells.length) ∧ (ex' = true → ex = true)
  | _, _ => False
def AV.subL : List AV → List AV → Prop
  | [], [] => True
  | x :: l, y :: m => AV.sub x y ∧ AV.subL l m
  | _, _ => False
def AV.subE : List AV → List AV → Prop
  | [], [] => True
  | x :: l, y :: m => (AV.sub x y ∧ x.cells.length = y.cells.length) ∧ AV.subE l m
  | _, _ => False
def AV.subF : List AV → Nat → (Nat → AV) → Prop
  | [], _, _ => True
  | x :: l, k, f => (AV.sub x (f k) ∧ x.cells.length = (f k).cells.length) ∧ AV.subF l (k + 1) f
end

def Sq.sub' : Sq → Sq → Prop
  | .lst l, .lst m => AV.subE l m
  | .lst l, .fn n f => l.length = n ∧ AV.subF l 0 f
  | .fn n f, .fn m f' => n = m ∧ ∀ i, i < n → AV.sub (f i) (f' i) ∧ (f i).cells.length = (f' i).cells.length
  | .fn _ _, .lst _ => False
def Blk.sub : Blk → Blk → Prop
  | _, .dead => True
  | .row g sz pu s, .row g' sz' pu' s' => if sz = sz' then (g = g' ∧ (pu' = true → pu = true) ∧ s.sub' s') else False
  | _, _ => False

mutual
/-- Its handles are of blocks below nx. -/
def AV.idsB (nx : Nat) : AV → Bool
  | .ptr b _ _ _ => decide (b < nx)
  | .sl b _ _ _ _ => decide (b < nx)
  | .map _ => false
  | .fn _ a b => AV.idsBL nx a && AV.idsBL nx b
  | .agg l => AV.idsBL nx l
  | .tup l => AV.idsBL nx l
  | _ => true
def AV.idsBL (nx : Nat) : List AV → Bool
  | [] => true
  | x :: l => AV.idsB nx x && AV.idsBL nx l
end
def Blk.idsB (nx : Nat) : Blk → Bool
  | .row _ _ true _ => true
  | .row _ _ false (.lst l) => AV.idsBL nx l
  | .row _ _ false (.fn _ _) => false
  | .dead => true

/-- A slot's value, and what a specification says of the slot; a nil slice may be a growable row of no elements, in a block that is free. -/
def rowIs (g : Nat) : Blk → Prop
  | .row g' _ _ s => g = g' ∧ s.len = 0
  | .dead => False
def slotMeets (nx : Nat) (hp' : Nat → Blk) (x y : AV) : Prop :=
  match x, y with
  | .nils, .sl b g i len c => NB (decide (nx ≤ b) && decide (i = 0) && c.isNone) (len = 0 ∧ rowIs g (hp' b))
  | x, y => x.sub y
def blkMeets (nx b : Nat) (x y : Blk) : Prop :=
  match x, y with
  | .dead, .row _ sz pu s => NB (decide (nx ≤ b) && pu && decide (1 ≤ sz)) (s.len = 0)
  | x, y => x.sub y

def Spec.frMeets (s : St) (nx : Nat) (hp' : Nat → Blk) : List (Nat × AV) → Prop
  | [] => True
  | (t, y) :: r => NB (y.idsB nx) (slotMeets s.nx hp' (s.tm.get .undef t) y) ∧ Spec.frMeets s nx hp' r
def Spec.hpMeets (s : St) (nx : Nat) : List (Nat × Blk) → Prop
  | [] => True
  | (b, y) :: r => NB (y.idsB nx && decide (b < nx)) (blkMeets s.nx b (s.hpf b) y) ∧ Spec.hpMeets s nx r
def nodupKeys {α : Type} : List (Nat × α) → Bool
  | [] => true
  | (b, _) :: r => r.all (fun p => p.1 != b) && nodupKeys r
/-- The state is one of those that the specification speaks of. -/
def Spec.met (p : Spec) (nx : Nat) (s : St) : Prop :=
  NB (nodupKeys p.fr && nodupKeys p.hp) (Spec.frMeets s nx (p.mk' nx).hpf p.fr ∧ Spec.hpMeets s nx p.hp)

def vcCode (E : Env) (n : Nat) (f : FuncId) (call : CallH) : Code → Option Nat → (Ex → St → VT) → St → VT
  | .skip, _, K, s => K .normal s
  | .label _, _, K, s => K .normal s
  | .ret, _, K, s => K .ret s
  | .exit id, _, K, s => K (.exit id) s
  | .region _ ops draw, _, K, s => vcRegion E n call ops draw (K .normal) s
  | .seq a b, _, K, s => vcCode E n f call a none (fun e s' => match e with | .normal => vcCode E n f call b none K s' | .exit id => K (.exit id) s' | .ret => K .ret s') s
  | .cond c a b, _, K, s => match evOf E.gl s.tmf c with | .bool t => .vb t (vcCode E n f call a none K s) (vcCode E n f call b none K s) | _ => (.fail 12 "")
  | .block id c, _, K, s => vcCode E n f call c (some id) (fun e s' => match e with | .exit id' => if id' = id then K .normal s' else K (.exit id') s' | .normal => K .normal s' | .ret => K .ret s') s
  | .loop c, lk, K, s =>
    match lk.bind (E.inv f) with
    | some I => .need (decide (s.nx ≤ I.nx)) (.and (∃ i, I.pre i ∧ (I.st i).met I.nx s) (.all I.ι fun i => .imp (I.pre i)
        (vcCode E n f call c none (fun e s' => match e with | .normal => .leaf (∃ i', I.pre i' ∧ I.μ i' < I.μ i ∧ (I.st i').met I.nx s') | .exit id => K (.exit id) s' | .ret => K .ret s') ((I.st i).mk' I.nx))))
    | none => unroll (fun K' s' => vcCode E n f call c none K' s') E.fuelL K s
  | .scope c, _, K, s => vcCode E n f call c none K s
  | _, _, _, _ => (.fail 13 "")

def argsK (cl : Bool) (tm : T AV) : List AV → Nat → (T AV → VT) → VT
  | [], _, K => K tm
  | x :: r, k, K => x.force cl fun x => tm.setK .undef k x fun tm => argsK cl tm r (k + 1) K

def resAV (E : Env) (s : St) : ResultVar → Option AV
  | .tmp t => some (s.tm.get .undef t)
  | .cell a t =>
    match s.tm.get .undef a with
    | .ptr b g i j =>
      match s.hpf b with
      | .row g' _ _ q => if g = g' then (match decide (i < q.len) with | true => partAV E.P t (q.get i) j | false => none) else none
      | _ => none
    | _ => none
def resAVs (E : Env) (s : St) : List ResultVar → Option (List AV)
  | [] => some []
  | x :: r => match resAV E s x, resAVs E s r with | some a, some l => some (a :: l) | _, _ => none
def tupAV : List AV → AV
  | [x] => x
  | l => .tup l

def vcFun (E : Env) : Nat → CallH
  | 0, _, _, _, _, _ => (.fail 14 "")
  | n + 1, f, args, hp, nx, K =>
    let call : CallH := fun g as hp nx K =>
      match E.ctr g as (fun b => hp.get .dead b) nx with
      | some out => outVT E.cl hp nx K out
      | none => vcFun E n g as hp nx K
    match E.P.funcs[f]? with
    | some fn =>
      match fn.body with
      | some c =>
        match decide (args.length ≤ fn.ntmps) && !(fn.name == "runtime.NumGoroutine") with
        | true =>
          argsK E.cl .nil args 0 fun tm =>
          vcCode E fn.ntmps f call c none (fun e s =>
            match e with
            | .exit _ => (.fail 15 "")
            | _ => match resAVs E s fn.results.toList with
              | some l => (tupAV l).force E.cl fun v => K v s.hp s.nx
              | none => (.fail 16 "")) ⟨tm, hp, nx⟩
        | false => (.fail 17 "")
      | none => (.fail 18 "")
    | none => (.fail 19 "")

/-- A closed run that answers the bool b. -/
def isBool (b : Bool) : AV → T Blk → Nat → VT
  | .bool x, _, _ => .leafB (x == b)
  | _, _, _ => (.fail 20 "")
def noEnv (P : Program) : Env := ⟨P, fun _ => .undef, fun _ _ _ _ => none, fun _ _ => none, 1000, true⟩

end Pw
