/- ENGINE, part G2: arguments, as data of Lean. -/
import Derived.Test.YtjkkkldkimdajaaDoorPwG1
namespace Pw
set_option linter.unusedSimpArgs false
open Go

/-- Types whose values are data: no pointers among them. -/
inductive Ty where
  | bool
  | int (k : IntKind)
  | str
  | slice (e : Ty)
  | strct (fs : List Ty)

mutual
def Ty.sz : Ty → Nat
  | .strct fs => Ty.szL fs
  | _ => 1
def Ty.szL : List Ty → Nat
  | [] => 0
  | t :: l => Ty.sz t + Ty.szL l
end

mutual
/-- The data of a type. -/
def Gen : Ty → Type
  | .bool => Bool
  | .int _ => Int
  | .str => List UInt8
  | .slice e => List (Gen e)
  | .strct fs => GenL fs
def GenL : List Ty → Type
  | [] => Unit
  | t :: l => Gen t × GenL l
end

mutual
def Ty.dflt : (T : Ty) → Gen T
  | .bool => false
  | .int _ => (0 : Int)
  | .str => ([] : List UInt8)
  | .slice e => ([] : List (Gen e))
  | .strct fs => Ty.dfltL fs
def Ty.dfltL : (l : List Ty) → GenL l
  | [] => ()
  | t :: l => (Ty.dflt t, Ty.dfltL l)
end

mutual
/-- As an abstract value. -/
def Ty.av : (T : Ty) → Gen T → AV
  | .bool, b => .bool b
  | .int k, n => .int k n
  | .str, s => .str s
  | .slice e, l => .rof (List.length (α := Gen e) l) (fun i => Ty.av e (List.getD (α := Gen e) l i (Ty.dflt e))) false
  | .strct fs, g => .agg (Ty.avL fs g)
def Ty.avL : (l : List Ty) → GenL l → List AV
  | [], _ => []
  | t :: l, g => (Ty.av t g.1).cells ++ Ty.avL l g.2
end

mutual
/-- In bounds. -/
def Ty.wf : (T : Ty) → Gen T → Prop
  | .bool, _ => True
  | .int k, n => (Lit.int k n).wf = true
  | .str, s => List.length (α := UInt8) s ≤ maxLen
  | .slice e, l => List.length (α := Gen e) l ≤ maxLen ∧ ∀ i, i < List.length (α := Gen e) l → Ty.wf e (List.getD (α := Gen e) l i (Ty.dflt e))
  | .strct fs, g => Ty.wfL fs g
def Ty.wfL : (l : List Ty) → GenL l → Prop
  | [], _ => True
  | t :: l, g => Ty.wf t g.1 ∧ Ty.wfL l g.2
end

/-- The fields, in order and with no gap. -/
def tyFs (rec : TypeId → Option Ty) (P : Program) : List Field → Nat → Option (List Ty)
  | [], _ => some []
  | f :: r, k =>
    if f.offset = k then
      match rec f.type with
      | some T => if T.sz = P.cellsOf f.type then (tyFs rec P r (k + P.cellsOf f.type)).map (T :: ·) else none
      | none => none
    else none

/-- What the program's type number t is. -/
def tyOf (P : Program) : Nat → TypeId → Option Ty
  | 0, _ => none
  | d + 1, t =>
    match P.underlying t with
    | some .bool => some .bool
    | some (.int k) => some (.int k)
    | some .string => some .str
    | some (.slice e) =>
      match tyOf P d e with
      | some T => if T.sz = P.cellsOf e ∧ 0 < T.sz then some (.slice T) else none
      | none => none
    | some (.struct fs) =>
      match tyFs (tyOf P d) P fs.toList 0 with
      | some l => if Ty.szL l = P.cellsOf t then some (.strct l) else none
      | none => none
    | _ => none
end Pw
