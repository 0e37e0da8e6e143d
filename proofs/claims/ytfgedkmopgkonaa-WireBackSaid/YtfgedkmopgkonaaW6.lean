/- WIRE 6: readers and writers, as functions of Lean. -/
import Derived.Test.YtfgedkmopgkonaaW1
namespace Pw
open Go

structure Rd where
  s : List UInt8
  at_ : Int
  err : Int
  fat : Int
def Rd.av (r : Rd) : AV := .agg [.str r.s, .int .i64 r.at_, .int .i64 r.err, .int .i64 r.fat]
def rdOK (r : Rd) : Bool := decide (0 ≤ r.at_) && decide (r.at_ ≤ r.s.length) && (if r.err = 0 then decide (r.fat = 0) else decide (1 ≤ r.err) && decide (r.err ≤ 23) && decide (0 ≤ r.fat) && decide (r.fat ≤ r.s.length))
def rdUse (r : Rd) : Rd := if rdOK r = true then r else ⟨[], 0, 10, 0⟩
def rdFail (r : Rd) (e a : Int) : Rd := if r.err = 0 then ⟨r.s, r.at_, e, a⟩ else r
def rdTake (r : Rd) (n : Int) : Rd × List UInt8 :=
  if r.err ≠ 0 then (r, []) else if r.s.length - r.at_ < n then (rdFail r 5 r.at_, []) else (⟨r.s, r.at_ + n, r.err, r.fat⟩, (r.s.drop r.at_.toNat).take n.toNat)
def okSize (n : Int) : Bool := n == 1 || n == 2 || n == 4 || n == 8
def rdUint (r : Rd) (n : Int) : Rd × Int :=
  if okSize n = true then ((rdTake (rdUse r) n).1, numS (rdTake (rdUse r) n).2) else (rdFail (rdUse r) 2 (rdUse r).at_, 0)
def rdInt (r : Rd) : Rd × Int := ((rdTake (rdUse r) 8).1, IntKind.i64.wrap (numS (rdTake (rdUse r) 8).2))
def rdBytes (r : Rd) (n : Int) : Rd × List UInt8 := if n < 0 then (rdFail (rdUse r) 2 (rdUse r).at_, []) else rdTake (rdUse r) n
def rdSized (r : Rd) (top : Int) : Rd × List UInt8 :=
  if top < 0 ∨ 65535 < top then (rdFail (rdUse r) 2 (rdUse r).at_, [])
  else if (rdTake (rdUse r) 2).1.err ≠ 0 then ((rdTake (rdUse r) 2).1, [])
  else if top < numS (rdTake (rdUse r) 2).2 then (rdFail (rdUse r) 4 (rdUse r).at_, [])
  else rdTake (rdTake (rdUse r) 2).1 (numS (rdTake (rdUse r) 2).2)
def rdWant (r : Rd) (s : List UInt8) : Rd := if (rdTake (rdUse r) s.length).1.err = 0 ∧ (rdTake (rdUse r) s.length).2 ≠ s then rdFail (rdUse r) 3 (rdUse r).at_ else (rdTake (rdUse r) s.length).1
def rdFailX (r : Rd) (e a : Int) : Rd := rdFail (rdUse r) (if e < 1 ∨ 23 < e then 3 else e) (minI (maxI a 0) (rdUse r).s.length)
def rdEnd (r : Rd) : Rd := if (rdUse r).at_ < (rdUse r).s.length then rdFail (rdUse r) 4 (rdUse r).at_ else rdUse r
theorem numS_two (l : List UInt8) (h : l.length ≤ 2) : 0 ≤ numS l ∧ numS l ≤ 65535 := by
  match l, h with
  | [], _ => simp [numS]
  | [a], _ =>
    have := a.toNat_lt
    simp only [numS, List.foldl, wrap_u64]
    omega
  | [a, b], _ =>
    have := a.toNat_lt
    have := b.toNat_lt
    simp only [numS, List.foldl, wrap_u64]
    omega
  | _ :: _ :: _ :: _, h => simp at h
theorem numS_two' (s : List UInt8) (p q : Nat) (h : q ≤ p + 2) : 0 ≤ numS (List.take (q - p) (List.drop p s)) ∧ numS (List.take (q - p) (List.drop p s)) ≤ 65535 :=
  numS_two _ (by simp only [List.length_take]; omega)
end Pw
