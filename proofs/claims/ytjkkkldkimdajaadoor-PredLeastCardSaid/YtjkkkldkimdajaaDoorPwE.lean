/- ENGINE, part E: each operation does what the abstract step says. -/
import Derived.Test.YtjkkkldkimdajaaDoorPwD
import Derived.Laws.Bits
import Derived.Laws.StructEq
import Derived.Laws.Slices
import Derived.Laws.BytesString
import Derived.Lib.ConvBytes
import Derived.DeepKeys
import Derived.Laws.Concat
namespace Pw
set_option linter.unusedSimpArgs false
open Go

section
variable {P : Program} {o : Oper} {U : Base} {w0 : World} {n : Nat} {ρ : Rho} {M : Mem} {tm : Nat → AV} {hp : Nat → Blk} {nx : Nat} {a : Act} {w : World}

theorem run_v (s : Sem Value) (w : World) : (do let x ← s; pure (Next.value x) : Sem Next).run P w = (s.run P w).andThen fun x w' => .ok (.value x) w' := by
  simp

theorem run_binInt (op : BinOp) (t : TypeId) (k k' : IntKind) (x y : Int) (need : Bool) (v : AV) (eff) (ob)
    (h : binAV P op t (.int k x) (.int k' y) = some ⟨need, v, eff, ob⟩) (hn : need = true) :
    eff = [] ∧ ob = none ∧ ∃ u, (Go.binOp op t (.int k x) (.int k' y)).run P w = .ok u w ∧ RelP M u v := by
  subst hn
  cases op
  case shl =>
    simp only [binAV, okN, Option.some.injEq, SR.mk.injEq, decide_eq_true_eq] at h
    obtain ⟨h0, rfl, rfl, rfl⟩ := h
    exact ⟨rfl, rfl, _, by simp [Go.binOp, Op.shift, show ¬ (y < 0) from by omega, shlI], .int k _⟩
  case shr =>
    simp only [binAV, okN, Option.some.injEq, SR.mk.injEq, decide_eq_true_eq] at h
    obtain ⟨h0, rfl, rfl, rfl⟩ := h
    exact ⟨rfl, rfl, _, by simp [Go.binOp, Op.shift, show ¬ (y < 0) from by omega, shrI], .int k _⟩
  all_goals
    simp only [binAV] at h
    split at h
    case isFalse => cases h
    rename_i hk
    subst hk
  all_goals
    simp only [okN, ok1, cmpInt, Option.bind_some, Option.bind_none, Option.some.injEq, SR.mk.injEq, bne_iff_ne, ne_eq, reduceCtorEq] at h
  all_goals
    obtain ⟨h0, rfl, rfl, rfl⟩ := h
    refine ⟨rfl, rfl, ?_⟩
    first
    | (refine ⟨.int k _, ?_, .int k _⟩; simp [Go.binOp, Op.intArith, Op.intBits, Op.intDiv, h0, andI, orI, xorI, andNotI]; done)
    | (refine ⟨.bool _, ?_, .bool _⟩; simp [Go.binOp, Op.intCmp]; done)


theorem run_eqGuard_plain (op : BinOp) (t : TypeId) (x y : Operand) (u v : Value) (h1 : u ≠ .nilIface) (h2 : ∀ cs, u ≠ .agg cs) : (eqGuard op t x y u v).run P w = .ok () w := by
  cases op <;> first | rfl | (cases u <;> first | rfl | exact absurd rfl h1 | exact absurd rfl (h2 _))

theorem run_binStr (op : BinOp) (t : TypeId) (x y : List UInt8) (need : Bool) (v : AV) (eff) (ob)
    (h : binAV P op t (.str x) (.str y) = some ⟨need, v, eff, ob⟩) (hn : need = true) :
    eff = [] ∧ ob = none ∧ ∃ u, (Go.binOp op t (.string ⟨⟨x⟩⟩) (.string ⟨⟨y⟩⟩)).run P w = .ok u w ∧ RelP M u v := by
  subst hn
  have hl : ∀ l : List UInt8, (ByteArray.mk ⟨l⟩).toList = l := fun l => by rw [ByteArray.toList_eq]
  cases op
  case add =>
    simp only [binAV, okN, Option.some.injEq, SR.mk.injEq, decide_eq_true_eq] at h
    obtain ⟨h0, rfl, rfl, rfl⟩ := h
    refine ⟨rfl, rfl, .string ⟨⟨x ++ y⟩⟩, ?_, .str _⟩
    have h1 : (ByteArray.mk ⟨x⟩).size + (ByteArray.mk ⟨y⟩).size ≤ 9223372036854775807 := by simp [ByteArray.size]; omega
    have := run_string_add_sum (P := P) w (ByteArray.mk ⟨x⟩) (ByteArray.mk ⟨y⟩) h1
    simp only [Go.binOp]
    rw [this, ByteArray.mk_append_mk]
  all_goals
    simp only [binAV, okN, ok1, Option.some.injEq, SR.mk.injEq, reduceCtorEq] at h
  all_goals
    obtain ⟨h0, rfl, rfl, rfl⟩ := h
    refine ⟨rfl, rfl, .bool _, ?_, .bool _⟩
    simp [Go.binOp, Op.stringOp, hl]

theorem run_binBool (op : BinOp) (t : TypeId) (x y : Bool) (need : Bool) (v : AV) (eff) (ob)
    (h : binAV P op t (.bool x) (.bool y) = some ⟨need, v, eff, ob⟩) :
    eff = [] ∧ ob = none ∧ ∃ u, (Go.binOp op t (.bool x) (.bool y)).run P w = .ok u w ∧ RelP M u v := by
  simp only [binAV] at h
  split at h
  · rename_i hu
    simp only [ok1, Option.some.injEq, SR.mk.injEq] at h
    obtain ⟨h0, rfl, rfl, rfl⟩ := h
    exact ⟨rfl, rfl, .bool (x == y), run_eql_bool w t x y hu, .bool _⟩
  · rename_i hu
    simp only [ok1, Option.some.injEq, SR.mk.injEq] at h
    obtain ⟨h0, rfl, rfl, rfl⟩ := h
    exact ⟨rfl, rfl, .bool (!(x == y)), run_neq_bool w t x y hu, .bool _⟩
  · cases h

end
end Pw
