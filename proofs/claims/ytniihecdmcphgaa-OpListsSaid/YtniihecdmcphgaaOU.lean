/- OP U: the bytes of any operation, in Lean. -/
import Derived.Test.YtniihecdmcphgaaOS
namespace Pw
open Go
set_option linter.unusedSimpArgs false
set_option maxRecDepth 100000

structure RgN (o : Opr) : Prop where
  t : -9223372036854775808 ≤ o.t ∧ o.t ≤ 9223372036854775807
  n : -9223372036854775808 ≤ o.n ∧ o.n ≤ 9223372036854775807
  m : -9223372036854775808 ≤ o.m ∧ o.m ≤ 9223372036854775807
  l : 0 ≤ o.l ∧ o.l ≤ 18446744073709551615
  il : 0 ≤ o.il ∧ o.il ≤ 18446744073709551615
  id : 0 ≤ o.id ∧ o.id ≤ 18446744073709551615
def rgB (o : Opr) : Bool := decide ((-9223372036854775808 ≤ o.t ∧ o.t ≤ 9223372036854775807) ∧ (-9223372036854775808 ≤ o.n ∧ o.n ≤ 9223372036854775807) ∧ (-9223372036854775808 ≤ o.m ∧ o.m ≤ 9223372036854775807) ∧
  (0 ≤ o.l ∧ o.l ≤ 18446744073709551615) ∧ (0 ≤ o.il ∧ o.il ≤ 18446744073709551615) ∧ (0 ≤ o.id ∧ o.id ≤ 18446744073709551615))
theorem RgN.of {o : Opr} (h : rgB o = true) : RgN o := by
  obtain ⟨a, b, c, d, e, f⟩ := of_decide_eq_true h
  exact ⟨a, b, c, d, e, f⟩
theorem RgN.b {o : Opr} (h : RgN o) : rgB o = true := decide_eq_true ⟨h.t, h.n, h.m, h.l, h.il, h.id⟩
theorem RgN.cl {o : Opr} (h : RgN o) (hc : opChk o = 0) : OkN (opCl o) ∧ opChk (opCl o) = 0 ∧ opBytes o = opBytes (opCl o) := by
  obtain ⟨k, t, l, x, n, m, il, id⟩ := o
  obtain ⟨⟨t0, t1⟩, ⟨n0, n1⟩, ⟨m0, m1⟩, ⟨l0, l1⟩, ⟨a0, a1⟩, ⟨b0, b1⟩⟩ := h
  have hk := kinds8 (opChk_k hc)
  dsimp only at hk t0 t1 n0 n1 m0 m1 l0 l1 a0 a1 b0 b1
  have hc' := hc
  unfold opChk at hc'
  dsimp only at hc'
  have hx : (k = 2 ∨ k = 4) → x.length ≤ 1000 := fun h2 => by
    rw [if_neg (by omega)] at hc'
    split at hc'
    · cases hc'
    · rename_i h3
      have : ¬ 1000 < (x.length : Int) := fun h4 => h3 ⟨h2, h4⟩
      omega
  clear hc'
  rcases hk with rfl | rfl | rfl | rfl | rfl | rfl | rfl | rfl <;>
  · have hx' := hx
    simp at hx'
    refine ⟨?_, ?_, ?_⟩
    · constructor <;> simp_all [opCl, fieldsOf, cFld]
    · simp [opChk, opCl, fieldsOf, cFld] <;> omega
    · unfold opBytes
      rw [if_neg (by simp [hc]), if_neg]
      · exact congrArg wrDone (by simp [opW, opCl, fieldsOf, cFld, wFld])
      · simp [opChk, opCl, fieldsOf, cFld] <;> omega
theorem opBytes_all {o : Opr} (h : RgN o) : opBytes o = if opChk o ≠ 0 then ([], opChk o) else (enc o, 0) := by
  split
  · rename_i hc
    unfold opBytes
    rw [if_pos hc]
  · rename_i hc
    have hc := Decidable.not_not.1 hc
    obtain ⟨a, b, c⟩ := h.cl hc
    rw [c, opBytes_ok a b, (enc_cl hc).1]
end Pw
