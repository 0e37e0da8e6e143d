/- NODES 38: selected matches: contracts of both codes. -/
import Derived.Test.YtamcloifhjafcaaDoorAN37
namespace Go.Proofs.YtamcloifhjafcaaDoor
open Pw Go
set_option maxRecDepth 100000
set_option linter.unusedSimpArgs false
theorem msR (l : List MatG) : (msA l).sub (msA l) = True := eq_true ⟨rfl, fun _ _ => ⟨(mR _) ▸ trivial, rfl⟩, fun h => h⟩
section
variable {x : NodeG} {w : Int} {hs : List HaveG} {es : List AggG} {ev : List EvG} {l : List MatG}
theorem selE_c (h : chkE x w hs es ≠ 0) : selE x w hs es ev l = chkE x w hs es := if_pos h
theorem selE_m (h : chkE x w hs es = 0) (h2 : firE (mEi x w hs es ev l) l.length ≠ 0) : selE x w hs es ev l = firE (mEi x w hs es ev l) l.length := by rw [selE, if_neg (by simp [h]), if_pos h2]
theorem selE_w (h : chkE x w hs es = 0) (h2 : firE (mEi x w hs es ev l) l.length = 0) : selE x w hs es ev l = firE (wnEi x w hs es ev l) l.length := by rw [selE, if_neg (by simp [h]), if_neg (by simp [h2])]
theorem selV_n (h : selE x w hs es ev l ≠ 0) : (selV x w hs es ev l).length = 0 := by rw [selV, if_pos h]; rfl
theorem selV_f (h : selE x w hs es ev l = 0) : selV x w hs es ev l = kpt x w hs es ev l l.length := if_neg (by simp [h])
theorem kpt_succ {j : Nat} (hj : j < l.length) : kpt x w hs es ev l (j + 1) = if wnB x w hs es ev (l.getD j mtD).1 = true then kpt x w hs es ev l j ++ [l.getD j mtD] else kpt x w hs es ev l j := by
 have := take_getD l mtD hj
 simp only [kpt, this, List.filter_append]
 generalize l.getD j mtD = p
 cases h : wnB x w hs es ev p.1 <;> simp [List.filter_cons, h]
theorem kpt_len (j : Nat) : (kpt x w hs es ev l j).length ≤ l.length := by
 have h1 := List.length_filter_le (fun m : MatG => wnB x w hs es ev m.1) (l.take j)
 have h2 := List.length_take_le' j l
 show ((l.take j).filter _).length ≤ _
 omega
end
end Go.Proofs.YtamcloifhjafcaaDoor
