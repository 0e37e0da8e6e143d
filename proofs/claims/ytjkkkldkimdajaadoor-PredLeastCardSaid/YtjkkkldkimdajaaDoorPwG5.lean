/- ENGINE, part G5: tables of contracts; conditions, as propositions. -/
import Derived.Test.YtjkkkldkimdajaaDoorPwG4
import Derived.JoinedCond
import Derived.KernelRfl
import Derived.Laws.BitsLemmas
import Derived.Laws.Bits64
namespace Pw
set_option linter.unusedSimpArgs false
open Go

/-- Equal numbers (as the printed conditions have it). -/
abbrev EqI (a b : Int) : Prop := a = b
abbrev Ctr := List AV → Option (Bool × AV)
def tblOf : List (Nat × Ctr) → Tbl
  | [], _, _ => none
  | (g, c) :: r, f, args => if f = g then c args else tblOf r f args
def PureF (P : Program) (g : Nat) (c : Ctr) : Prop := ∀ args nd v, c args = some (nd, v) → nd = true → PureC P (fun _ => .undef) g args v
theorem tbl_nil (P : Program) : TblOK P (fun _ => .undef) (tblOf []) := fun _ _ _ _ h => by cases h
theorem tbl_cons {P : Program} {g : Nat} {c : Ctr} {r : List (Nat × Ctr)} (h : PureF P g c) (hr : TblOK P (fun _ => .undef) (tblOf r)) : TblOK P (fun _ => .undef) (tblOf ((g, c) :: r)) := by
  intro f args nd v e hnd
  simp only [tblOf] at e
  split at e
  · rename_i hf
    subst hf
    exact h args nd v e hnd
  · exact hr f args nd v e hnd

def mkE (P : Program) (t : Tbl) (inv : FuncId → Nat → Option Inv) : Env := { P := P, gl := fun _ => .undef, ctr := ctrOf t, inv := inv, fuelL := 0, cl := false }
theorem mkE_ctr {P : Program} {t : Tbl} {inv : FuncId → Nat → Option Inv} (ht : TblOK P (fun _ => .undef) t) : CtrOK (mkE P t inv) := ctrOf_ok ht rfl

abbrev retP (d : Nat) (v : AV) : AV → T Blk → Nat → VT := fun x hp _ => .need (gensX (fun b => hp.get .dead b) x) (.leaf ((frzX d (fun b => hp.get .dead b) x).sub v))
theorem pure_vc {P : Program} {t : Tbl} {inv : FuncId → Nat → Option Inv} {f : FuncId} {k d : Nat} {args : List AV} {v : AV} (hm : P.follows .mixedOrders = true) (ht : TblOK P (fun _ => .undef) t)
    (hs : (vcFun (mkE P t inv) k f args .nil 0 (retP d v)).sat) : PureC P (fun _ => .undef) f args v := PureC.of_vc (E := mkE P t inv) hm (mkE_ctr ht) hs

/-- A closed run. -/
theorem pure_closed {P : Program} {f : FuncId} {k : Nat} {b : Bool} (hm : P.follows .mixedOrders = true) (h : (vcFun (noEnv P) k f [] .nil 0 (isBool b)).chk = true) : PureC P (fun _ => .undef) f [] (.bool b) := by
  intro M W vals hG hM hargs
  have hS : SRel ⟨fun _ => True, M⟩ W 0 (fun _ _ => none) M (fun _ => .undef) (fun b => (T.nil : T Blk).get .dead b) 0 { tmps := #[], defers := [] } W := by
    refine ⟨rfl, fun t => .undef _, ⟨hM, fun b g sz pu s h => ?_, fun b b' g g' sz sz' pu pu' s s' L L' h => ?_, fun b g sz pu s h => ?_⟩, fun b _ => rfl, fun b g _ => rfl, Keep.refl _ W, fun B i v h => .inl h, MExt.refl M, fun b g sz pu s L h => ?_, rfl⟩
    all_goals simp [T.get] at h
  obtain ⟨hfn, hc⟩ := vcFun_sound (E := noEnv P) hm (noEnv_ctr P) k f [] .nil 0 _ (VT.sat_of_chk _ h) _ W 0 _ M _ _ W vals hG hS ⟨hargs.1, fun i hi => .pure (hargs.2 i hi)⟩
  refine ⟨hfn, hc.mono fun e W' ⟨u, x, ρ', M', hp', nx', h1, h2, h3, h4, h5, hpt, h6, h7⟩ => ?_⟩
  rw [isBool_sat h7] at h4
  refine ⟨u, M, h1, ?_, MExt.refl M, fun B i v hv => ?_, fun B i v hv => .inl hv, h5.keep⟩
  · rw [h4.boolInv]
    exact .bool b
  · have hlt := World.block_lt_of_cell? W ⟨B, i, none⟩ (hM B i v hv).1
    refine ⟨?_, (hM B i v hv).2⟩
    rw [cell_congr (h5.keep.block B trivial hlt)]
    exact (hM B i v hv).1

theorem VB_iff {b : Bool} {p q : Prop} : VB b p q ↔ ((b = true → p) ∧ (b = false → q)) := by cases b <;> simp [VB]
theorem NB_iff {b : Bool} {p : Prop} : NB b p ↔ (b = true ∧ p) := by cases b <;> simp [NB]
theorem VB_intro {b : Bool} {p q : Prop} (h1 : b = true → p) (h2 : b = false → q) : VB b p q := VB_iff.2 ⟨h1, h2⟩
theorem NB_intro {b : Bool} {p : Prop} (h1 : b = true) (h2 : p) : NB b p := NB_iff.2 ⟨h1, h2⟩

theorem VB_t {p q : Prop} : VB true p q = p := rfl
theorem VB_f {p q : Prop} : VB false p q = q := rfl
theorem NB_t {p : Prop} : NB true p = p := rfl

theorem wrap_i64 (n : Int) : IntKind.i64.wrap n = (n + 9223372036854775808) % 18446744073709551616 - 9223372036854775808 := IntKind.wrap_i64 n
theorem wrap_i64_id {n : Int} (h0 : -9223372036854775808 ≤ n) (h1 : n ≤ 9223372036854775807) : IntKind.i64.wrap n = n := by rw [wrap_i64]; omega
theorem wrap_u64_id {n : Int} (h0 : 0 ≤ n) (h1 : n ≤ 18446744073709551615) : IntKind.u64.wrap n = n := by rw [IntKind.wrap_u64]; omega
theorem wrap_u64 (n : Int) : IntKind.u64.wrap n = n % 18446744073709551616 := IntKind.wrap_u64 n
theorem wrap_u8 (n : Int) : IntKind.u8.wrap n = n % 256 := IntKind.wrap_u8 n
end Pw
