/- ENGINE, part G5: tables of contracts; conditions, as propositions. -/
import Derived.Test.YtjkkkldkimdajaaDoorPwG1
import Derived.JoinedCond
import Derived.KernelRfl
import Derived.Laws.BitsLemmas
import Derived.Laws.Bits64
import Derived.MakeChecks
namespace Pw
set_option linter.unusedSimpArgs false
open Go

/-- Equal numbers (as the printed conditions have it). -/
abbrev EqI (a b : Int) : Prop := a = b
abbrev Ctr := List AV → Option (Bool × AV)
def tblOf : List (Nat × Ctr) → Tbl
  | [], _, _ => none
  | (g, c) :: r, f, args => if f = g then c args else tblOf r f args
def PureF (P : Program) (g : Nat) (c : Ctr) : Prop := ∀ args nd v, c args = some (nd, v) → nd = true → PureC P (fun _ => .undef) g args v
theorem tbl_nil (P : Program) : TblOK P (fun _ => .undef) (tblOf []) := fun _ _ _ _ h => by cases h
theorem tbl_cons {P : Program} {g : Nat} {c : Ctr} {r : List (Nat × Ctr)} (h : PureF P g c) (hr : TblOK P (fun _ => .undef) (tblOf r)) : TblOK P (fun _ => .undef) (tblOf ((g, c) :: r)) := by
  intro f args nd v e hnd
  simp only [tblOf] at e
  split at e
  · rename_i hf
    subst hf
    exact h args nd v e hnd
  · exact hr f args nd v e hnd

def mkE (P : Program) (t : Tbl) (inv : FuncId → Nat → Option Inv) : Env := { P := P, gl := fun _ => .undef, ctr := ctrOf t, inv := inv, fuelL := 0, cl := false }
theorem mkE_ctr {P : Program} {t : Tbl} {inv : FuncId → Nat → Option Inv} (ht : TblOK P (fun _ => .undef) t) : CtrOK (mkE P t inv) := ctrOf_ok ht rfl

abbrev retP (d : Nat) (v : AV) : AV → T Blk → Nat → VT := fun x hp _ => .need (gensX (fun b => hp.get .dead b) x) (.leaf ((frzX d (fun b => hp.get .dead b) x).sub v))
theorem pure_vc {P : Program} {t : Tbl} {inv : FuncId → Nat → Option Inv} {f : FuncId} {k d : Nat} {args : List AV} {v : AV} (hm : P.follows .mixedOrders = true) (ht : TblOK P (fun _ => .undef) t)
    (hs : (vcFun (mkE P t inv) k f args .nil 0 (retP d v)).sat) : PureC P (fun _ => .undef) f args v := PureC.of_vc (E := mkE P t inv) hm (mkE_ctr ht) hs

/-- A closed run. -/
theorem pure_closed {P : Program} {f : FuncId} {k : Nat} {b : Bool} (hm : P.follows .mixedOrders = true) (h : (vcFun (noEnv P) k f [] .nil 0 (isBool b)).chk = true) : PureC P (fun _ => .undef) f [] (.bool b) := by
  intro M W vals hG hM hargs
  have hS : SRel ⟨fun _ => True, M⟩ W 0 (fun _ _ => none) M (fun _ => .undef) (fun b => (T.nil : T Blk).get .dead b) 0 { tmps := #[], defers := [] } W := by
    refine ⟨rfl, fun t => .undef _, ⟨hM, fun b g sz pu s h => ?_, fun b b' g g' sz sz' pu pu' s s' L L' h => ?_, fun b g sz pu s h => ?_⟩, fun b _ => rfl, fun b g _ => rfl, Keep.refl _ W, fun B i v h => .inl h, MExt.refl M, fun b g sz pu s L h => ?_, rfl⟩
    all_goals simp [T.get] at h
  obtain ⟨hfn, hc⟩ := vcFun_sound (E := noEnv P) hm (noEnv_ctr P) k f [] .nil 0 _ (VT.sat_of_chk _ h) _ W 0 _ M _ _ W vals hG hS ⟨hargs.1, fun i hi => .pure (hargs.2 i hi)⟩
  refine ⟨hfn, hc.mono fun e W' ⟨u, x, ρ', M', hp', nx', h1, h2, h3, h4, h5, hpt, h6, h7⟩ => ?_⟩
  rw [isBool_sat h7] at h4
  refine ⟨u, M, h1, ?_, MExt.refl M, fun B i v hv => ?_, fun B i v hv => .inl hv, h5.keep⟩
  · rw [h4.boolInv]
    exact .bool b
  · have hlt := World.block_lt_of_cell? W ⟨B, i, none⟩ (hM B i v hv).1
    refine ⟨?_, (hM B i v hv).2⟩
    rw [cell_congr (h5.keep.block B trivial hlt)]
    exact (hM B i v hv).1

theorem VB_iff {b : Bool} {p q : Prop} : VB b p q ↔ ((b = true → p) ∧ (b = false → q)) := by cases b <;> simp [VB]
theorem NB_iff {b : Bool} {p : Prop} : NB b p ↔ (b = true ∧ p) := by cases b <;> simp [NB]
theorem VB_intro {b : Bool} {p q : Prop} (h1 : b = true → p) (h2 : b = false → q) : VB b p q := VB_iff.2 ⟨h1, h2⟩
theorem NB_intro {b : Bool} {p : Prop} (h1 : b = true) (h2 : p) : NB b p := NB_iff.2 ⟨h1, h2⟩

theorem VB_t {p q : Prop} : VB true p q = p := rfl
theorem VB_f {p q : Prop} : VB false p q = q := rfl
theorem NB_t {p : Prop} : NB true p = p := rfl

theorem wrap_i64 (n : Int) : IntKind.i64.wrap n = (n + 9223372036854775808) % 18446744073709551616 - 9223372036854775808 := IntKind.wrap_i64 n
theorem wrap_i64_id {n : Int} (h0 : -9223372036854775808 ≤ n) (h1 : n ≤ 9223372036854775807) : IntKind.i64.wrap n = n := by rw [wrap_i64]; omega
theorem wrap_u64_id {n : Int} (h0 : 0 ≤ n) (h1 : n ≤ 18446744073709551615) : IntKind.u64.wrap n = n := by rw [IntKind.wrap_u64]; omega
theorem wrap_u64 (n : Int) : IntKind.u64.wrap n = n % 18446744073709551616 := IntKind.wrap_u64 n
theorem wrap_u8 (n : Int) : IntKind.u8.wrap n = n % 256 := IntKind.wrap_u8 n
end Pw
namespace Pw
set_option linter.unusedSimpArgs false
open Go

/-- .. with loops unrolled n times. -/
def mkF (P : Program) (t : Tbl) (inv : FuncId → Nat → Option Inv) (n : Nat) : Env := { P := P, gl := fun _ => .undef, ctr := ctrOf t, inv := inv, fuelL := n, cl := false }
theorem mkF_ctr {P : Program} {t : Tbl} {inv : FuncId → Nat → Option Inv} {n : Nat} (ht : TblOK P (fun _ => .undef) t) : CtrOK (mkF P t inv n) := ctrOf_ok ht rfl
theorem pure_vcF {P : Program} {t : Tbl} {inv : FuncId → Nat → Option Inv} {n : Nat} {f : FuncId} {k d : Nat} {args : List AV} {v : AV} (hm : P.follows .mixedOrders = true) (ht : TblOK P (fun _ => .undef) t)
    (hs : (vcFun (mkF P t inv n) k f args .nil 0 (retP d v)).sat) : PureC P (fun _ => .undef) f args v := PureC.of_vc (E := mkF P t inv n) hm (mkF_ctr ht) hs

/-- Arguments of which more is known. -/
theorem PureC.args {P : Program} {gl : Nat → AV} {f : FuncId} {args args' : List AV} {v : AV} (hl : args.length = args'.length) (h : ∀ i, i < args.length → (args.getD i .undef).sub (args'.getD i .undef)) (hc : PureC P gl f args' v) : PureC P gl f args v :=
  fun M W vals hG hM hA => hc M W vals hG hM ⟨hA.1.trans hl, fun i hi => (hA.2 i (by omega)).sub _ (h i (by omega))⟩

theorem NB_intro' {b : Bool} {p : Prop} (h1 : b = true) (h2 : b = true → p) : NB b p := NB_iff.2 ⟨h1, h2 h1⟩
theorem isW_t (c : Bool) : isW true c = c := rfl
theorem isW_f (c : Bool) : isW false c = !c := rfl
theorem impB_t {a b : Bool} : impB a b = true ↔ (a = true → b = true) := by cases a <;> cases b <;> simp [impB]
theorem impB_f {a b : Bool} : impB a b = false ↔ (a = true ∧ b = false) := by cases a <;> cases b <;> simp [impB]

/-- x, not laid bare. -/
noncomputable def hide {α : Type} (x : α) : α := Classical.choose (show ∃ y, y = x from ⟨x, rfl⟩)
theorem hide_eq {α : Type} (x : α) : hide x = x := Classical.choose_spec (show ∃ y, y = x from ⟨x, rfl⟩)

def AV.toStr : AV → List UInt8
  | .str s => s
  | _ => []
def AV.isStr : AV → Bool
  | .str _ => true
  | _ => false
theorem AV.isStr_eq {x : AV} (h : x.isStr = true) : x = .str x.toStr := by cases x <;> simp_all [AV.isStr, AV.toStr]
/-- A list of strings. -/
def strsB (n : Nat) (f : Nat → AV) : Bool := (List.range n).all fun i => (f i).isStr
theorem strsB_at {n : Nat} {f : Nat → AV} (h : strsB n f = true) {i : Nat} (hi : i < n) : f i = .str (f i).toStr := AV.isStr_eq (List.all_eq_true.1 h i (by simpa using hi))
theorem rof_str_sub {n : Nat} {f : Nat → AV} {ex : Bool} (h : strsB n f = true) : (AV.rof n f ex).sub (.rof n (fun i => .str (f i).toStr) false) := by
  refine ⟨rfl, fun i hi => ?_, by simp⟩
  rw [strsB_at h hi]
  exact ⟨rfl, rfl⟩
theorem AV.str_sub (s : List UInt8) : (AV.str s).sub (.str s) := rfl
/-- The first n of a list. -/
def takeF (g : Nat → List UInt8) (n : Nat) : List UInt8 := ((List.range n).map g).flatten
theorem takeF_succ (g : Nat → List UInt8) (n : Nat) : takeF g (n + 1) = takeF g n ++ g n := by simp [takeF, List.range_succ]
theorem takeF_zero (g : Nat → List UInt8) : takeF g 0 = [] := rfl
theorem takeF_mono (g : Nat → List UInt8) {i n : Nat} (h : i ≤ n) : (takeF g i).length ≤ (takeF g n).length := by
  induction h with
  | refl => exact Nat.le_refl _
  | step _ ih => rw [takeF_succ, List.length_append]; omega
theorem takeF_at (g : Nat → List UInt8) {i n : Nat} (h : i < n) : (takeF g i).length + (g i).length ≤ (takeF g n).length := by
  have := takeF_mono g (show i + 1 ≤ n from h)
  rw [takeF_succ, List.length_append] at this
  exact this
end Pw
namespace Pw
open Go
theorem wf_i64 {n : Int} (h : (Lit.int .i64 n).wf = true) : -9223372036854775808 ≤ n ∧ n ≤ 9223372036854775807 := by
  simpa [Lit.wf, IntKind.min, IntKind.max, IntKind.bits, IntKind.signed] using h
theorem wf_u64 {n : Int} (h : (Lit.int .u64 n).wf = true) : 0 ≤ n ∧ n ≤ 18446744073709551615 := by
  simpa [Lit.wf, IntKind.min, IntKind.max, IntKind.bits, IntKind.signed] using h
end Pw
namespace Pw
set_option linter.unusedSimpArgs false
open Go Go.ChangeShapes Go.WideShapes Go.ChangeAt Go.RowKit

def PureG (P : Program) (gl : Nat → AV) (g : Nat) (c : Ctr) : Prop := ∀ args nd v, c args = some (nd, v) → nd = true → PureC P gl g args v
theorem PureC.up {P : Program} {gl : Nat → AV} {f : FuncId} {args : List AV} {v : AV} (h : PureC P (fun _ => .undef) f args v) : PureC P gl f args v :=
  fun M W vals _ hM hA => h M W vals (fun _ => .undef _) hM hA
theorem PureF.up {P : Program} {gl : Nat → AV} {g : Nat} {c : Ctr} (h : PureF P g c) : PureG P gl g c := fun args nd v e hnd => (h args nd v e hnd).up
theorem tblG_nil (P : Program) (gl : Nat → AV) : TblOK P gl (tblOf []) := fun _ _ _ _ h => by cases h
theorem tblG_cons {P : Program} {gl : Nat → AV} {g : Nat} {c : Ctr} {r : List (Nat × Ctr)} (h : PureG P gl g c) (hr : TblOK P gl (tblOf r)) : TblOK P gl (tblOf ((g, c) :: r)) := by
  intro f args nd v e hnd
  simp only [tblOf] at e
  split at e
  · rename_i hf
    subst hf
    exact h args nd v e hnd
  · exact hr f args nd v e hnd
def mkG (P : Program) (gl : Nat → AV) (t : Tbl) (inv : FuncId → Nat → Option Inv) (n : Nat) : Env := { P := P, gl := gl, ctr := ctrOf t, inv := inv, fuelL := n, cl := false }
theorem mkG_ctr {P : Program} {gl : Nat → AV} {t : Tbl} {inv : FuncId → Nat → Option Inv} {n : Nat} (ht : TblOK P gl t) : CtrOK (mkG P gl t inv n) := ctrOf_ok ht rfl
theorem pure_vcG {P : Program} {gl : Nat → AV} {t : Tbl} {inv : FuncId → Nat → Option Inv} {n : Nat} {f : FuncId} {k d : Nat} {args : List AV} {v : AV} (hm : P.follows .mixedOrders = true) (ht : TblOK P gl t)
    (hs : (vcFun (mkG P gl t inv n) k f args .nil 0 (retP d v)).sat) : PureC P gl f args v := PureC.of_vc (E := mkG P gl t inv n) hm (mkG_ctr ht) hs
theorem TblOK.up {P : Program} {gl : Nat → AV} {t : Tbl} (h : TblOK P (fun _ => .undef) t) : TblOK P gl t := fun f args nd v e hnd => (h f args nd v e hnd).up

/-- A package variable that holds an array of strings. -/
def strsG (g0 : Nat) (l : List (List UInt8)) : Nat → AV := fun g => if g = g0 then .rptr (.agg (l.map .str)) 0 else .undef

theorem laidVars_mem {P : Program} {w : World} {n : String} {d : DataW Unit} : ∀ (l : List (String × DataW Unit)) (ps : List MemPlace), DataW.LaidVars P w l ps → (n, d) ∈ l →
    ∃ g t cs fuel p, P.globalNamed n = some g ∧ (P.globals[g]?).map (·.type) = some t ∧ w.var? P n = some cs ∧ DataW.trod (fun _ => ()) P w 0 (fun _ => true) false fuel t cs.toList = some (d, p)
  | [], _, _, hm => by cases hm
  | (n', d') :: r, ps, h, hm => by
    obtain ⟨g, t, cs, fuel, p, q, h1, h2, h3, h4, h5, _⟩ := h
    rcases List.mem_cons.1 hm with e | e
    · cases e
      exact ⟨g, t, cs, fuel, p, h1, h2, h3, h4⟩
    · exact laidVars_mem r q h5 e

theorem glob_strs {P : Program} {W : World} {laid : List (String × DataW Unit)} {name : String} {l : List (List UInt8)} {g0 t e : Nat} (h : laidMet P laid W) (hm : (name, .agg (l.map fun s => .lit (.string s))) ∈ laid)
    (hg : P.globalNamed name = some g0) (ht : (P.globals[g0]?).map (·.type) = some t) (hu : P.underlying t = some (.array l.length e)) (he : P.underlying e = some .string) (h1 : P.cellsOf e = 1) : GlobOK (memOf W) (strsG g0 l) := by
  obtain ⟨ps, hL, _⟩ := h
  obtain ⟨g, t', cs, fuel, p, k1, k2, k3, k4⟩ := laidVars_mem laid ps hL hm
  rw [hg] at k1; cases k1
  rw [ht] at k2; cases k2
  obtain ⟨xs, m, _, ex, _, hl, hel⟩ := DataW.trod_array hu k4
  have hmap : xs.map (·.1) = l.map fun s => (DataW.lit (.string s) : DataW Unit) := (DataW.agg.inj (Prod.mk.inj ex).1).symm
  have cell : ∀ i (hi : i < l.length), memOf W g0 i = some (.string ⟨⟨l[i]⟩⟩) := fun i hi => by
    have hE := hel i hi
    rw [h1, Nat.mul_one, List.getElem?_eq_getElem (by omega)] at hE
    obtain ⟨s, e1, e2, _⟩ := DataW.trod_string he hE
    have e4 : (xs.map (·.1))[i]? = (l.map fun s => (DataW.lit (.string s) : DataW Unit))[i]? := by rw [hmap]
    rw [List.getElem?_map, List.getElem?_map, List.getElem?_eq_getElem (by omega : i < xs.length), List.getElem?_eq_getElem hi, e2] at e4
    simp only [Option.map_some, Option.some.injEq, DataW.lit.injEq, Lit.string.injEq] at e4
    have hc : cs.toList[i]? = some (.string s) := by
      have h0 : ((cs.toList.drop i).take 1)[0]? = some (.string s) := by rw [e1]; rfl
      simpa using h0
    refine memOf_mk ?_ rfl
    rw [World.var?_cell hg k3 i]
    rw [← e4]
    have : cs[i]? = some (.string s) := by simpa using hc
    rw [this]
  intro g
  unfold strsG
  split
  · rename_i hgg
    subst hgg
    refine .rptr g 0 0 (.agg (l.map .str)) (fun i => .string ⟨⟨l.getD i []⟩⟩) (fun i hi => ?_) (fun i hi => ?_)
    · have hi' : i < l.length := by simpa [AV.cells] using hi
      rw [Nat.zero_add, cell i hi']
      simp [List.getD, hi']
    · have hi' : i < l.length := by simpa [AV.cells] using hi
      have : (AV.agg (l.map .str)).cells.getD i .undef = .str (l.getD i []) := by simp [AV.cells, List.getD, hi']
      rw [this]
      exact .str _
  · exact .undef _
end Pw
