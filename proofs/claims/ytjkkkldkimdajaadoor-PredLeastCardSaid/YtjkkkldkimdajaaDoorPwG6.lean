/- ENGINE, part G6: arguments that are lists; loops of few rounds. -/
import Derived.Test.YtjkkkldkimdajaaDoorPwG5
namespace Pw
set_option linter.unusedSimpArgs false
open Go

/-- .. with loops unrolled n times. -/
def mkF (P : Program) (t : Tbl) (inv : FuncId → Nat → Option Inv) (n : Nat) : Env := { P := P, gl := fun _ => .undef, ctr := ctrOf t, inv := inv, fuelL := n, cl := false }
theorem mkF_ctr {P : Program} {t : Tbl} {inv : FuncId → Nat → Option Inv} {n : Nat} (ht : TblOK P (fun _ => .undef) t) : CtrOK (mkF P t inv n) := ctrOf_ok ht rfl
theorem pure_vcF {P : Program} {t : Tbl} {inv : FuncId → Nat → Option Inv} {n : Nat} {f : FuncId} {k d : Nat} {args : List AV} {v : AV} (hm : P.follows .mixedOrders = true) (ht : TblOK P (fun _ => .undef) t)
    (hs : (vcFun (mkF P t inv n) k f args .nil 0 (retP d v)).sat) : PureC P (fun _ => .undef) f args v := PureC.of_vc (E := mkF P t inv n) hm (mkF_ctr ht) hs

/-- Arguments of which more is known. -/
theorem PureC.args {P : Program} {gl : Nat → AV} {f : FuncId} {args args' : List AV} {v : AV} (hl : args.length = args'.length) (h : ∀ i, i < args.length → (args.getD i .undef).sub (args'.getD i .undef)) (hc : PureC P gl f args' v) : PureC P gl f args v :=
  fun M W vals hG hM hA => hc M W vals hG hM ⟨hA.1.trans hl, fun i hi => (hA.2 i (by omega)).sub _ (h i (by omega))⟩

theorem NB_intro' {b : Bool} {p : Prop} (h1 : b = true) (h2 : b = true → p) : NB b p := NB_iff.2 ⟨h1, h2 h1⟩
theorem isW_t (c : Bool) : isW true c = c := rfl
theorem isW_f (c : Bool) : isW false c = !c := rfl
theorem impB_t {a b : Bool} : impB a b = true ↔ (a = true → b = true) := by cases a <;> cases b <;> simp [impB]
theorem impB_f {a b : Bool} : impB a b = false ↔ (a = true ∧ b = false) := by cases a <;> cases b <;> simp [impB]

/-- x, not laid bare. -/
noncomputable def hide {α : Type} (x : α) : α := Classical.choose (show ∃ y, y = x from ⟨x, rfl⟩)
theorem hide_eq {α : Type} (x : α) : hide x = x := Classical.choose_spec (show ∃ y, y = x from ⟨x, rfl⟩)

def AV.toStr : AV → List UInt8
  | .str s => s
  | _ => []
def AV.isStr : AV → Bool
  | .str _ => true
  | _ => false
theorem AV.isStr_eq {x : AV} (h : x.isStr = true) : x = .str x.toStr := by cases x <;> simp_all [AV.isStr, AV.toStr]
/-- A list of strings. -/
def strsB (n : Nat) (f : Nat → AV) : Bool := (List.range n).all fun i => (f i).isStr
theorem strsB_at {n : Nat} {f : Nat → AV} (h : strsB n f = true) {i : Nat} (hi : i < n) : f i = .str (f i).toStr := AV.isStr_eq (List.all_eq_true.1 h i (by simpa using hi))
theorem rof_str_sub {n : Nat} {f : Nat → AV} {ex : Bool} (h : strsB n f = true) : (AV.rof n f ex).sub (.rof n (fun i => .str (f i).toStr) false) := by
  refine ⟨rfl, fun i hi => ?_, by simp⟩
  rw [strsB_at h hi]
  exact ⟨rfl, rfl⟩
theorem AV.str_sub (s : List UInt8) : (AV.str s).sub (.str s) := rfl
/-- The first n of a list. -/
def takeF (g : Nat → List UInt8) (n : Nat) : List UInt8 := ((List.range n).map g).flatten
theorem takeF_succ (g : Nat → List UInt8) (n : Nat) : takeF g (n + 1) = takeF g n ++ g n := by simp [takeF, List.range_succ]
theorem takeF_zero (g : Nat → List UInt8) : takeF g 0 = [] := rfl
theorem takeF_mono (g : Nat → List UInt8) {i n : Nat} (h : i ≤ n) : (takeF g i).length ≤ (takeF g n).length := by
  induction h with
  | refl => exact Nat.le_refl _
  | step _ ih => rw [takeF_succ, List.length_append]; omega
theorem takeF_at (g : Nat → List UInt8) {i n : Nat} (h : i < n) : (takeF g i).length + (g i).length ≤ (takeF g n).length := by
  have := takeF_mono g (show i + 1 ≤ n from h)
  rw [takeF_succ, List.length_append] at this
  exact this
end Pw
