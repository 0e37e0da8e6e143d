/- TREES L: conditions of line.Atoms, nfa.Check, Lines, Ends, Path, Depth. -/
import Derived.Test.YtlnpgnipocbfhaaNLJ
namespace Go.Proofs.Ytlnpgnipocbfhaa
open Pw Go
set_option maxRecDepth 100000
set_option linter.unusedSimpArgs false
noncomputable def cLines : Ctr
 | [X] => some (isTree X && shortT (treeDec X), .tup [linesA (linesE (treeDec X)).1, intsA (linesE (treeDec X)).2.1, .bool (linesE (treeDec X)).2.2])
 | _ => none
def invAt (l : List SlotG) : Inv := ⟨Nat × Nat, 30, fun p => ⟨[(3, .sl 20 p.2 0 p.1 none), (7, slotsA l), (8, .int .i64 l.length), (9, .int .i64 p.1)], [(20, .row p.2 1 true (.fn p.1 fun k => .int .i64 (l.getD k slotD').1))]⟩,
 fun p => p.1 ≤ l.length, fun p => l.length - p.1⟩
noncomputable def ECl : Env := mkE Try.prog (tblOf [(35, cLines)]) (fun _ _ => none)
theorem linesT_vc (t : List TwigG) (L : List (List SlotG)) (r : Int) : (vcFun ECl 20 11 [treeA t] .nil 0 (retP 3 (.tup [linesA L, .int .i64 r]))).sat = ( NB (isTree (AV.agg [AV.rof t.length (fun (k : Nat) => twigA (t.getD k twigD)) false]) && shortT (treeDec (AV.agg [AV.rof t.length (fun (k : Nat) => twigA (t.getD k twigD)) false]))) (VB (!(linesE (treeDec (AV.agg [AV.rof t.length (fun (k : Nat) => twigA (t.getD k twigD)) false]))).snd.snd) (L.length = (0 : Nat) ∧ (3 : Int) = r ∧ True) (((linesE (treeDec (AV.agg [AV.rof t.length (fun (k : Nat) => twigA (t.getD k twigD)) false]))).fst.length = L.length ∧ (∀ (i : Nat), i < (linesE (treeDec (AV.agg [AV.rof t.length (fun (k : Nat) => twigA (t.getD k twigD)) false]))).fst.length → ((((linesE (treeDec (AV.agg [AV.rof t.length (fun (k : Nat) => twigA (t.getD k twigD)) false]))).fst.getD i []).length = (L.getD i []).length ∧ (∀ (i_1 : Nat), i_1 < ((linesE (treeDec (AV.agg [AV.rof t.length (fun (k : Nat) => twigA (t.getD k twigD)) false]))).fst.getD i []).length → ((((linesE (treeDec (AV.agg [AV.rof t.length (fun (k : Nat) => twigA (t.getD k twigD)) false]))).fst.getD i []).getD i_1 slotD').fst = ((L.getD i []).getD i_1 slotD').fst ∧ ((((linesE (treeDec (AV.agg [AV.rof t.length (fun (k : Nat) => twigA (t.getD k twigD)) false]))).fst.getD i []).getD i_1 slotD').gds.length = ((L.getD i []).getD i_1 slotD').gds.length ∧ (∀ (i_2 : Nat), i_2 < (((linesE (treeDec (AV.agg [AV.rof t.length (fun (k : Nat) => twigA (t.getD k twigD)) false]))).fst.getD i []).getD i_1 slotD').gds.length → (((linesE (treeDec (AV.agg [AV.rof t.length (fun (k : Nat) => twigA (t.getD k twigD)) false]))).fst.getD i []).getD i_1 slotD').gds.getD i_2 (0 : Int) = ((L.getD i []).getD i_1 slotD').gds.getD i_2 (0 : Int) ∧ (1 : Nat) = (1 : Nat)) ∧ (false = true → false = true)) ∧ True) ∧ (2 : Nat) = (2 : Nat)) ∧ (false = true → false = true)) ∧ True) ∧ (1 : Nat) = (1 : Nat)) ∧ (false = true → false = true)) ∧ (0 : Int) = r ∧ True))) := by
 kernel_rfl
end Go.Proofs.Ytlnpgnipocbfhaa
namespace Go.Proofs.Ytlnpgnipocbfhaa
open Pw Go
set_option maxRecDepth 100000
set_option linter.unusedSimpArgs false
theorem lines_ok : PureF Try.prog 35 cLines := by
 intro args nd v he hnd
 unfold cLines at he
 split at he <;> cases he
 rename_i X
 simp only [Bool.and_eq_true] at hnd
 refine PureC.args (args' := [treeA (treeDec X)]) rfl (fun i hi => ?_) (lines_pure _ _ _ _ hnd.2 rfl)
 match i, hi with
 | 0, _ => exact tree_sub hnd.1
theorem ECl_ok : CtrOK ECl := mkE_ctr (tbl_cons lines_ok (tbl_nil _))
noncomputable def linesR (t : List TwigG) : List (List SlotG) × Int := if (linesE t).2.2 = true then ((linesE t).1, 0) else ([], 3)
theorem linesT_pure (t : List TwigG) (L : List (List SlotG)) (r : Int) (hs : shortT t = true) (hr : linesR t = (L, r)) : PureC Try.prog gU 11 [treeA t] (.tup [linesA L, .int .i64 r]) := by
 refine PureC.of_vc (E := ECl) (k := 20) (d := 3) mix ECl_ok ?_
 refine (linesT_vc t L r).mpr ?_
 have hT : treeDec (AV.agg [AV.rof t.length (fun (k : Nat) => twigA (t.getD k twigD)) false]) = t := treeDec_self t
 have hI : isTree (AV.agg [AV.rof t.length (fun (k : Nat) => twigA (t.getD k twigD)) false]) = true := isTree_self t
 rw [hT, hI]
 refine NB_intro (by rw [hs]; rfl) (VB_intro (fun h => ?_) (fun h => ?_))
 ·rw [linesR, if_neg (by simpa using h)] at hr
  simp only [Prod.mk.injEq] at hr
  obtain ⟨rfl, rfl⟩ := hr
  exact ⟨rfl, rfl, trivial⟩
 ·rw [linesR, if_pos (by simpa using h)] at hr
  simp only [Prod.mk.injEq] at hr
  obtain ⟨rfl, rfl⟩ := hr
  exact ⟨⟨rfl, fun _ _ => ⟨⟨⟨rfl, fun _ _ => ⟨⟨rfl, ⟨rfl, fun _ _ => ⟨rfl, rfl⟩, fun h => h⟩, trivial⟩, rfl⟩, fun h => h⟩, trivial⟩, rfl⟩, fun h => h⟩, rfl, trivial⟩
end Go.Proofs.Ytlnpgnipocbfhaa
