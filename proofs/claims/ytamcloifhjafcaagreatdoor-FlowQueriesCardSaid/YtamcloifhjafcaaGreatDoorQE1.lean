/- QUERIES E1: ref11's restriction of a node, own queries: conditions. -/
import Derived.Test.YtamcloifhjafcaaGreatDoorQD8
namespace Go.Proofs.YtamcloifhjafcaaGreatDoor
open Pw Go
set_option maxRecDepth 100000
set_option linter.unusedSimpArgs false
abbrev ratK (c : Int) (x : NodeG) : AtomG := rsA c (nk x == 1 || nk x == 2) (nat x)
def rstK (c : Int) : Nat → NodeG → NodeG
 | 0, x => x
 | g + 1, x => .mk (nk x, nmn x, nmx x, ratK c x, ()) (x.kids.map (rstK c g))
noncomputable def cNd11 (g : Nat) : Ctr
 | [n, .int .u64 c] => some (isNode g n, nodeA (g + 1) (rstK c g (nodeOf g n)))
 | _ => none
abbrev nodeK (g : Nat) (c : Int) (x : NodeG) (k : AV) : AV := .agg [.int .i64 (nk x), .int .i64 (nmn x), .int .i64 (nmx x), .int .i64 (nat x).1, .bool (ratK c x).2.1, .int .u64 (ratK c x).2.2.1, condsA (ac (nat x)), .str (an (nat x)), k]
def invNd11 (g : Nat) (x : NodeG) (c : Int) : Inv := ⟨Nat × Nat, 50, fun p => ⟨[(1, .int .u64 c), (2, .ptr 0 0 0 0), (4, .ptr 1 0 0 0), (5, .rof x.kids.length (fun i => nodeA (g + 1) (x.kids.getD i treeD)) false), (6, .int .i64 p.1)],
 [(0, .row 0 9 false (.lst [nodeK g c x (.sl 40 p.2 0 p.1 none)])), (1, .row 0 9 true (.lst [.agg [.undef, .undef, .undef, .undef, .undef, .undef, .undef, .undef, .undef]])),
  (40, .row p.2 9 true (.fn p.1 (fun k => nodeA (g + 1) (rstK c g (x.kids.getD k treeD)))))]⟩, fun p => p.1 ≤ x.kids.length, fun p => x.kids.length - p.1⟩
noncomputable def ENd11 (g : Nat) (x : NodeG) (c : Int) : Env := { mkG Tryz.prog gN (tblOf [(38, cNd11 g)]) (fun f b => if f = 38 ∧ b = 0 then some (invNd11 g x c) else none) 0 with po := true, nq := true, fzs := fun f => if f = 38 then [10] else [] }
theorem nd11_vc (g : Nat) (x : NodeG) (c : Int) : (vcFun (ENd11 g x c) 20 38 [nodeA (g + 2) x, .int .u64 c] .nil 0 (retP 4 (nodeK g c x (.rof x.kids.length (fun i => nodeA (g + 1) (rstK c g (x.kids.getD i treeD))) false)))).sat = (let c6 := ((0 : Nat) = (0 : Nat) ∧ (0 : Nat) = (0 : Nat) ∧ (0 : Nat) = (0 : Nat))
 let c11 := fun (i : Nat) => (nodeA (g + (1 : Nat)) ((TreeG.kids x).getD i treeD))
 let c3 := ((TreeG.kids x).length = (TreeG.kids x).length ∧ (∀ (i : Nat), i < (TreeG.kids x).length → (c11 i).sub (c11 i) ∧ (c11 i).cells.length = (c11 i).cells.length) ∧ (false = true → false = true))
 let c7 := fun (i : Nat) => ((ac (nat x)).getD i condD)
 let c4 := ((ac (nat x)).length = (ac (nat x)).length ∧ (∀ (i : Nat), i < (ac (nat x)).length → ((c7 i).fst = (c7 i).fst ∧ (c7 i).snd.fst = (c7 i).snd.fst ∧ True) ∧ [AV.int IntKind.i64 (c7 i).fst, AV.int IntKind.i64 (c7 i).snd.fst].length = [AV.int IntKind.i64 (c7 i).fst, AV.int IntKind.i64 (c7 i).snd.fst].length) ∧ (false = true → false = true))
 let c8 := fun (i_1 : Nat) (i : Nat × Nat) => (if i_1 < i.fst then nodeA (g + (1 : Nat)) (rstK c g ((TreeG.kids x).getD ((0 : Nat) + i_1) treeD)) else ((Sq.lst [nodeA (g + (1 : Nat)) (rstK c g (nodeOf g (nodeA (g + (1 : Nat)) ((TreeG.kids x).getD (↑i.fst : Int).toNat treeD))))]).sub (0 : Nat) (1 : Nat)).get (i_1 - i.fst))
 let c10 := fun (i_1 : Nat) => (nodeA (g + (1 : Nat)) (rstK c g ((TreeG.kids x).getD i_1 treeD)))
 let c0 := fun (i : Nat × Nat) => (NB (decide ((0 : Int) ≤ (↑i.fst : Int) ∧ (↑i.fst : Int) < (↑(TreeG.kids x).length : Int))) (NB (isNode g (nodeA (g + (1 : Nat)) ((TreeG.kids x).getD (↑i.fst : Int).toNat treeD))) (NB (true && decide (i.snd = i.snd) && room (i.fst + (1 : Nat)) (112 : Nat)) (∃ (i' : Nat × Nat), i'.fst.le (TreeG.kids x).length ∧ (invNd11 g x c).μ i' < (invNd11 g x c).μ i ∧ (c = c ∧ c6 ∧ c6 ∧ c3 ∧ IntKind.i64.wrap ((↑i.fst : Int) + (1 : Int)) = (↑i'.fst : Int) ∧ True) ∧ ((0 : Nat) = (0 : Nat) ∧ (false = true → false = true) ∧ ((nk x = nk x ∧ nmn x = nmn x ∧ nmx x = nmx x ∧ (nat x).fst = (nat x).fst ∧ (ratK c x).snd.fst = (ratK c x).snd.fst ∧ (ratK c x).snd.snd.fst = (ratK c x).snd.snd.fst ∧ c4 ∧ an (nat x) = an (nat x) ∧ (i.snd + (1 : Nat) = i'.snd ∧ (0 : Nat) = (0 : Nat) ∧ i.fst + (1 : Nat) = i'.fst ∧ (@Eq (Option Nat) none none ∨ @Eq (Option Nat) none none)) ∧ True) ∧ [AV.int IntKind.i64 (nk x), AV.int IntKind.i64 (nmn x), AV.int IntKind.i64 (nmx x), AV.int IntKind.i64 (nat x).fst, AV.bool (ratK c x).snd.fst, AV.int IntKind.u64 (ratK c x).snd.snd.fst, AV.rof (ac (nat x)).length (fun (i : Nat) => condA (c7 i)) false, AV.str (an (nat x)), AV.sl (40 : Nat) (i.snd + (1 : Nat)) (0 : Nat) (i.fst + (1 : Nat)) none].length = [AV.int IntKind.i64 (nk x), AV.int IntKind.i64 (nmn x), AV.int IntKind.i64 (nmx x), AV.int IntKind.i64 (nat x).fst, AV.bool (ratK c x).snd.fst, AV.int IntKind.u64 (ratK c x).snd.snd.fst, condsA (ac (nat x)), AV.str (an (nat x)), AV.sl (40 : Nat) i'.snd (0 : Nat) i'.fst none].length) ∧ True) ∧ ((0 : Nat) = (0 : Nat) ∧ (true = true → true = true) ∧ ((True ∧ True ∧ True ∧ True ∧ True ∧ True ∧ True ∧ True ∧ True ∧ True) ∧ [AV.undef, AV.undef, AV.undef, AV.undef, AV.undef, AV.undef, AV.undef, AV.undef, AV.undef].length = [AV.undef, AV.undef, AV.undef, AV.undef, AV.undef, AV.undef, AV.undef, AV.undef, AV.undef].length) ∧ True) ∧ (i.snd + (1 : Nat) = i'.snd ∧ (true = true → true = true) ∧ i.fst + (1 : Nat) = i'.fst ∧ ∀ (i_1 : Nat), i_1 < i.fst + (1 : Nat) → (c8 i_1 i).sub (c10 i_1) ∧ (c8 i_1 i).cells.length = (c10 i_1).cells.length) ∧ True))))
 let c1 := fun (i : Nat × Nat) => (NB (true && (true && (true && (true && (true && (true && (true && (true && (decide (i.snd = i.snd) && true))))))))) (nk x = nk x ∧ nmn x = nmn x ∧ nmx x = nmx x ∧ (nat x).fst = (nat x).fst ∧ (ratK c x).snd.fst = (ratK c x).snd.fst ∧ (ratK c x).snd.snd.fst = (ratK c x).snd.snd.fst ∧ c4 ∧ an (nat x) = an (nat x) ∧ (i.fst = (TreeG.kids x).length ∧ (∀ (i_1 : Nat), i_1 < i.fst → (nodeA (g + (1 : Nat)) (rstK c g ((TreeG.kids x).getD ((0 : Nat) + i_1) treeD))).sub (c10 i_1) ∧ (nodeA (g + (1 : Nat)) (rstK c g ((TreeG.kids x).getD ((0 : Nat) + i_1) treeD))).cells.length = (c10 i_1).cells.length) ∧ (false = true → decide (none = some i.fst) = true)) ∧ True))
 let c9 := fun (i : Nat) => ((TreeG.val x).snd.snd.snd.fst.snd.snd.snd.fst.getD ((0 : Nat) + i) condD)
 let c2 := ((TreeG.val x).snd.snd.snd.fst.snd.snd.snd.fst.length = (ac (nat x)).length ∧ (∀ (i : Nat), i < (TreeG.val x).snd.snd.snd.fst.snd.snd.snd.fst.length → ((c9 i).fst = (c7 i).fst ∧ (c9 i).snd.fst = (c7 i).snd.fst ∧ True) ∧ [AV.int IntKind.i64 (c9 i).fst, AV.int IntKind.i64 (c9 i).snd.fst].length = [AV.int IntKind.i64 (c7 i).fst, AV.int IntKind.i64 (c7 i).snd.fst].length) ∧ (false = true → fzEx none (TreeG.val x).snd.snd.snd.fst.snd.snd.snd.fst.length = true))
 let c5 := ((0 : Nat) = (0 : Nat) ∧ (true = true → true = true) ∧ ((True ∧ True ∧ True ∧ True ∧ True ∧ True ∧ True ∧ True ∧ True ∧ True) ∧ [AV.int IntKind.i64 (0 : Int), AV.int IntKind.i64 (0 : Int), AV.int IntKind.i64 (0 : Int), AV.int IntKind.i64 (0 : Int), AV.bool false, AV.int IntKind.u64 (0 : Int), AV.nils, AV.str [], AV.nils].length = [AV.undef, AV.undef, AV.undef, AV.undef, AV.undef, AV.undef, AV.undef, AV.undef, AV.undef].length) ∧ True)
 NB (true && room ((0 : Nat) + (TreeG.val x).snd.snd.snd.fst.snd.snd.snd.fst.length) (16 : Nat)) (VB (((TreeG.val x).fst == (1 : Int) || (TreeG.val x).fst == (2 : Int)) && !(TreeG.val x).snd.snd.snd.fst.snd.fst) ((∃ (i : Nat × Nat), i.fst.le (TreeG.kids x).length ∧ (c = c ∧ c6 ∧ c6 ∧ c3 ∧ (0 : Int) = (↑i.fst : Int) ∧ True) ∧ ((0 : Nat) = (0 : Nat) ∧ (9 : Nat) = (9 : Nat) ∧ (TreeG.val x).fst = nk x ∧ (TreeG.val x).snd.fst = nmn x ∧ (TreeG.val x).snd.snd.fst = nmx x ∧ (TreeG.val x).snd.snd.snd.fst.fst = (nat x).fst ∧ true = (ratK c x).snd.fst ∧ c = (ratK c x).snd.snd.fst ∧ c2 ∧ (TreeG.val x).snd.snd.snd.fst.snd.snd.snd.snd.fst = an (nat x) ∧ (i.fst = (0 : Nat) ∧ i.snd = i.snd ∧ i.fst = (0 : Nat)) ∧ True) ∧ c5 ∧ i.fst = (0 : Nat) ∧ True) ∧ ∀ (i : Nat × Nat), i.fst.le (TreeG.kids x).length → VB (decide ((↑i.fst : Int) < (↑(TreeG.kids x).length : Int))) (c0 i) (c1 i)) ((∃ (i : Nat × Nat), i.fst.le (TreeG.kids x).length ∧ (c = c ∧ c6 ∧ c6 ∧ c3 ∧ (0 : Int) = (↑i.fst : Int) ∧ True) ∧ ((0 : Nat) = (0 : Nat) ∧ (9 : Nat) = (9 : Nat) ∧ (TreeG.val x).fst = nk x ∧ (TreeG.val x).snd.fst = nmn x ∧ (TreeG.val x).snd.snd.fst = nmx x ∧ (TreeG.val x).snd.snd.snd.fst.fst = (nat x).fst ∧ (TreeG.val x).snd.snd.snd.fst.snd.fst = (ratK c x).snd.fst ∧ (TreeG.val x).snd.snd.snd.fst.snd.snd.fst = (ratK c x).snd.snd.fst ∧ c2 ∧ (TreeG.val x).snd.snd.snd.fst.snd.snd.snd.snd.fst = an (nat x) ∧ (i.fst = (0 : Nat) ∧ i.snd = i.snd ∧ i.fst = (0 : Nat)) ∧ True) ∧ c5 ∧ i.fst = (0 : Nat) ∧ True) ∧ ∀ (i : Nat × Nat), i.fst.le (TreeG.kids x).length → VB (decide ((↑i.fst : Int) < (↑(TreeG.kids x).length : Int))) (c0 i) (c1 i)))) := by
 kernel_rfl
end Go.Proofs.YtamcloifhjafcaaGreatDoor
namespace Go.Proofs.YtamcloifhjafcaaGreatDoor
open Pw Go
set_option maxRecDepth 100000
set_option linter.unusedSimpArgs false
theorem nd_of {g : Nat} (h : ∀ (c : Int) (x : NodeG), litB g x = true → PureC Tryz.prog gN 38 [nodeA (g + 1) x, .int .u64 c] (nodeA (g + 1) (rstK c g x))) : PureG Tryz.prog gN 38 (cNd11 g) := by
 intro args nd v he hnd
 unfold cNd11 at he
 split at he <;> cases he
 refine pureN_node hnd fun x hx e => ?_
 rw [e]
 exact h _ x hx
theorem ratK_f (c : Int) {x : NodeG} (h : ((nk x == 1 || nk x == 2) && !(nat x).2.1) = false) : ratK c x = nat x := by
 show (if ((nk x == 1 || nk x == 2) && !(nat x).2.1) = true then _ else _) = _
 rw [h]; rfl
theorem ratK_t (c : Int) {x : NodeG} (h : ((nk x == 1 || nk x == 2) && !(nat x).2.1) = true) : (ratK c x).2.1 = true ∧ (ratK c x).2.2.1 = c := by
 have e : ratK c x = ((nat x).1, true, c, (nat x).2.2.2.1, (nat x).2.2.2.2.1, ()) := if_pos h
 rw [e]
 exact ⟨rfl, rfl⟩
theorem nd_pure : ∀ (g : Nat) (c : Int) (x : NodeG), litB g x = true → PureC Tryz.prog gN 38 [nodeA (g + 1) x, .int .u64 c] (nodeA (g + 1) (rstK c g x))
 | 0, _, _, h => by cases h
 | g + 1, c, x, hl => by
  have hk40 := litB_kids hl
  have hc10 := litB_conds hl
  have key : PureC Tryz.prog gN 38 [nodeA (g + 2) x, .int .u64 c] (nodeK g c x (.rof x.kids.length (fun i => nodeA (g + 1) (rstK c g (x.kids.getD i treeD))) false)) := by
   refine pure_vcE (E := ENd11 g x c) (k := 20) (d := 4) mix ⟨(mkG_ctr (P := Tryz.prog) (gl := gN) (inv := fun _ _ => none) (n := 0) (tblG_cons (nd_of fun c y hy => nd_pure g c y hy) (tblG_nil _ _))).1, itr_none rfl⟩ ((nd11_vc g x c).mpr (NB_intro ?_ ?_))
   ·have hc10 : (nat x).2.2.2.1.length ≤ 10 := hc10
    simp only [Bool.true_and, Nat.zero_add, room]
    exact decide_eq_true (by omega)
   ·refine VB_intro (fun hb => ?_) (fun hb => ?_)
    ·obtain ⟨e1, e2⟩ := ratK_t c hb
     simp only [nodeA_refl, EqI, true_and, and_true, and_self, imp_self, implies_true, Int.toNat_natCast, Nat.zero_add, or_self, Bool.true_and, decide_true, Bool.and_true, e1, e2]
     refine ⟨⟨(0, 0), Nat.zero_le _, by simp⟩, fun i hi => ?_⟩
     obtain ⟨i, q⟩ := i
     have hi : i ≤ x.kids.length := hi
     simp only at hi ⊢
     refine VB_intro (fun h => ?_) (fun h => ?_)
     ·have hlt : i < x.kids.length := by have := of_decide_eq_true h; omega
      have hkl := litB_kid hl hlt
      rw [isNode_of hkl (by omega), nodeOf_of hkl (by omega)]
      refine NB_intro (decide_eq_true (by omega)) (NB_intro rfl (NB_intro (by simp [room]; omega) ⟨(i + 1, q + 1), hlt, by show x.kids.length - (i + 1) < x.kids.length - i; omega, by rw [wrap_i64_id (by omega) (by omega)]; rfl, ⟨⟨rfl, rfl⟩, by trivial⟩, rfl, rfl, fun j hj => ?_⟩))
      exact sb_app (f := fun q => nodeA (g + 1) (rstK c g (x.kids.getD q treeD))) (G := fun q => nodeA (g + 1) (rstK c g (x.kids.getD q treeD))) (fun q _ => ⟨nodeA_sub _ 0 _, rfl⟩) ⟨nodeA_sub _ 0 _, rfl⟩ j hj
     ·have := of_decide_eq_false h
      exact NB_intro rfl ⟨by omega, fun h => by cases h⟩
    ·have e := ratK_f c hb
     simp only [nodeA_refl, EqI, true_and, and_true, and_self, imp_self, implies_true, Int.toNat_natCast, Nat.zero_add, or_self, Bool.true_and, decide_true, Bool.and_true, e]
     refine ⟨⟨(0, 0), Nat.zero_le _, by simp⟩, fun i hi => ?_⟩
     obtain ⟨i, q⟩ := i
     have hi : i ≤ x.kids.length := hi
     simp only at hi ⊢
     refine VB_intro (fun h => ?_) (fun h => ?_)
     ·have hlt : i < x.kids.length := by have := of_decide_eq_true h; omega
      have hkl := litB_kid hl hlt
      rw [isNode_of hkl (by omega), nodeOf_of hkl (by omega)]
      refine NB_intro (decide_eq_true (by omega)) (NB_intro rfl (NB_intro (by simp [room]; omega) ⟨(i + 1, q + 1), hlt, by show x.kids.length - (i + 1) < x.kids.length - i; omega, by rw [wrap_i64_id (by omega) (by omega)]; rfl, ⟨⟨rfl, rfl⟩, by trivial⟩, rfl, rfl, fun j hj => ?_⟩))
      exact sb_app (f := fun q => nodeA (g + 1) (rstK c g (x.kids.getD q treeD))) (G := fun q => nodeA (g + 1) (rstK c g (x.kids.getD q treeD))) (fun q _ => ⟨nodeA_sub _ 0 _, rfl⟩) ⟨nodeA_sub _ 0 _, rfl⟩ j hj
     ·have := of_decide_eq_false h
      exact NB_intro rfl ⟨by omega, fun h => by cases h⟩
  refine pureRes key ?_
  have hA : nodeA (g + 2) (rstK c (g + 1) x) = .agg [.int .i64 (nk x), .int .i64 (nmn x), .int .i64 (nmx x), .int .i64 (ratK c x).1, .bool (ratK c x).2.1, .int .u64 (ratK c x).2.2.1, condsA (ac (ratK c x)), .str (an (ratK c x)), .rof (x.kids.map (rstK c g)).length (fun i => nodeA (g + 1) ((x.kids.map (rstK c g)).getD i treeD)) false] := rfl
  rw [hA, rsA_k, rsA_ac, rsA_an, List.length_map]
  refine subL9 (int_sub _ _) (int_sub _ _) (int_sub _ _) (int_sub _ _) (bool_sub _) (int_sub _ _) (condsA_refl _) (AV.str_sub _) ⟨rfl, fun i hi => ?_, fun h => h⟩
  have hg : (x.kids.map (rstK c g)).getD i treeD = rstK c g (x.kids.getD i treeD) := by simp [List.getD, hi]
  simp only [hg]
  exact ⟨nodeA_sub _ 0 _, trivial⟩
end Go.Proofs.YtamcloifhjafcaaGreatDoor
