/- NODES 15: the iterator of nodes, conditions. -/
import Derived.Test.YtamcloifhjafcaaGreatDoorAN13
namespace Go.Proofs.YtamcloifhjafcaaGreatDoor
open Pw Go
set_option maxRecDepth 100000
set_option linter.unusedSimpArgs false
abbrev elA (p : Int × NodeG) : List AV := [.int .i64 p.1, nodeA 4 p.2]
def itOf (g : Nat) (d : Int) (x : NodeG) (nd : Bool) : Itr := ⟨nd, (elems g d x).length, fun j => elA ((elems g d x).getD j (0, treeD)), .tup [], .tup []⟩
def reN (x : AV) (K : AV → Option Itr) : Option Itr :=
 match x with
 | .agg [.int .i64 a, .int .i64 b, .int .i64 c, .int .i64 k, .bool bd, .int .u64 bo, .rof cn cf e1, .str nm, .rof kn kf e2] => K (.agg [.int .i64 a, .int .i64 b, .int .i64 c, .int .i64 k, .bool bd, .int .u64 bo, .rof cn cf e1, .str nm, .rof kn kf e2])
 | _ => none
def itV (g : Nat) : FuncId → List AV → List AV → Option Itr := fun h first cap =>
 if h = 87 then
  match first, cap with
  | [], [.rptr (.int .i64 d) 0, .rptr n 0] => reN n fun n => some (itOf g d (nodeOf g n) (isNode g n && decide (0 ≤ d) && decide (d + (g : Int) ≤ 1000)))
  | _, _ => none
 else none
def cntK (g : Nat) (d : Int) (l : List NodeG) (i : Nat) : Nat := ((l.take i).map (elems g d)).flatten.length
def invV (g : Nat) (d : Int) (x : NodeG) (sp : AbsS) : Inv := ⟨Nat, 50, fun i => ⟨[(1, .rptr (.int .i64 d) 0), (2, .rptr (nodeA (g + 5) x) 0), (3, .ptr 1 0 0 0), (14, kidsA (g + 4) x), (15, .int .i64 x.kids.length), (16, .int .i64 i)],
 [(0, .loop (.abs (1 + cntK g (d + 1) x.kids i) true sp) noRec), (1, .row 0 1 false (.lst [.yld 0]))]⟩, fun i => i ≤ x.kids.length, fun i => x.kids.length - i⟩
def invVI (g : Nat) (d : Int) (x : NodeG) (sp : AbsS) (i : Nat) : Inv := ⟨Nat, 80, fun j => ⟨[], [(0, .loop (.abs (1 + cntK g (d + 1) x.kids i + j) true sp) noRec), (1, .row 0 1 false (.lst [.yld 0]))]⟩, fun j => j ≤ (elems g (d + 1) (x.kids.getD i treeD)).length, fun j => j⟩
def spOf (s : St) : Option AbsS := match s.hp.get .dead 0 with | .loop (.abs _ _ sp) _ => some sp | _ => none
def spI (s : St) : Option (AbsS × Nat) := match s.hp.get .dead 0 with
 | .loop (.abs _ _ sp) _ => match s.tm.get .undef 16 with
  | .int _ n => some (sp, n.toNat)
  | _ => none
 | _ => none
noncomputable def EV (g : Nat) (d : Int) (x : NodeG) : Env := { mkG Tryz.prog gN (tblOf []) (fun _ _ => none) 0 with itr := itV g, invS := fun f b s => if f = 87 ∧ b = 0 then match spOf s with | some sp => some (invV g d x sp) | none => none else if f = 87 ∧ b = 200008 then match spI s with | some (sp, i) => some (invVI g d x sp i) | none => none else none }
theorem visit_vc (g : Nat) (d : Int) (x : NodeG) (l n0 : Nat) (M0 : Nat → Nat → Option Value) (Φ Ψ : Nat → (Nat → Prop) → (Nat → Prop) → World → Prop) : (vcFun (EV g d x) 20 87 [.yld 0, .rptr (.int .i64 d) 0, .rptr (nodeA (g + 5) x) 0] (.node (.loop (.abs 0 true (AbsS.of Tryz.prog (itOf (g + 1) d x true) l n0 M0 Φ Ψ)) noRec) .nil .nil) 1 (retI (itOf (g + 1) d x true))).sat = (let c4 := (itOf (g + (1 : Nat)) d x true)
 let c0 := fun (i : Nat) => (invVI g d x (AbsS.of Tryz.prog c4 l n0 M0 Φ Ψ) (↑i : Int).toNat)
 let c1 := ((0 : Nat) = (0 : Nat) ∧ (false = true → false = true) ∧ ((0 : Nat) = (0 : Nat) ∧ [AV.yld (0 : Nat)].length = [AV.yld (0 : Nat)].length) ∧ True)
 let c8 := fun (i : Nat) => (nodeA (g + (4 : Nat)) ((TreeG.kids x).getD i treeD))
 let c2 := ((TreeG.kids x).length = (TreeG.kids x).length ∧ (∀ (i : Nat), i < (TreeG.kids x).length → (c8 i).sub (c8 i) ∧ (c8 i).cells.length = (c8 i).cells.length) ∧ (false = true → false = true))
 let c3 := fun (i : Nat) => (elems g (IntKind.i64.wrap (d + (1 : Int))) (nodeOf g (nodeA (g + (4 : Nat)) ((TreeG.kids x).getD (↑i : Int).toNat treeD))))
 let c5 := fun (i : Nat) => (elems g (d + (1 : Int)) ((TreeG.kids x).getD (↑i : Int).toNat treeD))
 let c6 := (((nodeA (g + (5 : Nat)) x).sub (nodeA (g + (5 : Nat)) x) ∧ (nodeA (g + (5 : Nat)) x).cells.length = (nodeA (g + (5 : Nat)) x).cells.length) ∧ (0 : Nat) = (0 : Nat))
 let c7 := (↑(TreeG.kids x).length : Int)
 let c9 := (elems (g + (1 : Nat)) d x)
 let c10 := ((d = d ∧ [AV.int IntKind.i64 d].length = [AV.int IntKind.i64 d].length) ∧ (0 : Nat) = (0 : Nat))
 (Tryz.prog = Tryz.prog ∧ (0 : Nat) < c9.length ∧ AV.subL [AV.int IntKind.i64 d, nodeA (g + (5 : Nat)) x] [AV.int IntKind.i64 d, nodeA (4 : Nat) x]) ∧ ((∃ (i : Nat), i.le (TreeG.kids x).length ∧ (c10 ∧ c6 ∧ ((0 : Nat) = (0 : Nat) ∧ (0 : Nat) = (0 : Nat) ∧ (0 : Nat) = (0 : Nat)) ∧ c2 ∧ c7 = c7 ∧ (0 : Int) = (↑i : Int) ∧ True) ∧ ((0 : Nat) + (1 : Nat) = (1 : Nat) + cntK g (d + (1 : Int)) (TreeG.kids x) i ∧ true = true ∧ AbsS.of Tryz.prog c4 l n0 M0 Φ Ψ = AbsS.of Tryz.prog c4 l n0 M0 Φ Ψ) ∧ c1 ∧ True) ∧ ∀ (i : Nat), i.le (TreeG.kids x).length → VB (decide ((↑i : Int) < c7)) (NB (decide ((0 : Int) ≤ (↑i : Int) ∧ (↑i : Int) < c7)) (NB (isNode g (nodeA (g + (4 : Nat)) ((TreeG.kids x).getD (↑i : Int).toNat treeD)) && decide ((0 : Int) ≤ IntKind.i64.wrap (d + (1 : Int))) && decide (IntKind.i64.wrap (d + (1 : Int)) + (↑g : Int) ≤ (1000 : Int)) && true && true && true && true) ((∃ (i_1 : Nat), i_1.le (c5 i).length ∧ (c0 i).μ i_1 = (0 : Nat) ∧ True ∧ ((1 : Nat) + cntK g (d + (1 : Int)) (TreeG.kids x) i = (1 : Nat) + cntK g (d + (1 : Int)) (TreeG.kids x) (↑i : Int).toNat + i_1 ∧ true = true ∧ AbsS.of Tryz.prog c4 l n0 M0 Φ Ψ = AbsS.of Tryz.prog c4 l n0 M0 Φ Ψ) ∧ c1 ∧ True) ∧ (∀ (i_1 : Nat), i_1.le (c5 i).length ∧ (c0 i).μ i_1 < (c3 i).length → (Tryz.prog = Tryz.prog ∧ (1 : Nat) + cntK g (d + (1 : Int)) (TreeG.kids x) (↑i : Int).toNat + i_1 < c9.length ∧ AV.subL [AV.int IntKind.i64 ((c3 i).getD ((c0 i).μ i_1) ((0 : Int), treeD)).fst, nodeA (4 : Nat) ((c3 i).getD ((c0 i).μ i_1) ((0 : Int), treeD)).snd] [AV.int IntKind.i64 (c9.getD ((1 : Nat) + cntK g (d + (1 : Int)) (TreeG.kids x) (↑i : Int).toNat + i_1) ((0 : Int), treeD)).fst, nodeA (4 : Nat) (c9.getD ((1 : Nat) + cntK g (d + (1 : Int)) (TreeG.kids x) (↑i : Int).toNat + i_1) ((0 : Int), treeD)).snd]) ∧ (∃ (i' : Nat), i'.le (c5 i).length ∧ (c0 i).μ i' = (c0 i).μ i_1 + (1 : Nat) ∧ True ∧ ((1 : Nat) + cntK g (d + (1 : Int)) (TreeG.kids x) (↑i : Int).toNat + i_1 + (1 : Nat) = (1 : Nat) + cntK g (d + (1 : Int)) (TreeG.kids x) (↑i : Int).toNat + i' ∧ true = true ∧ AbsS.of Tryz.prog c4 l n0 M0 Φ Ψ = AbsS.of Tryz.prog c4 l n0 M0 Φ Ψ) ∧ c1 ∧ True) ∧ True) ∧ ∀ (i_1 : Nat), i_1.le (c5 i).length ∧ (c0 i).μ i_1 = (c3 i).length → ∃ (i' : Nat), i'.le (TreeG.kids x).length ∧ (invV g d x (AbsS.of Tryz.prog c4 l n0 M0 Φ Ψ)).μ i' < (invV g d x (AbsS.of Tryz.prog c4 l n0 M0 Φ Ψ)).μ i ∧ (c10 ∧ c6 ∧ ((0 : Nat) = (0 : Nat) ∧ (0 : Nat) = (0 : Nat) ∧ (0 : Nat) = (0 : Nat)) ∧ c2 ∧ c7 = c7 ∧ IntKind.i64.wrap ((↑i : Int) + (1 : Int)) = (↑i' : Int) ∧ True) ∧ ((1 : Nat) + cntK g (d + (1 : Int)) (TreeG.kids x) (↑i : Int).toNat + i_1 = (1 : Nat) + cntK g (d + (1 : Int)) (TreeG.kids x) i' ∧ true = true ∧ AbsS.of Tryz.prog c4 l n0 M0 Φ Ψ = AbsS.of Tryz.prog c4 l n0 M0 Φ Ψ) ∧ c1 ∧ True))) (True ∧ (1 : Nat) + cntK g (d + (1 : Int)) (TreeG.kids x) i = c9.length)) ∧ True) := by
 kernel_rfl
end Go.Proofs.YtamcloifhjafcaaGreatDoor
