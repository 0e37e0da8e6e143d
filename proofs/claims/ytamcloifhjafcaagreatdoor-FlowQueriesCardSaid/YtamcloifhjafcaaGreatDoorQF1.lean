/- QUERIES 1: ref10's list of nodes, numbers of things, ranges: conditions. -/
import Derived.Test.YtamcloifhjafcaaGreatDoorWF5
namespace Go.Proofs.YtamcloifhjafcaaGreatDoor
open Pw Go
set_option maxRecDepth 100000
set_option linter.unusedSimpArgs false
def cAll (g : Nat) : Ctr
 | [n] => some (isNode g n && decide ((nds g (nodeOf g n)).length ≤ 1000), .rof (nds g (nodeOf g n)).length (fun k => nodeA 2 ((nds g (nodeOf g n)).getD k treeD)) false)
 | _ => none
def ndK (g : Nat) (x : NodeG) (i : Nat) : List NodeG := x :: ((x.kids.take i).map (nds g)).flatten
def invAll (g : Nat) (x : NodeG) : Inv := ⟨Nat × Nat, 70, fun p => ⟨[(1, .ptr 0 0 0 0), (3, .sl 1 p.2 0 (ndK g x p.1).length none), (4, .int .i64 p.1)], [(0, .row 0 9 true (.lst [nodeA (g + 2) x])), (1, .row p.2 9 true (.fn (ndK g x p.1).length (fun k => nodeA 2 ((ndK g x p.1).getD k treeD))))]⟩, fun p => p.1 ≤ x.kids.length, fun p => x.kids.length - p.1⟩
def atmC (L : List NodeG) (i : Nat) : Nat := (L.take i).countP fun y => nk y == 1 || nk y == 2
abbrev ndsA (L : List NodeG) : AV := .rof L.length (fun k => nodeA 2 (L.getD k treeD)) false
def invFul (x : NodeG) (w : Int) (hs : List HaveG) (es : List AggG) (L : List NodeG) : Inv := ⟨Nat, 50, fun i => ⟨[(1, .ptr 0 0 0 0), (3, .int .i64 (atmC L i)), (4, ndsA L), (5, .int .i64 i)], [(0, .row 0 12 true (.lst [qA x w hs es]))]⟩, fun i => i ≤ L.length ∧ ∀ j, j < i → fulP (L.getD j treeD) = false, fun i => L.length - i⟩
def invRng (x : NodeG) (w : Int) (hs : List HaveG) (es : List AggG) (L : List NodeG) : Inv := ⟨Nat, 50, fun i => ⟨[(1, .ptr 0 0 0 0), (3, ndsA L), (4, .int .i64 i)], [(0, .row 0 12 true (.lst [qA x w hs es]))]⟩, fun i => i ≤ L.length ∧ ∀ j, j < i → rngP (L.getD j treeD) = false, fun i => L.length - i⟩
noncomputable def EFul (x : NodeG) (w : Int) (hs : List HaveG) (es : List AggG) (L : List NodeG) : Env := { mkG Tryz.prog gN (tblOf [(72, cAt [nodeA 16 x] (ndsA L))]) (fun f b => if f = 51 ∧ b = 0 then some (invFul x w hs es L) else if f = 54 ∧ b = 0 then some (invRng x w hs es L) else none) 0 with po := true }
theorem all_vc (g : Nat) (x : NodeG) (L : List NodeG) : (vcFun (mkG Tryz.prog gN (tblOf [(72, cAll g)]) (fun f b => if f = 72 ∧ b = 0 then some (invAll g x) else none) 0) 20 72 [nodeA (g + 2) x] .nil 0 (retP 4 (ndsA L))).sat = ( (∃ (i : Nat × Nat), i.fst.le (TreeG.kids x).length ∧ (((0 : Nat) = (0 : Nat) ∧ (0 : Nat) = (0 : Nat) ∧ (0 : Nat) = (0 : Nat)) ∧ ((0 : Nat) = i.snd ∧ (0 : Nat) = (0 : Nat) ∧ (1 : Nat) = (ndK g x i.fst).length ∧ (some (1 : Nat) = none ∨ @Eq (Option Nat) none none)) ∧ (0 : Int) = (↑i.fst : Int) ∧ True) ∧ ((0 : Nat) = (0 : Nat) ∧ (true = true → true = true) ∧ ((nodeA (g + (2 : Nat)) x).sub (nodeA (g + (2 : Nat)) x) ∧ (nodeA (g + (2 : Nat)) x).cells.length = (nodeA (g + (2 : Nat)) x).cells.length) ∧ True) ∧ ((0 : Nat) = i.snd ∧ (true = true → true = true) ∧ [nodeA (g + (2 : Nat)) x].length = (ndK g x i.fst).length ∧ ((nodeA (g + (2 : Nat)) x).sub (nodeA (2 : Nat) ((ndK g x i.fst).getD (0 : Nat) treeD)) ∧ (nodeA (g + (2 : Nat)) x).cells.length = (nodeA (2 : Nat) ((ndK g x i.fst).getD (0 : Nat) treeD)).cells.length) ∧ True) ∧ True) ∧ ∀ (i : Nat × Nat), i.fst.le (TreeG.kids x).length → VB (decide ((↑i.fst : Int) < (↑(TreeG.kids x).length : Int))) (NB (decide ((0 : Int) ≤ (↑i.fst : Int) ∧ (↑i.fst : Int) < (↑(TreeG.kids x).length : Int))) (NB (isNode g (nodeA (g + (1 : Nat)) ((TreeG.kids x).getD (↑i.fst : Int).toNat (TreeG.mk nodeD []))) && decide ((nds g (nodeOf g (nodeA (g + (1 : Nat)) ((TreeG.kids x).getD (↑i.fst : Int).toNat (TreeG.mk nodeD []))))).length ≤ (1000 : Nat))) (NB (true && decide (i.snd = i.snd) && room ((ndK g x i.fst).length + (nds g (nodeOf g (nodeA (g + (1 : Nat)) ((TreeG.kids x).getD (↑i.fst : Int).toNat (TreeG.mk nodeD []))))).length) (112 : Nat)) (∃ (i' : Nat × Nat), i'.fst.le (TreeG.kids x).length ∧ (invAll g x).μ i' < (invAll g x).μ i ∧ (((0 : Nat) = (0 : Nat) ∧ (0 : Nat) = (0 : Nat) ∧ (0 : Nat) = (0 : Nat)) ∧ (i.snd + (1 : Nat) = i'.snd ∧ (0 : Nat) = (0 : Nat) ∧ (ndK g x i.fst).length + (nds g (nodeOf g (nodeA (g + (1 : Nat)) ((TreeG.kids x).getD (↑i.fst : Int).toNat (TreeG.mk nodeD []))))).length = (ndK g x i'.fst).length ∧ (@Eq (Option Nat) none none ∨ @Eq (Option Nat) none none)) ∧ IntKind.i64.wrap ((↑i.fst : Int) + (1 : Int)) = (↑i'.fst : Int) ∧ True) ∧ ((0 : Nat) = (0 : Nat) ∧ (true = true → true = true) ∧ ((nodeA (g + (2 : Nat)) x).sub (nodeA (g + (2 : Nat)) x) ∧ (nodeA (g + (2 : Nat)) x).cells.length = (nodeA (g + (2 : Nat)) x).cells.length) ∧ True) ∧ (i.snd + (1 : Nat) = i'.snd ∧ (true = true → true = true) ∧ (ndK g x i.fst).length + (nds g (nodeOf g (nodeA (g + (1 : Nat)) ((TreeG.kids x).getD (↑i.fst : Int).toNat (TreeG.mk nodeD []))))).length = (ndK g x i'.fst).length ∧ ∀ (i_1 : Nat), i_1 < (ndK g x i.fst).length + (nds g (nodeOf g (nodeA (g + (1 : Nat)) ((TreeG.kids x).getD (↑i.fst : Int).toNat (TreeG.mk nodeD []))))).length → (if i_1 < (ndK g x i.fst).length then nodeA (2 : Nat) ((ndK g x i.fst).getD ((0 : Nat) + i_1) treeD) else nodeA (2 : Nat) ((nds g (nodeOf g (nodeA (g + (1 : Nat)) ((TreeG.kids x).getD (↑i.fst : Int).toNat (TreeG.mk nodeD []))))).getD (i_1 - (ndK g x i.fst).length) treeD)).sub (nodeA (2 : Nat) ((ndK g x i'.fst).getD i_1 treeD)) ∧ (if i_1 < (ndK g x i.fst).length then nodeA (2 : Nat) ((ndK g x i.fst).getD ((0 : Nat) + i_1) treeD) else nodeA (2 : Nat) ((nds g (nodeOf g (nodeA (g + (1 : Nat)) ((TreeG.kids x).getD (↑i.fst : Int).toNat (TreeG.mk nodeD []))))).getD (i_1 - (ndK g x i.fst).length) treeD)).cells.length = (nodeA (2 : Nat) ((ndK g x i'.fst).getD i_1 treeD)).cells.length) ∧ True)))) (NB (decide (i.snd = i.snd)) ((ndK g x i.fst).length = L.length ∧ (∀ (i_1 : Nat), i_1 < (ndK g x i.fst).length → (nodeA (2 : Nat) ((ndK g x i.fst).getD ((0 : Nat) + i_1) treeD)).sub (nodeA (2 : Nat) (L.getD i_1 treeD)) ∧ (nodeA (2 : Nat) ((ndK g x i.fst).getD ((0 : Nat) + i_1) treeD)).cells.length = (nodeA (2 : Nat) (L.getD i_1 treeD)).cells.length) ∧ (false = true → decide (none = some (ndK g x i.fst).length) = true)))) := by
 kernel_rfl
theorem full10_vc (x : NodeG) (w : Int) (hs : List HaveG) (es : List AggG) (L : List NodeG) (r : Bool) : (vcFun (EFul x w hs es L) 20 51 [qA x w hs es] .nil 0 (retP 3 (.bool r))).sat = ( NB (atB [nodeA (16 : Nat) x] [nodeA (16 : Nat) x]) ((∃ (i : Nat), (i ≤ L.length ∧ ∀ (j : Nat), j < i → fulP (L.getD j treeD) = false) ∧ (((0 : Nat) = (0 : Nat) ∧ (0 : Nat) = (0 : Nat) ∧ (0 : Nat) = (0 : Nat)) ∧ (0 : Int) = (↑(atmC L i) : Int) ∧ (L.length = L.length ∧ (∀ (i : Nat), i < L.length → (nodeA (2 : Nat) (L.getD i treeD)).sub (nodeA (2 : Nat) (L.getD i treeD)) ∧ (nodeA (2 : Nat) (L.getD i treeD)).cells.length = (nodeA (2 : Nat) (L.getD i treeD)).cells.length) ∧ (false = true → false = true)) ∧ (0 : Int) = (↑i : Int) ∧ True) ∧ ((0 : Nat) = (0 : Nat) ∧ (true = true → true = true) ∧ ((qA x w hs es).sub (qA x w hs es) ∧ (qA x w hs es).cells.length = (qA x w hs es).cells.length) ∧ True) ∧ True) ∧ ∀ (i : Nat), (i ≤ L.length ∧ ∀ (j : Nat), j < i → fulP (L.getD j treeD) = false) → VB (decide ((↑i : Int) < (↑L.length : Int))) (NB (decide ((0 : Int) ≤ (↑i : Int) ∧ (↑i : Int) < (↑L.length : Int))) (NB (impB (isW false ((TreeG.val (L.getD (↑i : Int).toNat treeD)).fst == (1 : Int))) (decide ((0 : Int) ≤ (↑i : Int) ∧ (↑i : Int) < (↑L.length : Int)))) (VB ((TreeG.val (L.getD (↑i : Int).toNat treeD)).fst == (1 : Int) || (TreeG.val (L.getD (↑i : Int).toNat treeD)).fst == (2 : Int)) (NB (decide ((0 : Int) ≤ (↑i : Int) ∧ (↑i : Int) < (↑L.length : Int))) (NB (impB (isW false (decide ((↑(TreeG.kids (L.getD (↑i : Int).toNat treeD)).length : Int) > (8 : Int)))) (decide ((0 : Int) ≤ (↑i : Int) ∧ (↑i : Int) < (↑L.length : Int)))) (VB (decide ((↑(TreeG.kids (L.getD (↑i : Int).toNat treeD)).length : Int) > (8 : Int)) || decide ((↑(TreeG.val (L.getD (↑i : Int).toNat treeD)).snd.snd.snd.fst.snd.snd.snd.fst.length : Int) > (4 : Int))) (true = r) (∃ (i' : Nat), (i' ≤ L.length ∧ ∀ (j : Nat), j < i' → fulP (L.getD j treeD) = false) ∧ (invFul x w hs es L).μ i' < (invFul x w hs es L).μ i ∧ (((0 : Nat) = (0 : Nat) ∧ (0 : Nat) = (0 : Nat) ∧ (0 : Nat) = (0 : Nat)) ∧ IntKind.i64.wrap ((↑(atmC L i) : Int) + (1 : Int)) = (↑(atmC L i') : Int) ∧ (L.length = L.length ∧ (∀ (i : Nat), i < L.length → (nodeA (2 : Nat) (L.getD i treeD)).sub (nodeA (2 : Nat) (L.getD i treeD)) ∧ (nodeA (2 : Nat) (L.getD i treeD)).cells.length = (nodeA (2 : Nat) (L.getD i treeD)).cells.length) ∧ (false = true → false = true)) ∧ IntKind.i64.wrap ((↑i : Int) + (1 : Int)) = (↑i' : Int) ∧ True) ∧ ((0 : Nat) = (0 : Nat) ∧ (true = true → true = true) ∧ ((qA x w hs es).sub (qA x w hs es) ∧ (qA x w hs es).cells.length = (qA x w hs es).cells.length) ∧ True) ∧ True)))) (NB (decide ((0 : Int) ≤ (↑i : Int) ∧ (↑i : Int) < (↑L.length : Int))) (NB (impB (isW false (decide ((↑(TreeG.kids (L.getD (↑i : Int).toNat treeD)).length : Int) > (8 : Int)))) (decide ((0 : Int) ≤ (↑i : Int) ∧ (↑i : Int) < (↑L.length : Int)))) (VB (decide ((↑(TreeG.kids (L.getD (↑i : Int).toNat treeD)).length : Int) > (8 : Int)) || decide ((↑(TreeG.val (L.getD (↑i : Int).toNat treeD)).snd.snd.snd.fst.snd.snd.snd.fst.length : Int) > (4 : Int))) (true = r) (∃ (i' : Nat), (i' ≤ L.length ∧ ∀ (j : Nat), j < i' → fulP (L.getD j treeD) = false) ∧ (invFul x w hs es L).μ i' < (invFul x w hs es L).μ i ∧ (((0 : Nat) = (0 : Nat) ∧ (0 : Nat) = (0 : Nat) ∧ (0 : Nat) = (0 : Nat)) ∧ (↑(atmC L i) : Int) = (↑(atmC L i') : Int) ∧ (L.length = L.length ∧ (∀ (i : Nat), i < L.length → (nodeA (2 : Nat) (L.getD i treeD)).sub (nodeA (2 : Nat) (L.getD i treeD)) ∧ (nodeA (2 : Nat) (L.getD i treeD)).cells.length = (nodeA (2 : Nat) (L.getD i treeD)).cells.length) ∧ (false = true → false = true)) ∧ IntKind.i64.wrap ((↑i : Int) + (1 : Int)) = (↑i' : Int) ∧ True) ∧ ((0 : Nat) = (0 : Nat) ∧ (true = true → true = true) ∧ ((qA x w hs es).sub (qA x w hs es) ∧ (qA x w hs es).cells.length = (qA x w hs es).cells.length) ∧ True) ∧ True))))))) ((decide ((↑(atmC L i) : Int) > (12 : Int)) || decide ((↑hs.length : Int) > (4 : Int)) || decide ((↑es.length : Int) > (4 : Int))) = r))) := by
 kernel_rfl
theorem rng10_vc (x : NodeG) (w : Int) (hs : List HaveG) (es : List AggG) (L : List NodeG) (r : Bool) : (vcFun (EFul x w hs es L) 20 54 [qA x w hs es] .nil 0 (retP 3 (.bool r))).sat = ( NB (atB [nodeA (16 : Nat) x] [nodeA (16 : Nat) x]) ((∃ (i : Nat), (i ≤ L.length ∧ ∀ (j : Nat), j < i → rngP (L.getD j treeD) = false) ∧ (((0 : Nat) = (0 : Nat) ∧ (0 : Nat) = (0 : Nat) ∧ (0 : Nat) = (0 : Nat)) ∧ (L.length = L.length ∧ (∀ (i : Nat), i < L.length → (nodeA (2 : Nat) (L.getD i treeD)).sub (nodeA (2 : Nat) (L.getD i treeD)) ∧ (nodeA (2 : Nat) (L.getD i treeD)).cells.length = (nodeA (2 : Nat) (L.getD i treeD)).cells.length) ∧ (false = true → false = true)) ∧ (0 : Int) = (↑i : Int) ∧ True) ∧ ((0 : Nat) = (0 : Nat) ∧ (true = true → true = true) ∧ ((qA x w hs es).sub (qA x w hs es) ∧ (qA x w hs es).cells.length = (qA x w hs es).cells.length) ∧ True) ∧ True) ∧ ∀ (i : Nat), (i ≤ L.length ∧ ∀ (j : Nat), j < i → rngP (L.getD j treeD) = false) → VB (decide ((↑i : Int) < (↑L.length : Int))) (NB (decide ((0 : Int) ≤ (↑i : Int) ∧ (↑i : Int) < (↑L.length : Int))) (NB (impB (isW true ((TreeG.val (L.getD (↑i : Int).toNat treeD)).fst == (1 : Int))) (decide ((0 : Int) ≤ (↑i : Int) ∧ (↑i : Int) < (↑L.length : Int)))) (NB (impB (isW true ((TreeG.val (L.getD (↑i : Int).toNat treeD)).fst == (1 : Int)) && isW false (decide ((TreeG.val (L.getD (↑i : Int).toNat treeD)).snd.fst < (1 : Int)))) (decide ((0 : Int) ≤ (↑i : Int) ∧ (↑i : Int) < (↑L.length : Int)))) (NB (impB (isW true ((TreeG.val (L.getD (↑i : Int).toNat treeD)).fst == (1 : Int)) && isW false (decide ((TreeG.val (L.getD (↑i : Int).toNat treeD)).snd.fst < (1 : Int)))) (decide ((0 : Int) ≤ (↑i : Int) ∧ (↑i : Int) < (↑L.length : Int)))) (NB (impB (isW true ((TreeG.val (L.getD (↑i : Int).toNat treeD)).fst == (1 : Int)) && isW false (decide ((TreeG.val (L.getD (↑i : Int).toNat treeD)).snd.fst < (1 : Int)) || decide ((TreeG.val (L.getD (↑i : Int).toNat treeD)).snd.fst > (TreeG.val (L.getD (↑i : Int).toNat treeD)).snd.snd.fst))) (decide ((0 : Int) ≤ (↑i : Int) ∧ (↑i : Int) < (↑L.length : Int)))) (VB ((TreeG.val (L.getD (↑i : Int).toNat treeD)).fst == (1 : Int) && (decide ((TreeG.val (L.getD (↑i : Int).toNat treeD)).snd.fst < (1 : Int)) || decide ((TreeG.val (L.getD (↑i : Int).toNat treeD)).snd.fst > (TreeG.val (L.getD (↑i : Int).toNat treeD)).snd.snd.fst) || decide ((TreeG.val (L.getD (↑i : Int).toNat treeD)).snd.snd.fst > (6 : Int)))) (false = r) (∃ (i' : Nat), (i' ≤ L.length ∧ ∀ (j : Nat), j < i' → rngP (L.getD j treeD) = false) ∧ (invRng x w hs es L).μ i' < (invRng x w hs es L).μ i ∧ (((0 : Nat) = (0 : Nat) ∧ (0 : Nat) = (0 : Nat) ∧ (0 : Nat) = (0 : Nat)) ∧ (L.length = L.length ∧ (∀ (i : Nat), i < L.length → (nodeA (2 : Nat) (L.getD i treeD)).sub (nodeA (2 : Nat) (L.getD i treeD)) ∧ (nodeA (2 : Nat) (L.getD i treeD)).cells.length = (nodeA (2 : Nat) (L.getD i treeD)).cells.length) ∧ (false = true → false = true)) ∧ IntKind.i64.wrap ((↑i : Int) + (1 : Int)) = (↑i' : Int) ∧ True) ∧ ((0 : Nat) = (0 : Nat) ∧ (true = true → true = true) ∧ ((qA x w hs es).sub (qA x w hs es) ∧ (qA x w hs es).cells.length = (qA x w hs es).cells.length) ∧ True) ∧ True))))))) (decide (w ≤ (10000 : Int)) = r))) := by
 kernel_rfl
end Go.Proofs.YtamcloifhjafcaaGreatDoor
namespace Go.Proofs.YtamcloifhjafcaaGreatDoor
open Pw Go
set_option maxRecDepth 100000
set_option linter.unusedSimpArgs false
theorem nds_elems : ∀ (g : Nat) (d : Int) (x : NodeG), nds g x = (elems g d x).map (·.2)
 | 0, _, _ => rfl
 | g + 1, d, x => by
  simp only [nds, elems, List.map_cons, List.map_flatten, List.map_map]
  congr 2
  exact List.map_congr_left fun y _ => nds_elems g (d + 1) y
theorem nds_le (x : NodeG) (h : (elems 8 1 x).length ≤ 1000) : (nds 8 x).length ≤ 1000 := by
 rw [nds_elems 8 1 x, List.length_map]
 exact h
theorem ndK_succ {g : Nat} {x : NodeG} {i : Nat} (hi : i < x.kids.length) : ndK g x (i + 1) = ndK g x i ++ nds g (x.kids.getD i treeD) := by
 simp only [ndK, List.take_add_one, List.map_append, List.flatten_append]
 simp [List.getD, hi]
theorem ndK_all {g : Nat} {x : NodeG} : ndK g x x.kids.length = nds (g + 1) x := by simp [ndK, nds]
theorem ndK_mono {g : Nat} {x : NodeG} {i : Nat} : ∀ (k : Nat), i + k ≤ x.kids.length → (ndK g x i).length ≤ (ndK g x (i + k)).length
 | 0, _ => Nat.le_refl _
 | k + 1, h => by
  have h1 := ndK_mono (g := g) (x := x) (i := i) k (by omega)
  rw [show i + (k + 1) = i + k + 1 by omega, ndK_succ (by omega), List.length_append]
  omega
theorem ndK_le {g : Nat} {x : NodeG} {i : Nat} (hi : i < x.kids.length) : (ndK g x i).length + (nds g (x.kids.getD i treeD)).length ≤ (nds (g + 1) x).length := by
 have h1 := ndK_mono (g := g) (x := x) (i := i + 1) (x.kids.length - (i + 1)) (by omega)
 rw [show i + 1 + (x.kids.length - (i + 1)) = x.kids.length by omega, ndK_succ hi, List.length_append, ndK_all] at h1
 exact h1
theorem all_of {g : Nat} (h : ∀ x, litB g x = true → (nds g x).length ≤ 1000 → PureC Tryz.prog gN 72 [nodeA (g + 1) x] (ndsA (nds g x))) : PureG Tryz.prog gN 72 (cAll g) := by
 intro args nd v he hnd
 unfold cAll at he
 split at he <;> cases he
 simp only [Bool.and_eq_true, decide_eq_true_eq] at hnd
 refine pureN_node hnd.1 fun x hx e => ?_
 have h2 := hnd.2
 rw [e] at h2 ⊢
 exact h x hx h2
theorem all_pure : ∀ (g : Nat) (x : NodeG), litB g x = true → (nds g x).length ≤ 1000 → PureC Tryz.prog gN 72 [nodeA (g + 1) x] (ndsA (nds g x))
 | 0, _, h, _ => by cases h
 | g + 1, x, hl, hm => by
  refine pure_vcG (d := 4) mix (tblG_cons (all_of (all_pure g)) (tblG_nil _ _)) ((all_vc g x _).mpr ?_)
  have hk40 := litB_kids hl
  simp only [nodeA_refl, EqI, true_and, and_true, imp_self, implies_true, Int.toNat_natCast, Nat.zero_add, or_self, or_true]
  refine ⟨⟨(0, 0), Nat.zero_le _, ⟨⟨rfl, rfl⟩, rfl⟩, rfl, rfl, nodeA_sub' (by omega) x, by rw [nodeA_cells, nodeA_cells]⟩, fun p hp => VB_intro (fun h => ?_) (fun h => ?_)⟩
  ·obtain ⟨i, gen⟩ := p
   have hlt : i < x.kids.length := by have := of_decide_eq_true h; simp only at this; omega
   have hkl := litB_kid hl hlt
   have hle := ndK_le (g := g) hlt
   show NB (decide ((0 : Int) ≤ (i : Int) ∧ (i : Int) < x.kids.length)) _
   have e1 : isNode g (nodeA (g + 1) (x.kids.getD i (TreeG.mk nodeD []))) = true := isNode_of hkl (by omega)
   have e2 : nodeOf g (nodeA (g + 1) (x.kids.getD i (TreeG.mk nodeD []))) = x.kids.getD i treeD := nodeOf_of hkl (by omega)
   simp only [e1, e2]
   refine NB_intro (decide_eq_true (by omega)) (NB_intro (by simp only [Bool.true_and]; exact decide_eq_true (by omega)) (NB_intro (by simp only [Bool.true_and, decide_true, room]; exact decide_eq_true (by omega)) ⟨(i + 1, gen + 1), hlt, by show x.kids.length - (i + 1) < x.kids.length - i; omega, ⟨⟨rfl, by rw [ndK_succ hlt, List.length_append]⟩, by rw [wrap_i64_id (by omega) (by omega)]; simp⟩, rfl, by rw [ndK_succ hlt, List.length_append], fun q hq => ?_⟩))
   rw [ndK_succ hlt]
   split
   ·rename_i hq2
    rw [List.getD_eq_getElem?_getD (l := ndK g x i ++ _), List.getElem?_append_left hq2, ← List.getD_eq_getElem?_getD]
    exact ⟨nodeA_sub 2 0 _, rfl⟩
   ·rename_i hq2
    rw [List.getD_eq_getElem?_getD (l := ndK g x i ++ _), List.getElem?_append_right (by omega), ← List.getD_eq_getElem?_getD]
    exact ⟨nodeA_sub 2 0 _, rfl⟩
  ·obtain ⟨i, gen⟩ := p
   have hp : i ≤ x.kids.length := hp
   have hie : i = x.kids.length := by have := of_decide_eq_false h; simp only at this; omega
   subst hie
   rw [ndK_all]
   exact NB_intro (by simp) ⟨rfl, fun q hq => ⟨nodeA_sub 2 0 _, rfl⟩, fun h => by cases h⟩
theorem all16 {x : NodeG} (hl : litB 8 x = true) (hf : (elems 8 1 x).length ≤ 1000) : PureC Tryz.prog gN 72 [nodeA 16 x] (ndsA (nds 8 x)) :=
 PureC.args (args' := [nodeA 9 x]) rfl (fun i hi => by
  cases i with
  | zero => exact nodeA_sub' (by decide) x
  | succ i => simp at hi) (all_pure 8 x hl (nds_le x hf))
theorem EFul_ok {x : NodeG} (w : Int) (hs : List HaveG) (es : List AggG) (hl : litB 8 x = true) (hf : (elems 8 1 x).length ≤ 1000) : CtrOK (EFul x w hs es (nds 8 x)) :=
 ⟨(mkG_ctr (P := Tryz.prog) (gl := gN) (inv := fun _ _ => none) (n := 0) (tblG_cons (cAt_ok (all16 hl hf)) (tblG_nil _ _))).1, (mkG_ctr (P := Tryz.prog) (gl := gN) (inv := fun _ _ => none) (n := 0) (tblG_nil Tryz.prog gN)).2⟩
theorem atmC_succ {L : List NodeG} {i : Nat} (hi : i < L.length) : atmC L (i + 1) = if (nk (L.getD i treeD) == 1 || nk (L.getD i treeD) == 2) = true then atmC L i + 1 else atmC L i := by
 have := take_getD L treeD hi
 simp only [atmC, this, List.countP_append, List.countP_cons, List.countP_nil]
 split <;> simp
theorem atmC_le (L : List NodeG) (i : Nat) : atmC L i ≤ L.length := by
 have h1 := List.countP_le_length (p := fun y : NodeG => nk y == 1 || nk y == 2) (l := L.take i)
 have h2 := List.length_take_le' i L
 unfold atmC
 omega
def ful10 (L : List NodeG) (hs : List HaveG) (es : List AggG) : Bool := L.any fulP || (decide ((atmC L L.length : Int) > 12) || decide ((hs.length : Int) > 4) || decide ((es.length : Int) > 4))
theorem full10_sat (x : NodeG) (w : Int) (hs : List HaveG) (es : List AggG) (L : List NodeG) (hL : L.length ≤ 1000) : (vcFun (EFul x w hs es L) 20 51 [qA x w hs es] .nil 0 (retP 3 (.bool (ful10 L hs es)))).sat := by
 refine (full10_vc x w hs es L _).mpr (NB_intro (atB_self _) ?_)
 simp only [qA_refl, nodeA_refl, EqI, true_and, and_true, imp_self, implies_true, Int.toNat_natCast, Nat.zero_add, or_self]
 refine ⟨⟨0, ⟨Nat.zero_le _, fun j hj => by omega⟩, rfl, rfl⟩, fun i ⟨hi1, hi2⟩ => VB_intro (fun h1 => ?_) (fun h1 => ?_)⟩
 ·have hlt : i < L.length := by have := of_decide_eq_true h1; omega
  have hd : decide ((0 : Int) ≤ (i : Int) ∧ (i : Int) < L.length) = true := decide_eq_true (by omega)
  have hs' := atmC_succ hlt
  have hle := atmC_le L i
  rw [hd]
  simp only [NB_t]
  have go : fulP (L.getD i treeD) = false → (i + 1 ≤ L.length ∧ ∀ j, j < i + 1 → fulP (L.getD j treeD) = false) := fun hp => ⟨hlt, fun j hj => by
   rcases Nat.lt_or_ge j i with h2 | h2
   ·exact hi2 j h2
   ·obtain rfl : j = i := by omega
    exact hp⟩
  refine NB_intro (impB_t.2 fun _ => rfl) (VB_intro (fun h2 => ?_) (fun h2 => ?_)) <;> refine NB_intro (impB_t.2 fun _ => rfl) (VB_intro (fun h3 => ?_) (fun h3 => ?_))
  ·rw [ful10, any_nds hlt h3, Bool.true_or]
  ·rw [if_pos h2] at hs'
   exact ⟨i + 1, go h3, by show L.length - (i + 1) < L.length - i; omega, by rw [hs', wrap_i64_id (by omega) (by omega)]; rfl, by rw [wrap_i64_id (by omega) (by omega)]; rfl⟩
  ·rw [ful10, any_nds hlt h3, Bool.true_or]
  ·have h2' : ¬(nk (L.getD i treeD) == 1 || nk (L.getD i treeD) == 2) = true := by
    have h2 : (nk (L.getD i treeD) == 1 || nk (L.getD i treeD) == 2) = false := h2
    rw [h2]; simp
   rw [if_neg h2'] at hs'
   exact ⟨i + 1, go h3, by show L.length - (i + 1) < L.length - i; omega, by rw [hs'], by rw [wrap_i64_id (by omega) (by omega)]; rfl⟩
 ·obtain rfl : i = L.length := by have := of_decide_eq_false h1; omega
  rw [ful10, none_nds hi2, Bool.false_or]
theorem rng10_sat (x : NodeG) (w : Int) (hs : List HaveG) (es : List AggG) (L : List NodeG) (hL : L.length ≤ 1000) : (vcFun (EFul x w hs es L) 20 54 [qA x w hs es] .nil 0 (retP 3 (.bool (!L.any rngP && decide (w ≤ 10000))))).sat := by
 refine (rng10_vc x w hs es L _).mpr (NB_intro (atB_self _) ?_)
 simp only [qA_refl, nodeA_refl, EqI, true_and, and_true, imp_self, implies_true, Int.toNat_natCast, Nat.zero_add, or_self]
 refine ⟨⟨0, ⟨Nat.zero_le _, fun j hj => by omega⟩, rfl⟩, fun i ⟨hi1, hi2⟩ => VB_intro (fun h1 => ?_) (fun h1 => ?_)⟩
 ·have hlt : i < L.length := by have := of_decide_eq_true h1; omega
  have hd : decide ((0 : Int) ≤ (i : Int) ∧ (i : Int) < L.length) = true := decide_eq_true (by omega)
  rw [hd]
  simp only [NB_t]
  refine NB_intro (impB_t.2 fun _ => rfl) (NB_intro (impB_t.2 fun _ => rfl) (NB_intro (impB_t.2 fun _ => rfl) (NB_intro (impB_t.2 fun _ => rfl) (VB_intro (fun h3 => ?_) (fun h3 => ?_)))))
  ·rw [any_nds hlt h3]; rfl
  ·refine ⟨i + 1, ⟨hlt, fun j hj => ?_⟩, by show L.length - (i + 1) < L.length - i; omega, by rw [wrap_i64_id (by omega) (by omega)]; rfl⟩
   rcases Nat.lt_or_ge j i with h2 | h2
   ·exact hi2 j h2
   ·obtain rfl : j = i := by omega
    exact h3
 ·obtain rfl : i = L.length := by have := of_decide_eq_false h1; omega
  rw [none_nds hi2]; rfl
section
variable {x : NodeG} {w : Int} {hs : List HaveG} {es : List AggG}
theorem full10_pure (hl : litB 8 x = true) (hf : (elems 8 1 x).length ≤ 1000) : PureC Tryz.prog gN 51 [qA x w hs es] (.bool (ful10 (nds 8 x) hs es)) :=
 pure_vcE (d := 3) mix (EFul_ok w hs es hl hf) (full10_sat x w hs es (nds 8 x) (nds_le x hf))
theorem rng10_pure (hl : litB 8 x = true) (hf : (elems 8 1 x).length ≤ 1000) : PureC Tryz.prog gN 54 [qA x w hs es] (.bool (!(nds 8 x).any rngP && decide (w ≤ 10000))) :=
 pure_vcE (d := 3) mix (EFul_ok w hs es hl hf) (rng10_sat x w hs es (nds 8 x) (nds_le x hf))
end
end Go.Proofs.YtamcloifhjafcaaGreatDoor
