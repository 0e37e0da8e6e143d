/- FLOW 1: the query of numbers as a value; what a query reads: conditions. -/
import Derived.Test.YtamcloifhjafcaaGreatDoorQF6
namespace Go.Proofs.YtamcloifhjafcaaGreatDoor
open Pw Go
set_option maxRecDepth 100000
set_option linter.unusedSimpArgs false
theorem nodeA_up : ∀ (g f f' : Nat) (x : NodeG), depN g x → g ≤ f → g ≤ f' → (nodeA f x).sub (nodeA f' x)
 | 0, _, _, _, h, _, _ => h.elim
 | g + 1, f + 1, f' + 1, x, h, hf, hf' =>
  subL9 (int_sub _ _) (int_sub _ _) (int_sub _ _) (int_sub _ _) (bool_sub _) (int_sub _ _) ⟨rfl, fun i _ => ⟨⟨rfl, rfl, trivial⟩, rfl⟩, fun h => h⟩ (AV.str_sub _)
   ⟨rfl, fun i hi => ⟨nodeA_up g f f' _ (h i hi) (by omega) (by omega), by rw [nodeA_cells, nodeA_cells]⟩, fun h => h⟩
def jn (a b : Int) : Int := orI .u64 (orI .u64 0 a) b
def atR (a : AtomG) (c : Int) : Int := if a.2.1 = true then a.2.2.1 else c
def rdL (A : List AtomG) (c : Int) : Nat → Int
 | 0 => 0
 | i + 1 => jn (rdL A c i) (atR (A.getD i atomD) c)
def rdO (A : List AtomG) : Nat → Bool
 | 0 => false
 | i + 1 => rdO A i || !(A.getD i atomD).2.1
def invRd (A : List AtomG) (c : Int) : Inv := ⟨Nat, 40, fun i => ⟨[(1, .int .u64 c), (5, .ptr 1 0 0 0), (17, atsW A), (18, .int .i64 A.length), (19, .int .i64 i)], [(1, .row 0 2 true (.lst [.agg [.int .u64 (rdL A c i), .bool (rdO A i)]]))]⟩, fun i => i ≤ A.length, fun i => A.length - i⟩
noncomputable def ERd (x : NodeG) (A : List AtomG) (e c : Int) : Env := mkG Tryz.prog gN (tblOf [(29, cAt [nodeA 16 x] (.tup [atsW A, .int .i64 e]))]) (fun f b => if f = 25 ∧ b = 0 then some (invRd A c) else none) 4
noncomputable def tblRd (x : NodeG) (w : Int) (hs : List HaveG) (es : List AggG) (e : Int) (c L : Int) (O : Bool) : List (Nat × Ctr) := [(24, cAt [qA x w hs es] (.int .i64 e)), (25, cAt [qA x w hs es, .int .u64 c] (.rptr (.agg [.int .u64 L, .bool O]) 0))]
theorem rd_vc (x : NodeG) (w : Int) (hs : List HaveG) (es : List AggG) (A : List AtomG) (e c L : Int) (O : Bool) : (vcFun (ERd x A e c) 20 25 [qA x w hs es, .int .u64 c] .nil 0 (retP 4 (.rptr (.agg [.int .u64 L, .bool O]) 0))).sat = ( NB (atB [nodeA (16 : Nat) x] [nodeA (16 : Nat) x]) ((∃ (i : Nat), i.le A.length ∧ (c = c ∧ ((0 : Nat) = (0 : Nat) ∧ (0 : Nat) = (0 : Nat) ∧ (0 : Nat) = (0 : Nat)) ∧ (atsW A).sub (atsW A) ∧ (↑A.length : Int) = (↑A.length : Int) ∧ (0 : Int) = (↑i : Int) ∧ True) ∧ ((0 : Nat) = (0 : Nat) ∧ (true = true → true = true) ∧ (((0 : Int) = rdL A c i ∧ false = rdO A i ∧ True) ∧ [AV.int IntKind.u64 (0 : Int), AV.bool false].length = [AV.int IntKind.u64 (rdL A c i), AV.bool (rdO A i)].length) ∧ True) ∧ True) ∧ ∀ (i : Nat), i.le A.length → VB (decide ((↑i : Int) < (↑A.length : Int))) (NB (decide ((0 : Int) ≤ (↑i : Int) ∧ (↑i : Int) < (↑A.length : Int))) (VB (A.getD (↑i : Int).toNat atomD).snd.fst (∃ (i' : Nat), i'.le A.length ∧ (invRd A c).μ i' < (invRd A c).μ i ∧ (c = c ∧ ((0 : Nat) = (0 : Nat) ∧ (0 : Nat) = (0 : Nat) ∧ (0 : Nat) = (0 : Nat)) ∧ (atsW A).sub (atsW A) ∧ (↑A.length : Int) = (↑A.length : Int) ∧ IntKind.i64.wrap ((↑i : Int) + (1 : Int)) = (↑i' : Int) ∧ True) ∧ ((0 : Nat) = (0 : Nat) ∧ (true = true → true = true) ∧ ((orI IntKind.u64 (orI IntKind.u64 (0 : Int) (rdL A c i)) (A.getD (↑i : Int).toNat atomD).snd.snd.fst = rdL A c i' ∧ (rdO A i || !(A.getD (↑i : Int).toNat atomD).snd.fst) = rdO A i' ∧ True) ∧ [AV.int IntKind.u64 (orI IntKind.u64 (orI IntKind.u64 (0 : Int) (rdL A c i)) (A.getD (↑i : Int).toNat atomD).snd.snd.fst), AV.bool (rdO A i || !(A.getD (↑i : Int).toNat atomD).snd.fst)].length = [AV.int IntKind.u64 (rdL A c i'), AV.bool (rdO A i')].length) ∧ True) ∧ True) (∃ (i' : Nat), i'.le A.length ∧ (invRd A c).μ i' < (invRd A c).μ i ∧ (c = c ∧ ((0 : Nat) = (0 : Nat) ∧ (0 : Nat) = (0 : Nat) ∧ (0 : Nat) = (0 : Nat)) ∧ (atsW A).sub (atsW A) ∧ (↑A.length : Int) = (↑A.length : Int) ∧ IntKind.i64.wrap ((↑i : Int) + (1 : Int)) = (↑i' : Int) ∧ True) ∧ ((0 : Nat) = (0 : Nat) ∧ (true = true → true = true) ∧ ((orI IntKind.u64 (orI IntKind.u64 (0 : Int) (rdL A c i)) c = rdL A c i' ∧ (rdO A i || !(A.getD (↑i : Int).toNat atomD).snd.fst) = rdO A i' ∧ True) ∧ [AV.int IntKind.u64 (orI IntKind.u64 (orI IntKind.u64 (0 : Int) (rdL A c i)) c), AV.bool (rdO A i || !(A.getD (↑i : Int).toNat atomD).snd.fst)].length = [AV.int IntKind.u64 (rdL A c i'), AV.bool (rdO A i')].length) ∧ True) ∧ True))) (((rdL A c i = L ∧ rdO A i = O ∧ True) ∧ [AV.int IntKind.u64 (rdL A c i), AV.bool (rdO A i)].length = [AV.int IntKind.u64 L, AV.bool O].length) ∧ (0 : Nat) = (0 : Nat)))) := by
 kernel_rfl
theorem read_vc (x : NodeG) (w : Int) (hs : List HaveG) (es : List AggG) (e c L : Int) (O : Bool) (r s : Int) : (vcFun (mkG Tryz.prog gN (tblOf (tblRd x w hs es e c L O)) (fun _ _ => none) 0) 20 7 [qA x w hs es, .int .u64 c] .nil 0 (retP 4 (.tup [.int .u64 r, .int .i64 s]))).sat = ( NB (atB [qA x w hs es] [qA x w hs es]) (VB (e != (0 : Int)) ((0 : Int) = r ∧ e = s ∧ True) (NB (atB [qA x w hs es, AV.int IntKind.u64 c] [qA x w hs es, AV.int IntKind.u64 c]) (L = r ∧ (0 : Int) = s ∧ True)))) := by
 kernel_rfl
theorem open_vc (x : NodeG) (w : Int) (hs : List HaveG) (es : List AggG) (e L : Int) (O : Bool) (r : Bool) (s : Int) : (vcFun (mkG Tryz.prog gN (tblOf (tblRd x w hs es e 0 L O)) (fun _ _ => none) 0) 20 13 [qA x w hs es] .nil 0 (retP 4 (.tup [.bool r, .int .i64 s]))).sat = ( NB (atB [qA x w hs es] [qA x w hs es]) (VB (e != (0 : Int)) (false = r ∧ e = s ∧ True) (NB (atB [qA x w hs es, AV.int IntKind.u64 (0 : Int)] [qA x w hs es, AV.int IntKind.u64 (0 : Int)]) (O = r ∧ (0 : Int) = s ∧ True)))) := by
 kernel_rfl
theorem fleastQ_vc (x : NodeG) (w : Int) (hs : List HaveG) (es : List AggG) (r s r' s' : Int) : (vcFun (mkG Tryz.prog gN (tblOf [(7, cAt [qA x w hs es, .int .u64 0] (.tup [.int .u64 r, .int .i64 s]))]) (fun _ _ => none) 0) 20 9 [qA x w hs es] .nil 0 (retP 4 (.tup [.int .u64 r', .int .i64 s']))).sat = ( NB (atB [qA x w hs es, AV.int IntKind.u64 (0 : Int)] [qA x w hs es, AV.int IntKind.u64 (0 : Int)]) (r = r' ∧ s = s' ∧ True)) := by
 kernel_rfl
theorem fcheck_vc (x : NodeG) (w : Int) (hs : List HaveG) (es : List AggG) (c r s s' : Int) : (vcFun (mkG Tryz.prog gN (tblOf [(7, cAt [qA x w hs es, .int .u64 c] (.tup [.int .u64 r, .int .i64 s]))]) (fun _ _ => none) 0) 20 11 [qA x w hs es, .int .u64 c] .nil 0 (retP 4 (.int .i64 s'))).sat = ( NB (atB [qA x w hs es, AV.int IntKind.u64 c] [qA x w hs es, AV.int IntKind.u64 c]) (VB (isW true (s == (0 : Int))) (VB (s == (0 : Int) && !andNotI IntKind.u64 r c == (0 : Int)) ((13 : Int) = s') (s = s')) (VB (s == (0 : Int) && true) ((13 : Int) = s') (s = s')))) := by
 kernel_rfl
end Go.Proofs.YtamcloifhjafcaaGreatDoor
