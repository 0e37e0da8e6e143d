/- FLOW 1: the query of numbers as a value; what a query reads: conditions. -/
import Derived.Test.YtamcloifhjafcaaDoorKQ6
namespace Go.Proofs.YtamcloifhjafcaaDoor
open Pw Go
set_option maxRecDepth 100000
set_option linter.unusedSimpArgs false
theorem nodeA_up : ∀ (g f f' : Nat) (x : NodeG), depN g x → g ≤ f → g ≤ f' → (nodeA f x).sub (nodeA f' x)
  | 0, _, _, _, h, _, _ => h.elim
  | g + 1, f + 1, f' + 1, x, h, hf, hf' =>
    subL9 (int_sub _ _) (int_sub _ _) (int_sub _ _) (int_sub _ _) (bool_sub _) (int_sub _ _) ⟨rfl, fun i _ => ⟨⟨rfl, rfl, trivial⟩, rfl⟩, fun h => h⟩ (AV.str_sub _)
      ⟨rfl, fun i hi => ⟨nodeA_up g f f' _ (h i hi) (by omega) (by omega), by rw [nodeA_cells, nodeA_cells]⟩, fun h => h⟩
theorem dep_leaf (g : Nat) (k p : Int) : depN (g + 1) (leafG k p) := fun i hi => absurd hi (Nat.not_lt_zero i)
theorem dep_pc (g : Nat) {x : NodeG} (h : Pc 9 x) : depN (g + 2) x := by
  intro i hi
  obtain ⟨k, p, e, _⟩ := pc_kids h _ (getD_mem (d := treeD) hi)
  rw [e]
  exact dep_leaf g k p
theorem kq_up (l : List Int) : (qA3 (kqX l) (kqW l) (kqHs l) (kqEs l)).sub (qA (kqX l) (kqW l) (kqHs l) (kqEs l)) := by
  have hk : ∀ i, i < (kqX l).kids.length → (nodeA 2 ((kqX l).kids.getD i treeD)).sub (nodeA 15 ((kqX l).kids.getD i treeD)) := by
    intro i hi
    refine nodeA_up 2 2 15 _ ?_ (by omega) (by omega)
    rcases kqX_cases l with ⟨x, e, h, _⟩ | ⟨K, e, _, _, _, h, _⟩
    · rw [e] at hi ⊢
      obtain ⟨k, p, e, _⟩ := pc_kids h _ (getD_mem (d := treeD) hi)
      rw [e]
      exact dep_leaf 1 k p
    · rw [e] at hi ⊢
      exact dep_pc 0 (h _ (getD_mem (d := treeD) hi))
  have := qA_refl (kqX l) (kqW l) (kqHs l) (kqEs l)
  refine ⟨int_sub _ _, int_sub _ _, int_sub _ _, int_sub _ _, bool_sub _, int_sub _ _, ⟨rfl, fun i _ => ⟨⟨rfl, rfl, trivial⟩, rfl⟩, fun h => h⟩, AV.str_sub _, ⟨rfl, fun i hi => ⟨hk i hi, by rw [nodeA_cells, nodeA_cells]⟩, fun h => h⟩, int_sub _ _, ?_, ?_, trivial⟩
  · exact ⟨rfl, fun _ _ => ⟨⟨int_sub _ _, AV.str_sub _, int_sub _ _, int_sub _ _, trivial⟩, rfl⟩, fun h => h⟩
  · exact ⟨rfl, fun _ _ => ⟨⟨int_sub _ _, AV.str_sub _, trivial⟩, rfl⟩, fun h => h⟩
theorem leafK_ok : PureG Tryd.prog gN 55 cLfK := by
  intro args nd v he hnd
  unfold cLfK at he
  split at he <;> cases he
  have hnd := of_decide_eq_true hnd
  rw [hide_eq]
  exact leafK_pure 2 ⟨hnd.1, hnd.2.1⟩ ⟨hnd.2.2.1, hnd.2.2.2⟩
theorem EKQ_ok (l : List Int) : CtrOK (EKQ l (kqX l) (qNn l)) :=
  ⟨(mkG_ctr (P := Tryd.prog) (gl := gN) (inv := fun _ _ => none) (n := 0) (tblG_cons mod_ok (tblG_cons (cAt_ok (by have := at_ok l 4; rwa [if_neg (by decide)] at this)) (tblG_cons leafK_ok (tblG_nil _ _))))).1, itr_none rfl⟩
theorem PureC.result' {P : Program} {gl : Nat → AV} {f : FuncId} {args : List AV} {v v' : AV} (h : PureC P gl f args v) (hs : v.sub v') : PureC P gl f args v' := fun M W vals hG hM hA => by
  obtain ⟨h1, h2⟩ := h M W vals hG hM hA
  exact ⟨h1, h2.mono fun e W' ⟨u, M', k1, k2, k3⟩ => ⟨u, M', k1, k2.sub v' hs, k3⟩⟩
theorem query_pure (l : List Int) (hl : ∀ i, -9223372036854775808 ≤ l.getD i 0 ∧ l.getD i 0 ≤ 9223372036854775807) : PureC Tryd.prog gN 21 [iqA l] (qA (kqX l) (kqW l) (kqHs l) (kqEs l)) :=
  PureC.result' (pure_vcE (E := EKQ l (kqX l) (qNn l)) (k := 20) (d := 4) mix (EKQ_ok l) (query_sat l hl)) (kq_up l)
def jn (a b : Int) : Int := orI .u64 (orI .u64 0 a) b
def atR (a : AtomG) (c : Int) : Int := if a.2.1 = true then a.2.2.1 else c
def rdL (A : List AtomG) (c : Int) : Nat → Int
  | 0 => 0
  | i + 1 => jn (rdL A c i) (atR (A.getD i atomD) c)
def rdO (A : List AtomG) : Nat → Bool
  | 0 => false
  | i + 1 => rdO A i || !(A.getD i atomD).2.1
def invRd (A : List AtomG) (c : Int) : Inv := ⟨Nat, 40, fun i => ⟨[(1, .int .u64 c), (5, .ptr 1 0 0 0), (17, atsW A), (18, .int .i64 A.length), (19, .int .i64 i)], [(1, .row 0 2 true (.lst [.agg [.int .u64 (rdL A c i), .bool (rdO A i)]]))]⟩, fun i => i ≤ A.length, fun i => A.length - i⟩
noncomputable def ERd (x : NodeG) (A : List AtomG) (e c : Int) : Env := mkG Tryd.prog gN (tblOf [(71, cAt [nodeA 16 x] (.tup [atsW A, .int .i64 e]))]) (fun f b => if f = 58 ∧ b = 0 then some (invRd A c) else none) 4
noncomputable def tblRd (x : NodeG) (w : Int) (hs : List HaveG) (es : List AggG) (e : Int) (c L : Int) (O : Bool) : List (Nat × Ctr) := [(57, cAt [qA x w hs es] (.int .i64 e)), (58, cAt [qA x w hs es, .int .u64 c] (.rptr (.agg [.int .u64 L, .bool O]) 0))]
theorem rd_vc (x : NodeG) (w : Int) (hs : List HaveG) (es : List AggG) (A : List AtomG) (e c L : Int) (O : Bool) : (vcFun (ERd x A e c) 20 58 [qA x w hs es, .int .u64 c] .nil 0 (retP 4 (.rptr (.agg [.int .u64 L, .bool O]) 0))).sat = ( NB (atB [nodeA (16 : Nat) x] [nodeA (16 : Nat) x]) ((∃ (i : Nat), i.le A.length ∧ (c = c ∧ ((0 : Nat) = (0 : Nat) ∧ (0 : Nat) = (0 : Nat) ∧ (0 : Nat) = (0 : Nat)) ∧ (atsW A).sub (atsW A) ∧ (↑A.length : Int) = (↑A.length : Int) ∧ (0 : Int) = (↑i : Int) ∧ True) ∧ ((0 : Nat) = (0 : Nat) ∧ (true = true → true = true) ∧ (((0 : Int) = rdL A c i ∧ false = rdO A i ∧ True) ∧ [AV.int IntKind.u64 (0 : Int), AV.bool false].length = [AV.int IntKind.u64 (rdL A c i), AV.bool (rdO A i)].length) ∧ True) ∧ True) ∧ ∀ (i : Nat), i.le A.length → VB (decide ((↑i : Int) < (↑A.length : Int))) (NB (decide ((0 : Int) ≤ (↑i : Int) ∧ (↑i : Int) < (↑A.length : Int))) (VB (A.getD (↑i : Int).toNat atomD).snd.fst (∃ (i' : Nat), i'.le A.length ∧ (invRd A c).μ i' < (invRd A c).μ i ∧ (c = c ∧ ((0 : Nat) = (0 : Nat) ∧ (0 : Nat) = (0 : Nat) ∧ (0 : Nat) = (0 : Nat)) ∧ (atsW A).sub (atsW A) ∧ (↑A.length : Int) = (↑A.length : Int) ∧ IntKind.i64.wrap ((↑i : Int) + (1 : Int)) = (↑i' : Int) ∧ True) ∧ ((0 : Nat) = (0 : Nat) ∧ (true = true → true = true) ∧ ((orI IntKind.u64 (orI IntKind.u64 (0 : Int) (rdL A c i)) (A.getD (↑i : Int).toNat atomD).snd.snd.fst = rdL A c i' ∧ (rdO A i || !(A.getD (↑i : Int).toNat atomD).snd.fst) = rdO A i' ∧ True) ∧ [AV.int IntKind.u64 (orI IntKind.u64 (orI IntKind.u64 (0 : Int) (rdL A c i)) (A.getD (↑i : Int).toNat atomD).snd.snd.fst), AV.bool (rdO A i || !(A.getD (↑i : Int).toNat atomD).snd.fst)].length = [AV.int IntKind.u64 (rdL A c i'), AV.bool (rdO A i')].length) ∧ True) ∧ True) (∃ (i' : Nat), i'.le A.length ∧ (invRd A c).μ i' < (invRd A c).μ i ∧ (c = c ∧ ((0 : Nat) = (0 : Nat) ∧ (0 : Nat) = (0 : Nat) ∧ (0 : Nat) = (0 : Nat)) ∧ (atsW A).sub (atsW A) ∧ (↑A.length : Int) = (↑A.length : Int) ∧ IntKind.i64.wrap ((↑i : Int) + (1 : Int)) = (↑i' : Int) ∧ True) ∧ ((0 : Nat) = (0 : Nat) ∧ (true = true → true = true) ∧ ((orI IntKind.u64 (orI IntKind.u64 (0 : Int) (rdL A c i)) c = rdL A c i' ∧ (rdO A i || !(A.getD (↑i : Int).toNat atomD).snd.fst) = rdO A i' ∧ True) ∧ [AV.int IntKind.u64 (orI IntKind.u64 (orI IntKind.u64 (0 : Int) (rdL A c i)) c), AV.bool (rdO A i || !(A.getD (↑i : Int).toNat atomD).snd.fst)].length = [AV.int IntKind.u64 (rdL A c i'), AV.bool (rdO A i')].length) ∧ True) ∧ True))) (((rdL A c i = L ∧ rdO A i = O ∧ True) ∧ [AV.int IntKind.u64 (rdL A c i), AV.bool (rdO A i)].length = [AV.int IntKind.u64 L, AV.bool O].length) ∧ (0 : Nat) = (0 : Nat)))) := by
  kernel_rfl
theorem read_vc (x : NodeG) (w : Int) (hs : List HaveG) (es : List AggG) (e c L : Int) (O : Bool) (r s : Int) : (vcFun (mkG Tryd.prog gN (tblOf (tblRd x w hs es e c L O)) (fun _ _ => none) 0) 20 25 [qA x w hs es, .int .u64 c] .nil 0 (retP 4 (.tup [.int .u64 r, .int .i64 s]))).sat = ( NB (atB [qA x w hs es] [qA x w hs es]) (VB (e != (0 : Int)) ((0 : Int) = r ∧ e = s ∧ True) (NB (atB [qA x w hs es, AV.int IntKind.u64 c] [qA x w hs es, AV.int IntKind.u64 c]) (L = r ∧ (0 : Int) = s ∧ True)))) := by
  kernel_rfl
theorem open_vc (x : NodeG) (w : Int) (hs : List HaveG) (es : List AggG) (e L : Int) (O : Bool) (r : Bool) (s : Int) : (vcFun (mkG Tryd.prog gN (tblOf (tblRd x w hs es e 0 L O)) (fun _ _ => none) 0) 20 23 [qA x w hs es] .nil 0 (retP 4 (.tup [.bool r, .int .i64 s]))).sat = ( NB (atB [qA x w hs es] [qA x w hs es]) (VB (e != (0 : Int)) (false = r ∧ e = s ∧ True) (NB (atB [qA x w hs es, AV.int IntKind.u64 (0 : Int)] [qA x w hs es, AV.int IntKind.u64 (0 : Int)]) (O = r ∧ (0 : Int) = s ∧ True)))) := by
  kernel_rfl
theorem least_vc (x : NodeG) (w : Int) (hs : List HaveG) (es : List AggG) (r s r' s' : Int) : (vcFun (mkG Tryd.prog gN (tblOf [(25, cAt [qA x w hs es, .int .u64 0] (.tup [.int .u64 r, .int .i64 s]))]) (fun _ _ => none) 0) 20 22 [qA x w hs es] .nil 0 (retP 4 (.tup [.int .u64 r', .int .i64 s']))).sat = ( NB (atB [qA x w hs es, AV.int IntKind.u64 (0 : Int)] [qA x w hs es, AV.int IntKind.u64 (0 : Int)]) (r = r' ∧ s = s' ∧ True)) := by
  kernel_rfl
theorem fcheck_vc (x : NodeG) (w : Int) (hs : List HaveG) (es : List AggG) (c r s s' : Int) : (vcFun (mkG Tryd.prog gN (tblOf [(25, cAt [qA x w hs es, .int .u64 c] (.tup [.int .u64 r, .int .i64 s]))]) (fun _ _ => none) 0) 20 24 [qA x w hs es, .int .u64 c] .nil 0 (retP 4 (.int .i64 s'))).sat = ( NB (atB [qA x w hs es, AV.int IntKind.u64 c] [qA x w hs es, AV.int IntKind.u64 c]) (VB (isW true (s == (0 : Int))) (VB (s == (0 : Int) && !andNotI IntKind.u64 r c == (0 : Int)) ((13 : Int) = s') (s = s')) (VB (s == (0 : Int) && true) ((13 : Int) = s') (s = s')))) := by
  kernel_rfl
end Go.Proofs.YtamcloifhjafcaaDoor
