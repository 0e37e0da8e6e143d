/- OP: O2 (from the wire chapter). -/
import Derived.Test.YtniihecdmcphgaaRows
import Derived.Test.YtniihecdmcphgaaW1
namespace Go.Proofs.Ytniihecdmcphgaa
open Pw Go
set_option maxRecDepth 100000
set_option linter.unusedSimpArgs false
def invNum (k : IntKind) (s : List UInt8) : Inv := ⟨Nat, 1, fun i => ⟨[(3, .int k (k.wrap (numS (s.take i)))), (7, .rof s.length (fun i => .int .u8 ((s.getD i 0).toNat)) false), (8, .int .i64 s.length), (9, .int .i64 i)], []⟩, fun i => i ≤ s.length, fun i => s.length - i⟩
theorem numU_vc (s : List UInt8) : (vcFun (mkE Try.prog (tblOf []) fun f b => if f = 66 ∧ b = 0 then some (invNum .u64 s) else none) 20 66 [.str s] .nil 0 (retP 3 (.int .u64 (numS s)))).sat = ( NB (decide (s.length ≤ (9223372036854775807 : Nat))) ((∃ (i : Nat), i.le s.length ∧ ((0 : Int) = IntKind.u64.wrap (numS (List.take i s)) ∧ (s.length = s.length ∧ (∀ (i : Nat), i < s.length → (↑(s.getD i (0 : UInt8)).toNat : Int) = (↑(s.getD i (0 : UInt8)).toNat : Int) ∧ [AV.int IntKind.u8 (↑(s.getD i (0 : UInt8)).toNat : Int)].length = [AV.int IntKind.u8 (↑(s.getD i (0 : UInt8)).toNat : Int)].length) ∧ (false = true → false = true)) ∧ (↑s.length : Int) = (↑s.length : Int) ∧ (0 : Int) = (↑i : Int) ∧ True) ∧ True) ∧ ∀ (i : Nat), i.le s.length → VB (decide ((↑i : Int) < (↑s.length : Int))) (NB (decide ((0 : Int) ≤ (↑i : Int) ∧ (↑i : Int) < (↑s.length : Int))) (∃ (i' : Nat), i'.le s.length ∧ (invNum IntKind.u64 s).μ i' < (invNum IntKind.u64 s).μ i ∧ (orI IntKind.u64 (shlI IntKind.u64 (IntKind.u64.wrap (numS (List.take i s))) (8 : Int)) (IntKind.u64.wrap (↑(s.getD (↑i : Int).toNat (0 : UInt8)).toNat : Int)) = IntKind.u64.wrap (numS (List.take i' s)) ∧ (s.length = s.length ∧ (∀ (i : Nat), i < s.length → (↑(s.getD i (0 : UInt8)).toNat : Int) = (↑(s.getD i (0 : UInt8)).toNat : Int) ∧ [AV.int IntKind.u8 (↑(s.getD i (0 : UInt8)).toNat : Int)].length = [AV.int IntKind.u8 (↑(s.getD i (0 : UInt8)).toNat : Int)].length) ∧ (false = true → false = true)) ∧ (↑s.length : Int) = (↑s.length : Int) ∧ IntKind.i64.wrap ((↑i : Int) + (1 : Int)) = (↑i' : Int) ∧ True) ∧ True)) (IntKind.u64.wrap (numS (List.take i s)) = numS s))) := by
 kernel_rfl
end Go.Proofs.Ytniihecdmcphgaa
namespace Go.Proofs.Ytniihecdmcphgaa
open Pw Go
set_option maxRecDepth 100000
set_option linter.unusedSimpArgs false
theorem mix : Try.prog.follows .mixedOrders = true := by kernel_rfl
def cNumU : Ctr
 | [.str s] => some (decide (s.length ≤ 9223372036854775807), .int .u64 (numS s))
 | _ => none
theorem numU_ok : PureF Try.prog 66 cNumU := by
 intro args nd v h hnd
 unfold cNumU at h
 split at h <;> cases h
 rename_i s
 refine pure_vc mix (tbl_nil _) ((numU_vc s).mpr ?_)
 have hl : s.length ≤ 9223372036854775807 := of_decide_eq_true hnd
 simp only [NB_iff, VB_iff, decide_eq_true_eq, decide_eq_false_iff_not, Nat.le_eq]
 refine ⟨hl, ⟨0, by omega, by simp [numS, wrap_u64]⟩, fun i hi => ⟨fun h1 => ⟨by omega, i + 1, by omega, ?_, ?_⟩, fun h1 => ?_⟩⟩
 ·show s.length - (i + 1) < s.length - i
  omega
 ·have h2 : i < s.length := by omega
  have h3 := numS_range (s.take i)
  have h4 : IntKind.u64.wrap (numS (s.take i)) = numS (s.take i) := by rw [wrap_u64]; omega
  have h5 := numS_range (s.take (i + 1))
  have h6 : IntKind.u64.wrap (numS (s.take (i + 1))) = numS (s.take (i + 1)) := by rw [wrap_u64]; omega
  refine ⟨⟨?_, by simp, trivial, ?_, trivial⟩, trivial⟩
  ·rw [h4, h6, Int.toNat_natCast, num_step_u64, numS_take _ _ h2]
  ·rw [wrap_i64]; omega
 ·have : i = s.length := by omega
  subst this
  have h3 := numS_range s
  rw [List.take_length, wrap_u64]; omega
end Go.Proofs.Ytniihecdmcphgaa
namespace Go.Proofs.Ytniihecdmcphgaa
open Pw Go
set_option maxRecDepth 100000
set_option linter.unusedSimpArgs false
def digRow (n : Int) (k i : Nat) : Nat → AV := fun p => .int .u8 (if k ≤ p + i then (((digS n k).getD p 0).toNat : Int) else 0)
def invDig (kd : IntKind) (n m : Int) (k : Nat) : Inv := ⟨Nat, 1, fun i => ⟨[(0, .int kd n), (1, .int .i64 m), (5, .sl 0 0 0 k (some k)), (10, .int .i64 m), (11, .int .i64 i)], [(0, .row 0 1 true (.fn k (digRow n k i)))]⟩, fun i => i ≤ k, fun i => k - i⟩
theorem digU_vc (n m : Int) : (vcFun (mkE Try.prog (tblOf []) fun f b => if f = 51 ∧ b = 0 then some (invDig .u64 n m m.toNat) else none) 20 51 [.int .u64 n, .int .i64 m] .nil 0 (retP 3 (.str (digS n m.toNat)))).sat = ( NB (decide ((0 : Int) ≤ m ∧ m = m ∧ m * (1 : Int) ≤ (140737488355328 : Int) ∧ m ≤ (9223372036854775807 : Int))) ((∃ (i : Nat), i.le m.toNat ∧ (n = n ∧ m = m ∧ ((0 : Nat) = (0 : Nat) ∧ (0 : Nat) = (0 : Nat) ∧ m.toNat = m.toNat ∧ (some m.toNat = some m.toNat ∨ some m.toNat = none)) ∧ (↑m.toNat : Int) = m ∧ (0 : Int) = (↑i : Int) ∧ True) ∧ ((0 : Nat) = (0 : Nat) ∧ (true = true → true = true) ∧ m.toNat = m.toNat ∧ ∀ (i_1 : Nat), i_1 < m.toNat → ((0 : Int) = if m.toNat ≤ i_1 + i then (↑((digS n m.toNat).getD i_1 (0 : UInt8)).toNat : Int) else (0 : Int)) ∧ [AV.int IntKind.u8 (0 : Int)].length = [digRow n m.toNat i i_1].length) ∧ True) ∧ ∀ (i : Nat), i.le m.toNat → VB (decide ((↑i : Int) < m)) (NB (decide ((0 : Int) ≤ IntKind.i64.wrap ((8 : Int) * (↑i : Int)))) (NB (true && decide ((0 : Int) ≤ IntKind.i64.wrap (IntKind.i64.wrap (m - (1 : Int)) - (↑i : Int)) ∧ IntKind.i64.wrap (IntKind.i64.wrap (m - (1 : Int)) - (↑i : Int)) < (↑m.toNat : Int))) (∃ (i' : Nat), i'.le m.toNat ∧ (invDig IntKind.u64 n m m.toNat).μ i' < (invDig IntKind.u64 n m m.toNat).μ i ∧ (n = n ∧ m = m ∧ ((0 : Nat) = (0 : Nat) ∧ (0 : Nat) = (0 : Nat) ∧ m.toNat = m.toNat ∧ (some m.toNat = some m.toNat ∨ some m.toNat = none)) ∧ m = m ∧ IntKind.i64.wrap ((↑i : Int) + (1 : Int)) = (↑i' : Int) ∧ True) ∧ ((0 : Nat) = (0 : Nat) ∧ (true = true → true = true) ∧ m.toNat = m.toNat ∧ ∀ (i_1 : Nat), i_1 < m.toNat → (if i_1 = (0 : Nat) + (IntKind.i64.wrap (IntKind.i64.wrap (m - (1 : Int)) - (↑i : Int))).toNat then AV.int IntKind.u8 (IntKind.u8.wrap (shrI IntKind.u64 n (IntKind.i64.wrap ((8 : Int) * (↑i : Int))))) else AV.int IntKind.u8 (if m.toNat ≤ i_1 + i then (↑((digS n m.toNat).getD i_1 (0 : UInt8)).toNat : Int) else (0 : Int))).sub (AV.int IntKind.u8 (if m.toNat ≤ i_1 + i' then (↑((digS n m.toNat).getD i_1 (0 : UInt8)).toNat : Int) else (0 : Int))) ∧ (if i_1 = (0 : Nat) + (IntKind.i64.wrap (IntKind.i64.wrap (m - (1 : Int)) - (↑i : Int))).toNat then AV.int IntKind.u8 (IntKind.u8.wrap (shrI IntKind.u64 n (IntKind.i64.wrap ((8 : Int) * (↑i : Int))))) else digRow n m.toNat i i_1).cells.length = [digRow n m.toNat i' i_1].length) ∧ True))) ((∀ (i_1 : Nat), i_1 < m.toNat → isU8 (digRow n m.toNat i ((0 : Nat) + i_1)) = true) ∧ List.map (fun (i_1 : Nat) => byteAV (digRow n m.toNat i ((0 : Nat) + i_1))) (List.range m.toNat) = digS n m.toNat))) := by
 kernel_rfl
end Go.Proofs.Ytniihecdmcphgaa
namespace Go.Proofs.Ytniihecdmcphgaa
open Pw Go
set_option maxRecDepth 100000
set_option linter.unusedSimpArgs false
noncomputable def cDig (kd : IntKind) : Ctr
 | [.int kd' n, .int .i64 m] => if kd' = kd then some (decide (0 ≤ m ∧ m ≤ 8), .str (hide (digS n m.toNat))) else none
 | _ => none
theorem digRow_next {n : Int} {k i p : Nat} (hp : p < k) (hi : i < k) {kd : IntKind} (hk : kd.bits = 64) (hk8 : k ≤ 8) :
  (if p = k - 1 - i then AV.int IntKind.u8 (IntKind.u8.wrap (shrI kd n (8 * (i : Int)))) else AV.int IntKind.u8 (if k ≤ p + i then (((digS n k).getD p 0).toNat : Int) else 0)).sub
   (AV.int IntKind.u8 (if k ≤ p + (i + 1) then (((digS n k).getD p 0).toNat : Int) else 0)) := by
 by_cases h : p = k - 1 - i
 ·subst h
  rw [if_pos rfl, if_pos (by omega), digS_get k n i hi, shr_dig hk n i (by omega), wrap_u8]
  simp only [AV.sub, if_true]
  have h0 : 0 ≤ (n / 256 ^ i) % 256 ∧ (n / 256 ^ i) % 256 < 256 := ⟨Int.emod_nonneg _ (by decide), Int.emod_lt_of_pos _ (by decide)⟩
  rw [UInt8.toNat_ofNat']
  omega
 ·rw [if_neg h]
  simp only [AV.sub, if_true]
  by_cases h2 : k ≤ p + i
  ·rw [if_pos h2, if_pos (by omega)]
  ·rw [if_neg h2, if_neg (by omega)]
theorem dig_done (n : Int) (k : Nat) : List.map (fun i => byteAV (digRow n k k (0 + i))) (List.range k) = digS n k := by
 apply List.ext_getElem
 ·simp [digS_length]
 ·intro i h1 h2
  simp only [List.length_map, List.length_range] at h1
  simp only [List.getElem_map, List.getElem_range, digRow, byteAV, Nat.zero_add]
  rw [if_pos (by omega), List.getD_eq_getElem?_getD, List.getElem?_eq_getElem h2]
  simp
theorem digU_ok : PureF Try.prog 51 (cDig .u64) := by
 intro args nd v h hnd
 unfold cDig at h
 split at h
 ·split at h
  ·cases h
   rename_i n m hk
   subst hk
   rw [hide_eq]
   refine pure_vc mix (tbl_nil _) ((digU_vc n m).mpr ?_)
   obtain ⟨h0, h8⟩ := of_decide_eq_true hnd
   obtain ⟨k, rfl⟩ := Int.eq_ofNat_of_zero_le h0
   have hk8 : k ≤ 8 := by omega
   simp only [NB_iff, VB_iff, decide_eq_true_eq, decide_eq_false_iff_not, Nat.le_eq, Int.toNat_natCast, true_and, and_true, true_or, implies_true, Bool.and_eq_true, decide_true]
   refine ⟨by omega, ⟨0, by omega, by omega, fun p hp => ⟨?_, rfl⟩⟩, fun i hi => ⟨fun h1 => ?_, fun h1 => ?_⟩⟩
   ·rw [if_neg (by omega)]
   ·have w1 : IntKind.i64.wrap (8 * (i : Int)) = 8 * (i : Int) := by rw [wrap_i64]; omega
    have w2 : IntKind.i64.wrap (IntKind.i64.wrap ((k : Int) - 1) - i) = (k : Int) - 1 - i := by simp only [wrap_i64]; omega
    have w3 : ((k : Int) - 1 - i).toNat = k - 1 - i := by omega
    rw [w1, w2, w3]
    refine ⟨by omega, by omega, i + 1, by omega, ?_, by rw [wrap_i64]; omega, fun p hp => ⟨?_, ?_⟩⟩
    ·show k - (i + 1) < k - i
     omega
    ·rw [Nat.zero_add]
     exact digRow_next hp (by omega) rfl hk8
    ·split <;> rfl
   ·obtain rfl : i = k := by omega
    exact ⟨fun p hp => rfl, dig_done n i⟩
  ·cases h
 ·cases h
end Go.Proofs.Ytniihecdmcphgaa
