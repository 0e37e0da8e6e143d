/- OP 20: the document's Check, big, Bytes: conditions. -/
import Derived.Test.YtniihecdmcphgaaO13
namespace Go.Proofs.Ytniihecdmcphgaa
open Pw Go
set_option maxRecDepth 100000
set_option linter.unusedSimpArgs false
theorem checkR_vc (k t l n m il id : Int) (x : List UInt8) (r : Int) : (vcFun EW 20 30 [.agg [.int .i64 k, .int .i64 t, .int .u64 l, .str x, .int .i64 n, .int .i64 m, .int .u64 il, .int .u64 id]] .nil 0 (retP 3 (.int .i64 r))).sat = ( VB (k == (1 : Int)) ((0 : Int) = r) (VB (k == (2 : Int)) (VB (true && decide ((↑x.length : Int) > (1000 : Int))) ((4 : Int) = r) ((0 : Int) = r)) (VB (k == (3 : Int)) ((0 : Int) = r) (VB (k == (4 : Int)) (VB (true && decide ((↑x.length : Int) > (1000 : Int))) ((4 : Int) = r) ((0 : Int) = r)) (VB (k == (5 : Int)) ((0 : Int) = r) (VB (k == (6 : Int)) ((0 : Int) = r) (VB (k == (7 : Int)) ((0 : Int) = r) (VB (k == (8 : Int)) ((0 : Int) = r) ((11 : Int) = r))))))))) := by
 kernel_rfl
theorem big8_vc (x : Int) (r : List UInt8) : (vcFun (mkF Try.prog (tblOf []) (fun _ _ => none) 10) 20 44 [.int .u64 x, .int .i64 8] .nil 0 (retP 3 (.str r))).sat = ( (∀ (i : Nat), i < Int.toNat (8 : Int) → isU8 (if (0 : Nat) + i = (0 : Nat) + Int.toNat (0 : Int) then AV.int IntKind.u8 (IntKind.u8.wrap (shrI IntKind.u64 x (56 : Int))) else if (0 : Nat) + i = (0 : Nat) + Int.toNat (1 : Int) then AV.int IntKind.u8 (IntKind.u8.wrap (shrI IntKind.u64 x (48 : Int))) else if (0 : Nat) + i = (0 : Nat) + Int.toNat (2 : Int) then AV.int IntKind.u8 (IntKind.u8.wrap (shrI IntKind.u64 x (40 : Int))) else if (0 : Nat) + i = (0 : Nat) + Int.toNat (3 : Int) then AV.int IntKind.u8 (IntKind.u8.wrap (shrI IntKind.u64 x (32 : Int))) else if (0 : Nat) + i = (0 : Nat) + Int.toNat (4 : Int) then AV.int IntKind.u8 (IntKind.u8.wrap (shrI IntKind.u64 x (24 : Int))) else if (0 : Nat) + i = (0 : Nat) + Int.toNat (5 : Int) then AV.int IntKind.u8 (IntKind.u8.wrap (shrI IntKind.u64 x (16 : Int))) else if (0 : Nat) + i = (0 : Nat) + Int.toNat (6 : Int) then AV.int IntKind.u8 (IntKind.u8.wrap (shrI IntKind.u64 x (8 : Int))) else if (0 : Nat) + i = (0 : Nat) + Int.toNat (7 : Int) then AV.int IntKind.u8 (IntKind.u8.wrap (shrI IntKind.u64 x (0 : Int))) else AV.int IntKind.u8 (0 : Int)) = true) ∧ List.map (fun (i : Nat) => byteAV (if (0 : Nat) + i = (0 : Nat) + Int.toNat (0 : Int) then AV.int IntKind.u8 (IntKind.u8.wrap (shrI IntKind.u64 x (56 : Int))) else if (0 : Nat) + i = (0 : Nat) + Int.toNat (1 : Int) then AV.int IntKind.u8 (IntKind.u8.wrap (shrI IntKind.u64 x (48 : Int))) else if (0 : Nat) + i = (0 : Nat) + Int.toNat (2 : Int) then AV.int IntKind.u8 (IntKind.u8.wrap (shrI IntKind.u64 x (40 : Int))) else if (0 : Nat) + i = (0 : Nat) + Int.toNat (3 : Int) then AV.int IntKind.u8 (IntKind.u8.wrap (shrI IntKind.u64 x (32 : Int))) else if (0 : Nat) + i = (0 : Nat) + Int.toNat (4 : Int) then AV.int IntKind.u8 (IntKind.u8.wrap (shrI IntKind.u64 x (24 : Int))) else if (0 : Nat) + i = (0 : Nat) + Int.toNat (5 : Int) then AV.int IntKind.u8 (IntKind.u8.wrap (shrI IntKind.u64 x (16 : Int))) else if (0 : Nat) + i = (0 : Nat) + Int.toNat (6 : Int) then AV.int IntKind.u8 (IntKind.u8.wrap (shrI IntKind.u64 x (8 : Int))) else if (0 : Nat) + i = (0 : Nat) + Int.toNat (7 : Int) then AV.int IntKind.u8 (IntKind.u8.wrap (shrI IntKind.u64 x (0 : Int))) else AV.int IntKind.u8 (0 : Int))) (List.range (Int.toNat (8 : Int))) = r) := by
 kernel_rfl
theorem big2_vc (x : Int) (r : List UInt8) : (vcFun (mkF Try.prog (tblOf []) (fun _ _ => none) 10) 20 44 [.int .u64 x, .int .i64 2] .nil 0 (retP 3 (.str r))).sat = ( (∀ (i : Nat), i < Int.toNat (2 : Int) → isU8 (if (0 : Nat) + i = (0 : Nat) + Int.toNat (0 : Int) then AV.int IntKind.u8 (IntKind.u8.wrap (shrI IntKind.u64 x (8 : Int))) else if (0 : Nat) + i = (0 : Nat) + Int.toNat (1 : Int) then AV.int IntKind.u8 (IntKind.u8.wrap (shrI IntKind.u64 x (0 : Int))) else AV.int IntKind.u8 (0 : Int)) = true) ∧ List.map (fun (i : Nat) => byteAV (if (0 : Nat) + i = (0 : Nat) + Int.toNat (0 : Int) then AV.int IntKind.u8 (IntKind.u8.wrap (shrI IntKind.u64 x (8 : Int))) else if (0 : Nat) + i = (0 : Nat) + Int.toNat (1 : Int) then AV.int IntKind.u8 (IntKind.u8.wrap (shrI IntKind.u64 x (0 : Int))) else AV.int IntKind.u8 (0 : Int))) (List.range (Int.toNat (2 : Int))) = r) := by
 kernel_rfl
end Go.Proofs.Ytniihecdmcphgaa
namespace Go.Proofs.Ytniihecdmcphgaa
open Pw Go
set_option maxRecDepth 100000
set_option linter.unusedSimpArgs false
theorem checkR_ok : PureF Try.prog 30 cCheck := by
 intro args nd v h hnd
 unfold cCheck at h
 split at h <;> cases h
 rename_i k t l x n m il id
 refine pure_vcF mix tblW_ok ((checkR_vc k t l n m il id x _).mpr ?_)
 repeat' (first
  | (with_reducible refine VB_intro (fun h => ?_) (fun h => ?_) <;> try simp only [h, VB_t, VB_f, NB_t, Bool.not_true, Bool.not_false, Bool.true_and, Bool.false_and, Bool.and_true, Bool.and_false])
  | (with_reducible refine NB_intro' ?_ (fun h => ?_)))
 all_goals try simp only [isW_t, isW_f, impB_t, impB_f, beq_iff_eq, bne_iff_ne, Bool.not_eq_eq_eq_not, Bool.not_true, Bool.not_false, Bool.and_eq_true, Bool.and_eq_false_iff, Bool.or_eq_true, Bool.or_eq_false_iff, beq_eq_false_iff_ne, decide_eq_true_eq, decide_eq_false_iff_not, EqI] at *
 all_goals try simp (disch := omega) only [wrap_i64_id, wrap_u64_id, Int.add_sub_cancel] at *
 all_goals try simp (disch := omega) only [wrap_i64_id, wrap_u64_id, Int.add_sub_cancel] at *
 all_goals try simp (disch := omega) only [wrap_i64_id, wrap_u64_id, Int.add_sub_cancel] at *
 all_goals try simp (disch := omega) only [wrap_i64_id, wrap_u64_id, Int.add_sub_cancel] at *
 all_goals try grind (splits := 20) [opChk]
noncomputable def cBig : Ctr
 | [.int .u64 x, .int .i64 n] => some (decide (0 ≤ x) && decide (n = 8 ∨ n = 2), .str (hide (digS x n.toNat)))
 | _ => none
theorem byte_shr (x : Int) (j : Nat) (hj : j ≤ 7) : byteAV (.int .u8 (IntKind.u8.wrap (shrI .u64 x (8 * (j : Int))))) = UInt8.ofNat (x / 256 ^ j % 256).toNat := by
 rw [shr_dig (kd := .u64) rfl x j (by omega), wrap_u8]
 rfl
theorem divs (x : Int) : x / 256 / 256 / 256 / 256 / 256 / 256 / 256 = x / 256 ^ 7 ∧ x / 256 / 256 / 256 / 256 / 256 / 256 = x / 256 ^ 6 ∧ x / 256 / 256 / 256 / 256 / 256 = x / 256 ^ 5 ∧ x / 256 / 256 / 256 / 256 = x / 256 ^ 4 ∧ x / 256 / 256 / 256 = x / 256 ^ 3 ∧ x / 256 / 256 = x / 256 ^ 2 ∧ x / 256 = x / 256 ^ 1 := by
 refine ⟨?_, ?_, ?_, ?_, ?_, ?_, ?_⟩
 ·rw [show (256 : Int) ^ 7 = 72057594037927936 from rfl]; omega
 ·rw [show (256 : Int) ^ 6 = 281474976710656 from rfl]; omega
 ·rw [show (256 : Int) ^ 5 = 1099511627776 from rfl]; omega
 ·rw [show (256 : Int) ^ 4 = 4294967296 from rfl]; omega
 ·rw [show (256 : Int) ^ 3 = 16777216 from rfl]; omega
 ·rw [show (256 : Int) ^ 2 = 65536 from rfl]; omega
 ·rw [show (256 : Int) ^ 1 = 256 from rfl]
theorem dig8 (x : Int) : digS x 8 = [UInt8.ofNat (x / 256 ^ 7 % 256).toNat, UInt8.ofNat (x / 256 ^ 6 % 256).toNat, UInt8.ofNat (x / 256 ^ 5 % 256).toNat, UInt8.ofNat (x / 256 ^ 4 % 256).toNat, UInt8.ofNat (x / 256 ^ 3 % 256).toNat, UInt8.ofNat (x / 256 ^ 2 % 256).toNat, UInt8.ofNat (x / 256 ^ 1 % 256).toNat, UInt8.ofNat (x / 256 ^ 0 % 256).toNat] := by
 obtain ⟨h7, h6, h5, h4, h3, h2, h1⟩ := divs x
 simp only [digS, List.nil_append, List.cons_append]
 rw [h7, h6, h5, h4, h3, h2, h1]
 simp
theorem dig2 (x : Int) : digS x 2 = [UInt8.ofNat (x / 256 ^ 1 % 256).toNat, UInt8.ofNat (x / 256 ^ 0 % 256).toNat] := by
 simp only [digS, List.nil_append, List.cons_append]
 simp
theorem big_ok : PureF Try.prog 44 cBig := by
 intro args nd v h hnd
 unfold cBig at h
 split at h <;> cases h
 rename_i x n
 simp only [Bool.and_eq_true, decide_eq_true_eq] at hnd
 have b0 := byte_shr x 0 (by decide)
 have b1 := byte_shr x 1 (by decide)
 have b2 := byte_shr x 2 (by decide)
 have b3 := byte_shr x 3 (by decide)
 have b4 := byte_shr x 4 (by decide)
 have b5 := byte_shr x 5 (by decide)
 have b6 := byte_shr x 6 (by decide)
 have b7 := byte_shr x 7 (by decide)
 rcases hnd.2 with rfl | rfl
 ·refine pure_vcF mix (tbl_nil _) ((big8_vc x _).mpr ⟨fun i hi => ?_, ?_⟩)
  ·have : i < 8 := hi
   repeat' split
   all_goals rfl
  ·show [_, _, _, _, _, _, _, _] = _
   rw [hide_eq]
   show [byteAV (.int .u8 (IntKind.u8.wrap (shrI .u64 x (8 * ((7 : Nat) : Int))))), byteAV (.int .u8 (IntKind.u8.wrap (shrI .u64 x (8 * ((6 : Nat) : Int))))), byteAV (.int .u8 (IntKind.u8.wrap (shrI .u64 x (8 * ((5 : Nat) : Int))))), byteAV (.int .u8 (IntKind.u8.wrap (shrI .u64 x (8 * ((4 : Nat) : Int))))), byteAV (.int .u8 (IntKind.u8.wrap (shrI .u64 x (8 * ((3 : Nat) : Int))))), byteAV (.int .u8 (IntKind.u8.wrap (shrI .u64 x (8 * ((2 : Nat) : Int))))), byteAV (.int .u8 (IntKind.u8.wrap (shrI .u64 x (8 * ((1 : Nat) : Int))))), byteAV (.int .u8 (IntKind.u8.wrap (shrI .u64 x (8 * ((0 : Nat) : Int)))))] = digS x 8
   rw [b0, b1, b2, b3, b4, b5, b6, b7, dig8]
 ·refine pure_vcF mix (tbl_nil _) ((big2_vc x _).mpr ⟨fun i hi => ?_, ?_⟩)
  ·have : i < 2 := hi
   repeat' split
   all_goals rfl
  ·show [_, _] = _
   rw [hide_eq]
   show [byteAV (.int .u8 (IntKind.u8.wrap (shrI .u64 x (8 * ((1 : Nat) : Int))))), byteAV (.int .u8 (IntKind.u8.wrap (shrI .u64 x (8 * ((0 : Nat) : Int)))))] = digS x 2
   rw [b0, b1, dig2]
noncomputable def tblQ : List (Nat × Ctr) := [(30, cCheck), (44, cBig)]
theorem tblQ_ok : TblOK Try.prog (fun _ => .undef) (tblOf tblQ) := tbl_cons checkR_ok (tbl_cons big_ok (tbl_nil _))
noncomputable def EQ : Env := mkF Try.prog (tblOf tblQ) (fun _ _ => none) 4
end Go.Proofs.Ytniihecdmcphgaa
