/- OP 37: the operation that begins at an offset, read: its contract. -/
import Derived.Test.YtniihecdmcphgaaO35
import Derived.Test.YtniihecdmcphgaaOS
namespace Go.Proofs.Ytniihecdmcphgaa
open Pw Go
set_option maxRecDepth 100000
set_option linter.unusedSimpArgs false
def nextAV (s : List UInt8) (a : Int) : AV := .rptr (.agg [.str (opNext s a).2.s, .int .i64 (opNext s a).2.at_, .int .i64 (opNext s a).2.err, .int .i64 (opNext s a).2.fat,
 .int .i64 (opNext s a).1.k, .int .i64 (opNext s a).1.t, .int .u64 (opNext s a).1.l, .str (opNext s a).1.x, .int .i64 (opNext s a).1.n, .int .i64 (opNext s a).1.m, .int .u64 (opNext s a).1.il, .int .u64 (opNext s a).1.id]) 0
def cNext : Ctr
 | [.str s, .int .i64 a] => some (decide (s.length ≤ 9223372036854775807) && decide (0 ≤ a) && decide (a < s.length), nextAV s a)
 | _ => none
theorem rd_oneA {s : List UInt8} {a : Int} (h0 : 0 ≤ a) (h1 : a < s.length) : rdTake (rdUse ⟨s, a, 0, 0⟩) 1 = (⟨s, a + 1, 0, 0⟩, [s.getD a.toNat 0]) := by
 rw [rdUse_ok h0 (by omega)]
 unfold rdTake
 rw [if_neg (by simp), if_neg (by show ¬ ((s.length : Int) - a < 1); omega)]
 have e : List.take (Int.toNat 1) (List.drop a.toNat s) = [s.getD a.toNat 0] := by
  have hlt : a.toNat < s.length := by omega
  show List.take 1 _ = _
  rw [List.drop_eq_getElem_cons hlt]
  simp only [List.take_succ_cons, List.take_zero, List.getD_eq_getElem?_getD, List.getElem?_eq_getElem hlt, Option.getD_some]
 exact congrArg _ e
theorem rdU_oneA {s : List UInt8} {a : Int} (h0 : 0 ≤ a) (h1 : a < s.length) : rdUint ⟨s, a, 0, 0⟩ 1 = (⟨s, a + 1, 0, 0⟩, ((s.getD a.toNat 0).toNat : Int)) := by
 have e : rdUint ⟨s, a, 0, 0⟩ 1 = ((rdTake (rdUse ⟨s, a, 0, 0⟩) 1).1, numS (rdTake (rdUse ⟨s, a, 0, 0⟩) 1).2) := rfl
 rw [e, rd_oneA h0 h1, numS_one]
theorem rdF_oneA {s : List UInt8} {a : Int} (h0 : 0 ≤ a) (h1 : a < s.length) : rdFailX ⟨s, a + 1, 0, 0⟩ 11 a = ⟨s, a + 1, 11, a⟩ := by
 unfold rdFailX
 rw [rdUse_ok (by omega) (by omega)]
 have hm : minI (maxI a 0) (s.length : Int) = a := by
  unfold minI maxI
  split <;> split <;> omega
 show rdFail ⟨s, a + 1, 0, 0⟩ 11 (minI (maxI a 0) (s.length : Int)) = _
 rw [hm]
 rfl
theorem next_ok : PureF Try.prog 26 cNext := by
 intro args nd v h hnd
 unfold cNext at h
 split at h <;> cases h
 rename_i s a
 simp only [Bool.and_eq_true, decide_eq_true_eq] at hnd
 obtain ⟨⟨hl', h0⟩, h1⟩ := hnd
 have hT := rd_oneA h0 h1
 have hU := rdU_oneA h0 h1
 have hn : ∀ b, numS [b] = (b.toNat : Int) := numS_one
 have hF := rdF_oneA h0 h1
 unfold nextAV
 generalize s.getD a.toNat 0 = b at hT hU
 rcases kinds (b.toNat : Int) with ⟨j, hj⟩ | hk | hk | hk | hk | hk | hk | hk | hk | hk | hk
 ·omega
 ·refine pure_vcF mix (tblRU_ok b.toNat) ((nextU_vc _ s a _ _ _ _ _ _ _ _ _ _ _ _).mpr ?_)
  have hw : IntKind.i64.wrap (b.toNat : Int) = b.toNat := by
   have := b.toNat_lt
   rw [wrap_i64]
   omega
  have h8 : ¬ (1 ≤ (b.toNat : Int) ∧ (b.toNat : Int) ≤ 8) := by obtain ⟨j, hj⟩ := hk; simp only [Int.ofNat_eq_natCast] at hj; omega
  simp only [hT, hn, hw, h8, hF, opNext, hU, NB_iff, VB_iff]
  simp [hF, hl', impB, isW]
 ·refine pure_vcF mix (tblRU_ok b.toNat) ((nextU_vc _ s a _ _ _ _ _ _ _ _ _ _ _ _).mpr ?_)
  have hw : IntKind.i64.wrap (b.toNat : Int) = b.toNat := by
   have := b.toNat_lt
   rw [wrap_i64]
   omega
  have h8 : ¬ (1 ≤ (b.toNat : Int) ∧ (b.toNat : Int) ≤ 8) := by omega
  simp only [hT, hn, hw, h8, hF, opNext, hU, NB_iff, VB_iff]
  simp [hF, hl', impB, isW]
 ·refine pure_vcF mix (tblR_ok 0 1) ((next1_vc s a _ _ _ _ _ _ _ _ _ _ _ _).mpr ?_)
  simp only [hT, hn, hk, opNext, hU, NB_iff, VB_iff]
  simp +contextual [hl', fieldsOf, rFld, rdUint_8, tk_len, sz_len]
 ·refine pure_vcF mix (tblR_ok 0 2) ((next2_vc s a _ _ _ _ _ _ _ _ _ _ _ _).mpr ?_)
  simp only [hT, hn, hk, opNext, hU, NB_iff, VB_iff]
  simp +contextual [hl', fieldsOf, rFld, rdUint_8, tk_len, sz_len]
 ·refine pure_vcF mix (tblR_ok 0 3) ((next3_vc s a _ _ _ _ _ _ _ _ _ _ _ _).mpr ?_)
  simp only [hT, hn, hk, opNext, hU, NB_iff, VB_iff]
  simp +contextual [hl', fieldsOf, rFld, rdUint_8, tk_len, sz_len]
 ·refine pure_vcF mix (tblR_ok 0 4) ((next4_vc s a _ _ _ _ _ _ _ _ _ _ _ _).mpr ?_)
  simp only [hT, hn, hk, opNext, hU, NB_iff, VB_iff]
  simp +contextual [hl', fieldsOf, rFld, rdUint_8, tk_len, sz_len]
 ·refine pure_vcF mix (tblR_ok 0 5) ((next5_vc s a _ _ _ _ _ _ _ _ _ _ _ _).mpr ?_)
  simp only [hT, hn, hk, opNext, hU, NB_iff, VB_iff]
  simp +contextual [hl', fieldsOf, rFld, rdUint_8, tk_len, sz_len]
 ·refine pure_vcF mix (tblR_ok 0 6) ((next6_vc s a _ _ _ _ _ _ _ _ _ _ _ _).mpr ?_)
  simp only [hT, hn, hk, opNext, hU, NB_iff, VB_iff]
  simp +contextual [hl', fieldsOf, rFld, rdUint_8, tk_len, sz_len]
 ·refine pure_vcF mix (tblR_ok 0 7) ((next7_vc s a _ _ _ _ _ _ _ _ _ _ _ _).mpr ?_)
  simp only [hT, hn, hk, opNext, hU, NB_iff, VB_iff]
  simp +contextual [hl', fieldsOf, rFld, rdUint_8, tk_len, sz_len]
 ·refine pure_vcF mix (tblR_ok 0 8) ((next8_vc s a _ _ _ _ _ _ _ _ _ _ _ _).mpr ?_)
  simp only [hT, hn, hk, opNext, hU, NB_iff, VB_iff]
  simp +contextual [hl', fieldsOf, rFld, rdUint_8, tk_len, sz_len]
end Go.Proofs.Ytniihecdmcphgaa
namespace Go.Proofs.Ytniihecdmcphgaa
open Pw Go
set_option maxRecDepth 100000
set_option linter.unusedSimpArgs false
def oOff (s : List UInt8) : Nat → Int
 | 0 => 0
 | j + 1 => (opNext s (oOff s j)).2.at_
def oAt (s : List UInt8) (j : Nat) : Opr := (opNext s (oOff s j)).1
def oErr (s : List UInt8) (j : Nat) : Int := (opNext s (oOff s j)).2.err
def oFat (s : List UInt8) (j : Nat) : Int := (opNext s (oOff s j)).2.fat
def good (s : List UInt8) (j : Nat) : Prop := ∀ i, i < j → oErr s i = 0 ∧ 0 ≤ oOff s i ∧ oOff s i < s.length
def invPL (s : List UInt8) (P : Nat → Prop) : Inv := ⟨Nat × Nat, 11, fun p => ⟨[(0, .yld 4), (1, .ptr 3 0 0 0), (3, .int .i64 (oOff s p.1))],
 [(0, .row 0 1 true (.lst [.nils])), (1, .row 0 2 true (.lst [.agg [.int .i64 0, .int .i64 0]])), (2, .row 0 1 false (.lst [.sl 10 p.2 0 p.1 none])), (3, .row 0 1 true (.lst [.str s])), (10, .row p.2 8 true (.fn p.1 (fun i => (oAt s i).av)))]⟩,
 fun p => P p.1, fun p => 500 - p.1⟩
def tblN : List (Nat × Ctr) := [(26, cNext)]
theorem tblN_ok : TblOK Try.prog (fun _ => .undef) (tblOf tblN) := tbl_cons next_ok (tbl_nil _)
theorem plist_vc (s : List UInt8) (Q : Nat → Prop) (n : Nat) (g : Nat → Opr) (e f : Int) : (vcFun (mkE Try.prog (tblOf tblN) fun h b => if h = 47 ∧ b = 0 then some (invPL s Q) else none) 20 20 [.str s] .nil 0 (retP 3 (.tup [.rof n (fun i => (g i).av) false, .agg [.int .i64 e, .int .i64 f]]))).sat = ( VB (decide ((↑s.length : Int) > (20000 : Int))) (n = (0 : Nat) ∧ ((4 : Int) = e ∧ (20000 : Int) = f ∧ True) ∧ True) ((∃ (i : Nat × Nat), Q i.fst ∧ (nat_lit 3 + (1 : Nat) = (4 : Nat) ∧ ((0 : Nat) = (0 : Nat) ∧ (0 : Nat) = (0 : Nat) ∧ (0 : Nat) = (0 : Nat)) ∧ (0 : Int) = oOff s i.fst ∧ True) ∧ ((0 : Nat) = (0 : Nat) ∧ (true = true → true = true) ∧ (True ∧ [AV.nils].length = [AV.nils].length) ∧ True) ∧ ((0 : Nat) = (0 : Nat) ∧ (true = true → true = true) ∧ ((EqI (0 : Int) (0 : Int) ∧ EqI (0 : Int) (0 : Int) ∧ True) ∧ [AV.int IntKind.i64 (0 : Int), AV.int IntKind.i64 (0 : Int)].length = [AV.int IntKind.i64 (0 : Int), AV.int IntKind.i64 (0 : Int)].length) ∧ True) ∧ ((0 : Nat) = (0 : Nat) ∧ (1 : Nat) = (1 : Nat) ∧ i.fst = (0 : Nat) ∧ i.snd = i.snd ∧ i.fst = (0 : Nat)) ∧ ((0 : Nat) = (0 : Nat) ∧ (true = true → true = true) ∧ (s = s ∧ [AV.str s].length = [AV.str s].length) ∧ True) ∧ i.fst = (0 : Nat) ∧ True) ∧ ∀ (i : Nat × Nat), Q i.fst → VB (decide (oOff s i.fst < (↑s.length : Int))) (NB (decide (s.length ≤ (9223372036854775807 : Nat)) && decide ((0 : Int) ≤ oOff s i.fst) && decide (oOff s i.fst < (↑s.length : Int))) (VB ((↑i.fst : Int) == (400 : Int)) (n = (0 : Nat) ∧ ((4 : Int) = e ∧ oOff s i.fst = f ∧ True) ∧ True) (VB ((opNext s (oOff s i.fst)).snd.err != (0 : Int)) (n = (0 : Nat) ∧ ((opNext s (oOff s i.fst)).snd.err = e ∧ (opNext s (oOff s i.fst)).snd.fat = f ∧ True) ∧ True) (NB (true && decide (i.snd = i.snd) && room (i.fst + (1 : Nat)) (72 : Nat)) (VB (false || (opNext s (oOff s i.fst)).snd.err != (0 : Int)) (NB (decide (i.snd + (1 : Nat) = i.snd + (1 : Nat)) && true) ((i.fst + (1 : Nat) = n ∧ (∀ (i_1 : Nat), i_1 < i.fst + (1 : Nat) → (if (0 : Nat) + i_1 < i.fst then AV.agg [AV.int IntKind.i64 (oAt s ((0 : Nat) + ((0 : Nat) + i_1))).k, AV.int IntKind.i64 (oAt s ((0 : Nat) + ((0 : Nat) + i_1))).t, AV.int IntKind.u64 (oAt s ((0 : Nat) + ((0 : Nat) + i_1))).l, AV.str (oAt s ((0 : Nat) + ((0 : Nat) + i_1))).x, AV.int IntKind.i64 (oAt s ((0 : Nat) + ((0 : Nat) + i_1))).n, AV.int IntKind.i64 (oAt s ((0 : Nat) + ((0 : Nat) + i_1))).m, AV.int IntKind.u64 (oAt s ((0 : Nat) + ((0 : Nat) + i_1))).il, AV.int IntKind.u64 (oAt s ((0 : Nat) + ((0 : Nat) + i_1))).id] else ((Sq.lst [AV.agg [AV.int IntKind.i64 (opNext s (oOff s i.fst)).fst.k, AV.int IntKind.i64 (opNext s (oOff s i.fst)).fst.t, AV.int IntKind.u64 (opNext s (oOff s i.fst)).fst.l, AV.str (opNext s (oOff s i.fst)).fst.x, AV.int IntKind.i64 (opNext s (oOff s i.fst)).fst.n, AV.int IntKind.i64 (opNext s (oOff s i.fst)).fst.m, AV.int IntKind.u64 (opNext s (oOff s i.fst)).fst.il, AV.int IntKind.u64 (opNext s (oOff s i.fst)).fst.id]]).sub (0 : Nat) (1 : Nat)).get ((0 : Nat) + i_1 - i.fst)).sub (AV.agg [AV.int IntKind.i64 (g i_1).k, AV.int IntKind.i64 (g i_1).t, AV.int IntKind.u64 (g i_1).l, AV.str (g i_1).x, AV.int IntKind.i64 (g i_1).n, AV.int IntKind.i64 (g i_1).m, AV.int IntKind.u64 (g i_1).il, AV.int IntKind.u64 (g i_1).id]) ∧ (if (0 : Nat) + i_1 < i.fst then (oAt s ((0 : Nat) + ((0 : Nat) + i_1))).av else ((Sq.lst [AV.agg [AV.int IntKind.i64 (opNext s (oOff s i.fst)).fst.k, AV.int IntKind.i64 (opNext s (oOff s i.fst)).fst.t, AV.int IntKind.u64 (opNext s (oOff s i.fst)).fst.l, AV.str (opNext s (oOff s i.fst)).fst.x, AV.int IntKind.i64 (opNext s (oOff s i.fst)).fst.n, AV.int IntKind.i64 (opNext s (oOff s i.fst)).fst.m, AV.int IntKind.u64 (opNext s (oOff s i.fst)).fst.il, AV.int IntKind.u64 (opNext s (oOff s i.fst)).fst.id]]).sub (0 : Nat) (1 : Nat)).get ((0 : Nat) + i_1 - i.fst)).cells.length = [AV.int IntKind.i64 (g i_1).k, AV.int IntKind.i64 (g i_1).t, AV.int IntKind.u64 (g i_1).l, AV.str (g i_1).x, AV.int IntKind.i64 (g i_1).n, AV.int IntKind.i64 (g i_1).m, AV.int IntKind.u64 (g i_1).il, AV.int IntKind.u64 (g i_1).id].length) ∧ (false = true → decide (none = some (i.fst + (1 : Nat))) = true)) ∧ ((0 : Int) = e ∧ (0 : Int) = f ∧ True) ∧ True)) (∃ (i' : Nat × Nat), Q i'.fst ∧ (invPL s Q).μ i' < (invPL s Q).μ i ∧ ((4 : Nat) = (4 : Nat) ∧ ((0 : Nat) = (0 : Nat) ∧ (0 : Nat) = (0 : Nat) ∧ (0 : Nat) = (0 : Nat)) ∧ (opNext s (oOff s i.fst)).snd.at_ = oOff s i'.fst ∧ True) ∧ ((0 : Nat) = (0 : Nat) ∧ (true = true → true = true) ∧ (True ∧ [AV.nils].length = [AV.nils].length) ∧ True) ∧ ((0 : Nat) = (0 : Nat) ∧ (true = true → true = true) ∧ ((EqI (0 : Int) (0 : Int) ∧ EqI (0 : Int) (0 : Int) ∧ True) ∧ [AV.int IntKind.i64 (0 : Int), AV.int IntKind.i64 (0 : Int)].length = [AV.int IntKind.i64 (0 : Int), AV.int IntKind.i64 (0 : Int)].length) ∧ True) ∧ ((0 : Nat) = (0 : Nat) ∧ (false = true → false = true) ∧ ((i.snd + (1 : Nat) = i'.snd ∧ (0 : Nat) = (0 : Nat) ∧ i.fst + (1 : Nat) = i'.fst ∧ (@Eq (Option Nat) none none ∨ @Eq (Option Nat) none none)) ∧ [AV.sl (10 : Nat) (i.snd + (1 : Nat)) (0 : Nat) (i.fst + (1 : Nat)) none].length = [AV.sl (10 : Nat) i'.snd (0 : Nat) i'.fst none].length) ∧ True) ∧ ((0 : Nat) = (0 : Nat) ∧ (true = true → true = true) ∧ (s = s ∧ [AV.str s].length = [AV.str s].length) ∧ True) ∧ (i.snd + (1 : Nat) = i'.snd ∧ (true = true → true = true) ∧ i.fst + (1 : Nat) = i'.fst ∧ ∀ (i_1 : Nat), i_1 < i.fst + (1 : Nat) → (if i_1 < i.fst then AV.agg [AV.int IntKind.i64 (oAt s ((0 : Nat) + i_1)).k, AV.int IntKind.i64 (oAt s ((0 : Nat) + i_1)).t, AV.int IntKind.u64 (oAt s ((0 : Nat) + i_1)).l, AV.str (oAt s ((0 : Nat) + i_1)).x, AV.int IntKind.i64 (oAt s ((0 : Nat) + i_1)).n, AV.int IntKind.i64 (oAt s ((0 : Nat) + i_1)).m, AV.int IntKind.u64 (oAt s ((0 : Nat) + i_1)).il, AV.int IntKind.u64 (oAt s ((0 : Nat) + i_1)).id] else ((Sq.lst [AV.agg [AV.int IntKind.i64 (opNext s (oOff s i.fst)).fst.k, AV.int IntKind.i64 (opNext s (oOff s i.fst)).fst.t, AV.int IntKind.u64 (opNext s (oOff s i.fst)).fst.l, AV.str (opNext s (oOff s i.fst)).fst.x, AV.int IntKind.i64 (opNext s (oOff s i.fst)).fst.n, AV.int IntKind.i64 (opNext s (oOff s i.fst)).fst.m, AV.int IntKind.u64 (opNext s (oOff s i.fst)).fst.il, AV.int IntKind.u64 (opNext s (oOff s i.fst)).fst.id]]).sub (0 : Nat) (1 : Nat)).get (i_1 - i.fst)).sub (AV.agg [AV.int IntKind.i64 (oAt s i_1).k, AV.int IntKind.i64 (oAt s i_1).t, AV.int IntKind.u64 (oAt s i_1).l, AV.str (oAt s i_1).x, AV.int IntKind.i64 (oAt s i_1).n, AV.int IntKind.i64 (oAt s i_1).m, AV.int IntKind.u64 (oAt s i_1).il, AV.int IntKind.u64 (oAt s i_1).id]) ∧ (if i_1 < i.fst then (oAt s ((0 : Nat) + i_1)).av else ((Sq.lst [AV.agg [AV.int IntKind.i64 (opNext s (oOff s i.fst)).fst.k, AV.int IntKind.i64 (opNext s (oOff s i.fst)).fst.t, AV.int IntKind.u64 (opNext s (oOff s i.fst)).fst.l, AV.str (opNext s (oOff s i.fst)).fst.x, AV.int IntKind.i64 (opNext s (oOff s i.fst)).fst.n, AV.int IntKind.i64 (opNext s (oOff s i.fst)).fst.m, AV.int IntKind.u64 (opNext s (oOff s i.fst)).fst.il, AV.int IntKind.u64 (opNext s (oOff s i.fst)).fst.id]]).sub (0 : Nat) (1 : Nat)).get (i_1 - i.fst)).cells.length = [AV.int IntKind.i64 (oAt s i_1).k, AV.int IntKind.i64 (oAt s i_1).t, AV.int IntKind.u64 (oAt s i_1).l, AV.str (oAt s i_1).x, AV.int IntKind.i64 (oAt s i_1).n, AV.int IntKind.i64 (oAt s i_1).m, AV.int IntKind.u64 (oAt s i_1).il, AV.int IntKind.u64 (oAt s i_1).id].length) ∧ True)))))) (NB (decide (i.snd = i.snd) && true) ((i.fst = n ∧ (∀ (i_1 : Nat), i_1 < i.fst → ((oAt s ((0 : Nat) + i_1)).k = (g i_1).k ∧ (oAt s ((0 : Nat) + i_1)).t = (g i_1).t ∧ (oAt s ((0 : Nat) + i_1)).l = (g i_1).l ∧ (oAt s ((0 : Nat) + i_1)).x = (g i_1).x ∧ (oAt s ((0 : Nat) + i_1)).n = (g i_1).n ∧ (oAt s ((0 : Nat) + i_1)).m = (g i_1).m ∧ (oAt s ((0 : Nat) + i_1)).il = (g i_1).il ∧ (oAt s ((0 : Nat) + i_1)).id = (g i_1).id ∧ True) ∧ [AV.int IntKind.i64 (oAt s ((0 : Nat) + i_1)).k, AV.int IntKind.i64 (oAt s ((0 : Nat) + i_1)).t, AV.int IntKind.u64 (oAt s ((0 : Nat) + i_1)).l, AV.str (oAt s ((0 : Nat) + i_1)).x, AV.int IntKind.i64 (oAt s ((0 : Nat) + i_1)).n, AV.int IntKind.i64 (oAt s ((0 : Nat) + i_1)).m, AV.int IntKind.u64 (oAt s ((0 : Nat) + i_1)).il, AV.int IntKind.u64 (oAt s ((0 : Nat) + i_1)).id].length = [AV.int IntKind.i64 (g i_1).k, AV.int IntKind.i64 (g i_1).t, AV.int IntKind.u64 (g i_1).l, AV.str (g i_1).x, AV.int IntKind.i64 (g i_1).n, AV.int IntKind.i64 (g i_1).m, AV.int IntKind.u64 (g i_1).il, AV.int IntKind.u64 (g i_1).id].length) ∧ (false = true → decide (none = some i.fst) = true)) ∧ ((0 : Int) = e ∧ (0 : Int) = f ∧ True) ∧ True)))) := by
 kernel_rfl
end Go.Proofs.Ytniihecdmcphgaa
