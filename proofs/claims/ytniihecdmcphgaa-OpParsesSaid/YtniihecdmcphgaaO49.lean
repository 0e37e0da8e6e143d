/- OP 49: the document's parsers, conditions. -/
import Derived.Test.YtniihecdmcphgaaO48
namespace Go.Proofs.Ytniihecdmcphgaa
open Pw Go
set_option maxRecDepth 100000
set_option linter.unusedSimpArgs false
def tblOpS : List (Nat × StCtr) := [(33, cFailS), (32, cOpS)]
theorem tblOpS_ok : TblSOK Try.prog (fun _ => .undef) (tblS tblOpS) := tblS_cons rfail_ok (tblS_cons rop_ok (tblS_nil _ _))
def invRL (s : List UInt8) (P : Nat → Prop) : Inv := ⟨Nat × Nat, 20, fun p => ⟨[(0, .str s), (3, .ptr 0 0 0 0), (4, .ptr 1 0 0 0), (5, .sl 10 p.2 0 p.1 none)],
 [(0, .row 0 2 true (.lst [.agg [.int .i64 0, .int .i64 0]])), (1, .row 0 4 true (.lst [(⟨s, oOff s p.1, 0, 0⟩ : Rd).av])), (10, .row p.2 8 true (.fn p.1 (fun i => (oAt s i).av)))]⟩,
 fun p => P p.1, fun p => 500 - p.1⟩
theorem rparse_vc (s : List UInt8) (v : Opr) (e f : Int) : (vcFun (E0 (tblS tblOpS) (fun _ _ => none)) 20 19 [.str s] .nil 0 (retP 3 (.tup [v.av, .agg [.int .i64 e, .int .i64 f]]))).sat = ( NB (ndR (Rd.mk s (0 : Int) (0 : Int) (0 : Int)) (1 : Int) && true && decide ([AV.str (rfOp (Rd.mk s (0 : Int) (0 : Int) (0 : Int))).snd.s, AV.int IntKind.i64 (rfOp (Rd.mk s (0 : Int) (0 : Int) (0 : Int))).snd.at_, AV.int IntKind.i64 (rfOp (Rd.mk s (0 : Int) (0 : Int) (0 : Int))).snd.err, AV.int IntKind.i64 (rfOp (Rd.mk s (0 : Int) (0 : Int) (0 : Int))).snd.fat].length = (4 : Nat)) && (rfOp (Rd.mk s (0 : Int) (0 : Int) (0 : Int))).snd.av.isPure) (VB (decide ((rfOp (Rd.mk s (0 : Int) (0 : Int) (0 : Int))).snd.at_ < (↑s.length : Int))) (VB ((rdFail (rfOp (Rd.mk s (0 : Int) (0 : Int) (0 : Int))).snd (4 : Int) (rfOp (Rd.mk s (0 : Int) (0 : Int) (0 : Int))).snd.at_).err != (0 : Int)) (((0 : Int) = v.k ∧ (0 : Int) = v.t ∧ (0 : Int) = v.l ∧ [] = v.x ∧ (0 : Int) = v.n ∧ (0 : Int) = v.m ∧ (0 : Int) = v.il ∧ (0 : Int) = v.id ∧ True) ∧ ((rdFail (rfOp (Rd.mk s (0 : Int) (0 : Int) (0 : Int))).snd (4 : Int) (rfOp (Rd.mk s (0 : Int) (0 : Int) (0 : Int))).snd.at_).err = e ∧ (rdFail (rfOp (Rd.mk s (0 : Int) (0 : Int) (0 : Int))).snd (4 : Int) (rfOp (Rd.mk s (0 : Int) (0 : Int) (0 : Int))).snd.at_).fat = f ∧ True) ∧ True) (((rfOp (Rd.mk s (0 : Int) (0 : Int) (0 : Int))).fst.k = v.k ∧ (rfOp (Rd.mk s (0 : Int) (0 : Int) (0 : Int))).fst.t = v.t ∧ (rfOp (Rd.mk s (0 : Int) (0 : Int) (0 : Int))).fst.l = v.l ∧ (rfOp (Rd.mk s (0 : Int) (0 : Int) (0 : Int))).fst.x = v.x ∧ (rfOp (Rd.mk s (0 : Int) (0 : Int) (0 : Int))).fst.n = v.n ∧ (rfOp (Rd.mk s (0 : Int) (0 : Int) (0 : Int))).fst.m = v.m ∧ (rfOp (Rd.mk s (0 : Int) (0 : Int) (0 : Int))).fst.il = v.il ∧ (rfOp (Rd.mk s (0 : Int) (0 : Int) (0 : Int))).fst.id = v.id ∧ True) ∧ ((0 : Int) = e ∧ (0 : Int) = f ∧ True) ∧ True)) (VB ((rfOp (Rd.mk s (0 : Int) (0 : Int) (0 : Int))).snd.err != (0 : Int)) (((0 : Int) = v.k ∧ (0 : Int) = v.t ∧ (0 : Int) = v.l ∧ [] = v.x ∧ (0 : Int) = v.n ∧ (0 : Int) = v.m ∧ (0 : Int) = v.il ∧ (0 : Int) = v.id ∧ True) ∧ ((rfOp (Rd.mk s (0 : Int) (0 : Int) (0 : Int))).snd.err = e ∧ (rfOp (Rd.mk s (0 : Int) (0 : Int) (0 : Int))).snd.fat = f ∧ True) ∧ True) (((rfOp (Rd.mk s (0 : Int) (0 : Int) (0 : Int))).fst.k = v.k ∧ (rfOp (Rd.mk s (0 : Int) (0 : Int) (0 : Int))).fst.t = v.t ∧ (rfOp (Rd.mk s (0 : Int) (0 : Int) (0 : Int))).fst.l = v.l ∧ (rfOp (Rd.mk s (0 : Int) (0 : Int) (0 : Int))).fst.x = v.x ∧ (rfOp (Rd.mk s (0 : Int) (0 : Int) (0 : Int))).fst.n = v.n ∧ (rfOp (Rd.mk s (0 : Int) (0 : Int) (0 : Int))).fst.m = v.m ∧ (rfOp (Rd.mk s (0 : Int) (0 : Int) (0 : Int))).fst.il = v.il ∧ (rfOp (Rd.mk s (0 : Int) (0 : Int) (0 : Int))).fst.id = v.id ∧ True) ∧ ((0 : Int) = e ∧ (0 : Int) = f ∧ True) ∧ True)))) := by
 kernel_rfl
theorem rplist_vc (s : List UInt8) (Q : Nat → Prop) (n : Nat) (g : Nat → Opr) (e f : Int) : (vcFun (E0 (tblS tblOpS) (fun h b => if h = 21 ∧ b = 0 then some (invRL s Q) else none)) 20 21 [.str s] .nil 0 (retP 3 (.tup [.rof n (fun i => (g i).av) false, .agg [.int .i64 e, .int .i64 f]]))).sat = ( VB (decide ((↑s.length : Int) > (20000 : Int))) (n = (0 : Nat) ∧ ((4 : Int) = e ∧ (20000 : Int) = f ∧ True) ∧ True) ((∃ (i : Nat × Nat), Q i.fst ∧ (s = s ∧ ((0 : Nat) = (0 : Nat) ∧ (0 : Nat) = (0 : Nat) ∧ (0 : Nat) = (0 : Nat)) ∧ ((0 : Nat) = (0 : Nat) ∧ (0 : Nat) = (0 : Nat) ∧ (0 : Nat) = (0 : Nat)) ∧ (i.fst = (0 : Nat) ∧ i.snd = i.snd ∧ i.fst = (0 : Nat)) ∧ True) ∧ ((0 : Nat) = (0 : Nat) ∧ (true = true → true = true) ∧ ((EqI (0 : Int) (0 : Int) ∧ EqI (0 : Int) (0 : Int) ∧ True) ∧ [AV.int IntKind.i64 (0 : Int), AV.int IntKind.i64 (0 : Int)].length = [AV.int IntKind.i64 (0 : Int), AV.int IntKind.i64 (0 : Int)].length) ∧ True) ∧ ((0 : Nat) = (0 : Nat) ∧ (true = true → true = true) ∧ ((s = s ∧ (0 : Int) = oOff s i.fst ∧ EqI (0 : Int) (0 : Int) ∧ EqI (0 : Int) (0 : Int) ∧ True) ∧ [AV.str s, AV.int IntKind.i64 (0 : Int), AV.int IntKind.i64 (0 : Int), AV.int IntKind.i64 (0 : Int)].length = [AV.str s, AV.int IntKind.i64 (oOff s i.fst), AV.int IntKind.i64 (0 : Int), AV.int IntKind.i64 (0 : Int)].length) ∧ True) ∧ i.fst = (0 : Nat) ∧ True) ∧ ∀ (i : Nat × Nat), Q i.fst → VB (decide (oOff s i.fst < (↑s.length : Int))) (VB ((↑i.fst : Int) == (400 : Int)) (n = (0 : Nat) ∧ ((4 : Int) = e ∧ oOff s i.fst = f ∧ True) ∧ True) (NB (ndR (Rd.mk s (oOff s i.fst) (0 : Int) (0 : Int)) (1 : Int) && true && decide ([AV.str (rfOp (Rd.mk s (oOff s i.fst) (0 : Int) (0 : Int))).snd.s, AV.int IntKind.i64 (rfOp (Rd.mk s (oOff s i.fst) (0 : Int) (0 : Int))).snd.at_, AV.int IntKind.i64 (rfOp (Rd.mk s (oOff s i.fst) (0 : Int) (0 : Int))).snd.err, AV.int IntKind.i64 (rfOp (Rd.mk s (oOff s i.fst) (0 : Int) (0 : Int))).snd.fat].length = (4 : Nat)) && (rfOp (Rd.mk s (oOff s i.fst) (0 : Int) (0 : Int))).snd.av.isPure) (NB (true && decide (i.snd = i.snd) && room (i.fst + (1 : Nat)) (72 : Nat)) (VB ((rfOp (Rd.mk s (oOff s i.fst) (0 : Int) (0 : Int))).snd.err != (0 : Int)) (n = (0 : Nat) ∧ ((rfOp (Rd.mk s (oOff s i.fst) (0 : Int) (0 : Int))).snd.err = e ∧ (rfOp (Rd.mk s (oOff s i.fst) (0 : Int) (0 : Int))).snd.fat = f ∧ True) ∧ True) (∃ (i' : Nat × Nat), Q i'.fst ∧ (invRL s Q).μ i' < (invRL s Q).μ i ∧ (s = s ∧ ((0 : Nat) = (0 : Nat) ∧ (0 : Nat) = (0 : Nat) ∧ (0 : Nat) = (0 : Nat)) ∧ ((0 : Nat) = (0 : Nat) ∧ (0 : Nat) = (0 : Nat) ∧ (0 : Nat) = (0 : Nat)) ∧ (i.snd + (1 : Nat) = i'.snd ∧ (0 : Nat) = (0 : Nat) ∧ i.fst + (1 : Nat) = i'.fst ∧ (@Eq (Option Nat) none none ∨ @Eq (Option Nat) none none)) ∧ True) ∧ ((0 : Nat) = (0 : Nat) ∧ (true = true → true = true) ∧ ((EqI (0 : Int) (0 : Int) ∧ EqI (0 : Int) (0 : Int) ∧ True) ∧ [AV.int IntKind.i64 (0 : Int), AV.int IntKind.i64 (0 : Int)].length = [AV.int IntKind.i64 (0 : Int), AV.int IntKind.i64 (0 : Int)].length) ∧ True) ∧ ((0 : Nat) = (0 : Nat) ∧ (true = true → true = true) ∧ (((rfOp (Rd.mk s (oOff s i.fst) (0 : Int) (0 : Int))).snd.s = s ∧ (rfOp (Rd.mk s (oOff s i.fst) (0 : Int) (0 : Int))).snd.at_ = oOff s i'.fst ∧ (rfOp (Rd.mk s (oOff s i.fst) (0 : Int) (0 : Int))).snd.err = (0 : Int) ∧ (rfOp (Rd.mk s (oOff s i.fst) (0 : Int) (0 : Int))).snd.fat = (0 : Int) ∧ True) ∧ [AV.str (rfOp (Rd.mk s (oOff s i.fst) (0 : Int) (0 : Int))).snd.s, AV.int IntKind.i64 (rfOp (Rd.mk s (oOff s i.fst) (0 : Int) (0 : Int))).snd.at_, AV.int IntKind.i64 (rfOp (Rd.mk s (oOff s i.fst) (0 : Int) (0 : Int))).snd.err, AV.int IntKind.i64 (rfOp (Rd.mk s (oOff s i.fst) (0 : Int) (0 : Int))).snd.fat].length = [AV.str s, AV.int IntKind.i64 (oOff s i'.fst), AV.int IntKind.i64 (0 : Int), AV.int IntKind.i64 (0 : Int)].length) ∧ True) ∧ (i.snd + (1 : Nat) = i'.snd ∧ (true = true → true = true) ∧ i.fst + (1 : Nat) = i'.fst ∧ ∀ (i_1 : Nat), i_1 < i.fst + (1 : Nat) → (if i_1 < i.fst then AV.agg [AV.int IntKind.i64 (oAt s ((0 : Nat) + i_1)).k, AV.int IntKind.i64 (oAt s ((0 : Nat) + i_1)).t, AV.int IntKind.u64 (oAt s ((0 : Nat) + i_1)).l, AV.str (oAt s ((0 : Nat) + i_1)).x, AV.int IntKind.i64 (oAt s ((0 : Nat) + i_1)).n, AV.int IntKind.i64 (oAt s ((0 : Nat) + i_1)).m, AV.int IntKind.u64 (oAt s ((0 : Nat) + i_1)).il, AV.int IntKind.u64 (oAt s ((0 : Nat) + i_1)).id] else ((Sq.lst [AV.agg [AV.int IntKind.i64 (rfOp (Rd.mk s (oOff s i.fst) (0 : Int) (0 : Int))).fst.k, AV.int IntKind.i64 (rfOp (Rd.mk s (oOff s i.fst) (0 : Int) (0 : Int))).fst.t, AV.int IntKind.u64 (rfOp (Rd.mk s (oOff s i.fst) (0 : Int) (0 : Int))).fst.l, AV.str (rfOp (Rd.mk s (oOff s i.fst) (0 : Int) (0 : Int))).fst.x, AV.int IntKind.i64 (rfOp (Rd.mk s (oOff s i.fst) (0 : Int) (0 : Int))).fst.n, AV.int IntKind.i64 (rfOp (Rd.mk s (oOff s i.fst) (0 : Int) (0 : Int))).fst.m, AV.int IntKind.u64 (rfOp (Rd.mk s (oOff s i.fst) (0 : Int) (0 : Int))).fst.il, AV.int IntKind.u64 (rfOp (Rd.mk s (oOff s i.fst) (0 : Int) (0 : Int))).fst.id]]).sub (0 : Nat) (1 : Nat)).get (i_1 - i.fst)).sub (AV.agg [AV.int IntKind.i64 (oAt s i_1).k, AV.int IntKind.i64 (oAt s i_1).t, AV.int IntKind.u64 (oAt s i_1).l, AV.str (oAt s i_1).x, AV.int IntKind.i64 (oAt s i_1).n, AV.int IntKind.i64 (oAt s i_1).m, AV.int IntKind.u64 (oAt s i_1).il, AV.int IntKind.u64 (oAt s i_1).id]) ∧ (if i_1 < i.fst then (oAt s ((0 : Nat) + i_1)).av else ((Sq.lst [AV.agg [AV.int IntKind.i64 (rfOp (Rd.mk s (oOff s i.fst) (0 : Int) (0 : Int))).fst.k, AV.int IntKind.i64 (rfOp (Rd.mk s (oOff s i.fst) (0 : Int) (0 : Int))).fst.t, AV.int IntKind.u64 (rfOp (Rd.mk s (oOff s i.fst) (0 : Int) (0 : Int))).fst.l, AV.str (rfOp (Rd.mk s (oOff s i.fst) (0 : Int) (0 : Int))).fst.x, AV.int IntKind.i64 (rfOp (Rd.mk s (oOff s i.fst) (0 : Int) (0 : Int))).fst.n, AV.int IntKind.i64 (rfOp (Rd.mk s (oOff s i.fst) (0 : Int) (0 : Int))).fst.m, AV.int IntKind.u64 (rfOp (Rd.mk s (oOff s i.fst) (0 : Int) (0 : Int))).fst.il, AV.int IntKind.u64 (rfOp (Rd.mk s (oOff s i.fst) (0 : Int) (0 : Int))).fst.id]]).sub (0 : Nat) (1 : Nat)).get (i_1 - i.fst)).cells.length = [AV.int IntKind.i64 (oAt s i_1).k, AV.int IntKind.i64 (oAt s i_1).t, AV.int IntKind.u64 (oAt s i_1).l, AV.str (oAt s i_1).x, AV.int IntKind.i64 (oAt s i_1).n, AV.int IntKind.i64 (oAt s i_1).m, AV.int IntKind.u64 (oAt s i_1).il, AV.int IntKind.u64 (oAt s i_1).id].length) ∧ True))))) (NB (decide (i.snd = i.snd) && true) ((i.fst = n ∧ (∀ (i_1 : Nat), i_1 < i.fst → ((oAt s ((0 : Nat) + i_1)).k = (g i_1).k ∧ (oAt s ((0 : Nat) + i_1)).t = (g i_1).t ∧ (oAt s ((0 : Nat) + i_1)).l = (g i_1).l ∧ (oAt s ((0 : Nat) + i_1)).x = (g i_1).x ∧ (oAt s ((0 : Nat) + i_1)).n = (g i_1).n ∧ (oAt s ((0 : Nat) + i_1)).m = (g i_1).m ∧ (oAt s ((0 : Nat) + i_1)).il = (g i_1).il ∧ (oAt s ((0 : Nat) + i_1)).id = (g i_1).id ∧ True) ∧ [AV.int IntKind.i64 (oAt s ((0 : Nat) + i_1)).k, AV.int IntKind.i64 (oAt s ((0 : Nat) + i_1)).t, AV.int IntKind.u64 (oAt s ((0 : Nat) + i_1)).l, AV.str (oAt s ((0 : Nat) + i_1)).x, AV.int IntKind.i64 (oAt s ((0 : Nat) + i_1)).n, AV.int IntKind.i64 (oAt s ((0 : Nat) + i_1)).m, AV.int IntKind.u64 (oAt s ((0 : Nat) + i_1)).il, AV.int IntKind.u64 (oAt s ((0 : Nat) + i_1)).id].length = [AV.int IntKind.i64 (g i_1).k, AV.int IntKind.i64 (g i_1).t, AV.int IntKind.u64 (g i_1).l, AV.str (g i_1).x, AV.int IntKind.i64 (g i_1).n, AV.int IntKind.i64 (g i_1).m, AV.int IntKind.u64 (g i_1).il, AV.int IntKind.u64 (g i_1).id].length) ∧ (false = true → decide (none = some i.fst) = true)) ∧ ((0 : Int) = e ∧ (0 : Int) = f ∧ True) ∧ True)))) := by
 kernel_rfl
end Go.Proofs.Ytniihecdmcphgaa
namespace Go.Proofs.Ytniihecdmcphgaa
open Pw Go
set_option maxRecDepth 100000
set_option linter.unusedSimpArgs false
theorem uint_num {s : List UInt8} {r : Rd} (h : RdAt s r) : rdUint r 8 = rdNum r 8 := by
 rw [rdUint_8, h.use]
 rfl
theorem uint_num1 {s : List UInt8} {r : Rd} (h : RdAt s r) : rdUint r 1 = rdNum r 1 := by
 show ((rdTake (rdUse r) 1).1, numS (rdTake (rdUse r) 1).2) = _
 rw [h.use]
 rfl
theorem num_err {r : Rd} {n : Int} (h : r.err ≠ 0) : rdNum r n = (r, 0) := by
 unfold rdNum
 rw [rdTake_err h]
 rfl
theorem txt_err {r : Rd} (h : r.err ≠ 0) : rfTxt r = (r, []) := by
 unfold rfTxt
 rw [num_err h, if_neg (show ¬ (1000 : Int) < (r, (0 : Int)).2 from (by decide : ¬ (1000 : Int) < 0)), rdTake_err h]
theorem sized_err {s : List UInt8} {r : Rd} (h : RdAt s r) (he : r.err ≠ 0) : rdSized r 1000 = (r, []) := by
 unfold rdSized
 rw [if_neg (by decide), h.use, rdTake_err he, if_pos he]
structure Rl (s : List UInt8) (p' p : Opr × Rd) : Prop where
 a' : RdAt s p'.2
 a : RdAt s p.2
 eq : p' = p ∨ p.2.err ≠ 0 ∧ p'.2.err = p.2.err ∧ p'.2.fat = p.2.fat
theorem txt_rel {s : List UInt8} {r : Rd} (h : RdAt s r) : RdAt s (rfTxt r).1 ∧ RdAt s (rdSized r 1000).1 ∧ (rfTxt r = rdSized r 1000 ∨ (rdSized r 1000).1.err ≠ 0 ∧ (rfTxt r).1.err = (rdSized r 1000).1.err ∧ (rfTxt r).1.fat = (rdSized r 1000).1.fat) := by
 have hn := numS_two (rdTake r 2).2 (rdTake_le r 2)
 have h2 := tkAt h 2 (by decide)
 refine ⟨?_, (rdSized_at h).1, ?_⟩
 ·unfold rfTxt
  refine tkAt ?_ _ hn.1
  split
  ·exact failAt h2 (by decide) (by decide) h.bounds.1 h.bounds.2
  ·exact h2
 ·by_cases he : (rdTake r 2).1.err = 0
  ·by_cases hb : 1000 < numS (rdTake r 2).2
   ·right
    have h0 : r.err = 0 := ((rdTake_at h (n := 2) (by decide)).2 he).1
    have e1 : rdSized r 1000 = (rdFail r 4 r.at_, []) := by
     unfold rdSized
     rw [if_neg (by decide), h.use, if_neg (by simp [he]), if_pos hb]
    have e2 : rfTxt r = (rdFail (rdTake r 2).1 4 r.at_, []) := by
     unfold rfTxt
     rw [if_pos (show 1000 < (rdNum r 2).2 from hb)]
     refine rdTake_err ?_
     show (rdFail (rdTake r 2).1 4 r.at_).err ≠ 0
     unfold rdFail
     rw [if_pos he]
     show (4 : Int) ≠ 0
     decide
    rw [e1, e2]
    unfold rdFail
    rw [if_pos he, if_pos h0]
    exact ⟨(by decide : (4 : Int) ≠ 0), rfl, rfl⟩
   ·left
    unfold rfTxt rdSized
    rw [if_neg (show ¬ 1000 < (rdNum r 2).2 from hb), if_neg (by decide), h.use, if_neg (by simp [he]), if_neg hb]
    rfl
  ·left
   have e1 : rdSized r 1000 = ((rdTake r 2).1, []) := by
    unfold rdSized
    rw [if_neg (by decide), h.use, if_pos he]
   have e3 : (rdTake r 2).2 = [] := by
    unfold rdTake at he ⊢
    split
    ·rfl
    ·rename_i h4
     split
     ·rfl
     ·rename_i h5
      rw [if_neg h4, if_neg h5] at he
      exact absurd he (by simpa using h4)
   have e4 : (rdNum r 2).2 = 0 := by
    show numS (rdTake r 2).2 = 0
    rw [e3]
    rfl
   unfold rfTxt
   rw [e4, if_neg (by decide), e1]
   exact rdTake_err he
theorem Rl.step {s : List UInt8} {p' p : Opr × Rd} (h : Rl s p' p) (f : Fld) : Rl s (rfFld p' f) (rFld p f) := by
 obtain ⟨⟨⟨k', t', l', x', n', m', il', id'⟩, r'⟩, rfl⟩ : ∃ q, q = p' := ⟨_, rfl⟩
 obtain ⟨⟨⟨k, t, l, x, n, m, il, id⟩, r⟩, rfl⟩ : ∃ q, q = p := ⟨_, rfl⟩
 obtain ⟨a', a, e⟩ := h
 simp only at a' a e
 have b' := tkAt a' 8 (by decide)
 have b := tkAt a 8 (by decide)
 have c' := tkAt b' 8 (by decide)
 have c := tkAt b 8 (by decide)
 rcases e with e | ⟨e1, e2, e3⟩
 ·cases e
  cases f
  case txt =>
   obtain ⟨t1, t2, t3⟩ := txt_rel a
   refine ⟨t1, t2, ?_⟩
   rcases t3 with t3 | t3
   ·left
    simp only [rfFld, rFld, t3]
   ·exact .inr t3
  case ids =>
   have u := uint_num a
   have u2 := uint_num (show RdAt s (rdNum _ 8).1 from b)
   refine ⟨c, ?_, .inl ?_⟩
   ·simp only [rFld, u, u2]
    exact c
   ·simp only [rfFld, rFld, u, u2]
  all_goals
   have u := uint_num a
   refine ⟨b, ?_, .inl ?_⟩
   ·simp only [rFld, u]
    exact b
   ·simp only [rfFld, rFld, u]
 ·have e1' : r'.err ≠ 0 := by omega
  have n1 := num_err (n := 8) e1
  have n2 := num_err (n := 8) e1'
  have u := uint_num a
  cases f
  case txt => simp only [rfFld, rFld, txt_err e1', sized_err a e1]; exact ⟨a', a, .inr ⟨e1, e2, e3⟩⟩
  case ids => simp only [rfFld, rFld, u, n1, n2]; exact ⟨a', a, .inr ⟨e1, e2, e3⟩⟩
  all_goals
   simp only [rfFld, rFld, u, n1, n2]
   exact ⟨a', a, .inr ⟨e1, e2, e3⟩⟩
theorem Rl.fold {s : List UInt8} : ∀ (fs : List Fld) {p' p : Opr × Rd}, Rl s p' p → Rl s (fs.foldl rfFld p') (fs.foldl rFld p)
 | [], _, _, h => h
 | f :: fs, _, _, h => Rl.fold fs (h.step f)
theorem rf_next {s : List UInt8} {a : Int} (h0 : 0 ≤ a) (h1 : a ≤ s.length) : Rl s (rfOp ⟨s, a, 0, 0⟩) (opNext s a) := by
 have hr := rdAt_0 h0 h1
 have h2 := tkAt hr 1 (by decide)
 have hu := uint_num1 hr
 have hk := numS_two (rdTake ⟨s, a, 0, 0⟩ 1).2 (Nat.le_trans (rdTake_le _ 1) (by decide))
 unfold rfOp opNext
 rw [hu]
 by_cases he : (rdNum ⟨s, a, 0, 0⟩ 1).1.err = 0
 ·rw [if_neg (show ¬ (rdNum ⟨s, a, 0, 0⟩ 1).1.err ≠ 0 by simp [he])]
  by_cases hb : 1 ≤ (rdNum ⟨s, a, 0, 0⟩ 1).2 ∧ (rdNum ⟨s, a, 0, 0⟩ 1).2 ≤ 8
  ·rw [if_pos hb, if_neg (fun h => h hb)]
   exact Rl.fold _ ⟨h2, h2, .inl rfl⟩
  ·rw [if_neg hb, if_pos hb]
   have e : rdFailX (rdNum ⟨s, a, 0, 0⟩ 1).1 11 a = rdFail (rdNum ⟨s, a, 0, 0⟩ 1).1 11 a := by
    unfold rdFailX
    rw [RdAt.use (show RdAt s (rdNum ⟨s, a, 0, 0⟩ 1).1 from h2), if_neg (by decide)]
    have e2 : minI (maxI a 0) ((rdNum ⟨s, a, 0, 0⟩ 1).1.s.length : Int) = a := by
     rw [show (rdNum ⟨s, a, 0, 0⟩ 1).1.s = s from h2.s_eq]
     unfold minI maxI
     split <;> split <;> omega
    rw [e2]
   rw [e]
   exact ⟨failAt h2 (by decide) (by decide) h0 h1, failAt h2 (by decide) (by decide) h0 h1, .inl rfl⟩
 ·rw [if_pos he]
  have e3 : (rdNum ⟨s, a, 0, 0⟩ 1).2 = 0 := by
   show numS (rdTake ⟨s, a, 0, 0⟩ 1).2 = 0
   unfold rdNum rdTake at he
   unfold rdTake
   rw [if_neg (by simp)] at he ⊢
   split
   ·rfl
   ·rename_i h5
    rw [if_neg h5] at he
    exact absurd rfl he
  rw [e3, if_neg (by decide)]
  have e4 : rdFail (rdNum ⟨s, a, 0, 0⟩ 1).1 11 a = (rdNum ⟨s, a, 0, 0⟩ 1).1 := if_neg he
  show Rl s (_, rdFail (rdNum ⟨s, a, 0, 0⟩ 1).1 11 a) _
  rw [e4]
  exact ⟨h2, h2, .inl rfl⟩
end Go.Proofs.Ytniihecdmcphgaa
