/- OP 45: the document's reader: what its methods do, conditions. -/
import Derived.Test.YtniihecdmcphgaaO38
import Derived.Test.YtniihecdmcphgaaO25
import Derived.Test.YtniihecdmcphgaaPwG5
namespace Go.Proofs.Ytniihecdmcphgaa
open Pw Go
set_option maxRecDepth 100000
set_option linter.unusedSimpArgs false
def rdNum (r : Rd) (n : Int) : Rd × Int := ((rdTake r n).1, numS (rdTake r n).2)
def cFailS : StCtr := fun extra x => match extra, x with
 | [.int .i64 e, .int .i64 a], .agg [.str s, .int .i64 at_, .int .i64 er, .int .i64 fa] => some (true, .undef, (rdFail ⟨s, at_, er, fa⟩ e a).av)
 | _, _ => none
def ndR (r : Rd) (n : Int) : Bool := decide (0 ≤ n ∧ n ≤ 65535) && rdOK r && decide (r.s.length ≤ 9223372036854775807)
def cTakeS : StCtr := fun extra x => match extra, x with
 | [.int .i64 n], .agg [.str s, .int .i64 at_, .int .i64 er, .int .i64 fa] => some (ndR ⟨s, at_, er, fa⟩ n, .str (rdTake ⟨s, at_, er, fa⟩ n).2, (rdTake ⟨s, at_, er, fa⟩ n).1.av)
 | _, _ => none
def cNumS : StCtr := fun extra x => match extra, x with
 | [.int .i64 n], .agg [.str s, .int .i64 at_, .int .i64 er, .int .i64 fa] => some (ndR ⟨s, at_, er, fa⟩ n, .int .u64 (rdNum ⟨s, at_, er, fa⟩ n).2, (rdNum ⟨s, at_, er, fa⟩ n).1.av)
 | _, _ => none
abbrev rowR (r : Rd) : T Blk := .node (.row 0 4 true (.lst [r.av])) .nil .nil
noncomputable def E0 (ts : TblS) (inv : FuncId → Nat → Option Inv) : Env := mkS Try.prog (fun _ => .undef) (tblOf []) (tblOf []) ts inv 0
def invNumR (L : List UInt8) (y : Rd) : Inv := ⟨Nat, 20, fun i => ⟨[(5, .str L), (6, .int .u64 (numS (L.take i))), (7, .int .i64 i)], [(0, .row 0 4 true (.lst [y.av]))]⟩, fun i => i ≤ L.length, fun i => L.length - i⟩
theorem rfail_vc (s : List UInt8) (at_ er fa e a : Int) (y : Rd) : (vcFun (E0 (tblS []) (fun _ _ => none)) 20 33 [.ptr 0 0 0 0, .int .i64 e, .int .i64 a] (rowR ⟨s, at_, er, fa⟩) 1 (retS 3 .undef y.av)).sat = ( VB (er == (0 : Int)) (True ∧ (s = y.s ∧ at_ = y.at_ ∧ e = y.err ∧ a = y.fat ∧ True) ∧ [AV.str s, AV.int IntKind.i64 at_, AV.int IntKind.i64 e, AV.int IntKind.i64 a].length = [AV.str y.s, AV.int IntKind.i64 y.at_, AV.int IntKind.i64 y.err, AV.int IntKind.i64 y.fat].length) (True ∧ (s = y.s ∧ at_ = y.at_ ∧ er = y.err ∧ fa = y.fat ∧ True) ∧ [AV.str s, AV.int IntKind.i64 at_, AV.int IntKind.i64 er, AV.int IntKind.i64 fa].length = [AV.str y.s, AV.int IntKind.i64 y.at_, AV.int IntKind.i64 y.err, AV.int IntKind.i64 y.fat].length)) := by
 kernel_rfl
theorem rtake_vc (s : List UInt8) (at_ er fa n : Int) (v : List UInt8) (y : Rd) : (vcFun (E0 (tblS [(33, cFailS)]) (fun _ _ => none)) 20 46 [.ptr 0 0 0 0, .int .i64 n] (rowR ⟨s, at_, er, fa⟩) 1 (retS 3 (.str v) y.av)).sat = ( VB (er != (0 : Int)) ([] = v ∧ (s = y.s ∧ at_ = y.at_ ∧ er = y.err ∧ fa = y.fat ∧ True) ∧ [AV.str s, AV.int IntKind.i64 at_, AV.int IntKind.i64 er, AV.int IntKind.i64 fa].length = [AV.str y.s, AV.int IntKind.i64 y.at_, AV.int IntKind.i64 y.err, AV.int IntKind.i64 y.fat].length) (VB (decide (n > IntKind.i64.wrap ((↑s.length : Int) - at_))) ([] = v ∧ ((rdFail (Rd.mk s at_ er fa) (5 : Int) at_).s = y.s ∧ (rdFail (Rd.mk s at_ er fa) (5 : Int) at_).at_ = y.at_ ∧ (rdFail (Rd.mk s at_ er fa) (5 : Int) at_).err = y.err ∧ (rdFail (Rd.mk s at_ er fa) (5 : Int) at_).fat = y.fat ∧ True) ∧ [AV.str (rdFail (Rd.mk s at_ er fa) (5 : Int) at_).s, AV.int IntKind.i64 (rdFail (Rd.mk s at_ er fa) (5 : Int) at_).at_, AV.int IntKind.i64 (rdFail (Rd.mk s at_ er fa) (5 : Int) at_).err, AV.int IntKind.i64 (rdFail (Rd.mk s at_ er fa) (5 : Int) at_).fat].length = [AV.str y.s, AV.int IntKind.i64 y.at_, AV.int IntKind.i64 y.err, AV.int IntKind.i64 y.fat].length) (NB (decide ((0 : Int) ≤ IntKind.i64.wrap (IntKind.i64.wrap (at_ + n) - n) ∧ IntKind.i64.wrap (IntKind.i64.wrap (at_ + n) - n) ≤ IntKind.i64.wrap (at_ + n) ∧ IntKind.i64.wrap (at_ + n) ≤ (↑s.length : Int))) (List.take ((IntKind.i64.wrap (at_ + n)).toNat - (IntKind.i64.wrap (IntKind.i64.wrap (at_ + n) - n)).toNat) (List.drop (IntKind.i64.wrap (IntKind.i64.wrap (at_ + n) - n)).toNat s) = v ∧ (s = y.s ∧ IntKind.i64.wrap (at_ + n) = y.at_ ∧ er = y.err ∧ fa = y.fat ∧ True) ∧ [AV.str s, AV.int IntKind.i64 (IntKind.i64.wrap (at_ + n)), AV.int IntKind.i64 er, AV.int IntKind.i64 fa].length = [AV.str y.s, AV.int IntKind.i64 y.at_, AV.int IntKind.i64 y.err, AV.int IntKind.i64 y.fat].length)))) := by
 kernel_rfl
theorem rnum_vc (s : List UInt8) (at_ er fa n : Int) (L : List UInt8) (v : Int) (y : Rd) : (vcFun (E0 (tblS [(46, cTakeS)]) (fun f b => if f = 45 ∧ b = 0 then some (invNumR L y) else none)) 20 45 [.ptr 0 0 0 0, .int .i64 n] (rowR ⟨s, at_, er, fa⟩) 1 (retS 3 (.int .u64 v) y.av)).sat = ( NB (ndR (Rd.mk s at_ er fa) n && true && decide ([AV.str (rdTake (Rd.mk s at_ er fa) n).fst.s, AV.int IntKind.i64 (rdTake (Rd.mk s at_ er fa) n).fst.at_, AV.int IntKind.i64 (rdTake (Rd.mk s at_ er fa) n).fst.err, AV.int IntKind.i64 (rdTake (Rd.mk s at_ er fa) n).fst.fat].length = (4 : Nat)) && (rdTake (Rd.mk s at_ er fa) n).fst.av.isPure) ((∃ (i : Nat), i.le L.length ∧ ((rdTake (Rd.mk s at_ er fa) n).snd = L ∧ (0 : Int) = numS (List.take i L) ∧ (0 : Int) = (↑i : Int) ∧ True) ∧ ((0 : Nat) = (0 : Nat) ∧ (true = true → true = true) ∧ (((rdTake (Rd.mk s at_ er fa) n).fst.s = y.s ∧ (rdTake (Rd.mk s at_ er fa) n).fst.at_ = y.at_ ∧ (rdTake (Rd.mk s at_ er fa) n).fst.err = y.err ∧ (rdTake (Rd.mk s at_ er fa) n).fst.fat = y.fat ∧ True) ∧ [AV.str (rdTake (Rd.mk s at_ er fa) n).fst.s, AV.int IntKind.i64 (rdTake (Rd.mk s at_ er fa) n).fst.at_, AV.int IntKind.i64 (rdTake (Rd.mk s at_ er fa) n).fst.err, AV.int IntKind.i64 (rdTake (Rd.mk s at_ er fa) n).fst.fat].length = [AV.str y.s, AV.int IntKind.i64 y.at_, AV.int IntKind.i64 y.err, AV.int IntKind.i64 y.fat].length) ∧ True) ∧ True) ∧ ∀ (i : Nat), i.le L.length → VB (decide ((↑i : Int) < (↑L.length : Int))) (NB (decide ((0 : Int) ≤ (↑i : Int) ∧ (↑i : Int) < (↑L.length : Int))) (∃ (i' : Nat), i'.le L.length ∧ (invNumR L y).μ i' < (invNumR L y).μ i ∧ (L = L ∧ orI IntKind.u64 (shlI IntKind.u64 (numS (List.take i L)) (8 : Int)) (IntKind.u64.wrap (↑(L.getD (↑i : Int).toNat (0 : UInt8)).toNat : Int)) = numS (List.take i' L) ∧ IntKind.i64.wrap ((↑i : Int) + (1 : Int)) = (↑i' : Int) ∧ True) ∧ ((0 : Nat) = (0 : Nat) ∧ (true = true → true = true) ∧ ((y.s = y.s ∧ y.at_ = y.at_ ∧ y.err = y.err ∧ y.fat = y.fat ∧ True) ∧ [AV.str y.s, AV.int IntKind.i64 y.at_, AV.int IntKind.i64 y.err, AV.int IntKind.i64 y.fat].length = [AV.str y.s, AV.int IntKind.i64 y.at_, AV.int IntKind.i64 y.err, AV.int IntKind.i64 y.fat].length) ∧ True) ∧ True)) (numS (List.take i L) = v ∧ (y.s = y.s ∧ y.at_ = y.at_ ∧ y.err = y.err ∧ y.fat = y.fat ∧ True) ∧ [AV.str y.s, AV.int IntKind.i64 y.at_, AV.int IntKind.i64 y.err, AV.int IntKind.i64 y.fat].length = [AV.str y.s, AV.int IntKind.i64 y.at_, AV.int IntKind.i64 y.err, AV.int IntKind.i64 y.fat].length))) := by
 kernel_rfl
end Go.Proofs.Ytniihecdmcphgaa
namespace Go.Proofs.Ytniihecdmcphgaa
open Pw Go
set_option maxRecDepth 100000
set_option linter.unusedSimpArgs false
theorem E0_ok {ts : TblS} {inv : FuncId → Nat → Option Inv} (h : TblSOK Try.prog (fun _ => .undef) ts) : CtrOK (E0 ts inv) := mkS_ctr (tbl_nil _) (tblN_nil _ _) h
theorem rfail_ok : StF Try.prog (fun _ => .undef) 33 cFailS := by
 intro extra x nd v y he hnd
 unfold cFailS at he
 split at he <;> cases he
 rename_i e a s at_ er fa
 refine StOK.of_vc (E := E0 (tblS []) (fun _ _ => none)) (k := 20) (d := 3) mix (E0_ok (tblS_nil _ _)) rfl ((rfail_vc s at_ er fa e a _).mpr ?_)
 refine VB_intro (fun h => ?_) (fun h => ?_)
 ·have h : er = 0 := beq_iff_eq.1 h
  subst h
  exact ⟨trivial, ⟨rfl, rfl, rfl, rfl, trivial⟩, rfl⟩
 ·have h : er ≠ 0 := by simpa using h
  have e1 : rdFail ⟨s, at_, er, fa⟩ e a = ⟨s, at_, er, fa⟩ := if_neg h
  rw [e1]
  exact ⟨trivial, ⟨rfl, rfl, rfl, rfl, trivial⟩, rfl⟩
theorem ndR_iff {r : Rd} {n : Int} (h : ndR r n = true) : 0 ≤ n ∧ n ≤ 65535 ∧ rdOK r = true ∧ r.s.length ≤ 9223372036854775807 ∧ 0 ≤ r.at_ ∧ r.at_ ≤ r.s.length := by
 simp only [ndR, Bool.and_eq_true, decide_eq_true_eq] at h
 have h2 := h.1.2
 simp only [rdOK, Bool.and_eq_true, decide_eq_true_eq] at h2
 exact ⟨h.1.1.1, h.1.1.2, h.1.2, h.2, h2.1.1, h2.1.2⟩
theorem rtake_ok : StF Try.prog (fun _ => .undef) 46 cTakeS := by
 intro extra x nd v y he hnd
 unfold cTakeS at he
 split at he <;> cases he
 rename_i n s at_ er fa
 obtain ⟨n0, n1, _, l1, a0, a1⟩ := ndR_iff hnd
 simp only at l1 a0 a1
 refine StOK.of_vc (E := E0 (tblS [(33, cFailS)]) (fun _ _ => none)) (k := 20) (d := 3) mix (E0_ok (tblS_cons rfail_ok (tblS_nil _ _))) rfl ((rtake_vc s at_ er fa n _ _).mpr ?_)
 have w1 : IntKind.i64.wrap ((s.length : Int) - at_) = s.length - at_ := wrap_i64_id (by omega) (by omega)
 refine VB_intro (fun h => ?_) (fun h => VB_intro (fun h1 => ?_) (fun h1 => ?_))
 ·have h : er ≠ 0 := by simpa using h
  have e1 : rdTake ⟨s, at_, er, fa⟩ n = (⟨s, at_, er, fa⟩, []) := if_pos h
  rw [e1]
  exact ⟨rfl, ⟨rfl, rfl, rfl, rfl, trivial⟩, rfl⟩
 ·have h : er = 0 := by simpa using h
  have h1 := of_decide_eq_true h1
  rw [w1] at h1
  have e1 : rdTake ⟨s, at_, er, fa⟩ n = (rdFail ⟨s, at_, er, fa⟩ 5 at_, []) := by
   unfold rdTake
   rw [if_neg (by simp [h]), if_pos (by simp only; omega)]
  rw [e1]
  exact ⟨rfl, ⟨rfl, rfl, rfl, rfl, trivial⟩, rfl⟩
 ·have h : er = 0 := by simpa using h
  have h1 := of_decide_eq_false h1
  rw [w1] at h1
  have e1 : rdTake ⟨s, at_, er, fa⟩ n = (⟨s, at_ + n, er, fa⟩, (s.drop at_.toNat).take n.toNat) := by
   unfold rdTake
   rw [if_neg (by simp [h]), if_neg (by simp only; omega)]
  have w2 : IntKind.i64.wrap (at_ + n) = at_ + n := wrap_i64_id (by omega) (by omega)
  have w3 : IntKind.i64.wrap (at_ + n - n) = at_ := by rw [wrap_i64_id (by omega) (by omega)]; omega
  rw [e1, w2, w3]
  refine NB_intro (decide_eq_true (by omega)) ⟨?_, ⟨rfl, rfl, rfl, rfl, trivial⟩, rfl⟩
  rw [show (at_ + n).toNat - at_.toNat = n.toNat by omega]
theorem or_byte {x : Int} {c : Nat} (h0 : 0 ≤ x) (hc : c < 256) : orI .u64 (shlI .u64 x 8) (IntKind.u64.wrap (c : Int)) = IntKind.u64.wrap (256 * x + c) := by
 obtain ⟨X, rfl⟩ := Int.eq_ofNat_of_zero_le h0
 have e1 : shlI .u64 (X : Int) 8 = ((X % 72057594037927936 * 256 : Nat) : Int) := by
  show IntKind.u64.wrap ((X : Int) * 2 ^ 8) = _
  rw [wrap_u64]
  omega
 have e2 : IntKind.u64.wrap (c : Int) = (c : Int) := by rw [wrap_u64]; omega
 rw [e1, e2]
 show IntKind.u64.wrap ((BitVec.ofInt 64 ((X % 72057594037927936 * 256 : Nat) : Int) ||| BitVec.ofInt 64 (c : Int)).toNat : Int) = _
 have e3 : (BitVec.ofInt 64 ((X % 72057594037927936 * 256 : Nat) : Int)).toNat = (X % 72057594037927936) <<< 8 := by
  rw [BitVec.toNat_ofInt, Nat.shiftLeft_eq]
  omega
 have e4 : (BitVec.ofInt 64 (c : Int)).toNat = c := by
  rw [BitVec.toNat_ofInt]
  omega
 rw [BitVec.toNat_or, e3, e4, ← Nat.shiftLeft_add_eq_or_of_lt (i := 8) (by omega) (X % 72057594037927936), Nat.shiftLeft_eq, wrap_u64, wrap_u64]
 omega
theorem rnum_ok : StF Try.prog (fun _ => .undef) 45 cNumS := by
 intro extra x nd v y he hnd
 unfold cNumS at he
 split at he <;> cases he
 rename_i n s at_ er fa
 obtain ⟨n0, n1, hok, l1, a0, a1⟩ := ndR_iff hnd
 simp only at l1 a0 a1
 have hpu : ∀ r : Rd, r.av.isPure = true := fun _ => rfl
 have hL := rdTake_le ⟨s, at_, er, fa⟩ n
 refine StOK.of_vc (E := E0 (tblS [(46, cTakeS)]) (fun f b => if f = 45 ∧ b = 0 then some (invNumR (rdTake ⟨s, at_, er, fa⟩ n).2 (rdTake ⟨s, at_, er, fa⟩ n).1) else none)) (k := 20) (d := 3) mix
  (E0_ok (tblS_cons rtake_ok (tblS_nil _ _))) rfl ((rnum_vc s at_ er fa n _ _ _).mpr ?_)
 show NB _ _
 generalize hT : rdTake ⟨s, at_, er, fa⟩ n = T at hL ⊢
 refine NB_intro (by rw [hnd, hpu]; rfl) ⟨⟨0, Nat.zero_le _, ⟨rfl, rfl, rfl, trivial⟩, ⟨rfl, fun h => h, ⟨⟨rfl, rfl, rfl, rfl, trivial⟩, rfl⟩, trivial⟩, trivial⟩, fun i hi => VB_intro (fun h1 => ?_) (fun h1 => ?_)⟩
 ·have hlt : i < T.2.length := by have := of_decide_eq_true h1; omega
  refine NB_intro (decide_eq_true (by omega)) ⟨i + 1, hlt, by simp only [invNumR]; omega, ⟨rfl, ?_, by rw [wrap_i64_id (by omega) (by omega)]; rfl, trivial⟩, ⟨rfl, fun h => h, ⟨⟨rfl, rfl, rfl, rfl, trivial⟩, rfl⟩, trivial⟩, trivial⟩
  rw [Int.toNat_natCast]
  have e1 : T.2.take (i + 1) = T.2.take i ++ [T.2.getD i 0] := by
   rw [List.take_add_one, List.getD_eq_getElem?_getD, List.getElem?_eq_getElem hlt]
   rfl
  rw [e1, numS_snoc]
  exact or_byte (numS_range _).1 (T.2.getD i 0).toNat_lt
 ·have hi : i ≤ T.2.length := hi
  have hie : i = T.2.length := by have := of_decide_eq_false h1; omega
  subst hie
  refine ⟨?_, ⟨rfl, rfl, rfl, rfl, trivial⟩, rfl⟩
  rw [List.take_length]
  show _ = (rdNum ⟨s, at_, er, fa⟩ n).2
  rw [rdNum, hT]
end Go.Proofs.Ytniihecdmcphgaa
