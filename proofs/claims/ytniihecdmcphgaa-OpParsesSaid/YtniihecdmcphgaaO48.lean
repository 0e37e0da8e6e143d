/- OP 48: the document's reader: operations, contract. -/
import Derived.Test.YtniihecdmcphgaaO47
namespace Go.Proofs.Ytniihecdmcphgaa
open Pw Go
set_option maxRecDepth 100000
set_option linter.unusedSimpArgs false
theorem tkAt {s : List UInt8} {r : Rd} (h : RdAt s r) (n : Int) (hn : 0 ≤ n) : RdAt s (rdTake r n).1 := (rdTake_at h hn).1
theorem failAt {s : List UInt8} {r : Rd} (h : RdAt s r) {e a : Int} (h0 : 1 ≤ e) (h1 : e ≤ 23) (a0 : 0 ≤ a) (a1 : a ≤ s.length) : RdAt s (rdFail r e a) := by
 have hb := h.bounds
 unfold rdFail
 split
 ·refine ⟨h.s_eq, ?_⟩
  rw [← h.s_eq] at hb a1
  simp only [rdOK, Bool.and_eq_true, decide_eq_true_eq]
  rw [if_neg (by omega)]
  simp only [Bool.and_eq_true, decide_eq_true_eq]
  omega
 ·exact h
theorem ndN {s : List UInt8} {r : Rd} (h : RdAt s r) (hl : s.length ≤ 9223372036854775807) {n : Int} (h0 : 0 ≤ n) (h1 : n ≤ 65535) : (ndR r n && true && decide ((4 : Nat) = 4) && true) = true := by
 have h2 := h.s_eq
 simp only [ndR, h.ok, h2, Bool.and_true, decide_true, Bool.and_eq_true, decide_eq_true_eq]
 exact ⟨⟨h0, h1⟩, hl⟩
theorem wrap1 (r : Rd) : IntKind.i64.wrap (numS (rdTake r 1).2) = numS (rdTake r 1).2 := by
 have h := numS_two (rdTake r 1).2 (Nat.le_trans (rdTake_le r 1) (by decide))
 exact wrap_i64_id (by omega) (by omega)
theorem wrap2 (r : Rd) : IntKind.i64.wrap (numS (rdTake r 2).2) = numS (rdTake r 2).2 := by
 have h := numS_two (rdTake r 2).2 (rdTake_le r 2)
 exact wrap_i64_id (by omega) (by omega)
def cOpS : StCtr := fun extra x => match extra, x with
 | [], .agg [.str s, .int .i64 at_, .int .i64 er, .int .i64 fa] => some (ndR ⟨s, at_, er, fa⟩ 1, (rfOp ⟨s, at_, er, fa⟩).1.av, (rfOp ⟨s, at_, er, fa⟩).2.av)
 | _, _ => none
theorem rop_ok : StF Try.prog (fun _ => .undef) 32 cOpS := by
 intro extra x nd v y he hnd
 unfold cOpS at he
 split at he <;> cases he
 rename_i s at_ er fa
 obtain ⟨_, _, hok, hl, _, _⟩ := ndR_iff hnd
 simp only at hl
 have h0 : RdAt s ⟨s, at_, er, fa⟩ := ⟨rfl, hok⟩
 refine StOK.of_vc (E := E0 (tblS tblRd) (fun _ _ => none)) (k := 20) (d := 3) mix (E0_ok tblRd_ok) rfl ((rop_vc s at_ er fa _ _).mpr ?_)
 simp only [wrap1, wrap2]
 obtain ⟨r, hr⟩ : ∃ r : Rd, r = ⟨s, at_, er, fa⟩ := ⟨_, rfl⟩
 have ha : at_ = r.at_ := by rw [hr]
 rw [← hr] at h0 ⊢
 rw [ha]
 clear hr ha hnd hok
 have nd8 : ∀ {q : Rd}, RdAt s q → (ndR q 8 && true && decide ((4 : Nat) = 4) && true) = true := fun h => ndN h hl (by decide) (by decide)
 have nd2 : ∀ {q : Rd}, RdAt s q → (ndR q 2 && true && decide ((4 : Nat) = 4) && true) = true := fun h => ndN h hl (by decide) (by decide)
 have ndv : ∀ {q p : Rd}, RdAt s q → (ndR q (numS (rdTake p 2).2) && true && decide ((4 : Nat) = 4) && true) = true := fun {q p} h => by
  have h2 := numS_two (rdTake p 2).2 (rdTake_le p 2)
  exact ndN h hl h2.1 h2.2
 have h1 := tkAt h0 1 (by decide)
 have h2 := tkAt h1 8 (by decide)
 have h3 := tkAt h2 8 (by decide)
 have h4 := tkAt h3 8 (by decide)
 have hb := numS_two (rdTake r 1).2 (Nat.le_trans (rdTake_le r 1) (by decide))
 have key : ∀ (fs : List Fld), fieldsOf (numS (rdTake r 1).2) = fs → 1 ≤ numS (rdTake r 1).2 → numS (rdTake r 1).2 ≤ 8 → rfOp r = fs.foldl rfFld (⟨numS (rdTake r 1).2, 0, 0, [], 0, 0, 0, 0⟩, (rdTake r 1).1) := fun fs hf a b => by
  unfold rfOp
  show (if 1 ≤ numS (rdTake r 1).2 ∧ numS (rdTake r 1).2 ≤ 8 then (fieldsOf (numS (rdTake r 1).2)).foldl rfFld (⟨numS (rdTake r 1).2, 0, 0, [], 0, 0, 0, 0⟩, (rdTake r 1).1) else _) = _
  rw [if_pos ⟨a, b⟩, hf]
 refine NB_intro (ndN h0 hl (by decide) (by decide)) ?_
 refine VB_intro (fun hk => ?_) (fun hk1 => VB_intro (fun hk => ?_) (fun hk2 => VB_intro (fun hk => ?_) (fun hk3 => VB_intro (fun hk => ?_) (fun hk4 => VB_intro (fun hk => ?_) (fun hk5 => VB_intro (fun hk => ?_) (fun hk6 => VB_intro (fun hk => ?_) (fun hk7 => VB_intro (fun hk => ?_) (fun hk8 => ?_))))))))
 ·have hk := beq_iff_eq.1 hk
  rw [key [.ten, .lab] (by rw [hk]; rfl) (by omega) (by omega)]
  exact NB_intro (nd8 h1) (NB_intro (nd8 h2) ⟨⟨rfl, rfl, rfl, rfl, rfl, rfl, rfl, rfl, trivial⟩, ⟨rfl, rfl, rfl, rfl, trivial⟩, rfl⟩)
 ·have hk := beq_iff_eq.1 hk
  rw [key [.ten, .txt] (by rw [hk]; rfl) (by omega) (by omega)]
  have ef : [.ten, .txt].foldl rfFld (⟨numS (rdTake r 1).2, 0, 0, [], 0, 0, 0, 0⟩, (rdTake r 1).1) = (⟨numS (rdTake r 1).2, IntKind.i64.wrap (numS (rdTake (rdTake r 1).1 8).2), 0, (rfTxt (rdTake (rdTake r 1).1 8).1).2, 0, 0, 0, 0⟩, (rfTxt (rdTake (rdTake r 1).1 8).1).1) := rfl
  rw [ef]
  refine NB_intro (nd8 h1) (NB_intro (nd2 h2) (VB_intro (fun h => ?_) (fun h => ?_)))
  ·have h := of_decide_eq_true h
   have e : rfTxt (rdTake (rdTake r 1).1 8).1 = rdTake (rdFail (rdTake (rdTake (rdTake r 1).1 8).1 2).1 4 (rdTake (rdTake r 1).1 8).1.at_) (numS (rdTake (rdTake (rdTake r 1).1 8).1 2).2) := by
    unfold rfTxt
    rw [if_pos (show 1000 < (rdNum (rdTake (rdTake r 1).1 8).1 2).2 from h)]
    rfl
   rw [e]
   exact NB_intro (ndv (failAt (tkAt h2 2 (by decide)) (by decide) (by decide) h2.bounds.1 h2.bounds.2)) ⟨⟨rfl, rfl, rfl, rfl, rfl, rfl, rfl, rfl, trivial⟩, ⟨rfl, rfl, rfl, rfl, trivial⟩, rfl⟩
  ·have h := of_decide_eq_false h
   have e : rfTxt (rdTake (rdTake r 1).1 8).1 = rdTake (rdTake (rdTake (rdTake r 1).1 8).1 2).1 (numS (rdTake (rdTake (rdTake r 1).1 8).1 2).2) := by
    unfold rfTxt
    rw [if_neg (show ¬ 1000 < (rdNum (rdTake (rdTake r 1).1 8).1 2).2 from h)]
    rfl
   rw [e]
   exact NB_intro (ndv (tkAt h2 2 (by decide))) ⟨⟨rfl, rfl, rfl, rfl, rfl, rfl, rfl, rfl, trivial⟩, ⟨rfl, rfl, rfl, rfl, trivial⟩, rfl⟩
 ·have hk := beq_iff_eq.1 hk
  rw [key [.ten, .num] (by rw [hk]; rfl) (by omega) (by omega)]
  exact NB_intro (nd8 h1) (NB_intro (nd8 h2) ⟨⟨rfl, rfl, rfl, rfl, rfl, rfl, rfl, rfl, trivial⟩, ⟨rfl, rfl, rfl, rfl, trivial⟩, rfl⟩)
 ·have hk := beq_iff_eq.1 hk
  rw [key [.txt] (by rw [hk]; rfl) (by omega) (by omega)]
  have ef : [.txt].foldl rfFld (⟨numS (rdTake r 1).2, 0, 0, [], 0, 0, 0, 0⟩, (rdTake r 1).1) = (⟨numS (rdTake r 1).2, 0, 0, (rfTxt (rdTake r 1).1).2, 0, 0, 0, 0⟩, (rfTxt (rdTake r 1).1).1) := rfl
  rw [ef]
  refine NB_intro (nd2 h1) (VB_intro (fun h => ?_) (fun h => ?_))
  ·have h := of_decide_eq_true h
   have e : rfTxt (rdTake r 1).1 = rdTake (rdFail (rdTake (rdTake r 1).1 2).1 4 (rdTake r 1).1.at_) (numS (rdTake (rdTake r 1).1 2).2) := by
    unfold rfTxt
    rw [if_pos (show 1000 < (rdNum (rdTake r 1).1 2).2 from h)]
    rfl
   rw [e]
   exact NB_intro (ndv (failAt (tkAt h1 2 (by decide)) (by decide) (by decide) h1.bounds.1 h1.bounds.2)) ⟨⟨rfl, rfl, rfl, rfl, rfl, rfl, rfl, rfl, trivial⟩, ⟨rfl, rfl, rfl, rfl, trivial⟩, rfl⟩
  ·have h := of_decide_eq_false h
   have e : rfTxt (rdTake r 1).1 = rdTake (rdTake (rdTake r 1).1 2).1 (numS (rdTake (rdTake r 1).1 2).2) := by
    unfold rfTxt
    rw [if_neg (show ¬ 1000 < (rdNum (rdTake r 1).1 2).2 from h)]
    rfl
   rw [e]
   exact NB_intro (ndv (tkAt h1 2 (by decide))) ⟨⟨rfl, rfl, rfl, rfl, rfl, rfl, rfl, rfl, trivial⟩, ⟨rfl, rfl, rfl, rfl, trivial⟩, rfl⟩
 ·have hk := beq_iff_eq.1 hk
  rw [key [] (by rw [hk]; rfl) (by omega) (by omega)]
  exact ⟨⟨rfl, rfl, rfl, rfl, rfl, rfl, rfl, rfl, trivial⟩, ⟨rfl, rfl, rfl, rfl, trivial⟩, rfl⟩
 ·have hk := beq_iff_eq.1 hk
  rw [key [.ten, .mx] (by rw [hk]; rfl) (by omega) (by omega)]
  exact NB_intro (nd8 h1) (NB_intro (nd8 h2) ⟨⟨rfl, rfl, rfl, rfl, rfl, rfl, rfl, rfl, trivial⟩, ⟨rfl, rfl, rfl, rfl, trivial⟩, rfl⟩)
 ·have hk := beq_iff_eq.1 hk
  rw [key [.ten, .num, .ids] (by rw [hk]; rfl) (by omega) (by omega)]
  exact NB_intro (nd8 h1) (NB_intro (nd8 h2) (NB_intro (nd8 h3) (NB_intro (nd8 h4) ⟨⟨rfl, rfl, rfl, rfl, rfl, rfl, rfl, rfl, trivial⟩, ⟨rfl, rfl, rfl, rfl, trivial⟩, rfl⟩)))
 ·have hk := beq_iff_eq.1 hk
  rw [key [.ten, .num, .mx] (by rw [hk]; rfl) (by omega) (by omega)]
  exact NB_intro (nd8 h1) (NB_intro (nd8 h2) (NB_intro (nd8 h3) ⟨⟨rfl, rfl, rfl, rfl, rfl, rfl, rfl, rfl, trivial⟩, ⟨rfl, rfl, rfl, rfl, trivial⟩, rfl⟩))
 ·have hk1 := beq_eq_false_iff_ne.1 hk1
  have hk2 := beq_eq_false_iff_ne.1 hk2
  have hk3 := beq_eq_false_iff_ne.1 hk3
  have hk4 := beq_eq_false_iff_ne.1 hk4
  have hk5 := beq_eq_false_iff_ne.1 hk5
  have hk6 := beq_eq_false_iff_ne.1 hk6
  have hk7 := beq_eq_false_iff_ne.1 hk7
  have hk8 := beq_eq_false_iff_ne.1 hk8
  have e : rfOp r = (⟨numS (rdTake r 1).2, 0, 0, [], 0, 0, 0, 0⟩, rdFail (rdTake r 1).1 11 r.at_) := by
   unfold rfOp
   show (if 1 ≤ numS (rdTake r 1).2 ∧ numS (rdTake r 1).2 ≤ 8 then _ else _) = _
   rw [if_neg (by omega)]
   rfl
  rw [e]
  exact ⟨⟨rfl, rfl, rfl, rfl, rfl, rfl, rfl, rfl, trivial⟩, ⟨rfl, rfl, rfl, rfl, trivial⟩, rfl⟩
end Go.Proofs.Ytniihecdmcphgaa
