/- FLOW 3: the law FlowLeast. -/
import Derived.Test.YtamcloifhjafcaaDoorFD2
namespace Go.Proofs.YtamcloifhjafcaaDoor
open Pw Go
set_option maxRecDepth 100000
set_option linter.unusedSimpArgs false
abbrev bv (n : Int) : BitVec 64 := BitVec.ofInt 64 n
theorem bv_nat (v : BitVec 64) : bv (v.toNat : Int) = v := by
  apply BitVec.eq_of_toNat_eq
  simp [BitVec.toNat_ofInt]
theorem wrapN (v : BitVec 64) : IntKind.u64.wrap (v.toNat : Int) = (v.toNat : Int) := wrap_u64_id (by omega) (by have := v.isLt; omega)
theorem orI_bv (a b : Int) : orI .u64 a b = ((bv a ||| bv b).toNat : Int) := wrapN _
theorem andNotI_bv (a b : Int) : andNotI .u64 a b = ((bv a &&& ~~~(bv b)).toNat : Int) := wrapN _
theorem bv_or (a b : Int) : bv (orI .u64 a b) = bv a ||| bv b := by rw [orI_bv, bv_nat]
theorem bv_0 : bv 0 = 0#64 := rfl
def rdB (A : List AtomG) (c : Int) : Nat → BitVec 64
  | 0 => 0#64
  | i + 1 => rdB A c i ||| bv (atR (A.getD i atomD) c)
theorem rdL_bv (A : List AtomG) (c : Int) : ∀ i, rdL A c i = ((rdB A c i).toNat : Int)
  | 0 => rfl
  | i + 1 => by rw [rdL, jn, orI_bv, bv_or, bv_0, rdL_bv A c i, bv_nat, rdB, BitVec.zero_or]
theorem rdB_open (A : List AtomG) (c : Int) : ∀ i, rdB A c i = if rdO A i = true then rdB A 0 i ||| bv c else rdB A 0 i
  | 0 => rfl
  | i + 1 => by
    have ih := rdB_open A c i
    have e : rdO A (i + 1) = (rdO A i || !(A.getD i atomD).2.1) := rfl
    rw [rdB, rdB, ih]
    by_cases hb : (A.getD i atomD).2.1 = true
    · have h1 : ∀ c, atR (A.getD i atomD) c = (A.getD i atomD).2.2.1 := fun c => if_pos hb
      rw [h1, h1, e, hb, Bool.not_true, Bool.or_false]
      by_cases ho : rdO A i = true
      · rw [if_pos ho, if_pos ho, BitVec.or_assoc, BitVec.or_comm (bv c), ← BitVec.or_assoc]
      · rw [if_neg ho, if_neg ho]
    · have h1 : ∀ c, atR (A.getD i atomD) c = c := fun c => if_neg hb
      have e1 : rdO A (i + 1) = true := by rw [e, show (A.getD i atomD).2.1 = false by simpa using hb]; simp
      rw [h1, h1, if_pos e1, bv_0, BitVec.or_zero]
      by_cases ho : rdO A i = true
      · rw [if_pos ho, BitVec.or_assoc, BitVec.or_self]
      · rw [if_neg ho]
theorem rdV_open (x : NodeG) (c : Int) : rdV x c = if opV x = true then orI .u64 (rdV x 0) c else rdV x 0 := by
  simp only [rdV, opV, rdL_bv, orI_bv, bv_nat]
  rw [rdB_open _ c]
  split <;> rfl
theorem andn_or (a c : BitVec 64) : (a ||| c) &&& ~~~c = a &&& ~~~c := by
  apply BitVec.eq_of_getLsbD_eq
  intro i hi
  simp only [BitVec.getLsbD_and, BitVec.getLsbD_or, BitVec.getLsbD_not, hi, decide_true, Bool.true_and]
  cases a.getLsbD i <;> cases c.getLsbD i <;> rfl
theorem rdV_below (x : NodeG) (c : Int) : andNotI .u64 (rdV x c) c = andNotI .u64 (rdV x 0) c := by
  rw [rdV_open]
  split
  · rw [andNotI_bv, andNotI_bv, bv_or, andn_or]
  · rfl
theorem CkV_0 {x : NodeG} {w : Int} {hs : List HaveG} {es : List AggG} (h : wfE x w hs es = 0) (c : Int) : CkV x w hs es c = if andNotI .u64 (rdV x 0) c = 0 then 0 else 13 := by
  rw [CkV, rdV_below, h]
  by_cases h2 : andNotI .u64 (rdV x 0) c = 0
  · rw [if_pos h2, if_neg (fun h3 => h3.2 h2)]
  · rw [if_neg h2, if_pos ⟨rfl, h2⟩]
section
variable {x : NodeG} (w : Int) {hs : List HaveG} {es : List AggG} (hq : LtW x hs es) (h0 : wfE x w hs es = 0)
include hq h0
theorem rdF_ok : PureG Tryd.prog gN 25 (cRdF x w hs es (rdV x) 0) := by
  intro args nd v he hnd
  unfold cRdF at he
  split at he <;> cases he
  rename_i q c
  have hqa : [q] = [qA x w hs es] := by simpa [atB] using hnd
  cases hqa
  have := read_pure w hq c
  rwa [RdV, if_pos h0, h0] at this
omit h0 in
theorem ckF_ok : PureG Tryd.prog gN 24 (cCkF x w hs es (CkV x w hs es)) := by
  intro args nd v he hnd
  unfold cCkF at he
  split at he <;> cases he
  rename_i q c
  have hqa : [q] = [qA x w hs es] := by simpa [atB] using hnd
  cases hqa
  exact fcheck_pure w hq c
end
theorem LtW_kq (l : List Int) : LtW (kqX l) (kqHs l) (kqEs l) := LtW.of (light_kq l)
noncomputable def EFLx (l : List Int) : Env := EFL l (kqX l) (kqW l) (kqHs l) (kqEs l) (rdV (kqX l) 0) (opV (kqX l)) (rdV (kqX l)) (CkV (kqX l) (kqW l) (kqHs l) (kqEs l))
def ok64 (l : List Int) : Prop := ∀ i, -9223372036854775808 ≤ l.getD i 0 ∧ l.getD i 0 ≤ 9223372036854775807
theorem ok64_of {l : List Int} (h : ∀ k, k < l.length → -9223372036854775808 ≤ l.getD k 0 ∧ l.getD k 0 ≤ 9223372036854775807) : ok64 l := fun i => by
  rcases Nat.lt_or_ge i l.length with hi | hi
  · exact h i hi
  · rw [List.getD_eq_getElem?_getD, List.getElem?_eq_none hi]
    decide
theorem EFL_ok (l : List Int) (hl : ok64 l) : TblOK Tryd.prog gN (tblOf (tblFL l (kqX l) (kqW l) (kqHs l) (kqEs l) (rdV (kqX l) 0) (opV (kqX l)) (rdV (kqX l)) (CkV (kqX l) (kqW l) (kqHs l) (kqEs l)))) := by
  have hq := LtW_kq l
  have h0 := wf_kq l
  refine tblG_cons (cAt_ok (query_pure l hl)) (tblG_cons (cAt_ok ?_) (tblG_cons (cAt_ok ?_) (tblG_cons (ckF_ok _ hq) (tblG_cons (rdF_ok _ hq h0) (tblG_cons awake11_ok (tblG_nil _ _))))))
  · have := least_pure (kqW l) hq
    rwa [RdV, if_pos h0, h0] at this
  · have := open_pure (kqW l) hq
    rwa [OpV, if_pos h0, h0] at this
theorem fleast_sat (l : List Int) (c m : Int) : (vcFun (EFLx l) 40 4 [iqA l, .int .u64 c, .int .u64 m] .nil 0 (isBool true)).sat := by
  refine (fleast_vc l c m _ _ _ _ _ _ _ _).mpr ?_
  have hK : ∀ c, (CkV (kqX l) (kqW l) (kqHs l) (kqEs l) c != 0 && CkV (kqX l) (kqW l) (kqHs l) (kqEs l) c != 13 || !(CkV (kqX l) (kqW l) (kqHs l) (kqEs l) c == 0) == (andNotI .u64 (rdV (kqX l) 0) c == 0)) = false := by
    intro c
    rw [CkV_0 (wf_kq l)]
    by_cases h : andNotI .u64 (rdV (kqX l) 0) c = 0
    · simp [h]
    · simp [h]
  have hR : ∀ c, rdV (kqX l) c = if opV (kqX l) = true then orI .u64 (rdV (kqX l) 0) c else rdV (kqX l) 0 := rdV_open (kqX l)
  rw [show atB [qA (kqX l) (kqW l) (kqHs l) (kqEs l)] [qA (kqX l) (kqW l) (kqHs l) (kqEs l)] = true from atB_self _, show atB [AV.rof l.length (fun i => AV.int .i64 (l.getD i 0)) false] [iqA l] = true from atB_self _]
  simp only [hK, NB_t, VB_f]
  cases ho : opV (kqX l) with
  | true =>
    have hR : ∀ c, rdV (kqX l) c = orI .u64 (rdV (kqX l) 0) c := fun c => by have := hR c; rwa [if_pos ho] at this
    have e : ∀ c, ((0 : Int) != 0 || rdV (kqX l) c != orI .u64 (rdV (kqX l) 0) c) = false := fun c => by rw [← hR c]; simp
    simp only [e, VB_f, VB_t]
  | false =>
    have hR : ∀ c, rdV (kqX l) c = rdV (kqX l) 0 := fun c => by have := hR c; rwa [if_neg (by rw [ho]; decide)] at this
    have e : ∀ c, ((0 : Int) != 0 || rdV (kqX l) c != rdV (kqX l) 0) = false := fun c => by rw [hR c]; simp
    simp only [e, VB_f]
end Go.Proofs.YtamcloifhjafcaaDoor
