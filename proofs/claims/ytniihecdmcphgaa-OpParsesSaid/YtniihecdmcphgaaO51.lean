/- OP 51: the document's parsers, contracts. -/
import Derived.Test.YtniihecdmcphgaaO49
namespace Go.Proofs.Ytniihecdmcphgaa
open Pw Go
set_option maxRecDepth 100000
set_option linter.unusedSimpArgs false
theorem rdFail_err {r : Rd} {e a : Int} (h : r.err ≠ 0) : rdFail r e a = r := if_neg h
theorem rparse_pure (s : List UInt8) (hl : s.length ≤ 9223372036854775807) : PureC Try.prog (fun _ => .undef) 19 [.str s] (.tup [(opParse s).1.av, .agg [.int .i64 (opParse s).2.1, .int .i64 (opParse s).2.2]]) := by
 refine PureC.of_vc (E := E0 (tblS tblOpS) (fun _ _ => none)) (k := 20) (d := 3) mix (E0_ok tblOpS_ok) ((rparse_vc s _ _ _).mpr ?_)
 have h := rf_next (s := s) (a := 0) (by decide) (by omega)
 refine NB_intro (ndN (rdAt_0 (by decide) (by omega)) hl (by decide) (by decide)) ?_
 have hP : opParse s = if (rdEnd (opNext s 0).2).err ≠ 0 then (Opr.zero, (rdEnd (opNext s 0).2).err, (rdEnd (opNext s 0).2).fat) else ((opNext s 0).1, 0, 0) := rfl
 generalize rfOp ⟨s, 0, 0, 0⟩ = p' at h ⊢
 generalize opNext s 0 = p at h hP
 obtain ⟨a', a, e⟩ := h
 have hE : rdEnd p.2 = if p.2.at_ < s.length then rdFail p.2 4 p.2.at_ else p.2 := by
  unfold rdEnd
  rw [a.use, a.s_eq]
 rw [hE] at hP
 rcases e with e | ⟨e1, e2, e3⟩
 ·subst e
  refine VB_intro (fun h1 => ?_) (fun h1 => ?_)
  ·rw [if_pos (of_decide_eq_true h1)] at hP
   refine VB_intro (fun h2 => ?_) (fun h2 => ?_)
   ·rw [if_pos (by simpa using h2)] at hP
    rw [hP]
    exact ⟨⟨rfl, rfl, rfl, rfl, rfl, rfl, rfl, rfl, trivial⟩, ⟨rfl, rfl, trivial⟩, trivial⟩
   ·rw [if_neg (by simpa using h2)] at hP
    rw [hP]
    exact ⟨⟨rfl, rfl, rfl, rfl, rfl, rfl, rfl, rfl, trivial⟩, ⟨rfl, rfl, trivial⟩, trivial⟩
  ·rw [if_neg (of_decide_eq_false h1)] at hP
   refine VB_intro (fun h2 => ?_) (fun h2 => ?_)
   ·rw [if_pos (by simpa using h2)] at hP
    rw [hP]
    exact ⟨⟨rfl, rfl, rfl, rfl, rfl, rfl, rfl, rfl, trivial⟩, ⟨rfl, rfl, trivial⟩, trivial⟩
   ·rw [if_neg (by simpa using h2)] at hP
    rw [hP]
    exact ⟨⟨rfl, rfl, rfl, rfl, rfl, rfl, rfl, rfl, trivial⟩, ⟨rfl, rfl, trivial⟩, trivial⟩
 ·have e1' : p'.2.err ≠ 0 := by omega
  have hX : (if p.2.at_ < (s.length : Int) then rdFail p.2 4 p.2.at_ else p.2) = p.2 := by
   split
   ·exact rdFail_err e1
   ·rfl
  rw [hX, if_pos e1] at hP
  rw [hP, rdFail_err e1']
  refine VB_intro (fun h1 => ?_) (fun h1 => ?_) <;> refine VB_intro (fun h2 => ?_) (fun h2 => absurd (by simpa using h2) e1')
  ·exact ⟨⟨rfl, rfl, rfl, rfl, rfl, rfl, rfl, rfl, trivial⟩, ⟨e2, e3, trivial⟩, trivial⟩
  ·exact ⟨⟨rfl, rfl, rfl, rfl, rfl, rfl, rfl, rfl, trivial⟩, ⟨e2, e3, trivial⟩, trivial⟩
theorem rplist_pure (s : List UInt8) (hl : s.length ≤ 9223372036854775807) : PureC Try.prog (fun _ => .undef) 21 [.str s] (.tup [.rof (plS s).1 (fun i => (oAt s i).av) false, .agg [.int .i64 (plS s).2.1, .int .i64 (plS s).2.2]]) := by
  refine PureC.of_vc (E := E0 (tblS tblOpS) (fun h b => if h = 21 ∧ b = 0 then some (invRL s (plQ s)) else none)) (k := 20) (d := 3) mix (E0_ok tblOpS_ok) ((rplist_vc s (plQ s) _ _ _ _).mpr ?_)
  refine VB_intro (fun h => ?_) (fun h => ?_)
  · have h : (s.length : Int) > 20000 := of_decide_eq_true h
    simp [plS, h]
  have h20 : ¬ (s.length : Int) > 20000 := of_decide_eq_false h
  have hS : plS s = plGo s 401 0 := by unfold plS; rw [if_neg h20]
  rw [hS]
  refine ⟨⟨(0, 0), plQ_0 s, by simp [oOff]⟩, fun i hQ => ?_⟩
  obtain ⟨j, gen⟩ := i
  have hend := pl_end hQ
  have hQ' := hQ
  obtain ⟨k1, k2, k3, k4, k5⟩ := hQ'
  refine VB_intro (fun h => ?_) (fun h => ?_)
  · have h1 : oOff s j < s.length := of_decide_eq_true h
    rw [if_pos h1] at hend
    refine VB_intro (fun h => ?_) (fun h => ?_)
    · have h2 : j = 400 := by have : (j : Int) = 400 := beq_iff_eq.1 h
                              omega
      rw [if_pos h2] at hend
      rw [hend]
      exact ⟨rfl, ⟨rfl, rfl, trivial⟩, trivial⟩
    · have h2 : j ≠ 400 := fun e => by subst e; simp at h
      rw [if_neg h2] at hend
      have hr := rf_next k4 k5
      refine NB_intro (ndN (rdAt_0 k4 k5) hl (by decide) (by decide)) (NB_intro (by simp [room]; omega) ?_)
      have hoE : oErr s j = (opNext s (oOff s j)).2.err := rfl
      have hoF : oFat s j = (opNext s (oOff s j)).2.fat := rfl
      have hoA : oAt s j = (opNext s (oOff s j)).1 := rfl
      have hoO : oOff s (j + 1) = (opNext s (oOff s j)).2.at_ := rfl
      have herr : (rfOp ⟨s, oOff s j, 0, 0⟩).2.err = oErr s j ∧ (rfOp ⟨s, oOff s j, 0, 0⟩).2.fat = oFat s j ∧ (oErr s j = 0 → rfOp ⟨s, oOff s j, 0, 0⟩ = opNext s (oOff s j)) := by
        rcases hr.eq with e | ⟨e1, e2, e3⟩
        · rw [e]; exact ⟨rfl, rfl, fun _ => rfl⟩
        · exact ⟨e2, e3, fun h => absurd h e1⟩
      obtain ⟨x1, x2, x3⟩ := herr
      refine VB_intro (fun h => ?_) (fun h => ?_)
      · have h3 : oErr s j ≠ 0 := by rw [← x1]; simpa using h
        rw [if_pos h3] at hend
        rw [hend]
        exact ⟨rfl, ⟨x1, x2, trivial⟩, trivial⟩
      · have h3 : oErr s j = 0 := by rw [← x1]; simpa using h
        have hf : oFat s j = 0 := (opNext_rd k4 k5).1.fat h3
        have e := x3 h3
        refine ⟨(j + 1, gen + 1), plQ_succ hQ h1 h2 h3, by show 500 - (j + 1) < 500 - j; omega, ⟨rfl, ⟨rfl, rfl, rfl⟩, ⟨rfl, rfl, rfl⟩, ⟨rfl, rfl, rfl, .inl rfl⟩, trivial⟩, ⟨rfl, fun h => h, ⟨⟨rfl, rfl, trivial⟩, rfl⟩, trivial⟩,
          ⟨rfl, fun h => h, ⟨⟨by rw [e]; exact (opNext_rd k4 k5).1.s_eq, by rw [e]; rfl, by rw [e]; exact h3, by rw [e]; exact hf, trivial⟩, rfl⟩, trivial⟩, ⟨rfl, fun h => h, rfl, fun q hq => ?_⟩, trivial⟩
        by_cases hqj : q < j
        · simp only [if_pos hqj, Nat.zero_add]
          exact ⟨⟨rfl, rfl, rfl, rfl, rfl, rfl, rfl, rfl, trivial⟩, rfl⟩
        · have hq : q < j + 1 := hq
          have eq : q = j := by omega
          subst eq
          simp only [if_neg hqj, Nat.sub_self, e]
          exact ⟨⟨rfl, rfl, rfl, rfl, rfl, rfl, rfl, rfl, trivial⟩, rfl⟩
  · have h1 : ¬ (oOff s j < s.length) := of_decide_eq_false h
    rw [if_neg h1] at hend
    rw [hend]
    refine NB_intro (by simp) ⟨⟨rfl, fun q hq => ?_, fun h => by cases h⟩, ⟨rfl, rfl, trivial⟩, trivial⟩
    simp
theorem rparse_ok : PureF Try.prog 19 cParse := by
 intro args nd v h hnd
 unfold cParse at h
 split at h <;> cases h
 exact rparse_pure _ (of_decide_eq_true hnd)
theorem rplist_ok : PureF Try.prog 21 cPList := by
 intro args nd v h hnd
 unfold cPList at h
 split at h <;> cases h
 exact rplist_pure _ (of_decide_eq_true hnd)
noncomputable def tblPa : List (Nat × Ctr) := [(9, cAwake), (13, cParse), (19, cParse), (20, cPList), (21, cPList), (18, cSame)]
theorem tblPa_ok : TblOK Try.prog (fun _ => .undef) (tblOf tblPa) := tbl_cons awake_ok (tbl_cons parse_ok (tbl_cons rparse_ok (tbl_cons plist_ok (tbl_cons rplist_ok (tbl_cons same_ok (tbl_nil _))))))
noncomputable def EPa : Env := mkF Try.prog (tblOf tblPa) (fun _ _ => none) 8
theorem parses_vc (s : List UInt8) : (vcFun EPa 40 5 [.str s] .nil 0 (isBool true)).sat = ( VB (decide ((↑s.length : Int) > (1200 : Int)) && decide ((↑s.length : Int) ≤ (20000 : Int)) || decide ((↑s.length : Int) > (20010 : Int))) (true = true) (NB (decide (s.length ≤ (9223372036854775807 : Nat))) (NB (decide (s.length ≤ (9223372036854775807 : Nat))) (VB (!((opParse s).fst.k == (opParse s).fst.k && ((opParse s).fst.t == (opParse s).fst.t && ((opParse s).fst.l == (opParse s).fst.l && ((opParse s).fst.x == (opParse s).fst.x && ((opParse s).fst.n == (opParse s).fst.n && ((opParse s).fst.m == (opParse s).fst.m && ((opParse s).fst.il == (opParse s).fst.il && ((opParse s).fst.id == (opParse s).fst.id && true)))))))) || !((opParse s).snd.fst == (opParse s).snd.fst && ((opParse s).snd.snd == (opParse s).snd.snd && true))) (false = true) (NB (decide (s.length ≤ (9223372036854775807 : Nat))) (NB (decide (s.length ≤ (9223372036854775807 : Nat))) (NB ((decide ((plS s).fst ≤ (1000000 : Nat)) && decide ((plS s).fst ≤ (1000000 : Nat)) && opsB (plS s).fst fun (i : Nat) => (oAt s i).av) && opsB (plS s).fst fun (i : Nat) => (oAt s i).av) ((((sameO (plS s).fst (plS s).fst (fun (i : Nat) => toOpr (oAt s i).av) fun (i : Nat) => toOpr (oAt s i).av) && ((plS s).snd.fst == (plS s).snd.fst && ((plS s).snd.snd == (plS s).snd.snd && true)) && true) == true) = true)))))))) := by
 kernel_rfl
end Go.Proofs.Ytniihecdmcphgaa
namespace Go.Proofs.Ytniihecdmcphgaa
open Pw Go
set_option maxRecDepth 100000
set_option linter.unusedSimpArgs false
theorem plGo_le (s : List UInt8) : ∀ (f j : Nat), (plGo s f j).1 ≤ j + f
 | 0, _ => Nat.zero_le _
 | f + 1, j => by
  have := plGo_le s f (j + 1)
  simp only [plGo]
  split
  ·split
   ·exact Nat.zero_le _
   ·split
    ·exact Nat.zero_le _
    ·omega
  ·simp only; omega
theorem plS_le (s : List UInt8) : (plS s).1 ≤ 401 := by
 unfold plS
 split
 ·exact Nat.zero_le _
 ·have := plGo_le s 401 0
  omega
theorem parses_sat (s : List UInt8) : (vcFun EPa 40 5 [.str s] .nil 0 (isBool true)).sat := by
 refine (parses_vc s).mpr ?_
 refine VB_intro (fun _ => rfl) (fun h => ?_)
 have hl : s.length ≤ 9223372036854775807 := by
  simp only [Bool.or_eq_false_iff, decide_eq_false_iff_not] at h
  omega
 have hn := plS_le s
 have hs : sameO (plS s).1 (plS s).1 (fun i => toOpr (oAt s i).av) (fun i => toOpr (oAt s i).av) = true := by
  unfold sameO
  simp only [beq_self_eq_true, Bool.true_and, List.all_eq_true]
  intro i _
  simp [eqO]
 have hB : opsB (plS s).1 (fun i => (oAt s i).av) = true := List.all_eq_true.2 fun i _ => rfl
 rw [decide_eq_true hl, hB, hs, decide_eq_true (show (plS s).1 ≤ 1000000 by omega)]
 simp [NB_iff, VB_iff]
end Go.Proofs.Ytniihecdmcphgaa
