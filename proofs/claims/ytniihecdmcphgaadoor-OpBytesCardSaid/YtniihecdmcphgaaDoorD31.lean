/- OPBYTES 31: names of kinds; the document's Clean, To: contracts. -/
import Derived.Test.YtniihecdmcphgaaDoorD30
namespace Go.Proofs.YtniihecdmcphgaaDoor
open Pw Go
set_option maxRecDepth 100000
set_option linter.unusedSimpArgs false

def nameS (k : Int) : List UInt8 × Int := if ¬ (1 ≤ k ∧ k ≤ 8) then ([], 11) else (kindsL.getD k.toNat [], 0)
def kindS (s : List UInt8) : Int × Int := if ([114, 101, 103, 105, 115, 116, 101, 114] == s) = true then (1, 0) else (if ([113, 117, 101, 114, 121] == s) = true then (2, 0) else (if ([100, 114, 111, 112] == s) = true then (3, 0) else (if ([105, 110, 103, 101, 115, 116] == s) = true then (4, 0) else (if ([116, 105, 99, 107] == s) = true then (5, 0) else (if ([112, 111, 108, 108] == s) = true then (6, 0) else (if ([100, 101, 99, 108, 97, 115, 115, 105, 102, 121] == s) = true then (7, 0) else (if ([97, 117, 100, 105, 116] == s) = true then (8, 0) else ((0, 12)))))))))
def cName : Ctr
  | [.int .i64 k] => some (true, .tup [.str (nameS k).1, .int .i64 (nameS k).2])
  | _ => none
def cKind : Ctr
  | [.str s] => some (decide (s.length ≤ 9223372036854775807), .tup [.int .i64 (kindS s).1, .int .i64 (kindS s).2])
  | _ => none
theorem knownF'_ok : PureG Tryd.prog gK 22 cKnownF' := by
  intro args nd v h hnd
  unfold cKnownF' at h
  split at h <;> cases h
  · refine (pure_vcF mix tblW_ok ((known_vc _ _).mpr ?_)).up
    simp
    omega
  · refine (pure_vcF mix tblW_ok ((known_vc _ _).mpr ?_)).up
    simp only [Int.ofNat_eq_natCast]
    simp
    omega
theorem tblK_ok : TblOK Tryd.prog gK (tblOf tblK) := tblG_cons knownF'_ok (tblG_nil _ _)
theorem nameS_neg (j : Nat) : nameS (Int.negSucc j) = ([], 11) := by
  unfold nameS
  exact if_pos (by omega)
theorem nameS_big (j : Nat) : nameS (Int.ofNat (j + 9)) = ([], 11) := by
  unfold nameS
  exact if_pos (by simp only [Int.ofNat_eq_natCast]; omega)
theorem name_ok : PureG Tryd.prog gK 13 cName := by
  intro args nd v h hnd
  unfold cName at h
  split at h <;> cases h
  rename_i k
  rcases kinds k with ⟨j, rfl⟩ | ⟨j, rfl⟩ | rfl | rfl | rfl | rfl | rfl | rfl | rfl | rfl | rfl
  · rw [nameS_neg]
    exact pure_vcG mix tblK_ok ((nameN_vc j _ _).mpr (by simp))
  · rw [nameS_big]
    exact pure_vcG mix tblK_ok ((nameP_vc j _ _).mpr (by simp))
  · exact pure_vcG mix (tblG_nil _ _) ((name0_vc _ _).mpr (by simp [nameS, kindsL]))
  · exact pure_vcG mix (tblG_nil _ _) ((name1_vc _ _).mpr (by simp [nameS, kindsL]))
  · exact pure_vcG mix (tblG_nil _ _) ((name2_vc _ _).mpr (by simp [nameS, kindsL]))
  · exact pure_vcG mix (tblG_nil _ _) ((name3_vc _ _).mpr (by simp [nameS, kindsL]))
  · exact pure_vcG mix (tblG_nil _ _) ((name4_vc _ _).mpr (by simp [nameS, kindsL]))
  · exact pure_vcG mix (tblG_nil _ _) ((name5_vc _ _).mpr (by simp [nameS, kindsL]))
  · exact pure_vcG mix (tblG_nil _ _) ((name6_vc _ _).mpr (by simp [nameS, kindsL]))
  · exact pure_vcG mix (tblG_nil _ _) ((name7_vc _ _).mpr (by simp [nameS, kindsL]))
  · exact pure_vcG mix (tblG_nil _ _) ((name8_vc _ _).mpr (by simp [nameS, kindsL]))
theorem nameR_ok : PureG Tryd.prog gK 14 cName := by
  intro args nd v h hnd
  unfold cName at h
  split at h <;> cases h
  rename_i k
  rcases kinds k with ⟨j, rfl⟩ | ⟨j, rfl⟩ | rfl | rfl | rfl | rfl | rfl | rfl | rfl | rfl | rfl
  · rw [nameS_neg]
    exact pure_vcG mix (tblG_nil _ _) ((nameRN_vc j _ _).mpr (by simp))
  · rw [nameS_big]
    exact pure_vcG mix (tblG_nil _ _) ((nameRP_vc j _ _).mpr (by simp))
  · exact pure_vcG mix (tblG_nil _ _) ((nameR0_vc _ _).mpr (by simp [nameS, kindsL]))
  · exact pure_vcG mix (tblG_nil _ _) ((nameR1_vc _ _).mpr (by simp [nameS, kindsL]))
  · exact pure_vcG mix (tblG_nil _ _) ((nameR2_vc _ _).mpr (by simp [nameS, kindsL]))
  · exact pure_vcG mix (tblG_nil _ _) ((nameR3_vc _ _).mpr (by simp [nameS, kindsL]))
  · exact pure_vcG mix (tblG_nil _ _) ((nameR4_vc _ _).mpr (by simp [nameS, kindsL]))
  · exact pure_vcG mix (tblG_nil _ _) ((nameR5_vc _ _).mpr (by simp [nameS, kindsL]))
  · exact pure_vcG mix (tblG_nil _ _) ((nameR6_vc _ _).mpr (by simp [nameS, kindsL]))
  · exact pure_vcG mix (tblG_nil _ _) ((nameR7_vc _ _).mpr (by simp [nameS, kindsL]))
  · exact pure_vcG mix (tblG_nil _ _) ((nameR8_vc _ _).mpr (by simp [nameS, kindsL]))
theorem kind_ok : PureG Tryd.prog gK 15 cKind := by
  intro args nd v h hnd
  unfold cKind at h
  split at h <;> cases h
  rename_i s
  refine pure_vcG mix (tblG_nil _ _) ((kind_vc s _ _).mpr ?_)
  unfold kindS
  simp only [VB_iff]
  repeat' split
  all_goals simp_all
theorem kindR_ok : PureG Tryd.prog gK 16 cKind := by
  intro args nd v h hnd
  unfold cKind at h
  split at h <;> cases h
  rename_i s
  refine pure_vcG mix (tblG_nil _ _) ((kindR_vc s _ _).mpr ?_)
  unfold kindS
  simp only [VB_iff, NB_iff]
  repeat' split
  all_goals simp_all
theorem toR_ok : PureF Tryd.prog 12 cTo := by
  intro args nd v h hnd
  unfold cTo at h
  split at h <;> cases h
  rename_i k t l x n m il id
  refine pure_vcF mix tblQ_ok ((toR_vc k t l n m il id x _).mpr ?_)
  repeat' (first
    | (with_reducible refine VB_intro (fun h => ?_) (fun h => ?_) <;> try simp only [h, VB_t, VB_f, NB_t, Bool.not_true, Bool.not_false, Bool.true_and, Bool.false_and, Bool.and_true, Bool.and_false])
    | (with_reducible refine NB_intro' ?_ (fun h => ?_)))
  all_goals try simp only [isW_t, isW_f, impB_t, impB_f, beq_iff_eq, bne_iff_ne, Bool.not_eq_eq_eq_not, Bool.not_true, Bool.not_false, Bool.and_eq_true, Bool.and_eq_false_iff, Bool.or_eq_true, Bool.or_eq_false_iff, beq_eq_false_iff_ne, decide_eq_true_eq, decide_eq_false_iff_not, EqI] at *
  all_goals try simp (disch := omega) only [wrap_i64_id, wrap_u64_id, Int.add_sub_cancel] at *
  all_goals try simp (disch := omega) only [wrap_i64_id, wrap_u64_id, Int.add_sub_cancel] at *
  all_goals try simp (disch := omega) only [wrap_i64_id, wrap_u64_id, Int.add_sub_cancel] at *
  all_goals try simp (disch := omega) only [wrap_i64_id, wrap_u64_id, Int.add_sub_cancel] at *
  all_goals try grind (splits := 20) [opTo]
theorem cleanR_ok : PureF Tryd.prog 8 cClean := by
  intro args nd v h hnd
  unfold cClean at h
  split at h <;> cases h
  rename_i k t l x n m il id
  refine pure_vcF mix tblQ_ok ((cleanR_vc k t l n m il id x _ _ _ _ _ _ _ _ _).mpr ?_)
  by_cases hc : opChk ⟨k, t, l, x, n, m, il, id⟩ = 0
  · rw [opClean_ok hc]
    have hk := opChk_k hc
    dsimp only at hk
    rcases kinds8 hk with rfl | rfl | rfl | rfl | rfl | rfl | rfl | rfl <;> simp [hc, VB_iff, NB_iff, opCl, fieldsOf, cFld]
  · have : opClean ⟨k, t, l, x, n, m, il, id⟩ = (Opr.zero, opChk ⟨k, t, l, x, n, m, il, id⟩) := by
      unfold opClean
      rw [if_pos hc]
    rw [this]
    simp [hc, VB_iff, Opr.zero]
noncomputable def tblZ : List (Nat × Ctr) := [(13, cName), (14, cName), (15, cKind), (16, cKind), (11, cTo), (12, cTo),
  (7, cClean), (8, cClean), (5, cBytes), (6, cBytesR), (9, cCheck), (10, cCheck), (4, cAwake)]
theorem tblZ_ok : TblOK Tryd.prog gK (tblOf tblZ) := tblG_cons name_ok (tblG_cons nameR_ok (tblG_cons kind_ok (tblG_cons kindR_ok (tblG_cons to_ok.up (tblG_cons toR_ok.up (tblG_cons clean_ok.up (tblG_cons cleanR_ok.up (tblG_cons bytes_ok.up (tblG_cons bytesR_ok.up
  (tblG_cons check_ok.up (tblG_cons checkR_ok.up (tblG_cons awake_ok.up (tblG_nil _ _)))))))))))))
end Go.Proofs.YtniihecdmcphgaaDoor
