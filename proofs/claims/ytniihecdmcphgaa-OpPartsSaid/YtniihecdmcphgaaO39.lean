/- OP 39: OpCuts, its code. -/
import Derived.Test.YtniihecdmcphgaaO38
import Derived.Test.YtniihecdmcphgaaO13
import Derived.Test.YtniihecdmcphgaaOS
import Derived.Test.YtniihecdmcphgaaPwG5
namespace Go.Proofs.Ytniihecdmcphgaa
open Pw Go
set_option maxRecDepth 100000
set_option linter.unusedSimpArgs false

noncomputable def tblP : List (Nat × Ctr) := (20, cPList) :: tblB
theorem tblP_ok : TblOK Try.prog (fun _ => .undef) (tblOf tblP) := tbl_cons plist_ok tblB_ok
noncomputable def EP : Env := mkF Try.prog (tblOf tblP) (fun _ _ => none) 8
theorem cuts_vc (k t l n m il id c : Int) (x : List UInt8) : (vcFun EP 20 6 [.agg [.int .i64 k, .int .i64 t, .int .u64 l, .str x, .int .i64 n, .int .i64 m, .int .u64 il, .int .u64 id], .int .i64 c] .nil 0 (isBool true)).sat = (
  NB (decide ((-9223372036854775808 : Int) ≤ k ∧ k ≤ (9223372036854775807 : Int)))
    (NB (needOp (opRight (Opr.mk k t l x n m il id)))
      (VB ((opBytes (opRight (Opr.mk k t l x n m il id))).snd != (0 : Int) || (↑(opBytes (opRight (Opr.mk k t l x n m il id))).fst.length : Int) == (0 : Int)) (false = true)
        (NB (decide ((-9223372036854775808 : Int) ≤ c ∧ c ≤ (9223372036854775807 : Int) ∧ (↑(opBytes (opRight (Opr.mk k t l x n m il id))).fst.length : Int) ≤ (9223372036854775807 : Int)))
          (NB
            (decide
              ((0 : Int) ≤ (0 : Int) ∧
                (0 : Int) ≤ modI c (↑(opBytes (opRight (Opr.mk k t l x n m il id))).fst.length : Int) ∧
                  modI c (↑(opBytes (opRight (Opr.mk k t l x n m il id))).fst.length : Int) ≤ (↑(opBytes (opRight (Opr.mk k t l x n m il id))).fst.length : Int)))
            (NB
              (decide
                ((List.take ((modI c (↑(opBytes (opRight (Opr.mk k t l x n m il id))).fst.length : Int)).toNat - Int.toNat (0 : Int))
                      (List.drop (Int.toNat (0 : Int)) (opBytes (opRight (Opr.mk k t l x n m il id))).fst)).length ≤
                  (9223372036854775807 : Nat)))
              (NB
                (decide
                  ((0 : Int) ≤ (0 : Int) ∧
                    (0 : Int) ≤ modI c (↑(opBytes (opRight (Opr.mk k t l x n m il id))).fst.length : Int) ∧
                      modI c (↑(opBytes (opRight (Opr.mk k t l x n m il id))).fst.length : Int) ≤ (↑(opBytes (opRight (Opr.mk k t l x n m il id))).fst.length : Int)))
                (NB
                  (decide
                    ((List.take ((modI c (↑(opBytes (opRight (Opr.mk k t l x n m il id))).fst.length : Int)).toNat - Int.toNat (0 : Int))
                          (List.drop (Int.toNat (0 : Int)) (opBytes (opRight (Opr.mk k t l x n m il id))).fst)).length ≤
                      (9223372036854775807 : Nat)))
                  ((((opParse
                                            (List.take ((modI c (↑(opBytes (opRight (Opr.mk k t l x n m il id))).fst.length : Int)).toNat - Int.toNat (0 : Int))
                                              (List.drop (Int.toNat (0 : Int)) (opBytes (opRight (Opr.mk k t l x n m il id))).fst))).fst.k ==
                                      (0 : Int) &&
                                    ((opParse
                                              (List.take ((modI c (↑(opBytes (opRight (Opr.mk k t l x n m il id))).fst.length : Int)).toNat - Int.toNat (0 : Int))
                                                (List.drop (Int.toNat (0 : Int)) (opBytes (opRight (Opr.mk k t l x n m il id))).fst))).fst.t ==
                                        (0 : Int) &&
                                      ((opParse
                                                (List.take ((modI c (↑(opBytes (opRight (Opr.mk k t l x n m il id))).fst.length : Int)).toNat - Int.toNat (0 : Int))
                                                  (List.drop (Int.toNat (0 : Int)) (opBytes (opRight (Opr.mk k t l x n m il id))).fst))).fst.l ==
                                          (0 : Int) &&
                                        ((opParse
                                                  (List.take ((modI c (↑(opBytes (opRight (Opr.mk k t l x n m il id))).fst.length : Int)).toNat - Int.toNat (0 : Int))
                                                    (List.drop (Int.toNat (0 : Int)) (opBytes (opRight (Opr.mk k t l x n m il id))).fst))).fst.x ==
                                            [] &&
                                          ((opParse
                                                    (List.take ((modI c (↑(opBytes (opRight (Opr.mk k t l x n m il id))).fst.length : Int)).toNat - Int.toNat (0 : Int))
                                                      (List.drop (Int.toNat (0 : Int)) (opBytes (opRight (Opr.mk k t l x n m il id))).fst))).fst.n ==
                                              (0 : Int) &&
                                            ((opParse
                                                      (List.take ((modI c (↑(opBytes (opRight (Opr.mk k t l x n m il id))).fst.length : Int)).toNat - Int.toNat (0 : Int))
                                                        (List.drop (Int.toNat (0 : Int)) (opBytes (opRight (Opr.mk k t l x n m il id))).fst))).fst.m ==
                                                (0 : Int) &&
                                              ((opParse
                                                        (List.take ((modI c (↑(opBytes (opRight (Opr.mk k t l x n m il id))).fst.length : Int)).toNat - Int.toNat (0 : Int))
                                                          (List.drop (Int.toNat (0 : Int)) (opBytes (opRight (Opr.mk k t l x n m il id))).fst))).fst.il ==
                                                  (0 : Int) &&
                                                ((opParse
                                                          (List.take ((modI c (↑(opBytes (opRight (Opr.mk k t l x n m il id))).fst.length : Int)).toNat - Int.toNat (0 : Int))
                                                            (List.drop (Int.toNat (0 : Int)) (opBytes (opRight (Opr.mk k t l x n m il id))).fst))).fst.id ==
                                                    (0 : Int) &&
                                                  true))))))) &&
                                  (opParse
                                          (List.take ((modI c (↑(opBytes (opRight (Opr.mk k t l x n m il id))).fst.length : Int)).toNat - Int.toNat (0 : Int))
                                            (List.drop (Int.toNat (0 : Int)) (opBytes (opRight (Opr.mk k t l x n m il id))).fst))).snd.fst ==
                                    (5 : Int) &&
                                decide
                                  ((opParse
                                          (List.take ((modI c (↑(opBytes (opRight (Opr.mk k t l x n m il id))).fst.length : Int)).toNat - Int.toNat (0 : Int))
                                            (List.drop (Int.toNat (0 : Int)) (opBytes (opRight (Opr.mk k t l x n m il id))).fst))).snd.snd ≥
                                    (0 : Int)) &&
                              decide
                                ((opParse
                                        (List.take ((modI c (↑(opBytes (opRight (Opr.mk k t l x n m il id))).fst.length : Int)).toNat - Int.toNat (0 : Int))
                                          (List.drop (Int.toNat (0 : Int)) (opBytes (opRight (Opr.mk k t l x n m il id))).fst))).snd.snd ≤
                                  modI c (↑(opBytes (opRight (Opr.mk k t l x n m il id))).fst.length : Int)) &&
                            (↑(plS
                                      (List.take ((modI c (↑(opBytes (opRight (Opr.mk k t l x n m il id))).fst.length : Int)).toNat - Int.toNat (0 : Int))
                                        (List.drop (Int.toNat (0 : Int)) (opBytes (opRight (Opr.mk k t l x n m il id))).fst))).fst :
                                Int) ==
                              (0 : Int) &&
                          (modI c (↑(opBytes (opRight (Opr.mk k t l x n m il id))).fst.length : Int) == (0 : Int) &&
                              ((plS
                                        (List.take ((modI c (↑(opBytes (opRight (Opr.mk k t l x n m il id))).fst.length : Int)).toNat - Int.toNat (0 : Int))
                                          (List.drop (Int.toNat (0 : Int)) (opBytes (opRight (Opr.mk k t l x n m il id))).fst))).snd.fst ==
                                  (0 : Int) &&
                                ((plS
                                          (List.take ((modI c (↑(opBytes (opRight (Opr.mk k t l x n m il id))).fst.length : Int)).toNat - Int.toNat (0 : Int))
                                            (List.drop (Int.toNat (0 : Int)) (opBytes (opRight (Opr.mk k t l x n m il id))).fst))).snd.snd ==
                                    (0 : Int) &&
                                  true)) ||
                            decide (modI c (↑(opBytes (opRight (Opr.mk k t l x n m il id))).fst.length : Int) > (0 : Int)) &&
                              ((plS
                                        (List.take ((modI c (↑(opBytes (opRight (Opr.mk k t l x n m il id))).fst.length : Int)).toNat - Int.toNat (0 : Int))
                                          (List.drop (Int.toNat (0 : Int)) (opBytes (opRight (Opr.mk k t l x n m il id))).fst))).snd.fst ==
                                  (opParse
                                        (List.take ((modI c (↑(opBytes (opRight (Opr.mk k t l x n m il id))).fst.length : Int)).toNat - Int.toNat (0 : Int))
                                          (List.drop (Int.toNat (0 : Int)) (opBytes (opRight (Opr.mk k t l x n m il id))).fst))).snd.fst &&
                                ((plS
                                          (List.take ((modI c (↑(opBytes (opRight (Opr.mk k t l x n m il id))).fst.length : Int)).toNat - Int.toNat (0 : Int))
                                            (List.drop (Int.toNat (0 : Int)) (opBytes (opRight (Opr.mk k t l x n m il id))).fst))).snd.snd ==
                                    (opParse
                                          (List.take ((modI c (↑(opBytes (opRight (Opr.mk k t l x n m il id))).fst.length : Int)).toNat - Int.toNat (0 : Int))
                                            (List.drop (Int.toNat (0 : Int)) (opBytes (opRight (Opr.mk k t l x n m il id))).fst))).snd.snd &&
                                  true))) &&
                        true) ==
                      true) =
                    true))))))))) := by
  kernel_rfl

end Go.Proofs.Ytniihecdmcphgaa
namespace Go.Proofs.Ytniihecdmcphgaa
open Pw Go
set_option maxRecDepth 100000
set_option linter.unusedSimpArgs false

theorem need_ofN {o : Opr} (h : OkN o) : needOp o = true := by
  have := h.x1
  exact decide_eq_true ⟨by omega, h.l0, h.l1, h.a0, h.a1, h.b0, h.b1⟩
theorem right_ofN {k t l n m il id : Int} {x : List UInt8} (ht : -9223372036854775808 ≤ t ∧ t ≤ 9223372036854775807) (hn : -9223372036854775808 ≤ n ∧ n ≤ 9223372036854775807) (hm : -9223372036854775808 ≤ m ∧ m ≤ 9223372036854775807)
    (hl : 0 ≤ l ∧ l ≤ 18446744073709551615) (ha : 0 ≤ il ∧ il ≤ 18446744073709551615) (hb : 0 ≤ id ∧ id ≤ 18446744073709551615) : OkN (opRight ⟨k, t, l, x, n, m, il, id⟩) ∧ opChk (opRight ⟨k, t, l, x, n, m, il, id⟩) = 0 ∧ (enc (opRight ⟨k, t, l, x, n, m, il, id⟩)).length ≤ 20000 := by
  have hN : OkN (opRight ⟨k, t, l, x, n, m, il, id⟩) := ⟨ht.1, ht.2, hn.1, hn.2, hm.1, hm.2, hl.1, hl.2, ha.1, ha.2, hb.1, hb.2, by show (x.take 100).length ≤ 1000; rw [List.length_take]; omega⟩
  refine ⟨hN, ?_, ?_⟩
  · unfold opChk opRight
    dsimp only
    rw [if_neg (by omega), if_neg (by rw [List.length_take]; omega)]
  · have h1 := flat_len hN (fieldsOf (opRight ⟨k, t, l, x, n, m, il, id⟩).k)
    have h2 := fields_len (opRight ⟨k, t, l, x, n, m, il, id⟩).k
    unfold enc
    rw [List.length_append, digS_length]
    omega
theorem enc_pos {o : Opr} : 1 ≤ (enc o).length := by
  unfold enc
  rw [List.length_append, digS_length]
  omega
/-- A string cut off: what Parse and ParseList say. -/
theorem short_says {o : Opr} (h : OkN o) (hc : opChk o = 0) (hL : (enc o).length ≤ 20000) {K : Nat} (hK : K < (enc o).length) :
    ∃ f : Int, 0 ≤ f ∧ f ≤ K ∧ opParse ((enc o).take K) = (Opr.zero, 5, f) ∧ (1 ≤ K → plS ((enc o).take K) = (0, 5, f)) ∧ (K = 0 → plS ((enc o).take K) = (0, 0, 0)) := by
  by_cases h0 : K = 0
  · subst h0
    refine ⟨0, Int.le_refl _, Int.le_refl _, ?_, fun h => by omega, fun _ => ?_⟩
    · have hU : rdUint ⟨[], 0, 0, 0⟩ 1 = (⟨[], 0, 5, 0⟩, 0) := rfl
      have hE : rdEnd ⟨[], 0, 5, 0⟩ = ⟨[], 0, 5, 0⟩ := rfl
      have hN : opNext [] 0 = (Opr.zero, ⟨[], 0, 5, 0⟩) := by
        unfold opNext
        rw [hU]
        rfl
      show opParse [] = _
      unfold opParse
      rw [hN]
      simp only [hE]
      rfl
    · show plS [] = _
      simp [plS, plGo, oOff]
  · obtain ⟨h5, hr⟩ := opNext_short h hc (k := K) (by omega) hK
    have hl : ((enc o).take K).length = K := by rw [List.length_take]; omega
    obtain ⟨s, hs⟩ : ∃ s, s = (enc o).take K := ⟨_, rfl⟩
    rw [← hs] at h5 hr hl ⊢
    have hok := hr.ok
    simp only [rdOK, Bool.and_eq_true, decide_eq_true_eq] at hok
    rw [if_neg (by omega)] at hok
    simp only [Bool.and_eq_true, decide_eq_true_eq, hr.s_eq, hl] at hok
    refine ⟨(opNext s 0).2.fat, hok.2.1.2, hok.2.2, ?_, fun _ => ?_, fun h => absurd h h0⟩
    · have hE : rdEnd (opNext s 0).2 = (opNext s 0).2 := by
        unfold rdEnd
        rw [hr.use]
        split
        · unfold rdFail; rw [if_neg (by omega)]
        · rfl
      unfold opParse
      rw [hE, if_pos (by omega), h5]
    · have e1 : plS s = plGo s 401 0 := by unfold plS; rw [if_neg (by omega)]
      have e2 : oErr s 0 = 5 := h5
      rw [e1, show (401 : Nat) = 400 + 1 from rfl, plGo, if_pos (show oOff s 0 < s.length by show (0 : Int) < s.length; omega), if_neg (by omega), if_pos (by omega), e2]
      rfl
theorem cuts_sat (k t l n m il id c : Int) (x : List UInt8) (hk : -9223372036854775808 ≤ k ∧ k ≤ 9223372036854775807) (hc : -9223372036854775808 ≤ c ∧ c ≤ 9223372036854775807) (ht : -9223372036854775808 ≤ t ∧ t ≤ 9223372036854775807) (hn : -9223372036854775808 ≤ n ∧ n ≤ 9223372036854775807)
    (hm : -9223372036854775808 ≤ m ∧ m ≤ 9223372036854775807) (hl : 0 ≤ l ∧ l ≤ 18446744073709551615) (ha : 0 ≤ il ∧ il ≤ 18446744073709551615) (hb : 0 ≤ id ∧ id ≤ 18446744073709551615) :
    (vcFun EP 20 6 [.agg [.int .i64 k, .int .i64 t, .int .u64 l, .str x, .int .i64 n, .int .i64 m, .int .u64 il, .int .u64 id], .int .i64 c] .nil 0 (isBool true)).sat := by
  refine (cuts_vc k t l n m il id c x).mpr ?_
  obtain ⟨hN, hC, hL⟩ := right_ofN (k := k) (x := x) ht hn hm hl ha hb
  generalize opRight ⟨k, t, l, x, n, m, il, id⟩ = o at *
  have b1 := opBytes_ok hN hC
  have hp := enc_pos (o := o)
  obtain ⟨K, hK, hKl⟩ : ∃ K : Nat, modI c ((enc o).length : Int) = (K : Int) ∧ K < (enc o).length := by
    have h1 := Int.emod_nonneg c (by omega : ((enc o).length : Int) ≠ 0)
    have h2 := Int.emod_lt_of_pos c (by omega : (0 : Int) < (enc o).length)
    refine ⟨(c % ((enc o).length : Int)).toNat, ?_, by omega⟩
    unfold modI
    rw [if_neg (by omega)]
    omega
  obtain ⟨f, f0, f1, p1, p2, p3⟩ := short_says hN hC hL hKl
  have e0 : Int.toNat 0 = 0 := rfl
  simp only [b1, hK, e0, Int.toNat_natCast, List.drop_zero, Nat.sub_zero]
  have hlen : ((enc o).take K).length ≤ 9223372036854775807 := by rw [List.length_take]; omega
  refine NB_intro (decide_eq_true hk) (NB_intro (need_ofN hN) (VB_intro (fun h => ?_) (fun _ => ?_)))
  · exfalso
    simp at h
    rw [h] at hp
    simp at hp
  · refine NB_intro (decide_eq_true ⟨hc.1, hc.2, by omega⟩) (NB_intro (decide_eq_true (by omega)) (NB_intro (decide_eq_true hlen) (NB_intro (decide_eq_true (by omega)) (NB_intro (decide_eq_true hlen) ?_))))
    by_cases h0 : K = 0
    · rw [p1, p3 h0]
      subst h0
      have : f = 0 := by omega
      subst this
      simp [Opr.zero]
    · rw [p1, p2 (by omega)]
      have hKn : 0 < K := by omega
      simp [Opr.zero, f0, f1, hKn]
end Go.Proofs.Ytniihecdmcphgaa
