/- WIRE 25: the law of the whole answers true. -/
import Derived.Test.YtfgedkmopgkonaaW24
namespace Go.Proofs.Ytfgedkmopgkonaa
open Pw Go
set_option maxRecDepth 100000
set_option linter.unusedSimpArgs false

theorem rdBytes_props (r : Rd) (k : Int) (hr : rdOK r = true) : rdOK (rdBytes r k).1 = true ∧ (rdBytes r k).1.s = r.s ∧ r.at_ ≤ (rdBytes r k).1.at_ ∧ (rdBytes r k).1.at_ ≤ r.s.length ∧ 0 ≤ r.at_ ∧
    List.take r.at_.toNat r.s ++ (rdBytes r k).2 = List.take (rdBytes r k).1.at_.toNat r.s ∧ (r.err ≠ 0 → rdBytes r k = (r, [])) ∧ (rdBytes r k).2.length ≤ r.s.length := by
  have hu : rdUse r = r := if_pos hr
  have h0 := hr
  simp only [rdOK, Bool.and_eq_true, decide_eq_true_eq] at h0
  obtain ⟨⟨h1, h2⟩, h3⟩ := h0
  have fail : ∀ e : Int, 1 ≤ e → e ≤ 23 → rdOK (rdFail r e r.at_) = true ∧ (rdFail r e r.at_).s = r.s ∧ (rdFail r e r.at_).at_ = r.at_ ∧ (r.err ≠ 0 → rdFail r e r.at_ = r) := by
    intro e he he'
    unfold rdFail
    split
    · rename_i h
      refine ⟨?_, rfl, rfl, fun h' => absurd h h'⟩
      have : e ≠ 0 := by omega
      simp [rdOK, h1, h2, this, he, he']
    · exact ⟨hr, rfl, rfl, fun _ => rfl⟩
  unfold rdBytes
  rw [hu]
  split
  · obtain ⟨a1, a2, a3, a4⟩ := fail 2 (by decide) (by decide)
    refine ⟨a1, a2, by simp [a3], by simp [a3, h2], h1, by simp [a3], fun h => by simp [a4 h], by simp⟩
  · rename_i hk
    unfold rdTake
    split
    · rename_i he
      exact ⟨hr, rfl, Int.le_refl _, h2, h1, by simp, fun _ => rfl, by simp⟩
    · rename_i he
      split
      · obtain ⟨a1, a2, a3, a4⟩ := fail 5 (by decide) (by decide)
        refine ⟨a1, a2, by simp [a3], by simp [a3, h2], h1, by simp [a3], fun h => by simp [a4 h], by simp⟩
      · rename_i hl
        have he' : r.err = 0 := Classical.not_not.1 he
        refine ⟨?_, rfl, by simp; omega, by simp; omega, h1, ?_, fun h => absurd he' h, by simp only [List.length_take, List.length_drop]; omega⟩
        · simp only [he', if_true, decide_eq_true_eq] at h3
          simp [rdOK, he', h3]
          omega
        · simp only
          rw [show (r.at_ + k).toNat = r.at_.toNat + k.toNat by omega, List.take_add]

theorem whole_sat (s : List UInt8) (n : Nat) (h : Nat → Int) :
    (vcFun (mkE Try.prog (tblOf tbl6) (fun f bl => if f = 8 ∧ bl = 0 then some (invWh s n h) else none)) 20 8 [.str s, .rof n (fun i => .int .i64 (h i)) false] .nil 0 (isBool true)).sat := by
  refine (whole_vc s n h).mpr (VB_intro (fun _ => rfl) fun hs => ?_)
  have hlen : s.length ≤ 200 := by have := of_decide_eq_false hs; omega
  refine ⟨⟨(⟨s, 0, 0, 0⟩, 0), ?_⟩, fun i hi => VB_intro (fun hc => ?_) (fun hc => ?_)⟩
  · simp [rdOK, EqI]
  · obtain ⟨hr, his, hin, hi30⟩ := hi
    simp only [Bool.and_eq_true, decide_eq_true_eq] at hc
    have hb := rdBytes_props i.1 (h i.2) hr
    simp only [Int.toNat_natCast, and_self]
    rw [his] at hb ⊢
    obtain ⟨q, hq⟩ : ∃ q, q = rdBytes i.1 (h i.2) := ⟨_, rfl⟩
    simp only [← hq] at hb ⊢
    clear hq
    obtain ⟨b1, b2, b3, b4, b5, b6, b7, b8⟩ := hb
    refine NB_intro (by simp; omega) (NB_intro (by simp; omega) (VB_intro (fun hv => ?_) (fun _ => ?_)))
    · exfalso
      simp only [Bool.or_eq_true, Bool.and_eq_true, Bool.not_eq_true', beq_eq_false_iff_ne, bne_iff_ne, decide_eq_true_eq, b2, ne_eq, not_true_eq_false, false_or] at hv
      rcases hv with (hv | hv) | ⟨hv, hv'⟩
      · omega
      · omega
      · have := b7 hv
        rw [this] at hv'
        simp [his] at hv'
    · refine NB_intro ?_ ⟨(q.1, i.2 + 1), ?_⟩
      · simp only [decide_eq_true_eq, List.length_take]
        omega
      · have w : IntKind.i64.wrap ((i.2 : Int) + 1) = ((i.2 + 1 : Nat) : Int) := by rw [wrap_i64]; omega
        refine ⟨⟨b1, b2, by simp only; omega, by simp only; omega⟩, ?_, ?_⟩
        · show 30 - (i.2 + 1) < 30 - i.2
          omega
        · simp [b6, w]
  · obtain ⟨hr, his, hin, hi30⟩ := hi
    have hb := rdBytes_props i.1 0 hr
    rw [his] at hb
    have h1 : 0 ≤ i.1.at_ ∧ i.1.at_ ≤ s.length := by
      simp only [rdOK, Bool.and_eq_true, decide_eq_true_eq, his] at hr
      exact hr.1
    have u1 : wrUse ⟨[], s.length, 0⟩ = ⟨[], s.length, 0⟩ := by
      have : wrOK ⟨[], s.length, 0⟩ = true := by simp [wrOK]; omega
      simp [wrUse, this]
    have u2 : wrAdd ⟨[], s.length, 0⟩ (s ++ [120]) = ⟨[], s.length, 4⟩ := by
      unfold wrAdd
      rw [if_neg (by simp), if_pos (by simp only [List.length_nil, List.length_append, List.length_cons]; omega)]
    have u3 : wrUse ⟨[], s.length, 4⟩ = ⟨[], s.length, 4⟩ := by
      have : wrOK ⟨[], s.length, 4⟩ = true := by simp [wrOK]; omega
      simp [wrUse, this]
    have p1 : wrPut ⟨[], s.length, 4⟩ 1 0 = ⟨[], s.length, 4⟩ := by
      unfold wrPut wrStop wrAdd
      rw [u3]
      simp
    have p2 : wrPut ⟨[], s.length, 4⟩ 3 0 = ⟨[], s.length, 4⟩ := by
      unfold wrPut wrStop wrAdd
      rw [u3]
      simp
    have p3 : wrPutSized ⟨[], s.length, 4⟩ [] = ⟨[], s.length, 4⟩ := by
      unfold wrPutSized wrStop wrAdd
      rw [u3]
      simp
    have e1 : List.take i.1.at_.toNat s ++ List.take ((s.length : Int).toNat - i.1.at_.toNat) (List.drop i.1.at_.toNat s) = s := by
      rw [List.take_of_length_le (l := List.drop _ _) (by simp), List.take_append_drop]
    simp only [u1, u2, u3, p1, p2, p3, e1]
    refine NB_intro (by simp; omega) (NB_intro (by simp only [decide_eq_true_eq, List.length_take, List.length_drop]; omega) ?_)
    simp [VB, NB, impB, isW]
end Go.Proofs.Ytfgedkmopgkonaa
