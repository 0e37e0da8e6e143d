/- ENGINE, part F5: straight regions. -/
import Derived.Test.YtjkkkldkimdajaaDoorPwF4
namespace Pw
set_option linter.unusedSimpArgs false
open Go

theorem wanted_off {ops asg tm ρ M} {a : Act} {o : Oper} {gd : Option GD} (hg : gdIs ops asg tm o gd) (hL : Looks ops asg tm ρ M a o) {b : Bool} (hm : metG gd = b) : Region.wanted o (yielded ops a.tmps) = b := by
  rw [gd_wanted hg hL, hm]

section
variable {U : Base} {w0 : World} {n : Nat} {ρ ρ' : Rho} {M M' : Mem} {tm : Nat → AV} {hp hp' : Nat → Blk} {nx nx' : Nat} {a : Act} {w w' : World} {asg : List Nat} {dst : Option Tmp} {u : Value} {out : AV}

theorem put_step (h : SRel U w0 n ρ' M' tm hp' nx' a w') (hsl : ∀ t ∈ asg, SlotOK ρ' M' (a.tmps.getD t Go.undef) (tm t)) (hout : SlotOK ρ' M' u out) (hd : dstOK n asg dst = true) :
    SRel U w0 n ρ' M' (putF tm dst out) hp' nx' (a.put dst u) w' ∧ ∀ t ∈ dst.toList ++ asg, SlotOK ρ' M' ((a.put dst u).tmps.getD t Go.undef) (putF tm dst out t) := by
  cases dst with
  | none =>
    have e : putF tm none out = tm := by funext t; simp [putF]
    rw [e]
    exact ⟨h, hsl⟩
  | some d =>
    simp only [dstOK, Bool.and_eq_true, decide_eq_true_eq, Bool.not_eq_true'] at hd
    have h0 : d ∉ asg := by simpa using hd.2
    refine ⟨h.put (fun t => ⟨fun ht => ?_, fun ht => ?_⟩), fun t ht => ?_⟩
    · obtain ⟨ht1, ht2⟩ := ht
      cases ht1
      simp only [putF, if_true]
      exact hout.rel
    · have hne : d ≠ t := fun e => ht ⟨by rw [e], e ▸ hd.1⟩
      simp only [putF, Option.some.injEq, if_neg hne]
      exact h.tm t
    · rw [put_getD, h.size]
      by_cases e : d = t
      · subst e
        simp only [putF, true_and, if_pos hd.1, if_true]
        exact hout
      · simp only [putF, Option.some.injEq, e, false_and, if_false]
        simp only [Option.toList, List.singleton_append, List.mem_cons] at ht
        exact hsl t (ht.resolve_left (Ne.symm e))

theorem looks_of (h : SRel U w0 n ρ M tm hp nx a w) (hsl : ∀ t ∈ asg, SlotOK ρ M (a.tmps.getD t Go.undef) (tm t)) (ops : Array Oper) (o : Oper) : Looks ops asg tm ρ M a o :=
  fun t _ => ⟨h.tm t, hsl t⟩
end

/-- **A REGION IN ITS OWN ORDER.** -/
theorem vcOps_straight {E : Env} {call : CallH} {ops : Array Oper} (hc : CallS E.P E.gl call) (hctr : CtrOK E) {U : Base} {w0 : World} {n : Nat} (hG : GlobOK U.M0 E.gl) {Q : Exit → Act → World → Prop} {K : St → VT} :
    ∀ (is : List Nat) (f : Nat) (asg : List Nat) (lg : List Foot) (s : St) (ρ : Rho) (M : Mem) (a : Act) (w : World), is.length ≤ f → (vcOps E n call ops false [] false f is asg lg s K).sat → SRel U w0 n ρ M s.tmf s.hpf s.nx a w → RI ops asg s.tmf →
      (∀ t ∈ asg, SlotOK ρ M (a.tmps.getD t Go.undef) (s.tmf t)) →
      (∀ s' ρ' M' a' w', Grow ρ ρ' s.hpf s'.hpf s.nx s'.nx → MExt M M' → SRel U w0 n ρ' M' s'.tmf s'.hpf s'.nx a' w' → (K s').sat → Q .normal a' w') → wpOps E.P ops Q is a w
  | [], f, asg, lg, s, ρ, M, a, w, _, hs, h, hRI, hsl, hK => by
    have hs : (K s).sat := by cases f <;> exact hs
    exact hK s ρ M a w (Grow.refl ρ s.hpf s.nx) (MExt.refl M) h hs
  | i :: rest, 0, asg, lg, s, ρ, M, a, w, hf, _, _, _, _, _ => by simp at hf
  | i :: rest, f + 1, asg, lg, s, ρ, M, a, w, hf, hs, h, hRI, hsl, hK => by
    have hf' : rest.length ≤ f := by simpa using hf
    simp only [vcOps, bothL, vcOne] at hs
    simp only [wpOps]
    cases ho : ops[i]? with
    | none => simp only [ho] at hs; exact hs.elim
    | some o =>
      simp only [ho] at hs ⊢
      cases hd : dstOK n asg o.dst with
      | false => simp only [hd] at hs; exact hs.elim
      | true =>
        simp only [hd] at hs
        cases hgd : gdOf ops asg s.tmf o with
        | none => simp only [hgd] at hs; exact hs.elim
        | some gd =>
          simp only [hgd] at hs
          have hgi := gdOf_is hgd
          have hL := looks_of h hsl ops o
          -- what follows
          have next : ∀ (s1 : St) (ρ1 : Rho) (M1 : Mem) (u : Value) (w1 : World) (out : AV) (lg' : List Foot), s1.tm = s.tm → Grow ρ ρ1 s.hpf s1.hpf s.nx s1.nx → MExt M M1 → SRel U w0 n ρ1 M1 s.tmf s1.hpf s1.nx a w1 → OutShape gd out → SlotOK ρ1 M1 u out →
              (vcOps E n call ops false [] false f rest (o.dst.toList ++ asg) lg' (s1.put1 o.dst out) K).sat → wpOps E.P ops Q rest (a.put o.dst u) w1 := by
            intro s1 ρ1 M1 u w1 out lg' ht hg hM hS hsh hout hk
            have htf : s1.tmf = s.tmf := by funext t; simp [St.tmf, ht]
            obtain ⟨h1, h2⟩ := put_step (asg := asg) hS (fun t ht => (hsl t ht).mono hg.rx.ext hM) hout hd
            refine vcOps_straight (w0 := w0) hc hctr hG rest f _ lg' _ ρ1 M1 _ w1 hf' hk ?_ ?_ ?_ ?_
            · rw [put1_tmf, put1_hpf, put1_nx, htf]; exact h1
            · rw [put1_tmf, htf]; exact RI.put hRI hgi hsh hd
            · rw [put1_tmf, htf]; exact h2
            · intro s' ρ' M' a' w' k1 k2 k3 k4
              rw [put1_hpf, put1_nx] at k1
              exact hK s' ρ' M' a' w' (hg.trans k1) (hM.trans k2) k3 k4
          cases hev : evOp o.op with
          | true =>
            simp only [hev] at hs
            obtain ⟨k1, k2⟩ := vcEvent_sound (U := U) (w0 := w0) (n := n) hc hctr hs h hG hRI hgi hL
            cases hm : metG gd with
            | true =>
              rw [wanted_off hgi hL hm, if_pos rfl]
              refine .inl (k1 hm _ Q fun u w1 ⟨inf, out, s1, ρ1, M1, m1, m2, m3, m4, m5, m6, m7, m8⟩ => ?_)
              simp only at m8
              split at m8
              · exact next s1 ρ1 M1 u w1 out _ m1 m4 m5 m6 m2 m3 m8
              · exact m8.elim
            | false =>
              rw [wanted_off hgi hL hm, if_neg (by simp)]
              obtain ⟨out, m1, m2, m3⟩ := k2 hm
              simp only [evB] at m3
              exact next s ρ M Go.undef w out _ rfl (Grow.refl _ _ _) (MExt.refl M) h m1 (m2 ρ M) m3
          | false =>
            simp only [hev] at hs
            obtain ⟨out, m1, m2, m3⟩ := vcQuiet_inv hs
            cases hm : metG gd with
            | true =>
              rw [wanted_off hgi hL hm, if_pos rfl]
              obtain ⟨u, w1, ρ1, M1, hr, q1, q2, q3, q4⟩ := quiet_exec (P := E.P) h hG m1 hRI hgi hL hm
              refine .inl ?_
              have hn := next s ρ1 M1 u w1 out _ rfl ⟨q1, Nat.le_refl _, fun _ _ hd => hd⟩ q2 q4 m2 q3 m3
              unfold Oper.wp
              rcases hr with hr | ⟨hr, hu⟩
              · rw [hr, Oper.upon_value]; exact hn
              · rw [hr, Oper.upon_skip]; subst hu; exact hn
            | false =>
              rw [wanted_off hgi hL hm, if_neg (by simp)]
              obtain ⟨d, x, hd1, hd2⟩ := m1.2 hm
              refine next s ρ M Go.undef w out _ rfl (Grow.refl _ _ _) (MExt.refl M) h m2 ?_ m3
              rw [hd2]
              refine ⟨fun hh => ?_, fun _ => rfl⟩
              rw [hd1] at hm; simp only [metG] at hm; rw [hm] at hh; cases hh
end Pw
