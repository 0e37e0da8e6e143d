/- ENGINE, part F9: regions. -/
import Derived.Test.YtjkkkldkimdajaaDoorPwF8
namespace Pw
set_option linter.unusedSimpArgs false
open Go

theorem bothL_sat : ∀ (l : List VT) (t : VT), (bothL l t).sat ↔ ((∀ x ∈ l, x.sat) ∧ t.sat)
  | [], t => by simp [bothL]
  | x :: l, t => by
    simp only [bothL, VT.sat, bothL_sat l t, List.mem_cons, forall_eq_or_imp, and_assoc]

/-- **A REGION IN WHATEVER ORDER.** -/
theorem drawn_any {E : Env} {call : CallH} {ops : Array Oper} (hc : CallS E.P E.gl call) (hctr : CtrOK E) {U : Base} {w0 : World} {n : Nat} (hG : GlobOK U.M0 E.gl) (ha : aftL ops.toList 0 = true) {Q : Exit → Act → World → Prop} {K : St → VT} {lo : Bool} :
    ∀ (N fv : Nat) (l : List Nat) (D : List Pn) (c : Nat) (asg : List Nat) (lg : List Foot) (s : St) (ρ : Rho) (M : Mem) (a : Act) (w : World) (listed : Array Bool), 2 * l.length + D.length ≤ N → l.length ≤ fv → listed.size = ops.size →
      (vcOps E n call ops true (predsOf ops.toList []) lo fv l asg lg s K).sat → Drawn E ops (predsOf ops.toList []) lo U w0 n l D c asg lg s ρ M a w (listedP listed) →
      (∀ s' ρ' M' a' w', Grow ρ ρ' s.hpf s'.hpf s.nx s'.nx → MExt M M' → SRel U w0 n ρ' M' s'.tmf s'.hpf s'.nx a' w' → (K s').sat → Q .normal a' w') →
      ∀ fuel, l.length + D.length ≤ fuel → wpAny E.P .any ops Q fuel listed a w := by
  intro N
  induction N with
  | zero =>
    intro fv l D c asg lg s ρ M a w listed hN hfv hsz hs h hK fuel hf
    have hl : l = [] := List.eq_nil_of_length_eq_zero (by omega)
    have hD : D = [] := List.eq_nil_of_length_eq_zero (by omega)
    subst hl; subst hD
    have hs : (K s).sat := by cases fv <;> exact hs
    have hrel := h.rel
    have hm : maskF [] s.tmf = s.tmf := by funext t; exact maskF_get (fun ⟨p, hp, _⟩ => by cases hp)
    rw [hm] at hrel
    have hq := hK s ρ M a w (Grow.refl _ _ _) (MExt.refl M) hrel hs
    have hrd : Region.ready .any ops listed = [] := by
      refine List.eq_nil_iff_forall_not_mem.2 fun i hi => ?_
      obtain ⟨h1, h2, _⟩ := (ready_iff hsz).1 hi
      refine h2 ((h.listed i h1).2 ?_)
      rintro (h3 | ⟨p, hp, _⟩)
      · cases h3
      · cases hp
    cases fuel with
    | zero => exact ⟨hrd, hq⟩
    | succ fuel => exact ⟨fun _ => hq, by rw [hrd]; simp⟩
  | succ N ih =>
    intro fv l D c asg lg s ρ M a w listed hN hfv hsz hs h hK fuel hf
    -- one that is pending is carried out
    have pend : ∀ (l : List Nat) (fuel : Nat), l.length ≤ fv → 2 * l.length + D.length ≤ N + 1 → l.length + D.length ≤ fuel + 1 → (vcOps E n call ops true (predsOf ops.toList []) lo fv l asg lg s K).sat →
        Drawn E ops (predsOf ops.toList []) lo U w0 n l D c asg lg s ρ M a w (listedP listed) → ∀ p ∈ D, p.ix ∈ Region.ready .any ops listed →
        wpOp E.P ops Q p.ix (wpAny E.P .any ops Q fuel (listed.setIfInBounds p.ix true)) a w := by
      intro l fuel hfv hN' hf' hs h p hp hr
      obtain ⟨h1, h2, h3⟩ := (ready_iff hsz).1 hr
      obtain ⟨k1, k2, k3, k4, k5⟩ := h.pend p hp
      have hpr := ready_pr ha h.closed h3
      have hlt : ∀ q ∈ D, q.ix < ops.size := fun q hq => (Array.getElem?_eq_some_iff.1 (h.pend q hq).1).1
      have hun : ∀ q ∈ D, ¬ listedP listed q.ix := fun q hq hl => (h.listed q.ix (hlt q hq)).1 hl (.inr ⟨q, hq, rfl⟩)
      have hL : Looks ops p.asg p.tm ρ M a p.o := by
        intro t ht
        refine h.looks p hp t ht fun q hq hlt' e => ?_
        obtain ⟨_, m2⟩ := pairB_inv (h.pair q hq p hp hlt').1 (h.pend q hq).1 k1
        rcases m2 with m2 | ⟨_, m2⟩
        · exact hun q hq (hpr _ m2)
        · exact (Oper.apart_spec m2).1 t e ht
      have next : ∀ (u : Value) (w' : World) (ρ' : Rho) (M' : Mem), RX ρ ρ' s.hpf s.nx → MExt M M' → SlotOK ρ' M' u p.out → SRel U w0 n ρ' M' (maskF D s.tmf) s.hpf s.nx a w' →
          wpAny E.P .any ops Q fuel (listed.setIfInBounds p.ix true) (a.put p.o.dst u) w' := by
        intro u w' ρ' M' m1 m2 m3 m4
        have hd := (h.exec ha hp h3 m1.ext m2 m4 m3).setL (listedP_set (by rw [hsz]; exact h1))
        have hlen := without_lt hp
        exact ih fv l (without D p) c asg lg s ρ' M' _ w' _ (by omega) hfv (by simp [hsz]) hs hd
          (fun s' ρ'' M'' a' w'' g1 g2 g3 g4 => hK s' ρ'' M'' a' w'' ((⟨m1, Nat.le_refl _, fun _ _ hd => hd⟩ : Grow ρ ρ' s.hpf s.hpf s.nx s.nx).trans g1) (m2.trans g2) g3 g4) fuel (by omega)
      unfold wpOp
      simp only [k1]
      cases hm : metG p.gd with
      | true =>
        rw [wanted_off k5 hL hm, if_pos rfl]
        obtain ⟨u, w1, ρ1, M1, hr, q1, q2, q3, q4⟩ := quiet_exec (P := E.P) h.rel hG k3 k4 k5 hL hm
        refine .inl ?_
        have hn := next u w1 ρ1 M1 q1 q2 q3 q4
        unfold Oper.wp
        rcases hr with hr | ⟨hr, hu⟩
        · rw [hr, Oper.upon_value]; exact hn
        · rw [hr, Oper.upon_skip]; subst hu; exact hn
      | false =>
        rw [wanted_off k5 hL hm, if_neg (by simp)]
        obtain ⟨d, x, hd1, hd2⟩ := k3.2 hm
        refine next Go.undef w ρ M (RX.refl _ _ _) (MExt.refl M) ?_ h.rel
        rw [hd2]
        refine ⟨fun hh => ?_, fun _ => rfl⟩
        rw [hd1] at hm; simp only [metG] at hm; rw [hm] at hh; cases hh
    cases l with
    | nil =>
      by_cases hD : D = []
      · exact ih fv [] D c asg lg s ρ M a w listed (by subst hD; simp) hfv hsz hs h hK fuel hf
      · cases fuel with
        | zero => exact absurd (List.eq_nil_of_length_eq_zero (by omega)) hD
        | succ fuel =>
          refine ⟨fun h0 => absurd h0 (h.progress hsz ha (.inr hD)), fun i hi => ?_⟩
          obtain ⟨h1, h2, h3⟩ := (ready_iff hsz).1 hi
          have : [] = ([] : List Nat) := rfl
          have hx := mt (h.listed i h1).2 h2
          simp only [List.not_mem_nil, false_or, Classical.not_not] at hx
          obtain ⟨p, hp, rfl⟩ := hx
          exact pend [] fuel hfv hN hf hs h p hp hi
    | cons i rest =>
      cases fv with
      | zero => simp at hfv
      | succ fv =>
      have hi := h.ord.2.2 i (List.mem_cons_self ..)
      have hs0 := hs
      simp only [vcOps] at hs
      rw [bothL_sat] at hs
      obtain ⟨halt, hs⟩ := hs
      have ho : ops[i]? = some ops[i] := Array.getElem?_eq_getElem hi
      have hlen : rest.length ≤ fv := by simpa using hfv
      cases hev : evAt ops i with
      | false =>
        generalize hoo : ops[i] = o at ho
        simp only [evAt, ho] at hev
        simp only [vcOne, ho] at hs
        cases hd : dstOK n asg o.dst with
        | false => simp only [hd] at hs; exact hs.elim
        | true =>
          simp only [hd] at hs
          cases hgd : gdOf ops asg s.tmf o with
          | none => simp only [hgd] at hs; exact hs.elim
          | some gd =>
            simp only [hgd, hev] at hs
            have hgi := gdOf_is hgd
            obtain ⟨out, m1, m2, m3⟩ := vcQuiet_inv hs
            have habs := h.absorb ho hev hd hgi m1 m2
            refine ih fv rest _ (c + 1) _ _ (s.put1 o.dst out) ρ M a w listed (by simp only [List.length_cons] at hN ⊢; omega) hlen hsz m3 habs ?_ fuel (by simp only [List.length_cons] at hf ⊢; omega)
            intro s' ρ' M' a' w' k1 k2 k3 k4
            rw [put1_hpf, put1_nx] at k1
            exact hK s' ρ' M' a' w' k1 k2 k3 k4
      | true =>
        cases fuel with
        | zero => simp only [List.length_cons] at hf; omega
        | succ fuel =>
          refine ⟨fun h0 => absurd h0 (h.progress hsz ha (.inl (by simp))), fun j hj => ?_⟩
          obtain ⟨h1, h2, h3⟩ := (ready_iff hsz).1 hj
          have hpr := ready_pr ha h.closed h3
          have hx := mt (h.listed j h1).2 h2
          simp only [Classical.not_not] at hx
          rcases hx with hx | ⟨p, hp, rfl⟩
          · -- the event that comes up: at the head, or one that waits for nobody
            have hsj : evAt ops j = true ∧ (vcOne E n call ops true (predsOf ops.toList []) (fun asg lg s => vcOps E n call ops true (predsOf ops.toList []) lo fv ((i :: rest).erase j) asg lg s K) j asg lg s).sat := by
              rcases List.mem_cons.1 hx with rfl | hx'
              · refine ⟨hev, ?_⟩
                rw [List.erase_cons_head]
                exact hs
              · have hj' := h.ord.2.2 j hx
                have hp := (List.pairwise_cons.1 h.ord.1).1 j hx'
                simp only [pairL, Bool.or_eq_true, Bool.and_eq_true] at hp
                rcases hp with hp | ⟨⟨⟨hlo, _⟩, hej⟩, _⟩
                · exfalso
                  obtain ⟨_, m2⟩ := pairB_inv hp ho (Array.getElem?_eq_getElem hj')
                  rcases m2 with m2 | ⟨m2, _⟩
                  · exact (h.listed i hi).1 (hpr _ m2) (.inl (List.mem_cons_self ..))
                  · simp only [evAt, ho] at hev
                    rw [hev] at m2; cases m2
                · refine ⟨hej, ?_⟩
                  subst hlo
                  simp only at halt
                  refine halt _ (List.mem_map.2 ⟨j, ?_, rfl⟩)
                  simp only [altsOf, hev]
                  refine List.mem_filter.2 ⟨hx', ?_⟩
                  simp only [hej, Bool.true_and, List.all_eq_true, Bool.not_eq_true', List.contains_eq_mem, decide_eq_false_iff_not]
                  intro k hk hkl
                  exact (h.listed k (h.ord.2.2 k hkl)).1 (hpr k hk) (.inl hkl)
            obtain ⟨hevj, hsj⟩ := hsj
            have hoj : ops[j]? = some ops[j] := Array.getElem?_eq_getElem h1
            generalize hoo : ops[j] = o at hoj
            simp only [evAt, hoj] at hevj
            simp only [vcOne, hoj] at hsj
            cases hd : dstOK n asg o.dst with
            | false => simp only [hd] at hsj; exact hsj.elim
            | true =>
              simp only [hd] at hsj
              cases hgd : gdOf ops asg s.tmf o with
              | none => simp only [hgd] at hsj; exact hsj.elim
              | some gd =>
                simp only [hgd, hevj] at hsj
                have hgi := gdOf_is hgd
                have hlt : ∀ q ∈ D, q.ix < ops.size := fun q hq => (Array.getElem?_eq_some_iff.1 (h.pend q hq).1).1
                have hun : ∀ q ∈ D, ¬ listedP listed q.ix := fun q hq hl => (h.listed q.ix (hlt q hq)).1 hl (.inr ⟨q, hq, rfl⟩)
                have hL : Looks ops asg s.tmf ρ M a o := by
                  intro t ht
                  have hn : ¬ isDst D t := by
                    rintro ⟨q, hq, e⟩
                    obtain ⟨_, m2⟩ := pairB_inv (h.ahead q hq j hx) (h.pend q hq).1 hoj
                    rcases m2 with m2 | ⟨_, m2⟩
                    · exact hun q hq (hpr _ m2)
                    · exact (Oper.apart_spec m2).1 t e ht
                  have := h.rel.tm t
                  rw [maskF_get hn] at this
                  exact ⟨this, fun hta => h.slots t hta hn⟩
                have hle : ((i :: rest).erase j).length = rest.length := by rw [List.length_erase_of_mem hx]; rfl
                have next : ∀ (s1 : St) (ρ1 : Rho) (M1 : Mem) (u : Value) (w1 : World) (out : AV), s1.tm = s.tm → Grow ρ ρ1 s.hpf s1.hpf s.nx s1.nx → MExt M M1 → SRel U w0 n ρ1 M1 (maskF D s.tmf) s1.hpf s1.nx a w1 → OutShape gd out →
                    SlotOK ρ1 M1 u out → (∀ b ∈ restR (predsOf ops.toList []) lg j, s1.hpf b = s.hpf b) → (vcOps E n call ops true (predsOf ops.toList []) lo fv ((i :: rest).erase j) (o.dst.toList ++ asg) lg (s1.put1 o.dst out) K).sat →
                    wpAny E.P .any ops Q fuel (listed.setIfInBounds j true) (a.put o.dst u) w1 := by
                  intro s1 ρ1 M1 u w1 out ht hg hM hS hsh hout hkeep hk
                  have hdr := (h.event hx ha hoj h3 hd hgi hsh hg.rx.ext hM ht hS hout (fun p hp b hb => ?_)).setL (listedP_set (by rw [hsz]; exact h1))
                  · refine ih fv _ D c _ lg _ ρ1 M1 _ w1 _ (by rw [hle]; simp only [List.length_cons] at hN; omega) (by rw [hle]; exact hlen) (by simp [hsz]) hk hdr ?_ fuel (by rw [hle]; simp only [List.length_cons] at hf; omega)
                    intro s' ρ' M' a' w' k1 k2 k3 k4
                    rw [put1_hpf, put1_nx] at k1
                    exact hK s' ρ' M' a' w' (hg.trans k1) (hM.trans k2) k3 k4
                  · obtain ⟨d, hd1, hd2, hd3⟩ := h.log p hp
                    refine hkeep b (List.mem_flatMap.2 ⟨d, List.mem_filter.2 ⟨hd1, ?_⟩, by rw [hd3]; exact hb⟩)
                    rw [hd2]
                    simp only [List.contains_eq_mem, Bool.not_eq_true', decide_eq_false_iff_not]
                    exact fun hin => hun p hp (hpr _ hin)
                obtain ⟨k1, k2⟩ := vcEvent_sound (U := U) (w0 := w0) (n := n) hc hctr hsj h.rel hG h.ri hgi hL
                unfold wpOp
                simp only [hoj]
                cases hm : metG gd with
                | true =>
                  rw [wanted_off hgi hL hm, if_pos rfl]
                  refine .inl (k1 hm _ Q fun u w1 ⟨inf, out, s1, ρ1, M1, m1, m2, m3, m4, m5, m6, m7, m8⟩ => ?_)
                  simp only at m8
                  split at m8
                  · rename_i hevb
                    exact next s1 ρ1 M1 u w1 out m1 m4 m5 m6 m2 m3 (m7 hevb) m8
                  · exact m8.elim
                | false =>
                  rw [wanted_off hgi hL hm, if_neg (by simp)]
                  obtain ⟨out, m1, m2, m3⟩ := k2 hm
                  simp only [evB] at m3
                  exact next s ρ M Go.undef w out rfl (Grow.refl _ _ _) (MExt.refl M) h.rel m1 (m2 ρ M) (fun _ _ => rfl) m3
          · exact pend (i :: rest) fuel hfv hN hf hs0 h p hp hj

/-- **A REGION.** -/
theorem vcRegion_sound {E : Env} {call : CallH} {ops : Array Oper} {id : Nat} {dr : Bool} (hm : E.P.follows .mixedOrders = true) (hc : CallS E.P E.gl call) (hctr : CtrOK E) {U : Base} {w0 : World} {n : Nat} (hG : GlobOK U.M0 E.gl) {Q : Exit → Act → World → Prop} {K : St → VT}
    {s : St} {ρ : Rho} {M : Mem} {a : Act} {w : World} (hs : (vcRegion E n call ops dr K s).sat) (h : SRel U w0 n ρ M s.tmf s.hpf s.nx a w)
    (hK : ∀ s' ρ' M' a' w', Grow ρ ρ' s.hpf s'.hpf s.nx s'.nx → MExt M M' → SRel U w0 n ρ' M' s'.tmf s'.hpf s'.nx a' w' → (K s').sat → Q .normal a' w') : (Code.region id ops dr).wp E.P Q a w := by
  cases dr with
  | false =>
    simp only [vcRegion] at hs
    exact wp_region (vcOps_straight hc hctr hG _ _ [] [] s ρ M a w (by simp) hs h (fun t ht => by cases ht) (fun t ht => by cases ht) hK)
  | true =>
    simp only [vcRegion] at hs
    split at hs
    · rename_i hb
      simp only [Bool.and_eq_true, decide_eq_true_eq] at hb
      obtain ⟨⟨h2, h3⟩, h4⟩ := hb
      have fin : ∀ lo, orderB ops (predsOf ops.toList []) lo (canon ops) = true → (vcOps E n call ops true (predsOf ops.toList []) lo ops.size (canon ops) [] [] s K).sat → (Code.region id ops true).wp E.P Q a w := by
        intro lo h1 hs
        obtain ⟨k1, k2, k3⟩ := orderB_pw _ h1
        refine wp_region_any hm ?_
        have hrel : SRel U w0 n ρ M s.tmf s.hpf s.nx a { w with drawn := w.drawn + 1 } :=
          ⟨h.size, h.tm, ⟨h.hok.mem, h.hok.row, h.hok.inj, h.hok.gen⟩, h.dead, h.free, ⟨h.keep.os, h.keep.tape, h.keep.output, h.keep.size, h.keep.block⟩, h.memN, h.memE, h.own, h.defers⟩
        have hall : ∀ i, i < ops.size → i ∈ canon ops := by
          intro i hi
          rw [List.all_eq_true] at h4
          simpa using h4 i (List.mem_range.2 hi)
        refine drawn_any hc hctr hG h3 (2 * (canon ops).length) ops.size (canon ops) [] 0 [] [] s ρ M a _ _ (by simp) (by simp [h2]) (by simp) hs ?_ hK ops.size (by simp [h2])
        have hm0 : maskF [] s.tmf = s.tmf := by funext t; exact maskF_get (fun ⟨p, hp, _⟩ => by cases hp)
        refine ⟨by rw [hm0]; exact hrel, fun t ht => (by cases ht), fun t ht => (by cases ht), fun p hp => (by cases hp), fun p hp => (by cases hp), fun p hp => (by cases hp), fun p hp => (by cases hp), fun p hp => (by cases hp), fun p hp => (by cases hp),
          fun p hp => (by cases hp), ⟨k1, k2, k3⟩, fun i hi => ⟨fun hl => ?_, fun hl => ?_⟩, fun p hp => (by cases hp), fun i o hl _ => ?_, fun p hp => (by cases hp)⟩
        · unfold listedP at hl; simp [hi] at hl
        · exact absurd (.inl (hall i hi)) hl
        · exfalso
          unfold listedP at hl
          rcases Nat.lt_or_ge i ops.size with hi | hi <;> simp [hi] at hl
      split at hs
      · exact fin false ‹_› hs
      · split at hs
        · exact fin true ‹_› hs
        · exact hs.elim
    · exact hs.elim
end Pw
