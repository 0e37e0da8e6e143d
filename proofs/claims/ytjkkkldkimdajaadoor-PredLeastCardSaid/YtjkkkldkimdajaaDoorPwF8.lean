/- ENGINE, part F8: drawn regions, every order. -/
import Derived.Test.YtjkkkldkimdajaaDoorPwF7
namespace Pw
set_option linter.unusedSimpArgs false
open Go

section
variable {E : Env} {ops : Array Oper} {lo : Bool} {U : Base} {w0 : World} {n : Nat} {l : List Nat} {D : List Pn} {c : Nat} {asg : List Nat} {lg : List Foot} {s : St} {ρ ρ' : Rho} {M M' : Mem} {a : Act} {w w' : World} {L : Nat → Prop}

/-- An event is carried out. -/
theorem Drawn.event {i : Nat} {o : Oper} {gd : Option GD} {out : AV} {u : Value} {s1 : St} (h : Drawn E ops (predsOf ops.toList []) lo U w0 n l D c asg lg s ρ M a w L) (hil : i ∈ l) (ha : aftL ops.toList 0 = true)
    (ho : ops[i]? = some o) (hr : ReadyAt ops L i) (hd : dstOK n asg o.dst = true) (hgd : gdIs ops asg s.tmf o gd) (hsh : OutShape gd out)
    (hx : RExt ρ ρ') (hM : MExt M M') (ht : s1.tm = s.tm) (hS : SRel U w0 n ρ' M' (maskF D s.tmf) s1.hpf s1.nx a w') (hout : SlotOK ρ' M' u out)
    (hkeep : ∀ p ∈ D, ∀ b ∈ rdIds p.o.op (stripO p.asg (gsOf p.gd) (evOf E.gl p.tm)), s1.hpf b = s.hpf b) :
    Drawn E ops (predsOf ops.toList []) lo U w0 n (l.erase i) D c (o.dst.toList ++ asg) lg (s1.put1 o.dst out) ρ' M' (a.put o.dst u) w' (fun k => L k ∨ k = i) := by
  have htf : s1.tmf = s.tmf := by funext t; simp [St.tmf, ht]
  have hpr := ready_pr ha h.closed hr
  have hlt : ∀ q ∈ D, q.ix < ops.size := fun q hq => (Array.getElem?_eq_some_iff.1 (h.pend q hq).1).1
  have hun : ∀ q ∈ D, ¬ L q.ix := fun q hq hl => (h.listed q.ix (hlt q hq)).1 hl (.inr ⟨q, hq, rfl⟩)
  have hdst : ∀ t, o.dst = some t → t < n ∧ t ∉ asg := by
    intro t ht
    rw [ht] at hd
    simp only [dstOK, Bool.and_eq_true, decide_eq_true_eq, Bool.not_eq_true'] at hd
    exact ⟨hd.1, by simpa using hd.2⟩
  have hni : ∀ p ∈ D, p.ix ≠ i := fun p hp e => h.ixs p hp (by rw [e]; exact hil)
  have hnd : ∀ t, o.dst = some t → ¬ isDst D t := fun t ht ⟨p, hp, hpt⟩ => (hdst t ht).2 (h.vals p hp t hpt).2.1
  have hget : ∀ t, (a.put o.dst u).tmps.getD t Go.undef = if o.dst = some t then u else a.tmps.getD t Go.undef := by
    intro t
    rw [put_getD, hS.size]
    by_cases e : o.dst = some t
    · simp [e, (hdst t e).1]
    · simp [e]
  have hap : ∀ p ∈ D, p.o.apart ops o = true := by
    intro p hp
    obtain ⟨_, k2⟩ := pairB_inv (h.ahead p hp i hil) (h.pend p hp).1 ho
    rcases k2 with k2 | ⟨_, k2⟩
    · exact absurd (hpr _ k2) (hun p hp)
    · exact k2
  refine ⟨?_, ?_, ?_, ?_, h.pos, h.uniq, h.pair, ?_, ?_, ?_, ?_, ?_, ?_, ?_, h.log⟩
  · rw [put1_hpf, put1_nx, put1_tmf, htf]
    refine hS.put fun t => ⟨fun hte => maskF_rel fun _ => ?_, fun hte => maskF_rel fun hn => ?_⟩
    · simp only [putF, hte.1, if_true]; exact hout.rel
    · have hne : o.dst ≠ some t := fun e => hte ⟨e, (hdst t e).1⟩
      have := hS.tm t
      rw [maskF_get hn] at this
      simpa [putF, hne] using this
  · intro t hta hn
    rw [hget t, put1_tmf, htf]
    by_cases e : o.dst = some t
    · simp only [e, if_true, putF]; exact hout
    · simp only [putF, if_neg e]
      have hta' : t ∈ asg := by
        rcases List.mem_append.1 hta with hta | hta
        · exact absurd (by simpa using hta) e
        · exact hta
      exact (h.slots t hta' hn).mono hx hM
  · rw [put1_tmf, htf]; exact RI.put h.ri hgd hsh hd
  · intro p hp
    rw [put1_hpf, put1_nx]
    obtain ⟨k1, k2, k3, k4, k5⟩ := h.pend p hp
    refine ⟨k1, k2, ⟨fun hm => ?_, k3.2⟩, k4, k5⟩
    obtain ⟨v, ob, m1, m2, m3⟩ := k3.1 hm
    exact ⟨v, ob, by rw [opSR_congr k2 (hkeep p hp)]; exact m1, m2, m3⟩
  · intro p hp t htl hno
    rw [hget t]
    have hne : o.dst ≠ some t := fun e => (Oper.apart_spec (hap p hp)).2.2 t e htl
    rw [if_neg hne]
    obtain ⟨k1, k2⟩ := h.looks p hp t htl hno
    exact ⟨k1.mono hx hM, fun hta => (k2 hta).mono hx hM⟩
  · intro p hp t hpt
    obtain ⟨k1, k2, k3⟩ := h.vals p hp t hpt
    have : o.dst ≠ some t := fun e => (hdst t e).2 k2
    rw [put1_tmf, htf]
    exact ⟨by simpa [putF, this] using k1, List.mem_append_right _ k2, k3⟩
  · intro p hp j hj; exact h.ahead p hp j (List.mem_of_mem_erase hj)
  · exact ⟨h.ord.1.sublist List.erase_sublist, h.ord.2.1.sublist List.erase_sublist, fun j hj => h.ord.2.2 j (List.mem_of_mem_erase hj)⟩
  · intro j hj
    rw [h.listed j hj]
    constructor
    · rintro (h1 | rfl) (h2 | ⟨p, hp, e⟩)
      · exact h1 (.inl (List.mem_of_mem_erase h2))
      · exact h1 (.inr ⟨p, hp, e⟩)
      · exact (h.ord.2.1.not_mem_erase) h2
      · exact hni p hp e
    · intro h1
      by_cases e : j = i
      · exact .inr e
      · refine .inl fun h2 => h1 ?_
        rcases h2 with h2 | ⟨p, hp, e2⟩
        · exact .inl ((List.mem_erase_of_ne e).2 h2)
        · exact .inr ⟨p, hp, e2⟩
  · intro p hp hx'; exact h.ixs p hp (List.mem_of_mem_erase hx')
  · obtain ⟨o', ho', hall⟩ := hr
    exact closed_put h.closed ho' hall

theorem Drawn.setL {L' : Nat → Prop} (h : Drawn E ops (predsOf ops.toList []) lo U w0 n l D c asg lg s ρ M a w L) (e : ∀ i, L i ↔ L' i) : Drawn E ops (predsOf ops.toList []) lo U w0 n l D c asg lg s ρ M a w L' := by
  have : L = L' := funext fun i => propext (e i)
  subst this; exact h

def listedP (listed : Array Bool) : Nat → Prop := fun i => listed.getD i false = true

theorem listedP_set {listed : Array Bool} {i : Nat} (hi : i < listed.size) : ∀ k, (listedP listed k ∨ k = i) ↔ listedP (listed.setIfInBounds i true) k := by
  intro k
  unfold listedP
  by_cases e : i = k
  · subst e; simp [hi]
  · have : (listed.setIfInBounds i true).getD k false = listed.getD k false := getD_set_ne false e
    rw [this]
    constructor
    · rintro (h | h)
      · exact h
      · exact absurd h.symm e
    · exact .inl

theorem ready_iff {listed : Array Bool} (hsz : listed.size = ops.size) {i : Nat} : i ∈ Region.ready .any ops listed ↔ i < ops.size ∧ ¬ listedP listed i ∧ ReadyAt ops (listedP listed) i := by
  rw [mem_ready]
  constructor
  · rintro ⟨h0, o, ho, hall⟩
    have hi := (Array.getElem?_eq_some_iff.1 ho).1
    refine ⟨hi, ?_, o, ho, fun j hj => ?_⟩
    · unfold listedP
      have hi' : i < listed.size := by rw [hsz]; exact hi
      simp [hi'] at h0 ⊢
      exact h0
    · obtain ⟨e, he, hb, rfl⟩ := mem_afterOf.1 hj
      exact hall e he hb
  · rintro ⟨hi, h0, o, ho, hall⟩
    refine ⟨?_, o, ho, fun e he hb => hall _ (mem_afterOf.2 ⟨e, he, hb, rfl⟩)⟩
    have hi' : i < listed.size := by rw [hsz]; exact hi
    unfold listedP at h0
    simp [hi'] at h0 ⊢
    exact h0

/-- Somebody may come up. -/
theorem Drawn.progress {listed : Array Bool} (hsz : listed.size = ops.size) (h : Drawn E ops (predsOf ops.toList []) lo U w0 n l D c asg lg s ρ M a w (listedP listed)) (ha : aftL ops.toList 0 = true) (hne : l ≠ [] ∨ D ≠ []) :
    Region.ready .any ops listed ≠ [] := by
  intro hnil
  have contra : ∀ i o, ops[i]? = some o → ¬ listedP listed i → (∀ j ∈ afterOf o, listedP listed j) → False := by
    intro i o ho hu hall
    have : i ∈ Region.ready .any ops listed := (ready_iff hsz).2 ⟨(Array.getElem?_eq_some_iff.1 ho).1, hu, o, ho, hall⟩
    rw [hnil] at this; cases this
  have inpr : ∀ i o, ops[i]? = some o → ∀ j ∈ afterOf o, j ∈ (predsOf ops.toList []).getD i [] ∧ j < i := by
    intro i o ho j hj
    refine ⟨?_, by simpa using aftL_at ops.toList 0 i o ha (by simpa using ho) j hj⟩
    rw [pr_at ha ho, mem_uniq]
    exact List.mem_flatMap.2 ⟨j, hj, List.mem_cons_self ..⟩
  by_cases hD : D = []
  · subst hD
    cases l with
    | nil => simp at hne
    | cons e rest =>
      have he := h.ord.2.2 e (List.mem_cons_self ..)
      refine contra e ops[e] (Array.getElem?_eq_getElem he) (fun hl => (h.listed e he).1 hl (.inl (List.mem_cons_self ..))) (fun j hj => ?_)
      obtain ⟨k1, k2⟩ := inpr e _ (Array.getElem?_eq_getElem he) j hj
      rw [h.listed j (by omega)]
      rintro (h1 | ⟨p, hp, _⟩)
      · rcases List.mem_cons.1 h1 with rfl | h1
        · omega
        · have hj' := h.ord.2.2 j (List.mem_cons_of_mem _ h1)
          have hp := (List.pairwise_cons.1 h.ord.1).1 j h1
          exact pairL_not hp k1
      · cases hp
  · -- the one that was walked first
    have hmin : ∃ p ∈ D, ∀ q ∈ D, p.pos ≤ q.pos := by
      have : ∀ (D : List Pn), D ≠ [] → ∃ p ∈ D, ∀ q ∈ D, p.pos ≤ q.pos := by
        intro D
        induction D with
        | nil => intro h; exact absurd rfl h
        | cons x r ih =>
          intro _
          by_cases hr : r = []
          · subst hr
            exact ⟨x, List.mem_cons_self .., fun q hq => by rcases List.mem_cons.1 hq with rfl | hq; exact Nat.le_refl _; cases hq⟩
          · obtain ⟨p, hp, hall⟩ := ih hr
            rcases Nat.le_total x.pos p.pos with hle | hle
            · exact ⟨x, List.mem_cons_self .., fun q hq => by
                rcases List.mem_cons.1 hq with rfl | hq
                · exact Nat.le_refl _
                · exact Nat.le_trans hle (hall q hq)⟩
            · exact ⟨p, List.mem_cons_of_mem _ hp, fun q hq => by
                rcases List.mem_cons.1 hq with rfl | hq
                · exact hle
                · exact hall q hq⟩
      exact this D hD
    obtain ⟨p, hp, hall⟩ := hmin
    have hpo := (h.pend p hp).1
    have hps := (Array.getElem?_eq_some_iff.1 hpo).1
    refine contra p.ix p.o hpo (fun hl => (h.listed p.ix hps).1 hl (.inr ⟨p, hp, rfl⟩)) (fun j hj => ?_)
    obtain ⟨k1, k2⟩ := inpr p.ix _ hpo j hj
    rw [h.listed j (by omega)]
    rintro (h1 | ⟨q, hq, rfl⟩)
    · have hj' := h.ord.2.2 j h1
      exact (pairB_inv (h.ahead p hp j h1) hpo (Array.getElem?_eq_getElem hj')).1 k1
    · have hne' : p.pos ≠ q.pos := fun e => by
        have := h.uniq p hp q hq (.inl e)
        subst this
        omega
      have hlt : p.pos < q.pos := by have := hall q hq; omega
      exact (pairB_inv (h.pair p hp q hq hlt).1 hpo (h.pend q hq).1).1 k1
end
end Pw
