/- ENGINE, part F7: drawn regions. -/
import Derived.Test.YtjkkkldkimdajaaDoorPwF6
namespace Pw
set_option linter.unusedSimpArgs false
open Go

/-- An operation that has been walked, and not yet been carried out. -/
structure Pn where
  pos : Nat
  ix : Nat
  o : Oper
  asg : List Nat
  tm : Nat → AV
  gd : Option GD
  out : AV

def isDst (D : List Pn) (t : Nat) : Prop := ∃ p ∈ D, p.o.dst = some t
open Classical in
noncomputable def maskF (D : List Pn) (tm : Nat → AV) : Nat → AV := fun t => if isDst D t then .undef else tm t

theorem maskF_rel {ρ M v} {D : List Pn} {tm : Nat → AV} {t : Nat} (h : ¬ isDst D t → Rel ρ M v (tm t)) : Rel ρ M v (maskF D tm t) := by
  unfold maskF
  split
  · exact .undef v
  · exact h ‹_›
theorem maskF_get {D : List Pn} {tm : Nat → AV} {t : Nat} (h : ¬ isDst D t) : maskF D tm t = tm t := by
  unfold maskF; rw [if_neg h]

structure Drawn (E : Env) (ops : Array Oper) (pr : List (List Nat)) (lo : Bool) (U : Base) (w0 : World) (n : Nat) (l : List Nat) (D : List Pn) (c : Nat) (asg : List Nat) (lg : List Foot) (s : St) (ρ : Rho) (M : Mem) (a : Act) (w : World) (L : Nat → Prop) : Prop where
  rel : SRel U w0 n ρ M (maskF D s.tmf) s.hpf s.nx a w
  slots : ∀ t ∈ asg, ¬ isDst D t → SlotOK ρ M (a.tmps.getD t Go.undef) (s.tmf t)
  ri : RI ops asg s.tmf
  pend : ∀ p ∈ D, ops[p.ix]? = some p.o ∧ evOp p.o.op = false ∧ QOK E.P E.gl ops p.asg p.tm s.hpf s.nx E.cl p.gd p.o p.out ∧ RI ops p.asg p.tm ∧ gdIs ops p.asg p.tm p.o p.gd
  pos : ∀ p ∈ D, p.pos < c
  uniq : ∀ p ∈ D, ∀ q ∈ D, p.pos = q.pos ∨ p.ix = q.ix ∨ (∃ t, p.o.dst = some t ∧ q.o.dst = some t) → p = q
  pair : ∀ p ∈ D, ∀ q ∈ D, p.pos < q.pos → pairB ops pr p.ix q.ix = true ∧ ∀ t ∈ q.o.looksAt ops, p.o.dst = some t → q.tm t = p.out
  looks : ∀ p ∈ D, ∀ t ∈ p.o.looksAt ops, (∀ q ∈ D, q.pos < p.pos → q.o.dst ≠ some t) →
    Rel ρ M (a.tmps.getD t Go.undef) (p.tm t) ∧ (t ∈ p.asg → SlotOK ρ M (a.tmps.getD t Go.undef) (p.tm t))
  vals : ∀ p ∈ D, ∀ t, p.o.dst = some t → s.tmf t = p.out ∧ t ∈ asg ∧ t < n
  ahead : ∀ p ∈ D, ∀ i ∈ l, pairB ops pr p.ix i = true
  ord : l.Pairwise (fun i j => pairL ops pr lo i j = true) ∧ l.Nodup ∧ ∀ i ∈ l, i < ops.size
  listed : ∀ i, i < ops.size → (L i ↔ ¬ (i ∈ l ∨ ∃ p ∈ D, p.ix = i))
  ixs : ∀ p ∈ D, p.ix ∉ l
  closed : Closed ops L
  log : ∀ p ∈ D, ∃ d ∈ lg, d.ix = p.ix ∧ d.rd = rdIds p.o.op (stripO p.asg (gsOf p.gd) (evOf E.gl p.tm))

section
variable {E : Env} {ops : Array Oper} {pr : List (List Nat)} {lo : Bool} {U : Base} {w0 : World} {n : Nat} {l : List Nat} {D : List Pn} {c : Nat} {asg : List Nat} {lg : List Foot} {s : St} {ρ ρ' : Rho} {M M' : Mem} {a : Act} {w w' : World} {L : Nat → Prop}

theorem pairB_inv {i j : Nat} {oi oj : Oper} (h : pairB ops pr i j = true) (hi : ops[i]? = some oi) (hj : ops[j]? = some oj) :
    j ∉ pr.getD i [] ∧ (i ∈ pr.getD j [] ∨ (evOp oi.op = false ∧ oi.apart ops oj = true)) := by
  simp only [pairB, hi, hj, Bool.and_eq_true, Bool.or_eq_true, Bool.not_eq_true', List.contains_eq_mem, decide_eq_true_eq, decide_eq_false_iff_not] at h
  exact h

/-- A quiet operation is walked. -/
theorem Drawn.absorb {i : Nat} {rest : List Nat} {o : Oper} {gd : Option GD} {out : AV} (h : Drawn E ops pr lo U w0 n (i :: rest) D c asg lg s ρ M a w L) (ho : ops[i]? = some o) (hev : evOp o.op = false)
    (hd : dstOK n asg o.dst = true) (hgd : gdIs ops asg s.tmf o gd) (hq : QOK E.P E.gl ops asg s.tmf s.hpf s.nx E.cl gd o out) (hsh : OutShape gd out) :
    Drawn E ops pr lo U w0 n rest (⟨c, i, o, asg, s.tmf, gd, out⟩ :: D) (c + 1) (o.dst.toList ++ asg) (⟨i, rdIds o.op (stripO asg (gsOf gd) (evOf E.gl s.tmf))⟩ :: lg) (s.put1 o.dst out) ρ M a w L := by
  have hdst : ∀ t, o.dst = some t → t < n ∧ t ∉ asg := by
    intro t ht
    rw [ht] at hd
    simp only [dstOK, Bool.and_eq_true, decide_eq_true_eq, Bool.not_eq_true'] at hd
    exact ⟨hd.1, by simpa using hd.2⟩
  have hni : ∀ p ∈ D, p.ix ≠ i := fun p hp e => h.ixs p hp (by rw [e]; exact List.mem_cons_self ..)
  have hisd : ∀ t, isDst D t → t ∈ asg := fun t ⟨p, hp, ht⟩ => (h.vals p hp t ht).2.1
  refine ⟨?_, ?_, ?_, ?_, ?_, ?_, ?_, ?_, ?_, ?_, ?_, ?_, ?_, h.closed, ?_⟩
  · rw [put1_hpf, put1_nx, put1_tmf]
    refine ⟨h.rel.size, fun t => maskF_rel fun hnd => ?_, h.rel.hok, h.rel.dead, h.rel.free, h.rel.keep, h.rel.memN, h.rel.memE, h.rel.own, h.rel.defers⟩
    have h1 : ¬ isDst D t := fun ⟨p, hp, ht⟩ => hnd ⟨p, List.mem_cons_of_mem _ hp, ht⟩
    have h2 : o.dst ≠ some t := fun e => hnd ⟨_, List.mem_cons_self .., e⟩
    have := h.rel.tm t
    rw [maskF_get h1] at this
    simpa [putF, h2] using this
  · intro t ht hnd
    have h1 : ¬ isDst D t := fun ⟨p, hp, ht⟩ => hnd ⟨p, List.mem_cons_of_mem _ hp, ht⟩
    have h2 : o.dst ≠ some t := fun e => hnd ⟨_, List.mem_cons_self .., e⟩
    rw [put1_tmf]
    have ht' : t ∈ asg := by
      rcases List.mem_append.1 ht with ht | ht
      · exact absurd (by simpa using ht) h2
      · exact ht
    simpa [putF, h2] using h.slots t ht' h1
  · rw [put1_tmf]; exact RI.put h.ri hgd hsh hd
  · intro p hp
    rw [put1_hpf, put1_nx]
    rcases List.mem_cons.1 hp with rfl | hp
    · exact ⟨ho, hev, hq, h.ri, hgd⟩
    · exact h.pend p hp
  · intro p hp
    rcases List.mem_cons.1 hp with rfl | hp
    · exact Nat.lt_succ_self c
    · have := h.pos p hp; omega
  · intro p hp q hq' hpq
    rcases List.mem_cons.1 hp with rfl | hp' <;> rcases List.mem_cons.1 hq' with rfl | hq''
    · rfl
    · rcases hpq with e | e | ⟨t, e1, e2⟩
      · have := h.pos q hq''; simp only at e; omega
      · exact absurd e.symm (hni q hq'')
      · exact absurd (h.vals q hq'' t e2).2.1 (hdst t e1).2
    · rcases hpq with e | e | ⟨t, e1, e2⟩
      · have := h.pos p hp'; simp only at e; omega
      · exact absurd e (hni p hp')
      · exact absurd (h.vals p hp' t e1).2.1 (hdst t e2).2
    · exact h.uniq p hp' q hq'' hpq
  · intro p hp q hq' hlt
    rcases List.mem_cons.1 hp with rfl | hp' <;> rcases List.mem_cons.1 hq' with rfl | hq''
    · simp only at hlt; omega
    · have := h.pos q hq''; simp only at hlt; omega
    · exact ⟨h.ahead p hp' i (List.mem_cons_self ..), fun t _ ht => (h.vals p hp' t ht).1⟩
    · exact h.pair p hp' q hq'' hlt
  · intro p hp t ht hno
    rcases List.mem_cons.1 hp with rfl | hp'
    · have h1 : ¬ isDst D t := fun ⟨q, hq', hqt⟩ => hno q (List.mem_cons_of_mem _ hq') (h.pos q hq') hqt
      have := h.rel.tm t
      rw [maskF_get h1] at this
      exact ⟨this, fun hta => h.slots t hta h1⟩
    · exact h.looks p hp' t ht (fun q hq' hlt => hno q (List.mem_cons_of_mem _ hq') hlt)
  · intro p hp t ht
    rw [put1_tmf]
    rcases List.mem_cons.1 hp with rfl | hp'
    · simp only at ht
      exact ⟨by simp [putF, ht], by simp [ht], (hdst t ht).1⟩
    · obtain ⟨k1, k2, k3⟩ := h.vals p hp' t ht
      have : o.dst ≠ some t := fun e => (hdst t e).2 k2
      exact ⟨by simpa [putF, this] using k1, List.mem_append_right _ k2, k3⟩
  · intro p hp j hj
    rcases List.mem_cons.1 hp with rfl | hp'
    · exact pairL_quiet ho hev ((List.pairwise_cons.1 h.ord.1).1 j hj)
    · exact h.ahead p hp' j (List.mem_cons_of_mem _ hj)
  · exact ⟨(List.pairwise_cons.1 h.ord.1).2, (List.nodup_cons.1 h.ord.2.1).2, fun j hj => h.ord.2.2 j (List.mem_cons_of_mem _ hj)⟩
  · intro j hj
    rw [h.listed j hj]
    refine not_congr ⟨fun hx => ?_, fun hx => ?_⟩
    · rcases hx with hx | ⟨p, hp, e⟩
      · rcases List.mem_cons.1 hx with rfl | hx
        · exact .inr ⟨_, List.mem_cons_self .., rfl⟩
        · exact .inl hx
      · exact .inr ⟨p, List.mem_cons_of_mem _ hp, e⟩
    · rcases hx with hx | ⟨p, hp, e⟩
      · exact .inl (List.mem_cons_of_mem _ hx)
      · rcases List.mem_cons.1 hp with rfl | hp
        · simp only at e; subst e; exact .inl (List.mem_cons_self ..)
        · exact .inr ⟨p, hp, e⟩
  · intro p hp
    rcases List.mem_cons.1 hp with rfl | hp'
    · exact (List.nodup_cons.1 h.ord.2.1).1
    · exact fun hx => h.ixs p hp' (List.mem_cons_of_mem _ hx)
  · intro p hp
    rcases List.mem_cons.1 hp with rfl | hp'
    · exact ⟨_, List.mem_cons_self .., rfl, rfl⟩
    · obtain ⟨d, hd', e⟩ := h.log p hp'
      exact ⟨d, List.mem_cons_of_mem _ hd', e⟩

/-- What comes up next waits for nobody. -/
def ReadyAt (ops : Array Oper) (L : Nat → Prop) (i : Nat) : Prop := ∃ o, ops[i]? = some o ∧ ∀ j ∈ afterOf o, L j

theorem ready_pr (ha : aftL ops.toList 0 = true) (hL : Closed ops L) {i : Nat} (hi : ReadyAt ops L i) : ∀ j ∈ (predsOf ops.toList []).getD i [], L j := by
  obtain ⟨o, ho, hall⟩ := hi
  exact pr_closed ha hL (i + 1) i o (Nat.lt_succ_self i) ho hall

def without (D : List Pn) (p : Pn) : List Pn := D.filter fun q => q.pos != p.pos
theorem mem_without {D : List Pn} {p q : Pn} : q ∈ without D p ↔ q ∈ D ∧ q.pos ≠ p.pos := by simp [without]
theorem without_lt {D : List Pn} {p : Pn} (hp : p ∈ D) : (without D p).length < D.length := by
  unfold without
  rcases Nat.lt_or_ge (D.filter fun q => q.pos != p.pos).length D.length with h | h
  · exact h
  · have := List.length_filter_le (fun q => q.pos != p.pos) D
    have he := List.length_filter_eq_length_iff.1 (Nat.le_antisymm this h) p hp
    simp at he

theorem closed_put {i : Nat} {o : Oper} (hL : Closed ops L) (ho : ops[i]? = some o) (hall : ∀ j ∈ afterOf o, L j) : Closed ops (fun k => L k ∨ k = i) := by
  intro k ok hk hok j hj
  rcases hk with hk | rfl
  · exact .inl (hL k ok hk hok j hj)
  · rw [ho] at hok; cases hok
    exact .inl (hall j hj)

/-- A pending operation is carried out. -/
theorem Drawn.exec {p : Pn} {u : Value} (h : Drawn E ops (predsOf ops.toList []) lo U w0 n l D c asg lg s ρ M a w L) (ha : aftL ops.toList 0 = true) (hp : p ∈ D) (hr : ReadyAt ops L p.ix)
    (hx : RExt ρ ρ') (hM : MExt M M') (hS : SRel U w0 n ρ' M' (maskF D s.tmf) s.hpf s.nx a w') (hout : SlotOK ρ' M' u p.out) :
    Drawn E ops (predsOf ops.toList []) lo U w0 n l (without D p) c asg lg s ρ' M' (a.put p.o.dst u) w' (fun k => L k ∨ k = p.ix) := by
  have hpr := ready_pr ha h.closed hr
  have hlt : ∀ q ∈ D, q.ix < ops.size := fun q hq => (Array.getElem?_eq_some_iff.1 (h.pend q hq).1).1
  have hun : ∀ q ∈ D, ¬ L q.ix := fun q hq hl => (h.listed q.ix (hlt q hq)).1 hl (.inr ⟨q, hq, rfl⟩)
  have hget : ∀ t, (a.put p.o.dst u).tmps.getD t Go.undef = if p.o.dst = some t then u else a.tmps.getD t Go.undef := by
    intro t
    rw [put_getD, hS.size]
    by_cases e : p.o.dst = some t
    · simp [e, (h.vals p hp t e).2.2]
    · simp [e]
  have hidst : ∀ t, ¬ isDst (without D p) t → p.o.dst ≠ some t → ¬ isDst D t := by
    rintro t hn hne ⟨q, hq, hqt⟩
    refine hn ⟨q, mem_without.2 ⟨hq, fun e => ?_⟩, hqt⟩
    have := h.uniq q hq p hp (.inl e)
    subst this
    exact hne hqt
  refine ⟨?_, ?_, h.ri, ?_, ?_, ?_, ?_, ?_, ?_, ?_, h.ord, ?_, ?_, ?_, ?_⟩
  · refine hS.put fun t => ⟨fun ht => maskF_rel fun hn => ?_, fun ht => maskF_rel fun hn => ?_⟩
    · rw [(h.vals p hp t ht.1).1]; exact hout.rel
    · have hne : p.o.dst ≠ some t := fun e => ht ⟨e, (h.vals p hp t e).2.2⟩
      have := hS.tm t
      rwa [maskF_get (hidst t hn hne)] at this
  · intro t ht hn
    rw [hget t]
    split
    · rename_i e
      rw [(h.vals p hp t e).1]; exact hout
    · rename_i e
      exact (h.slots t ht (hidst t hn e)).mono hx hM
  · intro q hq; exact h.pend q (mem_without.1 hq).1
  · intro q hq; exact h.pos q (mem_without.1 hq).1
  · intro q hq r hr' e; exact h.uniq q (mem_without.1 hq).1 r (mem_without.1 hr').1 e
  · intro q hq r hr' e; exact h.pair q (mem_without.1 hq).1 r (mem_without.1 hr').1 e
  · intro q hq t ht hno
    obtain ⟨hq, hqp⟩ := mem_without.1 hq
    rw [hget t]
    split
    · rename_i e
      -- p writes what q looks at: p stands before q
      rcases Nat.lt_or_ge p.pos q.pos with hlt' | hge
      · rw [(h.pair p hp q hq hlt').2 t ht e]
        exact ⟨hout.rel, fun _ => hout⟩
      · have hlt' : q.pos < p.pos := by omega
        obtain ⟨k1, k2⟩ := pairB_inv (h.pair q hq p hp hlt').1 (h.pend q hq).1 (h.pend p hp).1
        rcases k2 with k2 | ⟨_, k2⟩
        · exact absurd (hpr _ k2) (hun q hq)
        · exact absurd ht ((Oper.apart_spec k2).2.2 t e)
    · rename_i e
      have := h.looks q hq t ht (fun r hr' hlt' => by
        by_cases hrp : r.pos = p.pos
        · have := h.uniq r hr' p hp (.inl hrp)
          subst this
          exact e
        · exact hno r (mem_without.2 ⟨hr', hrp⟩) hlt')
      exact ⟨this.1.mono hx hM, fun hta => (this.2 hta).mono hx hM⟩
  · intro q hq; exact h.vals q (mem_without.1 hq).1
  · intro q hq; exact h.ahead q (mem_without.1 hq).1
  · intro i hi
    rw [h.listed i hi]
    constructor
    · rintro (h1 | rfl) (h2 | ⟨q, hq, e⟩)
      · exact h1 (.inl h2)
      · exact h1 (.inr ⟨q, (mem_without.1 hq).1, e⟩)
      · exact h.ixs p hp h2
      · exact (mem_without.1 hq).2 (congrArg Pn.pos (h.uniq q (mem_without.1 hq).1 p hp (.inr (.inl e))))
    · intro h1
      by_cases e : i = p.ix
      · exact .inr e
      · refine .inl fun h2 => h1 ?_
        rcases h2 with h2 | ⟨q, hq, e2⟩
        · exact .inl h2
        · refine .inr ⟨q, mem_without.2 ⟨hq, fun e3 => ?_⟩, e2⟩
          have := h.uniq q hq p hp (.inl e3)
          subst this
          exact e e2.symm
  · intro q hq; exact h.ixs q (mem_without.1 hq).1
  · obtain ⟨o, ho, hall⟩ := hr
    exact closed_put h.closed ho hall
  · intro q hq; exact h.log q (mem_without.1 hq).1
end
end Pw
