/- ENGINE, part F2: guards, slots, and what an operation does that changes nothing. -/
import Derived.Test.YtjkkkldkimdajaaDoorPwF1
import Derived.Orders
namespace Pw
set_option linter.unusedSimpArgs false
open Go

/-- A slot of the region at hand. -/
def SlotOK (ρ : Rho) (M : Mem) (v : Value) : AV → Prop
  | .opt m _ _ x => (m = true → Rel ρ M v x) ∧ (m = false → v = Go.undef)
  | x => Rel ρ M v x

theorem SlotOK.mono {ρ ρ' M M' v x} (h : SlotOK ρ M v x) (hρ : RExt ρ ρ') (hM : MExt M M') : SlotOK ρ' M' v x := by
  cases x <;> first | exact Rel.mono hρ hM h | exact ⟨fun hm => (h.1 hm).mono hρ hM, h.2⟩
theorem SlotOK.norm (cl : Bool) {ρ M v x} (h : SlotOK ρ M v x) : SlotOK ρ M v (x.norm cl) := by
  cases x with
  | opt m j w x => exact ⟨fun hm => (h.1 hm).norm cl, h.2⟩
  | rof n f ex =>
    have := Rel.norm cl (show Rel ρ M v (.rof n f ex) from h)
    cases cl <;> exact this
  | _ => exact Rel.norm cl h
theorem SlotOK.rel {ρ M v x} (h : SlotOK ρ M v x) : Rel ρ M v x := by
  cases x <;> first | exact h | exact .pure (.opt ..)
theorem slot_of_rel {ρ M v x} (h : Rel ρ M v x) (hx : ∀ m j w y, x ≠ .opt m j w y) : SlotOK ρ M v x := by
  cases x <;> first | exact h | exact absurd rfl (hx _ _ _ _)

section
variable {ops : Array Oper} {asg : List Nat} {tm : Nat → AV}

theorem guards_mono : ∀ (n : Nat) (q : Nat × Bool) (r), guards ops asg tm n q = some r → ∀ k, n ≤ k → guards ops asg tm k q = some r
  | 0, _, _, h, _, _ => by simp [guards] at h
  | n + 1, (j, want), r, h, k, hk => by
    obtain ⟨k, rfl⟩ : ∃ k', k = k' + 1 := ⟨k - 1, by omega⟩
    simp only [guards] at h ⊢
    split at h
    · rename_i t ht
      split at h
      · rename_i hc
        rw [if_pos hc]
        split at h
        · exact h
        · rename_i m j' w' c hx
          obtain ⟨p, hp, hr⟩ := Option.bind_eq_some_iff.1 h
          exact Option.bind_eq_some_iff.2 ⟨p, guards_mono n _ _ hp k (by omega), hr⟩
        · cases h
      · cases h
    · cases h

/-- Optional slots know their guard. -/
def RI (ops : Array Oper) (asg : List Nat) (tm : Nat → AV) : Prop :=
  ∀ t ∈ asg, ∀ m j w x, tm t = .opt m j w x → ∃ l, guards ops asg tm 20 (j, w) = some (l, m)

theorem guards_put {t0 : Nat} {v : AV} (h0 : t0 ∉ asg) : ∀ (n : Nat) (q : Nat × Bool) (r), guards ops asg tm n q = some r →
    guards ops (t0 :: asg) (fun t => if t = t0 then v else tm t) n q = some r
  | 0, _, _, h => by simp [guards] at h
  | n + 1, (j, want), r, h => by
    simp only [guards] at h ⊢
    split at h
    · rename_i t ht
      split at h
      · rename_i hc
        have hc' : t ∈ asg := by simpa using hc
        have hne : t ≠ t0 := fun e => h0 (e ▸ hc')
        have : (t0 :: asg).contains t = true := by simp [hc']
        simp only [ht, this, if_true, if_neg hne]
        split at h
        · rename_i c hx
          exact h
        · rename_i m j' w' c hx
          obtain ⟨p, hp, hr⟩ := Option.bind_eq_some_iff.1 h
          exact Option.bind_eq_some_iff.2 ⟨p, guards_put h0 n _ _ hp, hr⟩
        · cases h
      · cases h
    · cases h

/-- The guards of the chain are all met. -/
theorem guards_chain (hRI : RI ops asg tm) : ∀ (n : Nat) (q : Nat × Bool) (l), n ≤ 20 → guards ops asg tm n q = some (l, true) →
    ∀ q' ∈ l, ∃ l', guards ops asg tm 20 q' = some (l', true)
  | 0, _, _, _, h => by simp [guards] at h
  | n + 1, (j, want), l, hn, h => by
    have hwhole := guards_mono (n + 1) (j, want) _ h 20 hn
    simp only [guards] at h
    split at h
    · rename_i t ht
      split at h
      · rename_i hc
        have hc' : t ∈ asg := by simpa using hc
        split at h
        · rename_i c hx
          simp only [Option.some.injEq, Prod.mk.injEq] at h
          intro q' hq'
          rw [← h.1] at hq'
          simp only [List.mem_singleton] at hq'
          subst hq'
          exact ⟨l, hwhole⟩
        · rename_i m j' w' c hx
          simp only [Option.bind_eq_some_iff, Option.some.injEq, Prod.mk.injEq] at h
          obtain ⟨⟨l2, m2⟩, hp, hl, hm⟩ := h
          have hm1 : m = true := by
            cases m
            · simp at hm
            · rfl
          obtain ⟨l3, hl3⟩ := hRI t hc' m j' w' _ hx
          have h20 := guards_mono n _ _ hp 20 (by omega)
          rw [hl3] at h20
          simp only [Option.some.injEq, Prod.mk.injEq] at h20
          have hm2 : m2 = true := by rw [← h20.2, hm1]
          subst hm2
          intro q' hq'
          rw [← hl] at hq'
          rcases List.mem_cons.1 hq' with e | hq'
          · subst e; exact ⟨l, hwhole⟩
          · exact guards_chain hRI n (j', w') l2 (by omega) hp q' hq'
        · cases h
      · cases h
    · cases h

/-- What is known of the slots that an operation looks at. -/
def Looks (ops : Array Oper) (asg : List Nat) (tm : Nat → AV) (ρ : Rho) (M : Mem) (a : Act) (o : Oper) : Prop :=
  ∀ t ∈ o.looksAt ops, Rel ρ M (a.tmps.getD t Go.undef) (tm t) ∧ (t ∈ asg → SlotOK ρ M (a.tmps.getD t Go.undef) (tm t))

theorem yielded_eq {a : Act} {j t : Nat} (ht : (ops[j]?).bind (·.dst) = some t) : yielded ops a.tmps j = match a.tmps.getD t Go.undef with | .bool b => some b | _ => none := by
  unfold yielded
  rw [ht]
  simp only [Option.bind_some]
  rcases Nat.lt_or_ge t a.tmps.size with h | h
  · simp [h, Array.getElem?_eq_getElem]
    cases a.tmps[t] <;> rfl
  · simp [Array.getElem?_eq_none h, Go.undef]

theorem guard_met {ρ M} {a : Act} {o : Oper} {g : Nat × Bool} {l m} {n : Nat} (hL : Looks ops asg tm ρ M a o) (hg : o.guard = some g) (h : guards ops asg tm n g = some (l, m)) :
    Region.wanted o (yielded ops a.tmps) = m := by
  obtain ⟨j, want⟩ := g
  simp only [Region.wanted, hg]
  cases n with
  | zero => simp [guards] at h
  | succ n =>
    simp only [guards] at h
    split at h
    · rename_i t ht
      split at h
      · rename_i hc
        have hc' : t ∈ asg := by simpa using hc
        have hlook : t ∈ o.looksAt ops := by simp [Oper.looksAt, hg, ht]
        have hs := (hL t hlook).2 hc'
        rw [yielded_eq ht]
        split at h
        · rename_i c hx
          rw [hx] at hs
          rw [Rel.boolInv (show Rel ρ M _ (.bool c) from hs)]
          simp only [Option.some.injEq, Prod.mk.injEq] at h
          rw [← h.2]
          cases want <;> cases c <;> rfl
        · rename_i m' j' w' c hx
          rw [hx] at hs
          simp only [Option.bind_eq_some_iff, Option.some.injEq, Prod.mk.injEq] at h
          obtain ⟨⟨l2, m2⟩, hp, hl, hm⟩ := h
          rw [← hm]
          cases m' with
          | true =>
            rw [Rel.boolInv (hs.1 rfl)]
            cases want <;> cases c <;> rfl
          | false =>
            rw [hs.2 rfl]
            cases want <;> simp [Go.undef]
        · cases h
      · cases h
    · cases h
end

/-- What is known of the program's own variables. -/
def GlobOK (M0 : Mem) (gl : Nat → AV) : Prop := ∀ g, RelP M0 (.pointer (some ⟨g, 0, none⟩)) (gl g)

section
variable {ops : Array Oper} {asg : List Nat} {tm : Nat → AV} {ρ : Rho} {M M0 : Mem} {a : Act} {o : Oper} {gl : Nat → AV}

theorem strip_rel (hRI : RI ops asg tm) {gs : List (Nat × Bool)} (hgs : ∀ q ∈ gs, ∀ l m, guards ops asg tm 20 q = some (l, m) → m = true) {t : Nat} {v : Value}
    (h : Rel ρ M v (tm t) ∧ (t ∈ asg → SlotOK ρ M v (tm t))) : Rel ρ M v (strip asg gs t (tm t)) := by
  unfold strip
  split
  · rename_i m j w x hx
    split
    · rename_i hc
      simp only [Bool.and_eq_true, List.contains_iff_mem] at hc
      obtain ⟨hc1, hc2⟩ := hc
      obtain ⟨l, hl⟩ := hRI t hc1 m j w x hx
      have hs := h.2 hc1
      rw [hx] at hs
      exact hs.1 (hgs _ hc2 l m hl)
    · exact .undef v
  · exact h.1

theorem stripO_rel (hG : GlobOK M0 gl) (hM : MExt M0 M) (hRI : RI ops asg tm) {gs : List (Nat × Bool)} (hgs : ∀ q ∈ gs, ∀ l m, guards ops asg tm 20 q = some (l, m) → m = true) (x : Operand)
    (h : ∀ t, x = .tmp t → Rel ρ M (a.tmps.getD t Go.undef) (tm t) ∧ (t ∈ asg → SlotOK ρ M (a.tmps.getD t Go.undef) (tm t))) : Rel ρ M (a.eval x) (stripO asg gs (evOf gl tm) x) := by
  cases x with
  | tmp t => exact strip_rel hRI hgs (h t rfl)
  | const v => exact .pure (avOf_rel M v)
  | global g => exact .pure ((hG g).mono hM)
  | func f => exact .pure (.fn _)
end

theorem looks_tmp {ops : Array Oper} {o : Oper} {t : Nat} (h : Operand.tmp t ∈ o.op.operands) : t ∈ o.looksAt ops :=
  List.mem_append_left _ (List.mem_filterMap.2 ⟨.tmp t, by simpa using h, rfl⟩)

/-- The guards that an operation stands under are as said. -/
def gdIs (ops : Array Oper) (asg : List Nat) (tm : Nat → AV) (o : Oper) : Option GD → Prop
  | none => o.guard = none
  | some d => o.guard = some d.g ∧ guards ops asg tm 20 d.g = some (d.l, d.m)
theorem gdOf_is {ops asg tm o gd} (h : gdOf ops asg tm o = some gd) : gdIs ops asg tm o gd := by
  unfold gdOf at h
  cases hg : o.guard with
  | none => simp [hg] at h; subst h; exact hg
  | some g =>
    simp only [hg, Option.map_eq_some_iff] at h
    obtain ⟨p, h1, h2⟩ := h
    subst h2
    exact ⟨hg, h1⟩
def metG : Option GD → Bool
  | none => true
  | some d => d.m
theorem gd_wanted {ops asg tm ρ M} {a : Act} {o : Oper} {gd : Option GD} (hg : gdIs ops asg tm o gd) (hL : Looks ops asg tm ρ M a o) : Region.wanted o (yielded ops a.tmps) = metG gd := by
  cases gd with
  | none => simp only [gdIs] at hg; simp [Region.wanted, hg, metG]
  | some d => exact guard_met hL hg.1 hg.2
theorem gd_chain {ops asg tm} {o : Oper} {gd : Option GD} (hg : gdIs ops asg tm o gd) (hRI : RI ops asg tm) (hm : metG gd = true) : ∀ q ∈ gsOf gd, ∀ l m, guards ops asg tm 20 q = some (l, m) → m = true := by
  intro q hq l m hl
  suffices ∃ l', guards ops asg tm 20 q = some (l', true) by
    obtain ⟨l', h'⟩ := this
    rw [hl] at h'
    simp only [Option.some.injEq, Prod.mk.injEq] at h'
    exact h'.2
  revert q
  cases gd with
  | none => intro q hq; simp [gsOf] at hq
  | some d =>
    intro q hq _
    simp only [metG] at hm
    have := hg.2
    rw [hm] at this
    exact guards_chain hRI 20 d.g d.l (Nat.le_refl _) this q hq

/-- What an operation that changes nothing will yield. -/
def QOK (P : Program) (gl : Nat → AV) (ops : Array Oper) (asg : List Nat) (tm : Nat → AV) (hp : Nat → Blk) (nx : Nat) (cl : Bool) (gd : Option GD) (o : Oper) (out : AV) : Prop :=
  (metG gd = true → ∃ v ob, opSR P gl ops asg (gsOf gd) o tm hp nx = some ⟨true, v, [], ob⟩ ∧ (∀ p, ob = some p → p) ∧ out = (wrapG gd v).norm cl) ∧
  (metG gd = false → ∃ d x, gd = some d ∧ out = .opt d.m d.g.1 d.g.2 x)

def Act.eval' := @Act.eval

section
variable {P : Program} {o : Oper} {U : Base} {w0 : World} {n : Nat} {ρ : Rho} {M : Mem} {tmX tm : Nat → AV} {hp : Nat → Blk} {nx : Nat} {a : Act} {w : World} {ops : Array Oper} {asg : List Nat} {gl : Nat → AV}

theorem pick_run {c x y : Operand} (ho : o.op = .pick c x y) {b : Bool} (hb : a.eval c = .bool b) : (execOp a.eval o).run P w = .ok (.value (if b then a.eval x else a.eval y)) w := by
  simp [execOp, ho, hb, asBool]

theorem AV.clean_ne (x : AV) (m j w y) : x.clean ≠ .opt m j w y := by cases x <;> simp [AV.clean]
theorem Rel.clean {ρ M v} {x : AV} (h : Rel ρ M v x) : Rel ρ M v x.clean := by
  cases x <;> first | exact h | exact .undef v

theorem slot_wrap {ρ M v x} {gd : Option GD} (cl : Bool) (hm : metG gd = true) (h : Rel ρ M v x) : SlotOK ρ M v ((wrapG gd x).norm cl) := by
  cases gd with
  | none => exact (slot_of_rel h.clean (AV.clean_ne x)).norm cl
  | some d =>
    refine SlotOK.norm cl ?_
    exact ⟨fun _ => h, fun hm' => by simp only [metG] at hm; rw [hm] at hm'; cases hm'⟩

/-- The guards of a pick's arms. -/
theorem guard_of_slot (hRI : RI ops asg tm) {gs : List (Nat × Bool)} (hgs : ∀ q ∈ gs, ∀ l m, guards ops asg tm 20 q = some (l, m) → m = true) {t j : Nat} {c : Bool}
    (ht : (ops[j]?).bind (·.dst) = some t) (hc : strip asg gs t (tm t) = .bool c) : ∀ q ∈ (j, c) :: gs, ∀ l m, guards ops asg tm 20 q = some (l, m) → m = true := by
  intro q hq l m hg
  rcases List.mem_cons.1 hq with rfl | hq
  · have hw : ∀ (c : Bool), isW c c = true := fun c => by cases c <;> rfl
    obtain ⟨k, hk⟩ : ∃ k, (20 : Nat) = k + 1 := ⟨19, rfl⟩
    rw [hk] at hg
    simp only [guards, ht] at hg
    split at hg
    · rename_i hca
      split at hg
      · rename_i c' hx
        rw [hx] at hc
        simp only [strip, AV.bool.injEq] at hc
        subst hc
        simp only [Option.some.injEq, Prod.mk.injEq] at hg
        rw [← hg.2, hw]
      · rename_i m' j' w' c' hx
        rw [hx] at hc
        simp only [strip] at hc
        split at hc
        · rename_i hin
          simp only [AV.bool.injEq] at hc
          subst hc
          simp only [Bool.and_eq_true, List.contains_iff_mem] at hin
          obtain ⟨l2, hl2⟩ := hRI t hin.1 m' j' w' _ hx
          have hm' := hgs _ hin.2 _ _ hl2
          obtain ⟨p, hp, hr⟩ := Option.bind_eq_some_iff.1 hg
          simp only [Option.some.injEq, Prod.mk.injEq] at hr
          rw [← hr.2, hm', hw]; rfl
        · cases hc
      · cases hg
    · cases hg
  · exact hgs q hq l m hg

/-- **AN OPERATION THAT CHANGES NOTHING.** -/
theorem quiet_exec (h : SRel U w0 n ρ M tmX hp nx a w) (hG : GlobOK U.M0 gl) {cl : Bool} {gd : Option GD} {out : AV} (hq : QOK P gl ops asg tm hp nx cl gd o out) (hRI : RI ops asg tm)
    (hgd : gdIs ops asg tm o gd) (hL : Looks ops asg tm ρ M a o) (hm : metG gd = true) :
    ∃ u w' ρ' M', ((execOp a.eval o).run P w = .ok (.value u) w' ∨ ((execOp a.eval o).run P w = .ok .skip w' ∧ u = Go.undef)) ∧
      RX ρ ρ' hp nx ∧ MExt M M' ∧ SlotOK ρ' M' u out ∧ SRel U w0 n ρ' M' tmX hp nx a w' := by
  obtain ⟨v, ob, hs, hob, rfl⟩ := hq.1 hm
  have hgs := gd_chain hgd hRI hm
  have hx : ∀ x ∈ o.op.operands, Rel ρ M (a.eval x) (stripO asg (gsOf gd) (evOf gl tm) x) := fun x hxx =>
    stripO_rel hG h.memE hRI hgs x (fun t ht => hL t (looks_tmp (ht ▸ hxx)))
  have step : stepOp P o.op (stripO asg (gsOf gd) (evOf gl tm)) hp nx = some ⟨true, v, [], ob⟩ → ∃ u w' ρ' M', ((execOp a.eval o).run P w = .ok (.value u) w' ∨ ((execOp a.eval o).run P w = .ok .skip w' ∧ u = Go.undef)) ∧
      RX ρ ρ' hp nx ∧ MExt M M' ∧ SlotOK ρ' M' u ((wrapG gd v).norm cl) ∧ SRel U w0 n ρ' M' tmX hp nx a w' := by
    intro hst
    obtain ⟨u, w', ρ', M', hr, hρ, hM, hv, hS⟩ := stepOp_sound (P := P) h _ hx true v [] ob hst rfl hob
    exact ⟨u, w', ρ', M', hr, hρ, hM, slot_wrap cl hm hv, hS⟩
  unfold opSR at hs
  split at hs
  · rename_i t x y ho
    split at hs
    · rename_i c j hc hj
      obtain ⟨r, hr, hr2⟩ := Option.bind_eq_some_iff.1 hs
      simp only [ok1, Option.some.injEq, SR.mk.injEq] at hr2
      obtain ⟨_, rfl, _, _⟩ := hr2
      have hjt : (ops[j]?).bind (·.dst) = some t := by
        rw [List.findIdx?_eq_some_iff_getElem] at hj
        obtain ⟨hlt, hjt, _⟩ := hj
        have hlt' : j < ops.size := by simpa using hlt
        simp only [Array.getElem_toList, beq_iff_eq] at hjt
        simp [Array.getElem?_eq_getElem hlt', hjt]
      have hcond : a.eval (.tmp t) = .bool c := by
        have := hx (.tmp t) (by simp [ho, Op.operands])
        rw [hc] at this
        exact this.boolInv
      have hga := guard_of_slot hRI hgs hjt (show strip asg (gsOf gd) t (tm t) = .bool c from hc)
      have arm : ∀ z, z ∈ o.op.operands → Rel ρ M (a.eval z) (stripO asg ((j, c) :: gsOf gd) (evOf gl tm) z) := fun z hz =>
        stripO_rel hG h.memE hRI hga z (fun t ht => hL t (looks_tmp (ht ▸ hz)))
      refine ⟨_, w, ρ, M, .inl (pick_run ho hcond), RX.refl ρ hp nx, MExt.refl M, slot_wrap cl hm ?_, h⟩
      unfold pickAV at hr
      split at hr
      · rename_i bx by_ hbx hby
        have hxr : c = true → a.eval x = .bool bx := fun e => by
          subst e
          have := arm x (by simp [ho, Op.operands])
          rw [hbx] at this
          exact this.boolInv
        have hyr : c = false → a.eval y = .bool by_ := fun e => by
          subst e
          have := arm y (by simp [ho, Op.operands])
          rw [hby] at this
          exact this.boolInv
        have key : ∀ r', (if c then a.eval x else a.eval y) = .bool r' → Rel ρ M (if c then a.eval x else a.eval y) (.bool r') := fun r' e => by rw [e]; exact .pure (.bool r')
        split at hr
        · simp only [Option.some.injEq] at hr
          subst hr
          refine key _ ?_
          cases c with
          | true => simp [Act.eval]
          | false => simp [hyr rfl]
        · simp only [Option.some.injEq] at hr
          subst hr
          refine key _ ?_
          cases c with
          | true => simp [hxr rfl]
          | false => simp [Act.eval]
        · simp only [Option.some.injEq] at hr
          subst hr
          refine key _ ?_
          cases c with
          | true => simp [hxr rfl]
          | false => simp [hyr rfl]
      · cases hr
    · cases hs
  · cases hs
  · exact step hs

theorem AV.norm_opt (cl : Bool) (m j w x) : AV.norm cl (.opt m j w x) = .opt m j w (x.norm cl) := by simp [AV.norm]
end
end Pw
