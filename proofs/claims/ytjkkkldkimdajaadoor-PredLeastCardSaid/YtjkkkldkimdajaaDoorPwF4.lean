/- ENGINE, part F4: calls and events. -/
import Derived.Test.YtjkkkldkimdajaaDoorPwF3
namespace Pw
set_option linter.unusedSimpArgs false
open Go

def FnOK (P : Program) (f : FuncId) : Prop := ∃ fn, P.funcs[f]? = some fn ∧ fn.body.isSome = true ∧ (fn.name == "runtime.NumGoroutine") = false

/-- What a call comes to: it returns, and what was known still is. -/
def CallPost (U : Base) (w0 : World) (n : Nat) (ρ : Rho) (M : Mem) (tm : Nat → AV) (hp : Nat → Blk) (nx : Nat) (a : Act) (K : AV → (Nat → Blk) → Nat → Rho → Mem → Prop) (e : Ending) (w' : World) : Prop :=
  ∃ v x ρ' M' hp' nx', e = .returned v ∧ Grow ρ ρ' hp hp' nx nx' ∧ MExt M M' ∧ Rel ρ' M' v x ∧ SRel U w0 n ρ' M' tm hp' nx' a w' ∧ K x hp' nx' ρ' M'

def ArgsRel (ρ : Rho) (M : Mem) (vals : Array Value) (args : List AV) : Prop :=
  vals.size = args.length ∧ ∀ i, i < args.length → Rel ρ M (vals.getD i Go.undef) (args.getD i .undef)

def CallS (P : Program) (gl : Nat → AV) (call : CallH) : Prop :=
  ∀ f args hp nx K, (call f args hp nx K).sat → ∀ U w0 n ρ M tm a w vals, GlobOK U.M0 gl → SRel U w0 n ρ M tm (fun b => hp.get .dead b) nx a w → ArgsRel ρ M vals args →
    FnOK P f ∧ Calls P f vals w (CallPost U w0 n ρ M tm (fun b => hp.get .dead b) nx a fun x hp' nx' _ _ => ∃ hpt : T Blk, (∀ b, hpt.get .dead b = hp' b) ∧ (K x hpt nx').sat)

def OutOK (P : Program) (f : FuncId) (vals : Array Value) (U : Base) (w0 : World) (n : Nat) (ρ : Rho) (M : Mem) (tm : Nat → AV) (hp : Nat → Blk) (nx : Nat) (a : Act) (w : World) : Out → Prop
  | .ret nd v eff => nd = true → effOK hp nx eff = true → FnOK P f ∧ Calls P f vals w fun e w' => ∃ u ρ' M', e = .returned u ∧ RX ρ ρ' hp nx ∧ MExt M M' ∧ Rel ρ' M' u v ∧
      SRel U w0 n ρ' M' tm (setEffF hp eff) (newOf nx eff) a w'
  | .ite b t e => (b = true → OutOK P f vals U w0 n ρ M tm hp nx a w t) ∧ (b = false → OutOK P f vals U w0 n ρ M tm hp nx a w e)

/-- The contracts hold. -/
def CtrOK (E : Env) : Prop :=
  ∀ f args hp nx out, E.ctr f args hp nx = some out → ∀ U w0 n ρ M tm a w vals, GlobOK U.M0 E.gl → SRel U w0 n ρ M tm hp nx a w → ArgsRel ρ M vals args → OutOK E.P f vals U w0 n ρ M tm hp nx a w out

theorem ArgsRel.norm (cl : Bool) {ρ M vals args} (h : ArgsRel ρ M vals args) : ArgsRel ρ M vals (AV.normL cl args) :=
  ⟨by rw [AV.normL_length]; exact h.1, fun i hi => by rw [AV.normL_getD]; exact (h.2 i (by rwa [AV.normL_length] at hi)).norm cl⟩

/-- A contract, as a call. -/
theorem out_call {P : Program} {cl : Bool} : ∀ (out : Out) {f : FuncId} {vals : Array Value} {U w0 n ρ M tm} {hp : T Blk} {nx a w} {K : AV → T Blk → Nat → VT},
    (outVT cl hp nx K out).sat → OutOK P f vals U w0 n ρ M tm (fun b => hp.get .dead b) nx a w out →
    FnOK P f ∧ Calls P f vals w (CallPost U w0 n ρ M tm (fun b => hp.get .dead b) nx a fun x hp' nx' _ _ => ∃ hpt : T Blk, (∀ b, hpt.get .dead b = hp' b) ∧ (K x hpt nx').sat)
  | .ret nd v eff, f, vals, U, w0, n, ρ, M, tm, hp, nx, a, w, K, hs, ho => by
    simp only [outVT, VT.sat] at hs
    obtain ⟨hnd, hs⟩ := NB.inv hs
    split at hs
    · rename_i he
      obtain ⟨h1, h2⟩ := ho hnd he
      refine ⟨h1, h2.mono fun e w' ⟨u, ρ', M', h3, h4, h5, h6, h7⟩ => ?_⟩
      obtain ⟨hp', h8, h9⟩ := effK_spec cl eff hp (fun hp => forceN (newOf nx eff) fun nx => K v hp nx)
      rw [h8, forceN_eq] at hs
      refine ⟨u, v, ρ', M', fun b => hp'.get .dead b, newOf nx eff, h3, ⟨h4, newOf_le eff nx, fun b hb hd => ?_⟩, h5, h6, h7.hpNorm cl h9, hp', fun _ => rfl, hs⟩
      rcases h9 b with h10 | h10
      · exact h10.trans (effOK_dead he b hb hd)
      · refine h10.trans ?_
        rw [effOK_dead he b hb hd]
        rfl
    · exact hs.elim
  | .ite b t e, f, vals, U, w0, n, ρ, M, tm, hp, nx, a, w, K, hs, ho => by
    simp only [outVT, VT.sat] at hs
    rcases VB.inv hs with ⟨hb, hs⟩ | ⟨hb, hs⟩
    · exact out_call t hs (ho.1 hb)
    · exact out_call e hs (ho.2 hb)

/-! ### Slots -/
def St.put1 (s : St) (dst : Option Tmp) (v : AV) : St :=
  match dst with
  | some d => ⟨s.tm.set .undef d v, s.hp, s.nx⟩
  | none => s
theorem putK_eq (cl : Bool) (s : St) (dst : Option Tmp) (v : AV) (K : St → VT) : putK cl s dst v K = K (s.put1 dst (v.norm cl)) := by
  cases dst with
  | none => rfl
  | some d => simp only [putK, St.put1, AV.force_eq, T.setK_eq]
def putF (tm : Nat → AV) (dst : Option Tmp) (v : AV) : Nat → AV := fun t => if dst = some t then v else tm t
theorem put1_tmf (s : St) (dst : Option Tmp) (v : AV) : (s.put1 dst v).tmf = putF s.tmf dst v := by
  funext t
  cases dst with
  | none => simp [St.put1, putF]
  | some d =>
    simp only [St.put1, St.tmf, putF, T.set_get, Option.some.injEq]
    by_cases h : t = d
    · simp [h]
    · simp [h, Ne.symm h]
theorem put1_hpf (s : St) (dst : Option Tmp) (v : AV) : (s.put1 dst v).hpf = s.hpf := by cases dst <;> rfl
theorem put1_nx (s : St) (dst : Option Tmp) (v : AV) : (s.put1 dst v).nx = s.nx := by cases dst <;> rfl

theorem put_getD (a : Act) (dst : Option Tmp) (v : Value) (t : Nat) : (a.put dst v).tmps.getD t Go.undef = if dst = some t ∧ t < a.tmps.size then v else a.tmps.getD t Go.undef := by
  cases dst with
  | none => simp [Act.put]
  | some d =>
    simp only [Act.put, Option.some.injEq]
    by_cases h : d = t
    · subst h
      by_cases hl : d < a.tmps.size
      · simp [hl]
      · simp [hl]
    · simp [h, Array.getElem?_setIfInBounds_ne h]

theorem SRel.put {U w0 n ρ M tm hp nx a w} (h : SRel U w0 n ρ M tm hp nx a w) {dst : Option Tmp} {u : Value} {tm' : Nat → AV} (ht : ∀ t, (dst = some t ∧ t < n → Rel ρ M u (tm' t)) ∧ (¬ (dst = some t ∧ t < n) → Rel ρ M (a.tmps.getD t Go.undef) (tm' t))) :
    SRel U w0 n ρ M tm' hp nx (a.put dst u) w := by
  refine ⟨?_, fun t => ?_, h.hok, h.dead, h.free, h.keep, h.memN, h.memE, h.own, ?_⟩
  · cases dst <;> simp [Act.put, h.size]
  · rw [put_getD, h.size]
    split
    · exact (ht t).1 ‹_›
    · exact (ht t).2 ‹_›
  · cases dst <;> simp [Act.put, h.defers]

/-- The optional values that may be put. -/
def OutShape (gd : Option GD) (out : AV) : Prop := ∀ m j w x, out = .opt m j w x → ∃ d, gd = some d ∧ m = d.m ∧ (j, w) = d.g

theorem norm_ne_opt {cl : Bool} {x : AV} (h : ∀ m j w y, x ≠ .opt m j w y) : ∀ m j w y, x.norm cl ≠ .opt m j w y := by
  intro m j w y
  cases x <;> simp only [AV.norm] <;> try (intro h'; cases h'; done)
  · cases cl <;> simp
  · exact absurd rfl (h _ _ _ _)
theorem shape_wrap (cl : Bool) (gd : Option GD) (v : AV) : OutShape gd ((wrapG gd v).norm cl) := by
  intro m j w x hx
  cases gd with
  | none => exact absurd hx (norm_ne_opt (AV.clean_ne v) _ _ _ _)
  | some d =>
    simp only [wrapG, AV.norm_opt, AV.opt.injEq] at hx
    exact ⟨d, rfl, hx.1.symm, by rw [← hx.2.1, ← hx.2.2.1]⟩
theorem shape_clean (cl : Bool) (gd : Option GD) (v : AV) : OutShape gd (v.clean.norm cl) := fun _ _ _ _ hx => absurd hx (norm_ne_opt (AV.clean_ne v) _ _ _ _)

theorem RI.put {ops : Array Oper} {asg : List Nat} {tm : Nat → AV} {o : Oper} {gd : Option GD} {out : AV} (hRI : RI ops asg tm) (hgd : gdIs ops asg tm o gd) (hsh : OutShape gd out) {n : Nat} (hd : dstOK n asg o.dst = true) :
    RI ops (o.dst.toList ++ asg) (putF tm o.dst out) := by
  cases hdst : o.dst with
  | none =>
    have : putF tm none out = tm := by funext t; simp [putF]
    rw [this]; exact hRI
  | some t0 =>
    rw [hdst] at hd
    simp only [dstOK, Bool.and_eq_true, decide_eq_true_eq, Bool.not_eq_true'] at hd
    have h0 : t0 ∉ asg := by simpa using hd.2
    have hpf : putF tm (some t0) out = fun t => if t = t0 then out else tm t := by
      funext t; simp only [putF, Option.some.injEq]
      by_cases h : t = t0
      · simp [h]
      · simp [h, Ne.symm h]
    rw [hpf]
    intro t ht m j w x hx
    simp only [Option.toList, List.singleton_append, List.mem_cons] at ht
    by_cases htt : t = t0
    · subst htt
      simp only [if_true] at hx
      obtain ⟨d, hgd', rfl, hq⟩ := hsh m j w x hx
      subst hgd'
      exact ⟨d.l, by rw [hq]; exact guards_put h0 20 d.g _ hgd.2⟩
    · simp only [if_neg htt] at hx
      obtain ⟨l, hl⟩ := hRI t (ht.resolve_left htt) m j w x hx
      exact ⟨l, guards_put h0 20 _ _ hl⟩

/-- What the walk says of an operation that changes nothing. -/
theorem vcQuiet_inv {E : Env} {ops : Array Oper} {asg : List Nat} {o : Oper} {gd : Option GD} {s : St} {K : St → VT} (h : (vcQuiet E ops asg o gd s K).sat) :
    ∃ out, QOK E.P E.gl ops asg s.tmf s.hpf s.nx E.cl gd o out ∧ OutShape gd out ∧ (K (s.put1 o.dst out)).sat := by
  unfold vcQuiet at h
  split at h
  · rename_i nd v ob hs
    rw [putK_eq] at h
    have key : ∀ (hh : metG gd = true → nd = true ∧ ∀ p, ob = some p → p) (hk : (K (s.put1 o.dst ((wrapG gd v).norm E.cl))).sat),
        ∃ out, QOK E.P E.gl ops asg s.tmf s.hpf s.nx E.cl gd o out ∧ OutShape gd out ∧ (K (s.put1 o.dst out)).sat := by
      intro hh hk
      refine ⟨_, ⟨fun hm => ?_, fun hm => ?_⟩, shape_wrap E.cl gd v, hk⟩
      · obtain ⟨h1, h2⟩ := hh hm
        exact ⟨v, ob, by rw [hs, h1], h2, rfl⟩
      · cases gd with
        | none => simp [metG] at hm
        | some d => exact ⟨d, _, rfl, by simp only [wrapG, AV.norm_opt]; rfl⟩
    cases gd with
    | none =>
      simp only [needG, VT.sat] at h
      obtain ⟨hnd, h⟩ := NB.inv h
      cases ob with
      | none => exact key (fun _ => ⟨hnd, fun p hp => by cases hp⟩) h
      | some p => exact key (fun _ => ⟨hnd, fun p' hp' => by cases hp'; exact h.1⟩) h.2
    | some d =>
      simp only [needG, VT.sat] at h
      obtain ⟨hnd, h⟩ := NB.inv h
      have himp : metG (some d) = true → nd = true := by
        intro hm
        simp only [metG] at hm
        rw [hm] at hnd
        cases nd
        · simp [impB] at hnd
        · rfl
      cases ob with
      | none => exact key (fun hm => ⟨himp hm, fun p hp => by cases hp⟩) h
      | some p => exact key (fun hm => ⟨himp hm, fun p' hp' => by cases hp'; exact h.1 hm⟩) h.2
  · cases gd with
    | none => exact h.elim
    | some d =>
      simp only [splitG, VT.sat] at h
      rcases VB.inv h with ⟨_, h⟩ | ⟨hb, h⟩
      · exact h.elim
      · rw [offG, putK_eq] at h
        refine ⟨_, ⟨fun hm => ?_, fun hm => ⟨d, _, rfl, AV.norm_opt ..⟩⟩, ?_, h⟩
        · simp only [metG] at hm; rw [hb] at hm; cases hm
        · intro m j w x hx
          simp only [AV.norm_opt, AV.opt.injEq] at hx
          exact ⟨d, rfl, hx.1.symm, by rw [← hx.2.1, ← hx.2.2.1]⟩

section
variable {P : Program} {o : Oper} {a : Act} {w : World}

theorem run_call {f : Operand} {args : Array Operand} {ts : Array TypeId} (ho : o.op = .call { callee := .value f, args := args, argTypes := ts }) {g : FuncId} {first cap : Array Value} (hf : a.eval f = .func (.func g) first cap)
    (hfn : FnOK P g) : (execOp a.eval o).run P w = .ok (.enter g (first ++ args.map a.eval ++ cap)) w := by
  obtain ⟨fn, h1, h2, h3⟩ := hfn
  have h4 : fn.body ≠ none := by intro hb; rw [hb] at h2; cases h2
  have h5 : fn.name ≠ "runtime.NumGoroutine" := by simpa using h3
  simp [execOp, ho, resolve, hf, Deferred.ofValue, invoke, callFunc, h1, h5, h4]
end

theorem args_rel {ρ M} {a : Act} {ev : Operand → AV} (args : List Operand) (h : ∀ x ∈ args, Rel ρ M (a.eval x) (ev x)) : ArgsRel ρ M (args.map a.eval).toArray (args.map ev) := by
  refine ⟨by simp, fun i hi => ?_⟩
  have hi' : i < args.length := by simpa using hi
  have := h args[i] (List.getElem_mem hi')
  simpa [hi'] using this
theorem ArgsRel.app {ρ M} {v v' : Array Value} {l l' : List AV} (h : ArgsRel ρ M v l) (h' : ArgsRel ρ M v' l') : ArgsRel ρ M (v ++ v') (l ++ l') := by
  refine ⟨by simp [h.1, h'.1], fun i hi => ?_⟩
  rcases Nat.lt_or_ge i l.length with hl | hl
  · have := h.2 i hl
    have hv : i < v.size := by rw [h.1]; exact hl
    rw [List.getD_eq_getElem?_getD, List.getElem?_append_left hl, Array.getD_eq_getD_getElem?, Array.getElem?_append_left hv]
    rw [List.getD_eq_getElem?_getD, Array.getD_eq_getD_getElem?] at this
    exact this
  · have hi2 : i - l.length < l'.length := by simp at hi; omega
    have := h'.2 (i - l.length) hi2
    have hv : v.size ≤ i := by rw [h.1]; exact hl
    rw [List.getD_eq_getElem?_getD, List.getElem?_append_right hl]
    rw [Array.getD_eq_getD_getElem?, Array.getElem?_append_right hv, h.1]
    rw [List.getD_eq_getElem?_getD, Array.getD_eq_getD_getElem?] at this
    exact this

theorem target_op {op : Op} {ev : Operand → AV} (h : targetOf op ev = .op) (c : Call) (f : Operand) (hc : op = .call c) (hf : c.callee = .value f) : False := by
  subst hc
  obtain ⟨callee, args, ts⟩ := c
  simp only at hf
  subst hf
  simp only [targetOf] at h
  split at h <;> cases h

section
variable {E : Env} {U : Base} {w0 : World} {n : Nat} {ρ : Rho} {M : Mem} {tmX : Nat → AV} {a : Act} {w : World} {ops : Array Oper} {asg : List Nat} {o : Oper} {gd : Option GD} {s : St} {call : CallH} {R : List Nat} {K : EvI → St → VT}

/-- What an event leads to. -/
def EvK (U : Base) (w0 : World) (n : Nat) (ρ : Rho) (M : Mem) (tmX : Nat → AV) (a : Act) (gd : Option GD) (o : Oper) (s : St) (R : List Nat) (K : EvI → St → VT) (u : Value) (w' : World) : Prop :=
  ∃ (inf : EvI) (out : AV) (s' : St) (ρ' : Rho) (M' : Mem), s'.tm = s.tm ∧ OutShape gd out ∧ SlotOK ρ' M' u out ∧ Grow ρ ρ' s.hpf s'.hpf s.nx s'.nx ∧ MExt M M' ∧ SRel U w0 n ρ' M' tmX s'.hpf s'.nx a w' ∧
    (evB R inf = true → ∀ b ∈ R, s'.hpf b = s.hpf b) ∧ (K inf (s'.put1 o.dst out)).sat

/-- **AN EVENT.** -/
theorem vcEvent_sound (hc : CallS E.P E.gl call) (hctr : CtrOK E) (hv : (vcEvent E call R asg o gd s K).sat) (h : SRel U w0 n ρ M tmX s.hpf s.nx a w) (hG : GlobOK U.M0 E.gl)
    (hRI : RI ops asg s.tmf) (hgd : gdIs ops asg s.tmf o gd) (hL : Looks ops asg s.tmf ρ M a o) :
    (metG gd = true → ∀ (Kc : Act → World → Prop) (Q : Exit → Act → World → Prop), (∀ u w', EvK U w0 n ρ M tmX a gd o s R K u w' → Kc (a.put o.dst u) w') → o.wp E.P a w Kc Q) ∧
    (metG gd = false → ∃ out, OutShape gd out ∧ (∀ ρ M, SlotOK ρ M Go.undef out) ∧ (K .pure (s.put1 o.dst out)).sat) := by
  have hx : metG gd = true → ∀ x ∈ o.op.operands, Rel ρ M (a.eval x) (stripO asg (gsOf gd) (evOf E.gl s.tmf) x) := fun hm x hxx =>
    stripO_rel hG h.memE hRI (gd_chain hgd hRI hm) x (fun t ht => hL t (looks_tmp (ht ▸ hxx)))
  -- a guard that is not met
  have off : ∀ t : VT, (splitG E.cl gd s o.dst (K .pure) t).sat → (metG gd = true → t.sat) ∧ (metG gd = false → ∃ out, OutShape gd out ∧ (∀ ρ M, SlotOK ρ M Go.undef out) ∧ (K .pure (s.put1 o.dst out)).sat) := by
    intro t ht
    cases gd with
    | none => exact ⟨fun _ => ht, fun hm => by simp [metG] at hm⟩
    | some d =>
      simp only [splitG, VT.sat] at ht
      rcases VB.inv ht with ⟨hb, ht⟩ | ⟨hb, ht⟩
      · exact ⟨fun _ => ht, fun hm => by simp only [metG] at hm; rw [hb] at hm; cases hm⟩
      · refine ⟨fun hm => (by simp only [metG] at hm; rw [hb] at hm; cases hm), fun _ => ?_⟩
        rw [offG, putK_eq] at ht
        refine ⟨_, ?_, ?_, ht⟩
        · intro m j w x hx
          simp only [AV.norm_opt, AV.opt.injEq] at hx
          exact ⟨d, rfl, hx.1.symm, by rw [← hx.2.1, ← hx.2.2.1]⟩
        · intro ρ M
          rw [AV.norm_opt, hb]
          exact ⟨fun hh => (by cases hh), fun _ => rfl⟩
  unfold vcEvent at hv
  simp only at hv
  split at hv
  · obtain ⟨h1, h2⟩ := off _ hv
    exact ⟨fun hm => (h1 hm).elim, h2⟩
  · rename_i f args htgt
    rw [AV.forceL_eq] at hv
    -- the call at hand
    have hcall : metG gd = true → ∃ fo as ts vals, o.op = .call { callee := .value fo, args := as, argTypes := ts } ∧ ArgsRel ρ M vals (AV.normL E.cl args) ∧
        (FnOK E.P f → (execOp a.eval o).run E.P w = .ok (.enter f vals) w) := by
      intro hm
      have hx := hx hm
      unfold targetOf at htgt
      split at htgt
      · rename_i fo as ts ho
        split at htgt
        · rename_i g first cap hfo
          simp only [Target.fn.injEq] at htgt
          obtain ⟨rfl, rfl⟩ := htgt
          have h1 := hx fo (by simp [ho, Op.operands, Call.operands])
          rw [hfo] at h1
          obtain ⟨fs, cs, h2, h3, h4, h5, h6⟩ := h1.fnInv
          refine ⟨fo, as, ts, fs ++ as.map a.eval ++ cs, ho, ArgsRel.norm E.cl (ArgsRel.app (ArgsRel.app ⟨h3, h5⟩ ?_) ⟨h4, h6⟩), fun hfn => run_call ho h2 hfn⟩
          have := args_rel (ρ := ρ) (M := M) (a := a) (ev := stripO asg (gsOf gd) (evOf E.gl s.tmf)) as.toList (fun x hxx => hx x (by simp [ho, Op.operands, Call.operands]; exact .inr (by simpa using hxx)))
          have e : (List.map a.eval as.toList).toArray = as.map a.eval := by rw [← Array.toList_map, Array.toArray_toList]
          rw [e] at this
          exact this
        · cases htgt
      · cases htgt
      · cases htgt
      · cases htgt
    have enter : ∀ (vals : Array Value) (hr : (execOp a.eval o).run E.P w = .ok (.enter f vals) w) (Post : Ending → World → Prop) (hcl : Calls E.P f vals w Post) (Kc : Act → World → Prop) (Q : Exit → Act → World → Prop),
        (∀ e w', Post e w' → ∃ u, e = .returned u ∧ Kc (a.put o.dst u) w') → o.wp E.P a w Kc Q := by
      intro vals hr Post hcl Kc Q hk
      unfold Oper.wp
      rw [hr, Oper.upon_enter]
      refine hcl.mono fun e w' hp => ?_
      obtain ⟨u, rfl, hk⟩ := hk e w' hp
      exact hk
    split at hv
    · rename_i nd v hctr'
      -- a contract that changes nothing
      have hv' : (metG gd = true → nd = true) ∧ (K .pure (s.put1 o.dst ((wrapG gd v).norm E.cl))).sat := by
        cases gd with
        | none =>
          simp only [needG, VT.sat] at hv
          obtain ⟨hnd, hv⟩ := NB.inv hv
          rw [putK_eq] at hv
          exact ⟨fun _ => hnd, hv⟩
        | some d =>
          simp only [needG, VT.sat] at hv
          obtain ⟨hnd, hv⟩ := NB.inv hv
          rw [putK_eq] at hv
          refine ⟨fun hm => ?_, hv⟩
          simp only [metG] at hm
          rw [hm] at hnd
          cases nd
          · simp [impB] at hnd
          · rfl
      refine ⟨fun hm Kc Q hk => ?_, fun hm => ⟨_, shape_wrap E.cl gd v, ?_, hv'.2⟩⟩
      · obtain ⟨fo, as, ts, vals, ho, hargs, hrun⟩ := hcall hm
        obtain ⟨hfn, hcl⟩ := hctr f _ _ _ _ hctr' U w0 n ρ M tmX a w vals hG h hargs (hv'.1 hm) (by simp [effOK])
        refine enter vals (hrun hfn) _ hcl Kc Q (fun e w' ⟨u, ρ', M', h1, h2, h3, h4, h5⟩ => ⟨u, h1, hk u w' ?_⟩)
        exact ⟨.pure, _, s, ρ', M', rfl, shape_wrap E.cl gd v, slot_wrap E.cl hm h4, ⟨h2, Nat.le_refl _, fun _ _ hd => hd⟩, h3, h5, fun _ _ _ => rfl, hv'.2⟩
      · intro ρ M
        cases gd with
        | none => simp [metG] at hm
        | some d =>
          simp only [metG] at hm
          simp only [wrapG, AV.norm_opt]
          exact ⟨fun hh => (by rw [hm] at hh; cases hh), fun _ => rfl⟩
    · obtain ⟨h1, h2⟩ := off _ hv
      refine ⟨fun hm Kc Q hk => ?_, h2⟩
      have hv2 := h1 hm
      obtain ⟨fo, as, ts, vals, ho, hargs, hrun⟩ := hcall hm
      obtain ⟨hpm, hm1, hm2⟩ := maskK_eq R s.hp (fun hp => call f (AV.normL E.cl args) hp s.nx fun v hp nx => backK s.hp hp R fun hp => putK E.cl ⟨s.tm, hp, nx⟩ o.dst v.clean (K .pure))
      rw [hm1] at hv2
      have hmask := h.mask R (hpm := fun b => hpm.get .dead b) hm2
      obtain ⟨hfn, hcl⟩ := hc f _ hpm s.nx _ hv2 _ w n ρ M tmX a w vals (fun g => (hG g).mono h.memE) hmask hargs
      refine enter vals (hrun hfn) _ hcl Kc Q (fun e w' ⟨u, x, ρ', M', hp', nx', k1, k2, k3, k4, k5, hpt, k6, k7⟩ => ⟨u, k1, hk u w' ?_⟩)
      obtain ⟨hpb, m1, m2⟩ := backK_eq s.hp R hpt (fun hp => putK E.cl ⟨s.tm, hp, nx'⟩ o.dst x.clean (K .pure))
      rw [m1, putK_eq] at k7
      obtain ⟨k8, k9⟩ := h.unmask R (hpm := fun b => hpm.get .dead b) (hp' := fun b => hpb.get .dead b) hm2 k5 k2 k3 (fun b => by
        rw [m2 b]
        split
        · rfl
        · exact k6 b)
      exact ⟨.pure, _, ⟨s.tm, hpb, nx'⟩, ρ', M', rfl, shape_clean E.cl gd x, SlotOK.norm E.cl (slot_of_rel k4.clean (AV.clean_ne x)), k9, k3, k8, fun _ b hb => by
        show hpb.get .dead b = _
        rw [m2 b, if_pos hb]; rfl, k7⟩
  · rename_i htgt
    obtain ⟨h1, h2⟩ := off _ hv
    refine ⟨fun hm Kc Q hk => ?_, h2⟩
    have hv2 := h1 hm
    split at hv2
    · rename_i nd v eff hst
      simp only [VT.sat] at hv2
      obtain ⟨hnd, hv2⟩ := NB.inv hv2
      subst hnd
      split at hv2
      · rename_i he
        obtain ⟨hp', k1, k0⟩ := effK_eq E.cl eff s.hp (fun hp => forceN (newOf s.nx eff) fun nx => putK E.cl ⟨s.tm, hp, nx⟩ o.dst v.clean (K (.eff (eff.map (·.1)))))
        have k2 : ∀ b, hp'.get .dead b = setEffF (fun b => s.hp.get .dead b) eff b ∨ hp'.get .dead b = (setEffF (fun b => s.hp.get .dead b) eff b).norm E.cl := fun b => by
          rw [k0 b]
          exact setEffF_norm E.cl eff _ _ (fun _ => .inl rfl) b
        rw [k1, forceN_eq, putK_eq] at hv2
        replace hv2 : (K (.eff (eff.map (·.1))) ((⟨s.tm, hp', newOf s.nx eff⟩ : St).put1 o.dst (AV.norm E.cl v.clean))).sat := hv2
        obtain ⟨u, w', ρ', M', hr, m1, m2, m3, m4⟩ := stepOp_sound (P := E.P) h _ (hx hm) true v eff none hst rfl (fun p hp => by cases hp)
        have hfin : EvK U w0 n ρ M tmX a gd o s R K u w' := by
          refine ⟨.eff (eff.map (·.1)), _, ⟨s.tm, hp', newOf s.nx eff⟩, ρ', M', rfl, shape_clean E.cl gd v, SlotOK.norm E.cl (slot_of_rel m3.clean (AV.clean_ne v)), ⟨m1, newOf_le eff s.nx, fun b hb hd => ?_⟩, m2, m4.hpNorm E.cl k2, fun hev b hb => ?_, hv2⟩
          · rcases k2 b with k3 | k3
            · exact k3.trans (effOK_dead he b hb hd)
            · refine k3.trans ?_
              rw [show setEffF (fun b => s.hp.get .dead b) eff b = .dead from effOK_dead he b hb hd]
              rfl
          · show hp'.get .dead b = _
            rw [k0 b, setEffF_keeps]
            · rfl
            · intro p hp e
              obtain ⟨q, hq, rfl⟩ := List.mem_map.1 hp
              simp only [evB, disj, List.all_eq_true, Bool.not_eq_true'] at hev
              have := hev b hb
              simp only [List.contains_eq_mem, decide_eq_false_iff_not, List.mem_map] at this
              exact this ⟨q, hq, e⟩
        unfold Oper.wp
        rcases hr with hr | ⟨hr, hu⟩
        · rw [hr, Oper.upon_value]; exact hk u w' hfin
        · rw [hr, Oper.upon_skip]; subst hu; exact hk _ w' hfin
      · exact hv2.elim
    · exact hv2.elim
end
end Pw
