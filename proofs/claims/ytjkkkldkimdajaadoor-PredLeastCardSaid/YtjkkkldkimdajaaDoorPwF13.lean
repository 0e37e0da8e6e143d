/- ENGINE, part F13: functions. -/
import Derived.Test.YtjkkkldkimdajaaDoorPwF12
namespace Pw
set_option linter.unusedSimpArgs false
open Go

def resRun (tmps : Array Value) : ResultVar → Sem Value
  | .tmp t => pure (tmps.getD t Go.undef)
  | .cell a t => do loadVar t (← asAddr (tmps.getD a Go.undef))

theorem mapM_run {α : Type} (g : α → Sem Value) (P : Program) (w : World) : ∀ (l : List α) (us : List Value), us.length = l.length → (∀ (i : Nat) x u, l[i]? = some x → us[i]? = some u → (g x).run P w = .ok u w) → (l.mapM g).run P w = .ok us w
  | [], [], _, _ => by simp
  | [], _ :: _, h, _ => by simp at h
  | _ :: _, [], h, _ => by simp at h
  | x :: l, u :: us, h, hr => by
    rw [List.mapM_cons]
    have h0 := hr 0 x u rfl rfl
    have h1 := mapM_run g P w l us (by simpa using h) (fun i x u hx hu => hr (i + 1) x u (by simpa using hx) (by simpa using hu))
    simp [h0, h1]

def tupV : List Value → Value
  | [u] => u
  | us => .tuple us.toArray

theorem results_run {P : Program} {w : World} {fn : Func} {tmps : Array Value} {us : List Value} (hl : us.length = fn.results.toList.length)
    (hr : ∀ (i : Nat) x u, fn.results.toList[i]? = some x → us[i]? = some u → (resRun tmps x).run P w = .ok u w) : (results fn tmps).run P w = .ok (tupV us) w := by
  have h1 := mapM_run (resRun tmps) P w fn.results.toList us hl hr
  have h2 : (fn.results.mapM (resRun tmps)).run P w = .ok us.toArray w := by
    rw [Array.mapM_eq_mapM_toList]
    simp [h1]
  have e : results fn tmps = (do let vs ← fn.results.mapM (resRun tmps); pure (if h : vs.size = 1 then vs[0] else .tuple vs)) := by
    unfold results
    congr 1
  rw [e, Sem.run_bind, h2]
  simp only [Result.andThen_ok, Sem.run_pure]
  congr 1
  match us with
  | [] => rfl
  | [u] => rfl
  | u :: v :: r => simp [tupV]

section
variable {E : Env} {U : Base} {w0 : World} {n : Nat} {ρ : Rho} {M : Mem} {tm : Nat → AV} {hp : Nat → Blk} {nx : Nat} {a : Act} {w : World}

theorem load_val {P : Program} (t : TypeId) (x : AV) (B off j : Nat) (vals : Nat → Value) {v : AV}
    (hp' : partAV P t x j = some v) (hv : ∀ k, k < x.cells.length → w.cell? ⟨B, off + k, none⟩ = some (vals k) ∧ Rel ρ M (vals k) (x.cells.getD k .undef)) :
    ∃ u, (loadVar t ⟨B, off + j, none⟩).run P w = .ok u w ∧ Rel ρ M u v := by
  obtain ⟨hu, hc⟩ := rel_part (P := P) (ρ := ρ) (M := M) t j vals hp' (fun k hk => (hv k hk).2)
  rcases hc with ⟨ha, hle, hr⟩ | ⟨ha, hlt, hr⟩
  · refine ⟨_, ?_, hr⟩
    have := run_loadVar (P := P) (w := w) t hu B (off + j) (fun k => vals (j + k)) (fun k hk => by
      have := (hv (j + k) (by omega)).1
      rwa [← Nat.add_assoc] at this) (.inl ha)
    rw [ha, if_pos rfl] at this
    exact this
  · refine ⟨_, ?_, hr⟩
    have hcell := (hv j hlt).1
    obtain ⟨d, hu⟩ := hu
    unfold loadVar
    rw [Sem.run_bind, eq_isAgg w hu, ha]
    simp only [Result.andThen_ok, Bool.false_eq_true, if_false]
    rw [run_load]
    simp [hcell]

theorem res_run {s : St} (h : SRel U w0 n ρ M s.tmf s.hpf s.nx a w) (x : ResultVar) {v : AV} (hx : resAV E s x = some v) : ∃ u, (resRun a.tmps x).run E.P w = .ok u w ∧ Rel ρ M u v := by
  cases x with
  | tmp t =>
    simp only [resAV, Option.some.injEq] at hx
    subst hx
    exact ⟨_, by simp [resRun], h.tm t⟩
  | cell ad t =>
    simp only [resAV] at hx
    split at hx
    · rename_i b g i j hptr
      have hrel := h.tm ad
      rw [show s.tmf ad = .ptr b g i j from hptr] at hrel
      obtain ⟨L, hL, hq, hi⟩ := hrel.ptrInv
      split at hx
      · rename_i g' sz pu q hb
        split at hx
        · rename_i hg
          subst hg
          split at hx
          · rename_i hlt
            obtain ⟨L', e1, e2, hv, vals, e4, e5⟩ := row_cells h hb i (by simpa using hlt)
            rw [hL] at e1; cases e1
            obtain ⟨u, hu, hr⟩ := load_val t (q.get i) L.B (L.o + i * L.sz) j vals hx e5
            refine ⟨u, ?_, hr⟩
            simp only [resRun, Sem.run_bind, hq]
            simp [asAddr, hu]
          · cases hx
        · cases hx
      · cases hx
    · cases hx

theorem res_runs {s : St} (h : SRel U w0 n ρ M s.tmf s.hpf s.nx a w) : ∀ (l : List ResultVar) (vs : List AV), resAVs E s l = some vs →
    ∃ us : List Value, us.length = l.length ∧ vs.length = l.length ∧ (∀ (i : Nat) x u, l[i]? = some x → us[i]? = some u → (resRun a.tmps x).run E.P w = .ok u w) ∧ ∀ i, i < us.length → Rel ρ M (us.getD i Go.undef) (vs.getD i .undef)
  | [], vs, hv => by
    simp only [resAVs, Option.some.injEq] at hv
    subst hv
    exact ⟨[], rfl, rfl, fun i x u hx => by simp at hx, fun i hi => by simp at hi⟩
  | x :: l, vs, hv => by
    simp only [resAVs] at hv
    split at hv
    · rename_i v r hx hr
      simp only [Option.some.injEq] at hv
      subst hv
      obtain ⟨u, hu1, hu2⟩ := res_run h x hx
      obtain ⟨us, k1, k2, k3, k4⟩ := res_runs h l r hr
      refine ⟨u :: us, by simp [k1], by simp [k2], fun i y z hy hz => ?_, fun i hi => ?_⟩
      · cases i with
        | zero => simp at hy hz; subst hy; subst hz; exact hu1
        | succ i => exact k3 i y z (by simpa using hy) (by simpa using hz)
      · cases i with
        | zero => simpa using hu2
        | succ i => simpa using k4 i (by simpa using hi)
    · cases hv

theorem tup_rel {us : List Value} {vs : List AV} (hl : us.length = vs.length) (h : ∀ i, i < us.length → Rel ρ M (us.getD i Go.undef) (vs.getD i .undef)) : Rel ρ M (tupV us) (tupAV vs) := by
  have gen : ∀ (us : List Value) (vs : List AV), us.length = vs.length → (∀ i, i < us.length → Rel ρ M (us.getD i Go.undef) (vs.getD i .undef)) → Rel ρ M (.tuple us.toArray) (.tup vs) := by
    intro us vs hl h
    refine .tup _ _ (by simpa using hl) (fun i hi => ?_)
    have := h i (by omega)
    have hi' : i < us.length := by omega
    simpa [hi'] using this
  match us, vs, hl, h with
  | [], [], hl, h => exact gen [] [] hl h
  | [u], [v], hl, h =>
    show Rel ρ M u v
    simpa using h 0 (by simp)
  | u :: u' :: us, v :: v' :: vs, hl, h => exact gen _ _ hl h

theorem argsK_eq (cl : Bool) : ∀ (l : List AV) (tm : T AV) (k : Nat), ∃ tm', (∀ K : T AV → VT, argsK cl tm l k K = K tm') ∧ ∀ t, tm'.get .undef t = if k ≤ t ∧ t < k + l.length then (l.getD (t - k) .undef).norm cl else tm.get .undef t
  | [], tm, k => ⟨tm, fun _ => rfl, fun t => by
      rw [if_neg]; simp only [List.length_nil]; omega⟩
  | x :: r, tm, k => by
    simp only [argsK, AV.force_eq, T.setK_eq]
    obtain ⟨tm', h1, h2⟩ := argsK_eq cl r (tm.set .undef k (x.norm cl)) (k + 1)
    refine ⟨tm', h1, fun t => ?_⟩
    rw [h2 t]
    by_cases e : t = k
    · subst e
      rw [if_neg (by omega), T.set_get, if_pos rfl, if_pos (by simp)]
      simp
    · by_cases hin : k + 1 ≤ t ∧ t < k + 1 + r.length
      · rw [if_pos hin, if_pos (by simp only [List.length_cons]; omega)]
        have : t - k = (t - (k + 1)) + 1 := by omega
        rw [this]
        simp
      · rw [if_neg hin, T.set_get, if_neg e, if_neg (by simp only [List.length_cons]; omega)]

/-- **FUNCTIONS.** -/
theorem vcFun_sound (hm : E.P.follows .mixedOrders = true) (hctr : CtrOK E) : ∀ (k : Nat), CallS E.P E.gl (vcFun E k) := by
  intro k
  induction k with
  | zero => intro f args hp nx K hs; exact hs.elim
  | succ k ih =>
    intro f args hp nx K hs U w0 n ρ M tm a w vals hG h hargs
    unfold vcFun at hs
    simp only at hs
    split at hs
    · rename_i fn hfn
      split at hs
      · rename_i c hbody
        split at hs
        · rename_i hchk
          simp only [Bool.and_eq_true, decide_eq_true_eq, Bool.not_eq_true'] at hchk
          obtain ⟨tm', h1, h2⟩ := argsK_eq E.cl args .nil 0
          rw [h1] at hs
          refine ⟨⟨fn, hfn, by simp [hbody], hchk.2⟩, calls_of_wp hfn hbody ?_⟩
          have hcall : CallS E.P E.gl (fun g as hp nx K => match E.ctr g as (fun b => hp.get .dead b) nx with
            | some out => outVT E.cl hp nx K out
            | none => vcFun E k g as hp nx K) := by
            intro g as hp nx K hs U w0 n ρ M tm a w vals hG h hargs
            simp only at hs
            split at hs
            · rename_i out ho
              exact out_call out hs (hctr g as _ nx out ho U w0 n ρ M tm a w vals hG h hargs)
            · exact ih g as hp nx K hs U w0 n ρ M tm a w vals hG h hargs
          have hstart : SRel U w0 fn.ntmps ρ M (St.tmf ⟨tm', hp, nx⟩) (St.hpf ⟨tm', hp, nx⟩) nx { tmps := vals ++ Array.replicate (fn.ntmps - vals.size) Go.undef, defers := [] } w := by
            refine ⟨?_, fun t => ?_, h.hok, h.dead, h.free, h.keep, h.memN, h.memE, h.own, rfl⟩
            · simp only [Array.size_append, Array.size_replicate, hargs.1]; omega
            · show Rel ρ M _ (tm'.get .undef t)
              rw [h2 t]
              split
              · rename_i hin
                have hlt : t < vals.size := by rw [hargs.1]; omega
                have := hargs.2 t (by omega)
                have e : (vals ++ Array.replicate (fn.ntmps - vals.size) Go.undef).getD t Go.undef = vals.getD t Go.undef := by
                  rw [Array.getD_eq_getD_getElem?, Array.getElem?_append_left hlt, Array.getD_eq_getD_getElem?]
                rw [e]
                simpa using this.norm E.cl
              · simp only [T.get]; exact .undef _
          refine vcCode_sound hm hcall hctr hG f c none _ _ ρ M _ w _ hs hstart ?_
          intro ex s' ρ' M' a' w' k1 k2 k3 k4
          have fin : (match resAVs E s' fn.results.toList with
                | some l => (tupAV l).force E.cl fun v => K v s'.hp s'.nx
                | none => (VT.fail 16 "")).sat → ∃ v, (results fn a'.tmps).run E.P w' = .ok v w' ∧ CallPost U w0 n ρ M tm (fun b => hp.get .dead b) nx a (fun x hp' nx' _ _ => ∃ hpt : T Blk, (∀ b, hpt.get .dead b = hp' b) ∧ (K x hpt nx').sat) (.returned v) w' := by
            intro hf
            split at hf
            · rename_i l hres
              rw [AV.force_eq] at hf
              obtain ⟨us, m1, m2, m3, m4⟩ := res_runs k3 _ l hres
              refine ⟨tupV us, results_run m1 m3, tupV us, (tupAV l).norm E.cl, ρ', M', s'.hpf, s'.nx, rfl, k1, k2, (tup_rel (by omega) m4).norm E.cl, ?_, s'.hp, fun _ => rfl, hf⟩
              exact ⟨h.size, fun t => (h.tm t).mono k1.rx.ext k2, k3.hok, k3.dead, k3.free, k3.keep, k3.memN, k3.memE, k3.own, h.defers⟩
            · exact hf.elim
          cases ex with
          | normal => exact ⟨k3.defers, fin k4⟩
          | ret => exact ⟨k3.defers, fin k4⟩
          | exit id => exact k4.elim
        · exact hs.elim
      · exact hs.elim
    · exact hs.elim
end
end Pw
