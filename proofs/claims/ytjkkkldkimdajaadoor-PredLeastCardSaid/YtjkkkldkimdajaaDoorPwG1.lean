/- ENGINE, part G1: from the engine's word to a row's. -/
import Derived.Test.YtjkkkldkimdajaaDoorPwF13
import Derived.ProofKit
import Derived.OpenShut
import Derived.Carry
namespace Pw
set_option linter.unusedSimpArgs false
open Go Go.ChangeShapes Go.WideShapes Go.ChangeAt Go.RowKit

theorem Keep.below {W W' : World} (h : Keep (fun _ => True) W W') : Below W.heap.size W W' := ⟨h.os, h.tape, h.output, h.size, fun k hk => h.block k trivial hk⟩

section
variable {H : Type} {enc : TypeId × Value → H} {P : Program}

/-- Arguments read as they did. -/
theorem trodAll_kept (hl : laidOutB P = true) {W W' : World} (hb : Below W.heap.size W W') : ∀ (ts : List TypeId) (vs : List Value) (ds : List (DataW H)) (ps : List MemPlace), (ts.all fun t => P.readableRec t && decide (t < P.types.size)) = true →
    DataW.TrodAll enc P W 0 (fun _ => true) true ts vs ds ps → (∀ x ∈ ps, x.block < W.heap.size) → DataW.TrodAll enc P W' 0 (fun b => decide (b < W.heap.size)) true ts vs ds ps
  | [], vs, ds, ps, _, h, _ => by
    cases vs <;> cases ds <;> simp [DataW.TrodAll] at h ⊢
    exact h
  | t :: ts, vs, ds, ps, hr, h, hlt => by
    simp only [List.all_cons, Bool.and_eq_true, decide_eq_true_eq] at hr
    obtain ⟨v, vs', d, ds', p, q, rfl, rfl, rfl, h1, h2⟩ := trodAll_cons h
    exact trodAll_cons_mk (Below.trod hl hr.1.1 hr.1.2 h1 hb (fun x hx => hlt x (List.mem_append_left _ hx))) (trodAll_kept hl hb ts vs' ds' q (by simpa using hr.2) h2 (fun x hx => hlt x (List.mem_append_right _ hx)))

/-- A row that says 'true, and the arguments read as they did'. -/
theorem post_true {f : Func} {s : ChangeSpec} {fresh handsOn : Bool} {W W' : World} {args : Array Value} {ds gs : List (DataW H)} {before : List MemPlace}
    (hl : laidOutB P = true) (hr : (f.params.toList.all fun t => P.readableRec t && decide (t < P.types.size)) = true) (hvars : s.vars = []) (hargs : (s.fn H (ds ++ gs)).args = ds) (hres : (s.fn H (ds ++ gs)).results = [.lit (.bool true)]) (hv : (s.fn H (ds ++ gs)).vars = [])
    {tb : TypeId} (hb : f.resultTypes = #[tb]) (htb : P.underlying tb = some .bool)
    (hW : DataW.Whole enc P f.params.toList s.vars false W args.toList ds gs before) (hk : Keep (fun _ => True) W W') : s.post enc P f false fresh handsOn false W args (.bool true) W' := by
  have hlt := hW.lt
  obtain ⟨p, q, hA, hV, hpq, hfz, hnd⟩ := id hW
  refine ⟨ds, gs, before, [], p, [], hW, ?_, ?_, ?_, Below.frame hk.below _, fun h => by cases h⟩
  · rw [hres, hb]
    exact trodAll_mk1 (shut_bool htb _)
  · rw [hargs]
    exact trodAll_kept hl hk.below _ _ _ _ hr hA (fun x hx => hlt x (by rw [hpq]; exact List.mem_append_left _ hx))
  · rw [hv, hvars]
    rfl
end

/-- A call that needs no memory of its own at the start. -/
theorem start_pure {E : Env} {f : FuncId} {k : Nat} {M : Mem} {W : World} {vals : Array Value} {args : List AV} {K : AV → T Blk → Nat → VT} (hm : E.P.follows .mixedOrders = true) (hctr : CtrOK E) (hG : GlobOK M E.gl)
    (hM : ∀ B i v, M B i = some v → W.cell? ⟨B, i, none⟩ = some v ∧ v.oneCell' = true) (hargs : ArgsRel (fun _ _ => none) M vals args) (hs : (vcFun E k f args .nil 0 K).sat) :
    Calls E.P f vals W fun e W' => ∃ v x ρ' M' hpt nx', e = .returned v ∧ Rel ρ' M' v x ∧ Keep (fun _ => True) W W' ∧ (K x hpt nx').sat := by
  have hS : SRel ⟨fun _ => True, M⟩ W 0 (fun _ _ => none) M (fun _ => .undef) (fun b => (T.nil : T Blk).get .dead b) 0 { tmps := #[], defers := [] } W := by
    refine ⟨rfl, fun t => .undef _, ⟨hM, fun b g sz pu s h => ?_, fun b b' g g' sz sz' pu pu' s s' L L' h => ?_, fun b g sz pu s h => ?_⟩, fun b _ => rfl, fun b g _ => rfl, Keep.refl _ W, fun B i v h => .inl h, MExt.refl M, fun b g sz pu s L h => ?_, rfl⟩
    all_goals simp [T.get] at h
  obtain ⟨_, hc⟩ := vcFun_sound hm hctr k f args .nil 0 K hs _ W 0 _ M _ _ W vals hG hS hargs
  exact hc.mono fun e W' ⟨v, x, ρ', M', hp', nx', h1, h2, h3, h4, h5, hpt, h6, h7⟩ => ⟨v, x, ρ', M', hpt, nx', h1, h4, h5.keep, h7⟩

theorem isBool_sat {b : Bool} {x : AV} {hp : T Blk} {nx : Nat} (h : (isBool b x hp nx).sat) : x = .bool b := by
  cases x <;> simp [isBool, VT.sat] at h
  subst h; rfl
theorem noEnv_ctr (P : Program) : CtrOK (noEnv P) := fun f args hp nx out h => by cases h
theorem glob_undef (M : Mem) : GlobOK M (fun _ => .undef) := fun _ => .undef _

/-- A closed run that answers true. -/
theorem closed_true {P : Program} (hm : P.follows .mixedOrders = true) {f : FuncId} {k : Nat} (h : (vcFun (noEnv P) k f [] .nil 0 (isBool true)).chk = true) (W : World) :
    Calls P f #[] W fun e W' => e = .returned (.bool true) ∧ Keep (fun _ => True) W W' := by
  have := start_pure (E := noEnv P) (M := fun _ _ => none) (W := W) (vals := #[]) hm (noEnv_ctr P) (glob_undef _) (fun B i v h => by cases h) ⟨rfl, fun i hi => by simp at hi⟩ (VT.sat_of_chk _ h)
  refine this.mono fun e W' ⟨v, x, ρ', M', hpt, nx', h1, h2, h3, h4⟩ => ?_
  rw [isBool_sat h4] at h2
  rw [h2.boolInv] at h1
  exact ⟨h1, h3⟩
end Pw
