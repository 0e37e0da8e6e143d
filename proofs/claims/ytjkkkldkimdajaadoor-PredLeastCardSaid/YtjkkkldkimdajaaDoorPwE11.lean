/- ENGINE, part E11: every operation of the engine's. -/
import Derived.Test.YtjkkkldkimdajaaDoorPwE10
namespace Pw
set_option linter.unusedSimpArgs false
open Go

section
variable {P : Program} {o : Oper} {U : Base} {w0 : World} {n : Nat} {ρ : Rho} {M : Mem} {tm : Nat → AV} {hp : Nat → Blk} {nx : Nat} {a : Act} {w : World}

theorem run_builtin (b : Builtin) (args : Array Operand) (ts : Array TypeId) (ho : o.op = .call { callee := .builtin b, args := args, argTypes := ts }) (f : Array Value → Sem Value)
    (hf : ∀ cs, builtin b ts o.type cs (args.map a.eval) = (do pure (Next.value (← f (args.map a.eval))) : Sem Next)) {r : Value} (hr : (f (args.map a.eval)).run P w = .ok r w) :
    (execOp a.eval o).run P w = .ok (.value r) w := by
  simp only [execOp, ho, resolve, Sem.run_bind, Sem.run_pure, Result.andThen_ok, invoke]
  rw [hf, run_v, hr]
  rfl

theorem lenAV_rel {ρ M} {v : Value} {x : AV} {m : Nat} (h : Rel ρ M v x) (hl : lenAV x = some m) : ∃ ad cap, v = .slice ad m cap := by
  cases x <;> simp only [lenAV, Option.some.injEq, reduceCtorEq] at hl
  · subst hl
    cases h with | pure h => cases h; exact ⟨none, 0, rfl⟩
  · subst hl
    obtain ⟨L, _, hc⟩ := h.slInv
    rcases hc with ⟨_, cap, hq, _⟩ | ⟨h1, _, ad, hq⟩
    · exact ⟨_, cap, hq⟩
    · exact ⟨ad, 0, by rw [hq, h1]⟩
  · subst hl
    rcases h.rolInv with ⟨h1, ad, cap, hq, _⟩ | ⟨_, B, off, cap, sz, vals, hq, _⟩
    · exact ⟨ad, cap, by rw [hq, h1]⟩
    · exact ⟨_, cap, hq⟩
  · subst hl
    rcases h.rofInv with ⟨h1, ad, cap, hq, _⟩ | ⟨_, B, off, cap, sz, vals, hq, _⟩
    · exact ⟨ad, cap, by rw [hq, h1]⟩
    · exact ⟨_, cap, hq⟩

theorem step_builtin (h : SRel U w0 n ρ M tm hp nx a w) (b : Builtin) (args : Array Operand) (ts : Array TypeId) (ho : o.op = .call { callee := .builtin b, args := args, argTypes := ts }) (ev : Operand → AV)
    (hx : ∀ x ∈ args, Rel ρ M (a.eval x) (ev x)) (need v eff ob)
    (hs : builtinAV P b ts.toList hp nx (args.toList.map ev) = some ⟨need, v, eff, ob⟩) (hn : need = true) : OpOut P o U w0 n ρ M tm hp nx a w v eff := by
  obtain ⟨args⟩ := args
  obtain ⟨ts⟩ := ts
  simp only at hs
  cases b
  case len =>
    match ts, args, hs with
    | [], _, hs => simp [builtinAV] at hs
    | _ :: _, [], hs => simp [builtinAV] at hs
    | _ :: _, _ :: _ :: _, hs => simp [builtinAV] at hs
    | t :: tl, [q], hs =>
    simp only [builtinAV, List.map_cons, List.map_nil] at hs
    have hq := hx q (by simp)
    have hrun : ∀ r, (Builtin.len_ ⟨t :: tl⟩ o.type #[a.eval q]).run P w = .ok r w → (execOp a.eval o).run P w = .ok (.value r) w := fun r hr =>
      run_builtin .len _ _ ho (fun as => Builtin.len_ ⟨t :: tl⟩ o.type as) (fun cs => rfl) (by simpa using hr)
    generalize ev q = x at hs hq
    split at hs
    · rename_i s hu
      simp only [ok1, Option.some.injEq, SR.mk.injEq] at hs
      obtain ⟨_, rfl, rfl, rfl⟩ := hs
      refine OpOut.same h (u := .int .i64 s.length) (hrun _ ?_) (.pure (.int _ _))
      have e1 : (ByteArray.mk ⟨s⟩).size = s.length := rfl
      simp [Builtin.len_, run_underlying hu, hq.strInv, goInt, e1]
    · rename_i m e hu
      simp only [ok1, Option.some.injEq, SR.mk.injEq] at hs
      obtain ⟨_, rfl, rfl, rfl⟩ := hs
      refine OpOut.same h (u := .int .i64 m) (hrun _ ?_) (.pure (.int _ _))
      simp [Builtin.len_, run_underlying hu, goInt]
    · rename_i e hu
      split at hs
      · rename_i m e' hu2
        simp only [ok1, Option.some.injEq, SR.mk.injEq] at hs
        obtain ⟨_, rfl, rfl, rfl⟩ := hs
        refine OpOut.same h (u := .int .i64 m) (hrun _ ?_) (.pure (.int _ _))
        simp [Builtin.len_, run_underlying hu, run_underlying hu2, goInt]
      · cases hs
    · rename_i e hu
      simp only [Option.bind_eq_some_iff, ok1, Option.some.injEq, SR.mk.injEq] at hs
      obtain ⟨m, hm, _, rfl, rfl, rfl⟩ := hs
      obtain ⟨ad, cap, hv⟩ := lenAV_rel hq hm
      refine OpOut.same h (u := .int .i64 m) (hrun _ ?_) (.pure (.int _ _))
      simp [Builtin.len_, run_underlying hu, hv, goInt]
    · cases hs
  case append =>
    match ts, args, hs with
    | [], _, hs => simp [builtinAV] at hs
    | [_], _, hs => simp [builtinAV] at hs
    | _ :: _ :: _ :: _, _, hs => simp [builtinAV] at hs
    | [_, _], [], hs => simp [builtinAV] at hs
    | [_, _], [_], hs => simp [builtinAV] at hs
    | [_, _], _ :: _ :: _ :: _, hs => simp [builtinAV] at hs
    | [t, t2], [q, q'], hs =>
    simp only [builtinAV, List.map_cons, List.map_nil] at hs
    split at hs
    · rename_i ht2
      exact step_append h t t2 q q' ho ev (hx q (by simp)) (hx q' (by simp)) (srcOK_spec ht2) need v eff ob hs hn
    · cases hs
  case min =>
    match args, hs with
    | [], hs => simp [builtinAV] at hs
    | [_], hs => simp [builtinAV] at hs
    | _ :: _ :: _ :: _, hs => simp [builtinAV] at hs
    | [q, q'], hs =>
    simp only [List.map_cons, List.map_nil] at hs
    have h1 := hx q (by simp)
    have h2 := hx q' (by simp)
    generalize ev q = x at hs h1
    generalize ev q' = y at hs h2
    cases x <;> cases y <;> simp only [builtinAV, reduceCtorEq] at hs
    split at hs
    · simp only [ok1, Option.some.injEq, SR.mk.injEq] at hs
      obtain ⟨_, rfl, rfl, rfl⟩ := hs
      refine OpOut.same h (u := .int _ (minI _ _)) (run_builtin .min _ _ ho (fun as => Builtin.min_ ⟨ts⟩ o.type as) (fun cs => rfl) ?_) (.pure (.int _ _))
      simp [Builtin.min_, Builtin.min2, h1.intInv, h2.intInv, minI]
    · cases hs
  case max =>
    match args, hs with
    | [], hs => simp [builtinAV] at hs
    | [_], hs => simp [builtinAV] at hs
    | _ :: _ :: _ :: _, hs => simp [builtinAV] at hs
    | [q, q'], hs =>
    simp only [List.map_cons, List.map_nil] at hs
    have h1 := hx q (by simp)
    have h2 := hx q' (by simp)
    generalize ev q = x at hs h1
    generalize ev q' = y at hs h2
    cases x <;> cases y <;> simp only [builtinAV, reduceCtorEq] at hs
    split at hs
    · simp only [ok1, Option.some.injEq, SR.mk.injEq] at hs
      obtain ⟨_, rfl, rfl, rfl⟩ := hs
      refine OpOut.same h (u := .int _ (maxI _ _)) (run_builtin .max _ _ ho (fun as => Builtin.max_ ⟨ts⟩ o.type as) (fun cs => rfl) ?_) (.pure (.int _ _))
      simp [Builtin.max_, Builtin.max2, h1.intInv, h2.intInv, maxI]
    · cases hs
  all_goals simp [builtinAV] at hs

/-- **EVERY OPERATION THAT THE ENGINE TAKES DOES WHAT ITS STEP SAYS.** -/
theorem stepOp_sound (h : SRel U w0 n ρ M tm hp nx a w) (ev : Operand → AV) (hx : ∀ x ∈ o.op.operands, Rel ρ M (a.eval x) (ev x)) (need v eff ob)
    (hs : stepOp P o.op ev hp nx = some ⟨need, v, eff, ob⟩) (hn : need = true) (hob : ∀ p, ob = some p → p) : OpOut P o U w0 n ρ M tm hp nx a w v eff := by
  cases ho : o.op
  case move x =>
    rw [ho] at hs hx
    simp only [stepOp, ok1, Option.some.injEq, SR.mk.injEq] at hs
    obtain ⟨_, rfl, rfl, rfl⟩ := hs
    exact OpOut.same h (by simp [execOp, ho]) (hx x (by simp [Op.operands]))
  case assign x =>
    rw [ho] at hs hx
    simp only [stepOp, ok1, Option.some.injEq, SR.mk.injEq] at hs
    obtain ⟨_, rfl, rfl, rfl⟩ := hs
    exact OpOut.same h (by simp [execOp, ho]) (hx x (by simp [Op.operands]))
  case alloc t => rw [ho] at hs; exact step_alloc h t ho ev need v eff ob hs
  case box t x => rw [ho] at hs hx; exact step_box h t x ho ev (hx x (by simp [Op.operands])) need v eff ob hs
  case build t parts =>
    rw [ho] at hs hx
    refine step_build h t parts ho ev (fun q hq => hx q.2 ?_) need v eff ob hs
    simp only [Op.operands, List.mem_toArray, List.mem_map]
    exact ⟨q, hq, rfl⟩
  case buildSlice t len parts =>
    rw [ho] at hs hx
    refine step_buildSlice h t len parts ho ev (fun q hq => hx q.2 ?_) need v eff ob hs
    simp only [Op.operands, List.mem_toArray, List.mem_map]
    exact ⟨q, hq, rfl⟩
  case load t x => rw [ho] at hs hx; exact step_load h t x ho ev (hx x (by simp [Op.operands])) need v eff ob hs hn
  case store t x y => rw [ho] at hs hx; exact step_store h t x y ho ev (hx x (by simp [Op.operands])) (hx y (by simp [Op.operands])) need v eff ob hs hn
  case nilCheck x => rw [ho] at hs hx; exact step_nilCheck h x ho ev (hx x (by simp [Op.operands])) need v eff ob hs
  case binOp op t x y t2 => rw [ho] at hs hx; exact step_bin h op t t2 x y ho ev (hx x (by simp [Op.operands])) (hx y (by simp [Op.operands])) need v eff ob hs hn
  case unOp op t x => rw [ho] at hs hx; exact step_un h op t x ho ev (hx x (by simp [Op.operands])) need v eff ob hs
  case convert s d x => rw [ho] at hs hx; exact step_convert h s d x ho ev (hx x (by simp [Op.operands])) need v eff ob hs hn hob
  case makeFunc f fs cs => rw [ho] at hs hx; exact step_makeFunc h f fs cs ho ev (fun x hxx => hx x (by simpa [Op.operands] using hxx)) need v eff ob hs
  case makeSlice t x y => rw [ho] at hs hx; exact step_makeSlice h t x y ho ev (hx x (by simp [Op.operands])) (hx y (by simp [Op.operands])) need v eff ob hs hn
  case slice t x lo hi mx =>
    rw [ho] at hs hx
    refine step_slice h t x lo hi mx ho ev (hx x (by simp [Op.operands])) (fun y hy => hx y ?_) (fun y hy => hx y ?_) (fun y hy => hx y ?_) need v eff ob hs hn
    all_goals (simp only [Op.operands, Array.mem_append]; simp at hy; simp [hy])
  case fieldAddr t x f => rw [ho] at hs hx; exact step_fieldAddr h t x f ho ev (hx x (by simp [Op.operands])) need v eff ob hs
  case field t x f => rw [ho] at hs hx; exact step_field h t x f ho ev (hx x (by simp [Op.operands])) need v eff ob hs
  case indexAddr t x y => rw [ho] at hs hx; exact step_indexAddr h t x y ho ev (hx x (by simp [Op.operands])) (hx y (by simp [Op.operands])) need v eff ob hs hn
  case index t x y => rw [ho] at hs hx; exact step_index h t x y ho ev (hx x (by simp [Op.operands])) (hx y (by simp [Op.operands])) need v eff ob hs hn
  case extract x i => rw [ho] at hs hx; exact step_extract h x i ho ev (hx x (by simp [Op.operands])) need v eff ob hs
  case call c =>
    rw [ho] at hs hx
    obtain ⟨callee, args, ts⟩ := c
    cases callee with
    | builtin b =>
      refine step_builtin h b args ts ho ev (fun x hxx => hx x ?_) need v eff ob hs hn
      simp [Op.operands, Call.operands, hxx]
    | _ => simp [stepOp] at hs
  all_goals (rw [ho] at hs; simp [stepOp] at hs)

end
end Pw
