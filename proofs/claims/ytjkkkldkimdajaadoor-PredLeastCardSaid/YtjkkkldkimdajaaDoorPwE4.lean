/- ENGINE, part E4: the operations on values. -/
import Derived.Test.YtjkkkldkimdajaaDoorPwE3
namespace Pw
set_option linter.unusedSimpArgs false
open Go

section
variable {P : Program} {o : Oper} {U : Base} {w0 : World} {n : Nat} {ρ : Rho} {M : Mem} {tm : Nat → AV} {hp : Nat → Blk} {nx : Nat} {a : Act} {w : World}

theorem vOf_rel {ρ M} {v : Value} {l : List AV} {m : List AV} {r : Bool} (h : Rel ρ M v (.agg l)) (he : eqCells l m = some r ∨ eqCells m l = some r) : v = vOf true l := by
  obtain ⟨cs, rfl, hs, hr⟩ := h.aggInv
  simp only [vOf]
  congr 1
  apply Array.ext
  · simp [hs]
  · intro i h1 h2
    have hi : i < l.length := by omega
    have hri := hr i hi
    have e1 : cs.getD i undef = cs[i] := by simp [Array.getD, h1]
    have e2 : l.getD i .undef = l[i] := by simp [List.getD, hi]
    rw [e1, e2] at hri
    have key : ∀ (l m : List AV) (r : Bool), eqCells l m = some r ∨ eqCells m l = some r → ∀ i (hi : i < l.length), ∃ y, (eqCell l[i] y).isSome = true ∨ (eqCell y l[i]).isSome = true := by
      intro l
      induction l with
      | nil => intro m r _ i hi; simp at hi
      | cons x l ih =>
        intro m r he i hi
        cases m with
        | nil => rcases he with he | he <;> simp [eqCells] at he
        | cons y m =>
          rcases he with he | he
          · rw [eqCells_cons] at he
            split at he
            · rename_i a b h1 h2
              cases i with
              | zero => exact ⟨y, .inl (by simp [h1])⟩
              | succ i => exact ih m b (.inl h2) i (by simpa using hi)
            · cases he
          · rw [eqCells_cons] at he
            split at he
            · rename_i a b h1 h2
              cases i with
              | zero => exact ⟨y, .inr (by simp [h1])⟩
              | succ i => exact ih m b (.inr h2) i (by simpa using hi)
            · cases he
    obtain ⟨y, hy⟩ := key l m r he i hi
    simp only [List.getElem_toArray, List.getElem_map]
    generalize l[i] = x at hy hri
    cases x with
    | int k n => exact hri.intInv
    | bool b => exact hri.boolInv
    | str s => exact hri.strInv
    | _ => rcases hy with hy | hy <;> (cases y <;> simp [eqCell] at hy)

theorem eqGuardType_plain : ∀ (m : Nat) (d : Nat) (t : TypeId), m ≤ d → plainEq P m t = true → P.eqGuardType d t = false
  | 0, _, _, _, h => by simp [plainEq] at h
  | m + 1, 0, _, hd, _ => by omega
  | m + 1, d + 1, t, hd, h => by
    unfold plainEq at h
    unfold Program.eqGuardType
    split at h
    · rename_i hu; simp [hu]
    · rename_i hu; simp [hu]
    · rename_i hu; simp [hu]
    · rename_i fs hu
      simp only [Bool.and_eq_true, List.all_eq_true, bne_iff_ne, ne_eq] at h
      simp only [hu]
      rw [← Array.any_toList, List.any_eq_false]
      intro f hf
      have := eqGuardType_plain m d f.type (by omega) (h.1.1 f hf).2
      simp [this]
    · rename_i n e hu
      simp only [Bool.and_eq_true] at h
      simp only [hu]
      exact eqGuardType_plain m d e (by omega) h.1
    · cases h

theorem run_binAgg (op : BinOp) (t : TypeId) (x y : Operand) (u v' : Value) (l m : List AV) (hu : Rel ρ M u (.agg l)) (hv : Rel ρ M v' (.agg m)) (need : Bool) (v : AV) (eff) (ob)
    (h : binAV P op t (.agg l) (.agg m) = some ⟨need, v, eff, ob⟩) :
    eff = [] ∧ ob = none ∧ ∃ r, (do eqGuard op t x y u v'; Go.binOp op t u v' : Sem Value).run P w = .ok r w ∧ RelP M r v := by
  simp only [binAV] at h
  split at h
  case isFalse => cases h
  rename_i hc
  simp only [Bool.and_eq_true, beq_iff_eq] at hc
  obtain ⟨⟨⟨h1, h2⟩, h3⟩, h4⟩ := hc
  have main : ∀ r, eqCells l m = some r → (Op.equal t u v').run P w = .ok r w := by
    intro r he
    rw [vOf_rel hu (.inl he), vOf_rel hv (.inr he)]
    have := run_equalP (P := P) 20 9980 t h1 w l m r h3 h4 he
    rw [h2] at this
    exact this
  obtain ⟨cs, rfl, _, _⟩ := hu.aggInv
  obtain ⟨ds, rfl, _, _⟩ := hv.aggInv
  have hg : P.eqGuardType P.depth t = false := eqGuardType_plain 20 P.depth t (by simp only [Program.depth, Made.depth]; omega) h1
  have guard : ∀ op', op' = .eql ∨ op' = .neq → (eqGuard op' t x y (.agg cs) (.agg ds)).run P w = .ok () w := by
    intro op' ho
    rcases ho with rfl | rfl <;> simp [eqGuard, hg]
  cases op
  case eql =>
    simp only [Option.bind_eq_some_iff, ok1, Option.some.injEq, SR.mk.injEq] at h
    obtain ⟨r, he, h0, rfl, rfl, rfl⟩ := h
    refine ⟨rfl, rfl, .bool r, ?_, .bool _⟩
    rw [Sem.run_bind, guard _ (.inl rfl)]
    simp only [Result.andThen_ok, Go.binOp, Sem.run_bind, main r he, Sem.run_pure]
  case neq =>
    simp only [Option.bind_eq_some_iff, ok1, Option.some.injEq, SR.mk.injEq] at h
    obtain ⟨r, he, h0, rfl, rfl, rfl⟩ := h
    refine ⟨rfl, rfl, .bool (!r), ?_, .bool _⟩
    rw [Sem.run_bind, guard _ (.inr rfl)]
    simp only [Result.andThen_ok, Go.binOp, Sem.run_bind, main r he, Sem.run_pure]
  all_goals cases h

theorem step_bin (h : SRel U w0 n ρ M tm hp nx a w) (op : BinOp) (t t2 : TypeId) (x y : Operand) (ho : o.op = .binOp op t x y t2) (ev : Operand → AV) (hx : Rel ρ M (a.eval x) (ev x)) (hy : Rel ρ M (a.eval y) (ev y)) (need v eff ob)
    (hs : stepOp P (.binOp op t x y t2) ev hp nx = some ⟨need, v, eff, ob⟩) (hn : need = true) : OpOut P o U w0 n ρ M tm hp nx a w v eff := by
  simp only [stepOp] at hs
  have fin : ∀ r, (do eqGuard op t x y (a.eval x) (a.eval y); Go.binOp op t (a.eval x) (a.eval y) : Sem Value).run P w = .ok r w → RelP M r v → eff = [] → OpOut P o U w0 n ρ M tm hp nx a w v eff := by
    intro r hr hv he
    subst he
    refine OpOut.same h ?_ (.pure hv)
    simp only [execOp, ho]
    rw [run_v, hr]
    rfl
  have plain : ∀ u v', a.eval x = u → a.eval y = v' → u ≠ .nilIface → (∀ cs, u ≠ .agg cs) → (∃ r, (Go.binOp op t u v').run P w = .ok r w ∧ RelP M r v) → eff = [] → OpOut P o U w0 n ρ M tm hp nx a w v eff := by
    intro u v' e1 e2 h1 h2 ⟨r, hr, hv⟩ he
    refine fin r ?_ hv he
    rw [e1, e2, Sem.run_bind, run_eqGuard_plain op t x y u v' h1 h2]
    exact hr
  generalize hex : ev x = ex at hs hx
  generalize hey : ev y = ey at hs hy
  cases ex <;> cases ey <;> first
    | (simp only [binAV] at hs; cases hs; done)
    | skip
  · have e1 := hx.intInv
    have e2 := hy.intInv
    obtain ⟨h1, h2, h3⟩ := run_binInt (P := P) (M := M) (w := w) op t _ _ _ _ need v eff ob hs hn
    exact plain _ _ e1 e2 (by simp) (by simp) h3 h1
  · have e1 := hx.boolInv
    have e2 := hy.boolInv
    obtain ⟨h1, h2, h3⟩ := run_binBool (P := P) (M := M) (w := w) op t _ _ need v eff ob hs
    exact plain _ _ e1 e2 (by simp) (by simp) h3 h1
  · have e1 := hx.strInv
    have e2 := hy.strInv
    obtain ⟨h1, h2, h3⟩ := run_binStr (P := P) (M := M) (w := w) op t _ _ need v eff ob hs hn
    exact plain _ _ e1 e2 (by simp) (by simp) h3 h1
  · obtain ⟨h1, h2, r, h3, h4⟩ := run_binAgg (P := P) (w := w) op t x y _ _ _ _ hx hy need v eff ob hs
    exact fin r h3 h4 h1

end
end Pw
