/- ENGINE, part F12: code. -/
import Derived.Test.YtjkkkldkimdajaaDoorPwF11
import Derived.LoopN
import Derived.Deep.LoopGhost
import Derived.Scope
namespace Pw
set_option linter.unusedSimpArgs false
open Go

def exOf : Ex → Exit
  | .normal => .normal
  | .exit id => .exit id
  | .ret => .ret

/-- What code leads to. -/
def CodeK (U : Base) (w0 : World) (n : Nat) (ρ : Rho) (M : Mem) (s : St) (K : Ex → St → VT) (Q : Exit → Act → World → Prop) : Prop :=
  ∀ ex s' ρ' M' a' w', Grow ρ ρ' s.hpf s'.hpf s.nx s'.nx → MExt M M' → SRel U w0 n ρ' M' s'.tmf s'.hpf s'.nx a' w' → (K ex s').sat → Q (exOf ex) a' w'

theorem CodeK.trans {U w0 n ρ ρ1 M M1} {s s1 : St} {K Q} (h : CodeK U w0 n ρ M s K Q) (hg : Grow ρ ρ1 s.hpf s1.hpf s.nx s1.nx) (hM : MExt M M1) : CodeK U w0 n ρ1 M1 s1 K Q :=
  fun ex s' ρ' M' a' w' k1 k2 k3 k4 => h ex s' ρ' M' a' w' (hg.trans k1) (hM.trans k2) k3 k4

section
variable {E : Env} {call : CallH} (hm : E.P.follows .mixedOrders = true) (hc : CallS E.P E.gl call) (hctr : CtrOK E) {U : Base} {w0 : World} {n : Nat} (hG : GlobOK U.M0 E.gl) (f : FuncId)
include hm hc hctr hG

/-- **CODE.** -/
theorem vcCode_sound : ∀ (c : Code) (lk : Option Nat) (K : Ex → St → VT) (s : St) (ρ : Rho) (M : Mem) (a : Act) (w : World) (Q : Exit → Act → World → Prop), (vcCode E n f call c lk K s).sat → SRel U w0 n ρ M s.tmf s.hpf s.nx a w →
    CodeK U w0 n ρ M s K Q → c.wp E.P Q a w
  | .skip, lk, K, s, ρ, M, a, w, Q, hs, h, hK => wp_skip (hK .normal s ρ M a w (Grow.refl _ _ _) (MExt.refl M) h hs)
  | .label _, lk, K, s, ρ, M, a, w, Q, hs, h, hK => wp_label (hK .normal s ρ M a w (Grow.refl _ _ _) (MExt.refl M) h hs)
  | .ret, lk, K, s, ρ, M, a, w, Q, hs, h, hK => wp_ret (hK .ret s ρ M a w (Grow.refl _ _ _) (MExt.refl M) h hs)
  | .exit id, lk, K, s, ρ, M, a, w, Q, hs, h, hK => wp_exit (hK (.exit id) s ρ M a w (Grow.refl _ _ _) (MExt.refl M) h hs)
  | .region id ops dr, lk, K, s, ρ, M, a, w, Q, hs, h, hK => vcRegion_sound hm hc hctr hG hs h (fun s' ρ' M' a' w' k1 k2 k3 k4 => hK .normal s' ρ' M' a' w' k1 k2 k3 k4)
  | .seq x y, lk, K, s, ρ, M, a, w, Q, hs, h, hK => by
    refine wp_seq (vcCode_sound x none _ s ρ M a w _ hs h fun ex s' ρ' M' a' w' k1 k2 k3 k4 => ?_)
    cases ex with
    | normal => exact vcCode_sound y none K s' ρ' M' a' w' Q k4 k3 (hK.trans k1 k2)
    | exit id => exact hK (.exit id) s' ρ' M' a' w' k1 k2 k3 k4
    | ret => exact hK .ret s' ρ' M' a' w' k1 k2 k3 k4
  | .cond c x y, lk, K, s, ρ, M, a, w, Q, hs, h, hK => by
    simp only [vcCode] at hs
    split at hs
    · rename_i t ht
      have hcond : a.eval c = .bool t := by
        have : Rel ρ M (a.eval c) (evOf E.gl s.tmf c) := by
          cases c with
          | tmp t => exact h.tm t
          | const v => exact .pure (avOf_rel M v)
          | global g => exact .pure ((hG g).mono h.memE)
          | func f => exact .pure (.fn _)
        rw [ht] at this
        exact this.boolInv
      rcases VB.inv hs with ⟨hb, hs⟩ | ⟨hb, hs⟩
      · subst hb; exact wp_cond_true hcond (vcCode_sound x none K s ρ M a w Q hs h hK)
      · subst hb; exact wp_cond_false hcond (vcCode_sound y none K s ρ M a w Q hs h hK)
    · exact hs.elim
  | .block id c, lk, K, s, ρ, M, a, w, Q, hs, h, hK => by
    refine wp_block (vcCode_sound c (some id) _ s ρ M a w _ hs h fun ex s' ρ' M' a' w' k1 k2 k3 k4 => ?_)
    cases ex with
    | normal => exact hK .normal s' ρ' M' a' w' k1 k2 k3 k4
    | exit id' =>
      simp only [exOf, Exit.inBlock]
      simp only at k4
      split
      · rename_i e
        rw [if_pos e] at k4
        exact hK .normal s' ρ' M' a' w' k1 k2 k3 k4
      · rename_i e
        rw [if_neg e] at k4
        exact hK (.exit id') s' ρ' M' a' w' k1 k2 k3 k4
    | ret => exact hK .ret s' ρ' M' a' w' k1 k2 k3 k4
  | .scope c, lk, K, s, ρ, M, a, w, Q, hs, h, hK => by
    refine wp_scope_straight (vcCode_sound c none K s ρ M a w _ hs h fun ex s' ρ' M' a' w' k1 k2 k3 k4 => ?_)
    have := hK ex s' ρ' M' a' w' k1 k2 k3 k4
    cases ex <;> exact this
  | .loop c, lk, K, s, ρ, M, a, w, Q, hs, h, hK => by
    simp only [vcCode] at hs
    split at hs
    · rename_i I _
      simp only [VT.sat] at hs
      obtain ⟨hle, ⟨i0, hi0, hm0⟩, hall⟩ := NB.inv hs
      have hle : s.nx ≤ I.nx := by simpa using hle
      have free : ∀ {ρ : Rho} {M : Mem} {s : St} {a : Act} {w : World}, SRel U w0 n ρ M s.tmf s.hpf s.nx a w → ∀ b g L, ρ b g = some L → b < s.nx := fun hh b g L e => by
        rcases Nat.lt_or_ge b _ with h1 | h1
        · exact h1
        · rw [hh.free b g h1] at e; cases e
      let J : Nat → Act → World → Prop := fun k a w => ∃ i ρ' M', I.pre i ∧ I.μ i = k ∧ Grow ρ ρ' s.hpf ((I.st i).mk' I.nx).hpf s.nx I.nx ∧ MExt M M' ∧ SRel U w0 n ρ' M' ((I.st i).mk' I.nx).tmf ((I.st i).mk' I.nx).hpf I.nx a w
      refine wp_loop_ghost J (I.μ i0) ?_ ?_
      · obtain ⟨k1, k2, k3, k4⟩ := met_sound h hm0
        refine ⟨i0, _, M, hi0, rfl, ⟨⟨fun b g L e => k2 b g L (Nat.lt_of_lt_of_le (free h b g L e) hle) e, fun b g h1 _ => k4 b g h1 (Nat.lt_of_lt_of_le h1 hle)⟩, hle, k3⟩, MExt.refl M, k1⟩
      · rintro k a w ⟨i, ρ1, M1, hi, rfl, hg, hM, hS⟩
        refine vcCode_sound c none _ ((I.st i).mk' I.nx) ρ1 M1 a w _ (hall i hi) hS fun ex s' ρ' M' a' w' k1 k2 k3 k4 => ?_
        cases ex with
        | normal =>
          obtain ⟨i', hi', hmu, hmet⟩ := k4
          obtain ⟨m1, m2, m3, m4⟩ := met_sound k3 hmet
          have hnx : I.nx ≤ s'.nx := k1.le
          refine ⟨I.μ i', hmu, i', _, M', hi', rfl, hg.trans ⟨⟨fun b g L e => ?_, fun b g h1 h2 => ?_⟩, Nat.le_refl _, fun b h1 h2 => ?_⟩, hM.trans k2, m1⟩
          · have hb : b < I.nx := free (s := (I.st i).mk' I.nx) hS b g L e
            exact m2 b g L hb (k1.rx.ext b g L e)
          · rw [m4 b g (Nat.lt_of_lt_of_le h1 hnx) h1]
            exact k1.rx.dead b g h1 h2
          · exact m3 b (Nat.lt_of_lt_of_le h1 hnx) (k1.dead b h1 h2)
        | exit id => exact hK (.exit id) s' ρ' M' a' w' (hg.trans k1) (hM.trans k2) k3 k4
        | ret => exact hK .ret s' ρ' M' a' w' (hg.trans k1) (hM.trans k2) k3 k4
    · refine wp_loop_rounds E.fuelL ?_
      have : ∀ (k : Nat) (s : St) (ρ : Rho) (M : Mem) (a : Act) (w : World), (unroll (fun K' s' => vcCode E n f call c none K' s') k K s).sat → SRel U w0 n ρ M s.tmf s.hpf s.nx a w → CodeK U w0 n ρ M s K Q → Code.rounds E.P c Q k a w := by
        intro k
        induction k with
        | zero => intro s ρ M a w hs; exact hs.elim
        | succ k ih =>
          intro s ρ M a w hs h hK
          rw [rounds_succ]
          refine vcCode_sound c none _ s ρ M a w _ hs h fun ex s' ρ' M' a' w' k1 k2 k3 k4 => ?_
          cases ex with
          | normal => exact ih s' ρ' M' a' w' k4 k3 (hK.trans k1 k2)
          | exit id => exact hK (.exit id) s' ρ' M' a' w' k1 k2 k3 k4
          | ret => exact hK .ret s' ρ' M' a' w' k1 k2 k3 k4
      exact this E.fuelL s ρ M a w hs h hK
  | .goto .., lk, K, s, ρ, M, a, w, Q, hs, h, hK => hs.elim
  | .refuse .., lk, K, s, ρ, M, a, w, Q, hs, h, hK => hs.elim
end
end Pw
