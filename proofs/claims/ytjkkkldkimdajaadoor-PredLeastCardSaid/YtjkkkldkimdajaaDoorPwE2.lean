/- ENGINE, part E2: '==' on structs and arrays of plain scalars, cell by cell. -/
import Derived.Test.YtjkkkldkimdajaaDoorPwE
namespace Pw
set_option linter.unusedSimpArgs false
open Go

def cvA : AV → Value
  | .int k n => .int k n
  | .bool b => .bool b
  | .str s => .string ⟨⟨s⟩⟩
  | _ => undef
def vOf (agg : Bool) (l : List AV) : Value := match agg with | true => .agg (l.map cvA).toArray | false => cvA (l.getD 0 .undef)

theorem eqCells_cons (x y : AV) (l m : List AV) : eqCells (x :: l) (y :: m) = match eqCell x y, eqCells l m with | some a, some b => some (a && b) | _, _ => none := by
  rw [eqCells]
  cases eqCell x y <;> cases eqCells l m <;> rfl

theorem eqCells_len : ∀ (l m : List AV) (r : Bool), eqCells l m = some r → l.length = m.length
  | [], [], _, _ => rfl
  | [], _ :: _, _, h => by simp [eqCells] at h
  | _ :: _, [], _, h => by simp [eqCells] at h
  | x :: l, y :: m, r, h => by
    rw [eqCells_cons] at h
    split at h
    · rename_i a b h1 h2
      simp [eqCells_len l m b h2]
    · cases h

theorem eqCells_append : ∀ (a c b d : List AV) (r : Bool), a.length = b.length → eqCells (a ++ c) (b ++ d) = some r →
    ∃ r1 r2, eqCells a b = some r1 ∧ eqCells c d = some r2 ∧ r = (r1 && r2)
  | [], c, [], d, r, _, h => ⟨true, r, by simp [eqCells], h, by simp⟩
  | [], _, _ :: _, _, _, hl, _ => by simp at hl
  | _ :: _, _, [], _, _, hl, _ => by simp at hl
  | x :: a, c, y :: b, d, r, hl, h => by
    simp only [List.cons_append] at h
    rw [eqCells_cons] at h
    split at h
    · rename_i a1 b1 h1 h2
      obtain ⟨r1, r2, h3, h4, h5⟩ := eqCells_append a c b d b1 (by simpa using hl) h2
      refine ⟨a1 && r1, r2, ?_, h4, ?_⟩
      · rw [eqCells_cons, h1, h3]
      · cases h; rw [h5, Bool.and_assoc]
    · cases h

section
variable {P : Program} (w : World)

theorem eq_isAgg {d : TypeDesc} {t : TypeId} (hu : P.underlying t = some d) : (isAgg t).run P w = .ok (isAggT P t) w := by
  unfold isAgg isAggT
  rw [Sem.run_bind, run_underlying hu w, hu]
  cases d <;> rfl

theorem part_vOf {e : TypeId} {d : TypeDesc} (hu : P.underlying e = some d) (hs : isAggT P e = true ∨ P.cellsOf e = 1) (l : List AV) (off : Nat) (h : off + P.cellsOf e ≤ l.length) :
    (part e (l.map cvA).toArray off).run P w = .ok (vOf (isAggT P e) ((l.drop off).take (P.cellsOf e))) w := by
  obtain ⟨i, hi⟩ := info_of_underlying hu
  unfold part
  rw [Sem.run_bind, eq_isAgg w hu]
  simp only [Result.andThen_ok]
  cases ha : isAggT P e with
  | true =>
    rw [if_pos rfl, Sem.run_bind, run_sizeOf' hi]
    simp only [Result.andThen_ok, Sem.run_pure, vOf]
    congr 2
    apply Array.ext'
    simp [Array.toList_extract, List.extract, List.map_take, List.map_drop]
  | false =>
    have hs1 : P.cellsOf e = 1 := by rcases hs with hs | hs; · rw [ha] at hs; cases hs
                                     · exact hs
    have hlt : off < l.length := by omega
    simp [vOf, hs1, hlt, List.getD]

def EqP (P : Program) (mm dd : Nat) (e : TypeId) : Prop :=
  ∀ (w : World) (l m : List AV) (r : Bool), l.length = P.cellsOf e → kindsOK P mm e l = true → eqCells l m = some r →
    (Op.equalIn dd e (vOf (isAggT P e) l) (vOf (isAggT P e) m)).run P w = .ok r w

theorem drop_drop' (l : List AV) (a b : Nat) : (l.drop a).drop b = l.drop (a + b) := by simp

theorem run_eqFieldsP (mm dd : Nat) (l m : List AV) (c : Nat) : ∀ (fs : List Field) (k : Nat) (r : Bool),
    (∀ f ∈ fs, f.name ≠ "_" ∧ (∃ d, P.underlying f.type = some d) ∧ (isAggT P f.type = true ∨ P.cellsOf f.type = 1) ∧ EqP P mm dd f.type ∧ kindsOK P mm f.type ((l.drop f.offset).take (P.cellsOf f.type)) = true) →
    tiles P c fs k = true → l.length = c → m.length = c → k ≤ c → eqCells (l.drop k) (m.drop k) = some r →
    (Op.eqFields dd (l.map cvA).toArray (m.map cvA).toArray fs).run P w = .ok r w
  | [], k, r, _, ht, hl, hm, hk, he => by
    simp only [tiles, beq_iff_eq] at ht
    rw [List.drop_eq_nil_of_le (by omega), List.drop_eq_nil_of_le (by omega)] at he
    simp only [eqCells, Option.some.injEq] at he
    subst he
    simp [Op.eqFields]
  | f :: fs, k, r, hall, ht, hl, hm, hk, he => by
    obtain ⟨hn, ⟨d, hu⟩, hs, hE, hK⟩ := hall f (by simp)
    simp only [tiles, Bool.and_eq_true, beq_iff_eq] at ht
    obtain ⟨hoff, ht⟩ := ht
    have hle : ∀ (gs : List Field) (j : Nat), tiles P c gs j = true → j ≤ c := by
      intro gs
      induction gs with
      | nil => intro j h; simp only [tiles, beq_iff_eq] at h; omega
      | cons g gs ih => intro j h; simp only [tiles, Bool.and_eq_true, beq_iff_eq] at h; have := ih _ h.2; omega
    have hk' := hle fs _ ht
    have e1 : l.drop k = (l.drop k).take (P.cellsOf f.type) ++ l.drop (k + P.cellsOf f.type) := by rw [← drop_drop', List.take_append_drop]
    have e2 : m.drop k = (m.drop k).take (P.cellsOf f.type) ++ m.drop (k + P.cellsOf f.type) := by rw [← drop_drop', List.take_append_drop]
    rw [e1, e2] at he
    obtain ⟨r1, r2, h1, h2, h3⟩ := eqCells_append _ _ _ _ _ (by simp; omega) he
    have ih := run_eqFieldsP mm dd l m c fs (k + P.cellsOf f.type) r2 (fun g hg => hall g (by simp [hg])) ht hl hm hk' h2
    have p1 := part_vOf (P := P) w hu hs l k (by omega)
    have p2 := part_vOf (P := P) w hu hs m k (by omega)
    have p3 := hE w _ _ r1 (by simp; omega) (by rw [← hoff]; exact hK) h1
    simp only [Op.eqFields, hn, ne_eq, not_false_eq_true, if_true, Sem.run_bind, hoff, p1, p2, p3, Result.andThen_ok]
    subst h3
    cases r1
    · simp
    · simpa using ih

theorem run_eqItemsP (mm dd : Nat) (e : TypeId) (d : TypeDesc) (hu : P.underlying e = some d) (hs : isAggT P e = true ∨ P.cellsOf e = 1) (hE : EqP P mm dd e) (l m : List AV) : ∀ (n k : Nat) (r : Bool),
    (∀ i ∈ List.range' k n, kindsOK P mm e ((l.drop (i * P.cellsOf e)).take (P.cellsOf e)) = true) → l.length = (k + n) * P.cellsOf e → m.length = (k + n) * P.cellsOf e → eqCells (l.drop (k * P.cellsOf e)) (m.drop (k * P.cellsOf e)) = some r →
    (Op.eqItems dd e (P.cellsOf e) (l.map cvA).toArray (m.map cvA).toArray (List.range' k n)).run P w = .ok r w
  | 0, k, r, hK, hl, hm, he => by
    rw [List.drop_eq_nil_of_le (by rw [hl]; simp), List.drop_eq_nil_of_le (by rw [hm]; simp)] at he
    simp only [eqCells, Option.some.injEq] at he
    subst he
    simp [Op.eqItems]
  | n + 1, k, r, hK, hl, hm, he => by
    have hk : k * P.cellsOf e + P.cellsOf e ≤ (k + (n + 1)) * P.cellsOf e := by
      rw [← Nat.succ_mul]; exact Nat.mul_le_mul_right _ (by omega)
    have e1 : l.drop (k * P.cellsOf e) = (l.drop (k * P.cellsOf e)).take (P.cellsOf e) ++ l.drop ((k + 1) * P.cellsOf e) := by rw [Nat.succ_mul, ← drop_drop', List.take_append_drop]
    have e2 : m.drop (k * P.cellsOf e) = (m.drop (k * P.cellsOf e)).take (P.cellsOf e) ++ m.drop ((k + 1) * P.cellsOf e) := by rw [Nat.succ_mul, ← drop_drop', List.take_append_drop]
    rw [e1, e2] at he
    obtain ⟨r1, r2, h1, h2, h3⟩ := eqCells_append _ _ _ _ _ (by simp; omega) he
    have ih := run_eqItemsP mm dd e d hu hs hE l m n (k + 1) r2 (fun i hi => hK i (by rw [List.range'_succ]; exact List.mem_cons_of_mem _ hi)) (by rw [hl]; congr 1; omega) (by rw [hm]; congr 1; omega) h2
    have p1 := part_vOf (P := P) w hu hs l (k * P.cellsOf e) (by omega)
    have p2 := part_vOf (P := P) w hu hs m (k * P.cellsOf e) (by omega)
    have p3 := hE w _ _ r1 (by simp; omega) (hK k (by rw [List.range'_succ]; exact List.mem_cons_self ..)) h1
    simp only [List.range'_succ, Op.eqItems, Sem.run_bind, p1, p2, p3, Result.andThen_ok]
    subst h3
    cases r1
    · simp
    · simpa using ih

theorem plainEq_shape : ∀ (d : Nat) (t : TypeId), plainEq P d t = true → (∃ k, P.underlying t = some k) ∧ (isAggT P t = true ∨ P.cellsOf t = 1)
  | 0, _, h => by simp [plainEq] at h
  | d + 1, t, h => by
    unfold plainEq at h
    split at h
    · rename_i hu; exact ⟨⟨_, hu⟩, .inr (by simpa using h)⟩
    · rename_i hu; exact ⟨⟨_, hu⟩, .inr (by simpa using h)⟩
    · rename_i hu; exact ⟨⟨_, hu⟩, .inr (by simpa using h)⟩
    · rename_i hu; exact ⟨⟨_, hu⟩, .inl (by simp [isAggT, hu])⟩
    · rename_i hu; exact ⟨⟨_, hu⟩, .inl (by simp [isAggT, hu])⟩
    · cases h

theorem run_equalP : ∀ (m : Nat) (d : Nat) (t : TypeId), plainEq P m t = true → EqP P m (d + m) t
  | 0, _, _, h => by simp [plainEq] at h
  | m + 1, d, t, h => by
    intro w l l' r hl hK he
    have hl' := eqCells_len _ _ _ he
    unfold plainEq at h
    have one : isAggT P t = false → P.cellsOf t = 1 → (∃ k, P.underlying t = some k ∧ (k = .bool ∨ (∃ q, k = .int q) ∨ k = .string)) →
        (Op.equalIn (d + (m + 1)) t (vOf (isAggT P t) l) (vOf (isAggT P t) l')).run P w = .ok r w := by
      intro ha hs ⟨k, hu, hkind⟩
      rw [ha]
      rw [hs] at hl
      rw [hl] at hl'
      obtain ⟨x, rfl⟩ : ∃ x, l = [x] := by match l, hl with | [x], _ => exact ⟨x, rfl⟩
      obtain ⟨y, rfl⟩ : ∃ y, l' = [y] := by match l', hl' with | [y], _ => exact ⟨y, rfl⟩
      rw [eqCells_cons] at he
      simp only [eqCells] at he
      unfold kindsOK at hK
      rw [hu] at hK
      rcases hkind with rfl | ⟨q, rfl⟩ | rfl
      · cases x <;> simp only [reduceCtorEq, Bool.false_eq_true] at hK
        cases y <;> simp only [eqCell, reduceCtorEq, Option.some.injEq, Bool.and_true] at he
        subst he
        simp [vOf, cvA, Op.equalIn, run_underlying hu]
      · cases x <;> simp only [reduceCtorEq, Bool.false_eq_true] at hK
        rename_i q1 n1
        cases y <;> simp only [eqCell, reduceCtorEq, Option.some.injEq, Bool.and_true] at he
        rename_i q2 n2
        by_cases hq : q1 = q2
        · rw [if_pos hq] at he
          simp only [Bool.and_true, Option.some.injEq] at he
          subst he; subst hq
          simp [vOf, cvA, Op.equalIn, run_underlying hu]
        · rw [if_neg hq] at he
          simp at he
      · cases x <;> simp only [reduceCtorEq, Bool.false_eq_true] at hK
        cases y <;> simp only [eqCell, reduceCtorEq, Option.some.injEq, Bool.and_true] at he
        subst he
        rename_i s1 s2
        have hb : ((ByteArray.mk ⟨s1⟩) == (ByteArray.mk ⟨s2⟩)) = (s1 == s2) := by
          rw [beq_toListBytes, ByteArray.toList_eq, ByteArray.toList_eq]
        simp [vOf, cvA, Op.equalIn, run_underlying hu, hb]
    split at h
    · rename_i hu; exact one (by simp [isAggT, hu]) (by simpa using h) ⟨_, hu, .inl rfl⟩
    · rename_i hu; exact one (by simp [isAggT, hu]) (by simpa using h) ⟨_, hu, .inr (.inl ⟨_, rfl⟩)⟩
    · rename_i hu; exact one (by simp [isAggT, hu]) (by simpa using h) ⟨_, hu, .inr (.inr rfl)⟩
    · rename_i fs hu
      simp only [Bool.and_eq_true, Bool.not_eq_true', List.all_eq_true, bne_iff_ne, ne_eq] at h
      obtain ⟨⟨h1, h2⟩, h3⟩ := h
      have hf : P.fieldsOf t = fs := by simp [Program.fieldsOf, hu]
      have ha : isAggT P t = true := by simp [isAggT, hu]
      rw [ha]
      have := run_equalIn_struct (P := P) w (d + m) t (l.map cvA).toArray (l'.map cvA).toArray (by rw [hf]; exact hu) h2
      simp only [vOf]
      rw [show d + (m + 1) = d + m + 1 from rfl, this, hf]
      unfold kindsOK at hK
      rw [hu] at hK
      simp only [List.all_eq_true] at hK
      refine run_eqFieldsP w m (d + m) l l' (P.cellsOf t) fs.toList 0 r (fun f hfm => ?_) h3 hl (by omega) (Nat.zero_le _) (by simpa using he)
      have hp := h1 f hfm
      have hsh := plainEq_shape m f.type hp.2
      exact ⟨hp.1, hsh.1, hsh.2, run_equalP m d f.type hp.2, hK f hfm⟩
    · rename_i n e hu
      simp only [Bool.and_eq_true, beq_iff_eq] at h
      have ha : isAggT P t = true := by simp [isAggT, hu]
      have hsh := plainEq_shape m e h.1
      obtain ⟨k, hk⟩ := hsh.1
      obtain ⟨i, hi⟩ := info_of_underlying hk
      rw [ha]
      simp only [vOf]
      rw [show d + (m + 1) = d + m + 1 from rfl, run_equalIn_array w (d + m) _ _ hu hi, List.range_eq_range']
      unfold kindsOK at hK
      rw [hu] at hK
      simp only [List.all_eq_true] at hK
      exact run_eqItemsP w m (d + m) e k hk hsh.2 (run_equalP m d e h.1) l l' n 0 r hK (by rw [hl, h.2]; simp) (by rw [← hl', hl, h.2]; simp) (by simpa using he)
    · cases h
end
end Pw
