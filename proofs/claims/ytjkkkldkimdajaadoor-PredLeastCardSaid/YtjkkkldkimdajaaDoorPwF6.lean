/- ENGINE, part F6: what stays the same where memory differs elsewhere; who comes before whom. -/
import Derived.Test.YtjkkkldkimdajaaDoorPwF5
namespace Pw
set_option linter.unusedSimpArgs false
open Go

theorem topId_ptr {x : AV} {b g i j : Nat} (h : x = .ptr b g i j) : b ∈ topId x := by subst h; simp [topId]
theorem topId_sl {x : AV} {b g i l : Nat} {c} (h : x = .sl b g i l c) : b ∈ topId x := by subst h; simp [topId]

theorem sl_of {hp hp' : Nat → Blk} {x : AV} (h : ∀ b ∈ topId x, hp' b = hp b) : ∀ b g i l c, x = .sl b g i l c → hp' b = hp b := fun _ _ _ _ _ e => h _ (topId_sl e)
theorem sliceAV_congr {P : Program} {hp hp' : Nat → Blk} {t x lo hi mx} (h : ∀ b ∈ topId x, hp' b = hp b) : sliceAV P hp' t x lo hi mx = sliceAV P hp t x lo hi mx := by
  have hh := sl_of h
  unfold sliceAV
  cases P.underlying t with
  | none => cases x <;> rfl
  | some d => cases d <;> cases x <;> first | rfl | simp only [hh _ _ _ _ _ rfl]
theorem indexAddrAV_congr {P : Program} {hp hp' : Nat → Blk} {t x ix} (h : ∀ b ∈ topId x, hp' b = hp b) : indexAddrAV P hp' t x ix = indexAddrAV P hp t x ix := by
  have hh := sl_of h
  unfold indexAddrAV
  cases P.underlying t with
  | none => cases x <;> rfl
  | some d => cases d <;> cases x <;> cases ix <;> first | rfl | simp only [hh _ _ _ _ _ rfl]
theorem elemsOf_congr {hp hp' : Nat → Blk} {x} (h : ∀ b ∈ topId x, hp' b = hp b) : elemsOf hp' x = elemsOf hp x := by
  have hh := sl_of h
  unfold elemsOf
  cases x <;> first | rfl | simp only [hh _ _ _ _ _ rfl]
theorem convertAV_congr {P : Program} {hp hp' : Nat → Blk} {s d x} (h : ∀ b ∈ topId x, hp' b = hp b) : convertAV P hp' s d x = convertAV P hp s d x := by
  have he := elemsOf_congr (hp := hp) (hp' := hp') h
  unfold convertAV
  cases P.underlying s with
  | none => cases P.underlying d <;> cases x <;> rfl
  | some us =>
    cases P.underlying d with
    | none => cases us <;> cases x <;> rfl
    | some ud => cases us <;> cases ud <;> cases x <;> first | rfl | simp only [he]

theorem builtinAV_congr {P : Program} {b : Builtin} {ts : List TypeId} {args : List AV} {hp hp' : Nat → Blk} {nx nx' : Nat} (hb : b = .len ∨ b = .min ∨ b = .max) : builtinAV P b ts hp' nx' args = builtinAV P b ts hp nx args := by
  rcases hb with rfl | rfl | rfl
  · rcases ts with _ | ⟨t, ts⟩ <;> rcases args with _ | ⟨x, _ | ⟨y, r⟩⟩ <;> rfl
  · rcases args with _ | ⟨x, _ | ⟨y, _ | ⟨z, r⟩⟩⟩ <;> try rfl
    all_goals (cases x <;> try rfl)
    all_goals (cases y <;> rfl)
  · rcases args with _ | ⟨x, _ | ⟨y, _ | ⟨z, r⟩⟩⟩ <;> try rfl
    all_goals (cases x <;> try rfl)
    all_goals (cases y <;> rfl)

theorem stepOp_congr {P : Program} {op : Op} {ev : Operand → AV} {hp hp' : Nat → Blk} {nx nx' : Nat} (hev : evOp op = false) (h : ∀ b ∈ rdIds op ev, hp' b = hp b) : stepOp P op ev hp' nx' = stepOp P op ev hp nx := by
  cases op <;> try rfl
  case alloc => simp [evOp] at hev
  case box => simp [evOp] at hev
  case buildSlice => simp [evOp] at hev
  case makeSlice => simp [evOp] at hev
  case store => simp [evOp] at hev
  case load t p =>
    simp only [rdIds] at h
    simp only [stepOp]
    generalize ev p = x at h
    cases x <;> try rfl
    case ptr b g i j =>
      have := h b (by simp [topId])
      simp only [this]
  case unOp op t x => cases op <;> rfl
  case convert s d x => exact convertAV_congr h
  case slice t x lo hi mx => exact sliceAV_congr h
  case indexAddr t x ix => exact indexAddrAV_congr h
  case call c =>
    obtain ⟨callee, args, ts⟩ := c
    cases callee with
    | builtin b =>
      cases b <;> first | (simp [evOp] at hev; done) | skip
      all_goals exact builtinAV_congr (by simp)
    | _ => rfl

theorem opSR_congr {P : Program} {gl : Nat → AV} {ops : Array Oper} {asg : List Nat} {gs : List (Nat × Bool)} {o : Oper} {tm : Nat → AV} {hp hp' : Nat → Blk} {nx nx' : Nat} (hev : evOp o.op = false)
    (h : ∀ b ∈ rdIds o.op (stripO asg gs (evOf gl tm)), hp' b = hp b) : opSR P gl ops asg gs o tm hp' nx' = opSR P gl ops asg gs o tm hp nx := by
  unfold opSR
  split
  · rfl
  · rfl
  · exact stepOp_congr hev h

/-! ### Who comes before whom -/
theorem flatMap_same {α β : Type} {f g : α → List β} : ∀ (l : List α), (∀ x ∈ l, f x = g x) → l.flatMap f = l.flatMap g
  | [], _ => rfl
  | x :: l, h => by
    simp only [List.flatMap_cons]
    rw [h x (List.mem_cons_self ..), flatMap_same l (fun y hy => h y (List.mem_cons_of_mem _ hy))]

theorem mem_uniq {x : Nat} : ∀ {l : List Nat}, x ∈ uniq l ↔ x ∈ l
  | [] => Iff.rfl
  | y :: l => by
    simp only [uniq]
    cases h : l.contains y
    · simp only [cond_false, List.mem_cons, mem_uniq (l := l)]
    · simp only [cond_true, List.mem_cons, mem_uniq (l := l)]
      constructor
      · exact .inr
      · rintro (rfl | h')
        · simpa using h
        · exact h'

theorem predsOf_acc : ∀ (l : List Oper) (acc : List (List Nat)) (k : Nat), k < acc.length → (predsOf l acc).getD k [] = acc.getD k []
  | [], _, _, _ => rfl
  | o :: r, acc, k, hk => by
    simp only [predsOf]
    rw [predsOf_acc r _ k (by simp; omega)]
    simp [List.getD_eq_getElem?_getD, List.getElem?_append_left hk]

/-- An entry, by those of before. -/
theorem predsOf_at : ∀ (l : List Oper) (acc : List (List Nat)) (k : Nat) (o : Oper), l[k]? = some o → (∀ j ∈ afterOf o, j < acc.length + k) →
    (predsOf l acc).getD (acc.length + k) [] = uniq ((afterOf o).flatMap fun j => j :: (predsOf l acc).getD j [])
  | [], _, _, _, h, _ => by simp at h
  | o' :: r, acc, 0, o, h, hlt => by
    simp only [List.getElem?_cons_zero, Option.some.injEq] at h
    subst h
    simp only [predsOf, Nat.add_zero]
    rw [predsOf_acc r _ acc.length (by simp)]
    have e : (acc ++ [uniq ((afterOf o').flatMap fun j => j :: acc.getD j [])]).getD acc.length [] = uniq ((afterOf o').flatMap fun j => j :: acc.getD j []) := by
      simp [List.getD_eq_getElem?_getD]
    rw [e]
    refine congrArg uniq (flatMap_same _ fun j hj => ?_)
    have hj' : j < acc.length := by simpa using hlt j hj
    rw [predsOf_acc r _ j (by simp; omega)]
    simp [List.getD_eq_getElem?_getD, List.getElem?_append_left hj']
  | o' :: r, acc, k + 1, o, h, hlt => by
    simp only [predsOf]
    have := predsOf_at r (acc ++ [uniq ((afterOf o').flatMap fun j => j :: acc.getD j [])]) k o (by simpa using h) (fun j hj => by have := hlt j hj; simp; omega)
    have e : (acc ++ [uniq ((afterOf o').flatMap fun j => j :: acc.getD j [])]).length + k = acc.length + (k + 1) := by simp; omega
    rw [e] at this
    exact this

theorem aftL_at : ∀ (l : List Oper) (i k : Nat) (o : Oper), aftL l i = true → l[k]? = some o → ∀ j ∈ afterOf o, j < i + k
  | [], _, _, _, _, h => by simp at h
  | o' :: r, i, 0, o, h, hk => by
    simp only [List.getElem?_cons_zero, Option.some.injEq] at hk
    subst hk
    simp only [aftL, Bool.and_eq_true, List.all_eq_true, decide_eq_true_eq] at h
    exact fun j hj => h.1 j hj
  | o' :: r, i, k + 1, o, h, hk => by
    simp only [aftL, Bool.and_eq_true] at h
    intro j hj
    have := aftL_at r (i + 1) k o h.2 (by simpa using hk) j hj
    omega

section
variable {ops : Array Oper}
theorem pr_at (ha : aftL ops.toList 0 = true) {i : Nat} {o : Oper} (ho : ops[i]? = some o) :
    (predsOf ops.toList []).getD i [] = uniq ((afterOf o).flatMap fun j => j :: (predsOf ops.toList []).getD j []) := by
  have h0 : ops.toList[i]? = some o := by simpa using ho
  have := predsOf_at ops.toList [] i o h0 (fun j hj => by have := aftL_at ops.toList 0 i o ha h0 j hj; simpa using this)
  simpa using this

/-- What has come up is closed. -/
def Closed (ops : Array Oper) (L : Nat → Prop) : Prop := ∀ i o, L i → ops[i]? = some o → ∀ j ∈ afterOf o, L j

theorem pr_closed (ha : aftL ops.toList 0 = true) {L : Nat → Prop} (hL : Closed ops L) : ∀ (m i : Nat) (o : Oper), i < m → ops[i]? = some o → (∀ j ∈ afterOf o, L j) → ∀ j ∈ (predsOf ops.toList []).getD i [], L j
  | 0, _, _, h, _, _ => by omega
  | m + 1, i, o, hi, ho, hall => by
    intro j hj
    rw [pr_at ha ho, mem_uniq] at hj
    obtain ⟨k, hk, hj⟩ := List.mem_flatMap.1 hj
    rcases List.mem_cons.1 hj with rfl | hj
    · exact hall _ hk
    · have hlt := aftL_at ops.toList 0 i o ha (by simpa using ho) k hk
      have hks : k < ops.size := by
        have := (Array.getElem?_eq_some_iff.1 ho).1
        omega
      have hko : ops[k]? = some ops[k] := Array.getElem?_eq_getElem hks
      exact pr_closed ha hL m k ops[k] (by omega) hko (hL k _ (hall k hk) hko) j hj

theorem mem_afterOf {o : Oper} {j : Nat} : j ∈ afterOf o ↔ ∃ e ∈ o.after, Region.binds .any e = true ∧ e.on = j := by
  unfold afterOf
  rw [List.mem_filterMap]
  constructor
  · rintro ⟨e, he, h⟩
    split at h
    · rename_i hb
      simp only [Option.some.injEq] at h
      exact ⟨e, by simpa using he, hb, h⟩
    · cases h
  · rintro ⟨e, he, hb, rfl⟩
    exact ⟨e, by simpa using he, by simp [hb]⟩

theorem pairL_quiet {pr : List (List Nat)} {lo : Bool} {i j : Nat} {o : Oper} (ho : ops[i]? = some o) (hev : evOp o.op = false) (h : pairL ops pr lo i j = true) : pairB ops pr i j = true := by
  simpa [pairL, evAt, ho, hev] using h
theorem pairL_not {pr : List (List Nat)} {lo : Bool} {i j : Nat} (h : pairL ops pr lo i j = true) : j ∉ pr.getD i [] := by
  simp only [pairL, Bool.or_eq_true, Bool.and_eq_true, Bool.not_eq_true'] at h
  rcases h with h | h
  · unfold pairB at h
    split at h
    · simp only [Bool.and_eq_true, Bool.not_eq_true', List.contains_eq_mem, decide_eq_false_iff_not] at h
      exact h.1
    · cases h
  · simpa using h.2

theorem orderB_pw {pr : List (List Nat)} {lo : Bool} : ∀ (l : List Nat), orderB ops pr lo l = true → l.Pairwise (fun i j => pairL ops pr lo i j = true) ∧ l.Nodup ∧ ∀ i ∈ l, i < ops.size
  | [], _ => ⟨.nil, .nil, by simp⟩
  | i :: r, h => by
    simp only [orderB, Bool.and_eq_true, List.all_eq_true, decide_eq_true_eq, Bool.not_eq_true'] at h
    obtain ⟨⟨⟨h1, h2⟩, h3⟩, h4⟩ := h
    obtain ⟨k1, k2, k3⟩ := orderB_pw r h4
    refine ⟨List.Pairwise.cons (fun j hj => h1 j hj) k1, List.nodup_cons.2 ⟨by simpa using h2, k2⟩, fun j hj => ?_⟩
    rcases List.mem_cons.1 hj with rfl | hj
    · exact h3
    · exact k3 j hj
end
end Pw
