/- TREES, kit D: lines made of numbers: contracts. -/
import Derived.Test.YtlnpgnipocbfhaaNBC
import Derived.Test.YtlnpgnipocbfhaaNLJ
namespace Go.Proofs.Ytlnpgnipocbfhaa
open Pw Go
set_option maxRecDepth 100000
set_option linter.unusedSimpArgs false
theorem EMd_ok : CtrOK EMd := mkE_ctr (tbl_nil _)
theorem mod_ok : PureF Try.prog 30 cMod := by
 intro args nd v he hnd
 unfold cMod at he
 split at he <;> cases he
 rename_i n m
 have hnd := of_decide_eq_true hnd
 refine PureC.of_vc (E := EMd) (k := 20) (d := 3) mix EMd_ok ((mod_vc n m _).mpr ?_)
 have h1 := Int.tmod_lt_of_pos n (show 0 < m by omega)
 have h2 := Int.lt_tmod_of_pos n (show 0 < m by omega)
 have h3 : n % m = if n.tmod m < 0 then n.tmod m + m else n.tmod m := by
  rw [Int.emod_eq_tmod]
  by_cases hn : 0 ≤ n
  ·rw [if_pos (.inl hn)]
   have := Int.tmod_nonneg m hn
   rw [if_neg (by omega)]
   omega
  ·by_cases hd : m ∣ n
   ·rw [if_pos (.inr hd), Int.tmod_eq_zero_of_dvd hd]
    simp
   ·rw [if_neg (by simp [hn, hd])]
    have h4 : n.tmod m ≠ 0 := fun e => hd (Int.dvd_of_tmod_eq_zero e)
    have h5 : n.tmod m ≤ 0 := by
     have := Int.neg_tmod (a := n) (b := m)
     have := Int.tmod_nonneg m (show 0 ≤ -n by omega)
     omega
    rw [if_pos (by omega), Int.natAbs_of_nonneg (by omega)]
 refine VB_intro (fun h => by have := of_decide_eq_true h; omega) (fun h => NB_intro (by simp; omega) (VB_intro (fun h => ?_) (fun h => ?_)))
 ·have h := of_decide_eq_true h
  rw [wrap_i64_id (by omega) (by omega), h3, if_pos h]
 ·have h := of_decide_eq_false h
  rw [h3, if_neg h]
theorem tdivW {k c : Int} (h0 : 0 ≤ k) (h1 : k ≤ 4611686018427387904) (hc : 1 ≤ c) : IntKind.i64.wrap (k.tdiv c) = k / c := by
 rw [Int.tdiv_eq_ediv_of_nonneg h0, wrap_i64_id]
 ·have := Int.ediv_nonneg h0 (show 0 ≤ c by omega); omega
 ·have := Int.ediv_le_self c h0; omega
theorem tmodE {k c : Int} (h0 : 0 ≤ k) : k.tmod c = k % c := Int.tmod_eq_emod_of_nonneg h0
theorem slK_step {n s : Nat} {k : Int} (h : (s : Int) ≤ k % 5) : slK (n + 1) s k = slotK s k :: slK n (s + 1) (nextK k) := by
 show (if (s : Int) ≤ k % 5 then _ else _) = _
 rw [if_pos h]
theorem slK_end {s : Nat} {k : Int} (h : ¬ (s : Int) ≤ k % 5) : ∀ n, slK n s k = []
 | 0 => rfl
 | n + 1 => by
  show (if (s : Int) ≤ k % 5 then _ else _) = _
  rw [if_neg h]
theorem slotK_ok (s : Nat) {k : Int} : 0 ≤ (slotK s k).1 ∧ (slotK s k).1 < 3 ∧ (s = 0 → (slotK s k).gds = []) ∧ ((slotK s k).gds = [] ∨ ∃ g, (slotK s k).gds = [g] ∧ 3 ≤ g ∧ g < 5) := by
 refine ⟨by show 0 ≤ k / 5 % 3; omega, by show k / 5 % 3 < 3; omega, fun h => ?_, ?_⟩
 ·show (if _ then _ else _) = _
  rw [if_neg (by omega)]
 ·by_cases h : 0 < s ∧ k / 15 % 4 = 1
  ·refine .inr ⟨3 + k / 60 % 2, ?_, by omega, by omega⟩
   show (if _ then _ else _) = _
   rw [if_pos h]
  ·refine .inl ?_
   show (if _ then _ else _) = _
   rw [if_neg h]
theorem slK_mem : ∀ (n s : Nat) (k : Int) (x : SlotG), x ∈ slK n s k → ∃ s' k', x = slotK s' k'
 | 0, _, _, _, h => by cases h
 | n + 1, s, k, x, h => by
  by_cases hk : (s : Int) ≤ k % 5
  ·rw [slK_step hk] at h
   rcases List.mem_cons.1 h with rfl | h
   ·exact ⟨s, k, rfl⟩
   ·exact slK_mem n _ _ x h
  ·rw [slK_end hk] at h
   cases h
theorem slK_len : ∀ (n s : Nat) (k : Int), (slK n s k).length ≤ n
 | 0, _, _ => Nat.le_refl _
 | n + 1, s, k => by
  by_cases hk : (s : Int) ≤ k % 5
  ·rw [slK_step hk, List.length_cons]
   have := slK_len n (s + 1) (nextK k)
   omega
  ·rw [slK_end hk]
   exact Nat.zero_le _
theorem lineK_cons (x : Int) : ∃ r, lineK x = slotK 0 (x % 1073741824) :: r := ⟨_, slK_step (n := 4) (s := 0) (by omega)⟩
theorem lineK_len (x : Int) : (lineK x).length ≤ 5 := slK_len 5 0 _
theorem lineK_right (x : Int) : ∀ s ∈ lineK x, 0 ≤ s.1 ∧ s.1 < 3 ∧ (s.gds = [] ∨ ∃ g, s.gds = [g] ∧ 3 ≤ g ∧ g < 5) := by
 intro s hs
 obtain ⟨a, k, rfl⟩ := slK_mem 5 0 _ s hs
 obtain ⟨h1, h2, _, h4⟩ := slotK_ok a (k := k)
 exact ⟨h1, h2, h4⟩
theorem lineK_few (x : Int) : fewS (lineK x) = true := by
 simp only [fewS, Bool.and_eq_true, decide_eq_true_eq, List.all_eq_true]
 refine ⟨by have := lineK_len x; omega, fun s hs => ?_⟩
 rcases (lineK_right x s hs).2.2 with h | ⟨g, h, _⟩
 ·rw [h]
  exact Nat.zero_le _
 ·rw [h]
  exact (by decide : 1 ≤ 1000)
theorem lineK_chk (x : Int) : chkL 12 (lineK x) = 0 := by
 obtain ⟨r, hr⟩ := lineK_cons x
 have h0 : ((lineK x).getD 0 slotD').gds = [] := by
  rw [hr]
  exact (slotK_ok 0).2.2.1 rfl
 have hl : (lineK x).length ≠ 0 := by rw [hr]; simp
 unfold chkL
 rw [h0, if_neg (by simp [hl]), if_neg (by omega)]
 have h1 : (lineK x).any (outS 12) = false := by
  rw [List.any_eq_false]
  intro s hs
  obtain ⟨k1, k2, k3⟩ := lineK_right x s hs
  have hg : s.gds.any (outN 12) = false := by
   rcases k3 with h | ⟨g, h, h5, h6⟩
   ·rw [h]
    rfl
   ·rw [h]
    simp [outN]
    omega
  have : outS 12 s = false := by
   unfold outS
   rw [hg]
   simp [outN]
   omega
  rw [this]
  simp
 have h2 : (lineK x).all (fun s => ascB s.gds) = true := by
  rw [List.all_eq_true]
  intro s hs
  rcases (lineK_right x s hs).2.2 with h | ⟨g, h, _⟩
  ·rw [h]
   rfl
  ·rw [h]
   rfl
 rw [h1, h2]
 rfl
theorem kitN_len (nums : List Int) : ∀ i, (kitN nums i).length ≤ i
 | 0 => Nat.le_refl _
 | i + 1 => by
  have := kitN_len nums i
  show (addK _ _).length ≤ _
  unfold addK
  split
  ·omega
  ·rw [List.length_append, List.length_singleton]
   omega
theorem kitN_mem (nums : List Int) : ∀ i, ∀ l ∈ kitN nums i, ∃ x, l = lineK x
 | 0, l, h => by cases h
 | i + 1, l, h => by
  change l ∈ addK _ _ at h
  unfold addK at h
  split at h
  ·exact kitN_mem nums i l h
  ·rcases List.mem_append.1 h with h1 | h1
   ·exact kitN_mem nums i l h1
   ·exact ⟨_, by simpa using h1⟩
theorem kitN_nodup (nums : List Int) : ∀ i, (kitN nums i).Nodup
 | 0 => List.nodup_nil
 | i + 1 => by
  show (addK _ _).Nodup
  unfold addK
  split
  ·exact kitN_nodup nums i
  ·rename_i h
   refine List.nodup_append.2 ⟨kitN_nodup nums i, List.nodup_cons.2 ⟨by simp, List.nodup_nil⟩, fun a ha b hb e => ?_⟩
   have h2 : b = lineK (nums.getD i 0) := by simpa using hb
   rw [e, h2] at ha
   exact h ha
def kitQ (nums : List Int) (i s : Nat) (k : Int) (acc : List SlotG) : Prop := acc.length = s ∧ s ≤ 5 ∧ 0 ≤ k ∧ k < 1073741824 ∧ acc ++ slK (5 - s) s k = lineK (nums.getD i 0)
theorem EKn_ok (nums : List Int) (kN : Nat → List (List SlotG)) (lk : Nat → List SlotG) (Q : Nat → Nat → Int → List SlotG → Prop) : CtrOK (EKn nums kN lk Q) := ⟨(mkE_ctr (P := Try.prog) (inv := fun _ _ => none) (tbl_cons mod_ok (tbl_cons kLine_ok (tbl_nil _)))).1, itr_none rfl⟩
theorem get_app {α : Type} (d : α) (l : List α) (x : α) {j : Nat} (hj : j < l.length) : (l ++ [x]).getD j d = l.getD j d := by
 simp [List.getD, List.getElem?_append_left hj]
theorem get_last {α : Type} (d : α) (l : List α) (x : α) : (l ++ [x]).getD l.length d = x := by simp [List.getD]
theorem kit_pure (nums : List Int) (hb : ∀ j, j < nums.length → -9223372036854775808 ≤ nums.getD j 0 ∧ nums.getD j 0 ≤ 9223372036854775807) : PureC Try.prog gU 27 [intsA nums] (linesA (kitL nums)) := by
 refine PureC.of_vc (E := EKn nums (kitN nums) (fun i => lineK (nums.getD i 0)) (kitQ nums)) (k := 30) (d := 3) mix (EKn_ok _ _ _ _) ?_
 refine (kit_vc nums (kitN nums) (fun i => lineK (nums.getD i 0)) (kitQ nums) _).mpr ⟨?_, fun p hpre => ?_⟩
 ·refine ⟨(0, 0), ⟨Nat.zero_le _, Nat.zero_le _⟩, ?_⟩
  repeat' (first | exact sub_ints _ | exact trivial | exact rfl | exact Or.inr rfl | exact fun h => h | refine And.intro ?_ ?_)
 obtain ⟨i, g⟩ := p
 obtain ⟨h1, h2⟩ := hpre
 have h1 : i ≤ nums.length := h1
 have h2 : i ≤ 8 := h2
 have hlen := kitN_len nums i
 dsimp only
 refine VB_intro (fun h => ?_) (fun h => ?_)
 case refine_2 =>
  have h3 : i = min nums.length 8 := by
   simp only [Bool.and_eq_false_iff, decide_eq_false_iff_not] at h
   omega
  subst h3
  refine NB_intro (by simp) ⟨rfl, fun j _ => ?_, fun h => by cases h⟩
  rw [Nat.zero_add]
  exact ⟨⟨⟨rfl, fun _ _ => ⟨⟨rfl, ⟨rfl, fun _ _ => ⟨rfl, rfl⟩, fun h => h⟩, trivial⟩, rfl⟩, fun h => h⟩, trivial⟩, rfl⟩
 simp only [Bool.and_eq_true, decide_eq_true_eq] at h
 have h3 : i < nums.length := by omega
 have h4 : i < 8 := by omega
 rw [show (Int.toNat (i : Int)) = i from rfl]
 have hbi := hb i h3
 have hWi : IntKind.i64.wrap ((i : Int) + 1) = ((i + 1 : Nat) : Int) := by rw [wrap_i64_id (by omega) (by omega)]; omega
 refine NB_intro (by simp; omega) (NB_intro (decide_eq_true ⟨hbi.1, hbi.2, by omega, by omega⟩) ⟨?_, fun p2 hQ => ?_⟩)
 ·refine ⟨(0, nums.getD i 0 % 1073741824, g, 0, []), ⟨rfl, Nat.zero_le _, (show 0 ≤ nums.getD i 0 % 1073741824 by omega), (show nums.getD i 0 % 1073741824 < 1073741824 by omega), rfl⟩, ?_⟩
  repeat' (first | exact sub_ints _ | exact trivial | exact rfl | exact Or.inr rfl | exact fun h => h | exact fun _ _ => ⟨⟨sub_slots _, trivial⟩, rfl⟩ | refine And.intro ?_ ?_)
 obtain ⟨s, k, g1, gg, acc⟩ := p2
 obtain ⟨q1, q2, q3, q4, q5⟩ := hQ
 have q1 : acc.length = s := q1
 have q2 : s ≤ 5 := q2
 have q3 : 0 ≤ k := q3
 have q4 : k < 1073741824 := q4
 have q5 : acc ++ slK (5 - s) s k = lineK (nums.getD i 0) := q5
 subst q1
 dsimp only
 have d5 := tdivW (c := 5) q3 (by omega) (by omega)
 have d15 := tdivW (c := 15) q3 (by omega) (by omega)
 have d60 := tdivW (c := 60) q3 (by omega) (by omega)
 have d1000 := tdivW (c := 1000) q3 (by omega) (by omega)
 have w1 : IntKind.i64.wrap (k / 5 * 2) = k / 5 * 2 := wrap_i64_id (by omega) (by omega)
 have w2 : IntKind.i64.wrap (k / 5 * 2 + k / 1000) = k / 5 * 2 + k / 1000 := wrap_i64_id (by omega) (by omega)
 have w3 : IntKind.i64.wrap (3 + k / 60 % 2) = 3 + k / 60 % 2 := wrap_i64_id (by omega) (by omega)
 have m5 : k.tmod 5 = k % 5 := tmodE q3
 have m3 : (k / 5).tmod 3 = k / 5 % 3 := tmodE (by omega)
 have m4 : (k / 15).tmod 4 = k / 15 % 4 := tmodE (by omega)
 have m2 : (k / 60).tmod 2 = k / 60 % 2 := tmodE (by omega)
 rw [d5, d15, d60, d1000, w1, w2, m5, m3, m4, m2, w3]
 refine VB_intro (fun h5 => ?_) (fun h5 => ?_)
 ·have h5 : (acc.length : Int) ≤ k % 5 := of_decide_eq_true h5
  have hs5 : acc.length < 5 := by omega
  have hroom : room (acc.length + 1) 32 = true := decide_eq_true ⟨by omega, by omega⟩
  have hnb : decide (-9223372036854775808 ≤ k / 5 * 2 + k / 1000 ∧ k / 5 * 2 + k / 1000 ≤ 9223372036854775807 ∧ (1 : Int) ≤ 1073741824 ∧ (1073741824 : Int) ≤ 4611686018427387904) = true := decide_eq_true ⟨by omega, by omega, by omega, by omega⟩
  have hstep : (acc ++ [slotK acc.length k]) ++ slK (5 - (acc.length + 1)) (acc.length + 1) (nextK k) = lineK (nums.getD i 0) := by
   rw [← q5, show 5 - acc.length = (5 - (acc.length + 1)) + 1 by omega, slK_step h5, List.append_assoc]
   rfl
  have hQ' : kitQ nums i (acc.length + 1) (nextK k) (acc ++ [slotK acc.length k]) := ⟨by simp, by omega, by unfold nextK; omega, by unfold nextK; omega, hstep⟩
  have hW : IntKind.i64.wrap ((acc.length : Int) + 1) = ((acc.length + 1 : Nat) : Int) := by rw [wrap_i64_id (by omega) (by omega)]; omega
  have hal : acc.length + 1 = (acc ++ [slotK acc.length k]).length := by simp
  refine VB_intro (fun h6 => ?_) (fun h6 => ?_)
  ·simp only [Bool.and_eq_true, decide_eq_true_eq, beq_iff_eq] at h6
   have eS : slotK acc.length k = (k / 5 % 3, [3 + k / 60 % 2], ()) := by
    unfold slotK
    rw [if_pos ⟨by omega, h6.2⟩]
   refine NB_intro (by rw [hroom]; simp) (NB_intro hnb ⟨(acc.length + 1, nextK k, g1, gg + 1, acc ++ [slotK acc.length k]), hQ', (show 5 - (acc.length + 1) < 5 - acc.length by omega), ?_⟩)
   repeat' (first | exact sub_ints _ | exact trivial | exact rfl | exact Or.inr rfl | exact hW | exact hal | exact fun h => h | exact fun _ _ => ⟨⟨sub_slots _, trivial⟩, rfl⟩ | refine And.intro ?_ ?_)
   intro j hj
   by_cases hin : j < acc.length
   ·repeat rw [if_pos hin]
    rw [Nat.zero_add]
    show (slotA (acc.getD j slotD')).sub (slotA ((acc ++ [slotK acc.length k]).getD j slotD')) ∧ _
    rw [get_app _ _ _ hin]
    exact ⟨sub_slot _, rfl⟩
   ·obtain rfl : j = acc.length := by omega
    repeat rw [if_neg hin]
    rw [Nat.sub_self]
    show (AV.agg [.int .i64 (k / 5 % 3), .rol [.int .i64 (3 + k / 60 % 2)] true]).sub (slotA ((acc ++ [slotK acc.length k]).getD acc.length slotD')) ∧ _
    rw [get_last, eS]
    exact ⟨⟨rfl, ⟨rfl, ⟨⟨rfl, rfl⟩, trivial⟩, fun h => by cases h⟩, trivial⟩, rfl⟩
  ·have eS : slotK acc.length k = (k / 5 % 3, [], ()) := by
    unfold slotK
    rw [if_neg]
    rintro ⟨k1, k2⟩
    simp only [Bool.and_eq_false_iff, decide_eq_false_iff_not, beq_eq_false_iff_ne] at h6
    rcases h6 with h6 | h6
    ·exact h6 (by omega)
    ·exact h6 k2
   refine NB_intro (by rw [hroom]; simp) (NB_intro hnb ⟨(acc.length + 1, nextK k, g1, gg + 1, acc ++ [slotK acc.length k]), hQ', (show 5 - (acc.length + 1) < 5 - acc.length by omega), ?_⟩)
   repeat' (first | exact sub_ints _ | exact trivial | exact rfl | exact Or.inr rfl | exact hW | exact hal | exact fun h => h | exact fun _ _ => ⟨⟨sub_slots _, trivial⟩, rfl⟩ | refine And.intro ?_ ?_)
   intro j hj
   by_cases hin : j < acc.length
   ·repeat rw [if_pos hin]
    rw [Nat.zero_add]
    show (slotA (acc.getD j slotD')).sub (slotA ((acc ++ [slotK acc.length k]).getD j slotD')) ∧ _
    rw [get_app _ _ _ hin]
    exact ⟨sub_slot _, rfl⟩
   ·obtain rfl : j = acc.length := by omega
    repeat rw [if_neg hin]
    rw [Nat.sub_self]
    show (AV.agg [.int .i64 (k / 5 % 3), .nils]).sub (slotA ((acc ++ [slotK acc.length k]).getD acc.length slotD')) ∧ _
    rw [get_last, eS]
    exact ⟨⟨rfl, rfl, trivial⟩, rfl⟩
 have h5 : ¬ (acc.length : Int) ≤ k % 5 := of_decide_eq_false h5
 rw [slK_end h5, List.append_nil] at q5
 subst q5
 have hfk : ∀ l ∈ kitN nums i, fewS l = true := fun l hl => by
  obtain ⟨x, rfl⟩ := kitN_mem nums i l hl
  exact lineK_few x
 have hfl := lineK_few (nums.getD i 0)
 generalize hlk : lineK (nums.getD i 0) = lk at *
 have e1 : kitN nums (i + 1) = if lk ∈ kitN nums i then kitN nums i else kitN nums i ++ [lk] := by
  rw [← hlk]
  rfl
 generalize hkn : kitN nums i = kn at *
 refine ⟨⟨(0, g1, gg), Nat.zero_le _, ?_⟩, fun p3 hj => ?_⟩
 ·repeat' (first | exact sub_ints _ | exact trivial | exact rfl | exact Or.inr rfl | exact fun h => h | exact fun _ _ => ⟨⟨sub_slots _, trivial⟩, rfl⟩ | exact fun _ _ => ⟨⟨sub_slots _, trivial⟩, trivial⟩ | exact fun _ _ => ⟨sub_slot _, rfl⟩ | exact fun _ _ => ⟨sub_slot _, trivial⟩ | refine And.intro ?_ ?_)
 obtain ⟨j, g2, gg2⟩ := p3
 have hj : j ≤ kn.length := hj
 dsimp only
 rw [show (Int.toNat (j : Int)) = j from rfl]
 refine VB_intro (fun h6 => ?_) (fun h6 => ?_)
 ·have h7 : j < kn.length := by
   have := of_decide_eq_true h6
   omega
  have hWj : IntKind.i64.wrap ((j : Int) + 1) = ((j + 1 : Nat) : Int) := by rw [wrap_i64_id (by omega) (by omega)]; omega
  simp only [Nat.zero_add]
  rw [slotsB_self, slotsB_self, slotsOf_self, slotsOf_self, hfk _ (getD_mem (d := []) h7), hfl]
  refine NB_intro (impB_of fun _ => by simp; omega) (NB_intro (impB_of fun _ => by simp) (NB_intro (impB_of fun _ => by simp) ⟨(j + 1, g2, gg2), (show j + 1 ≤ kn.length by omega), (by show (kitN nums i).length - (j + 1) < (kitN nums i).length - j; rw [hkn]; omega), ?_⟩))
  have hany : (((kn.take j).any fun x => decide (x = lk)) || decide (kn.getD j [] = lk)) = (kn.take (j + 1)).any fun x => decide (x = lk) := by
   rw [take_succ' [] h7, List.any_append]
   simp
  repeat' (first | exact sub_ints _ | exact trivial | exact rfl | exact Or.inr rfl | exact Or.inl trivial | exact hWj | exact hany | exact fun h => h | exact fun _ _ => ⟨⟨sub_slots _, trivial⟩, rfl⟩ | exact fun _ _ => ⟨⟨sub_slots _, trivial⟩, trivial⟩ | exact fun _ _ => ⟨sub_slot _, rfl⟩ | exact fun _ _ => ⟨sub_slot _, trivial⟩ | refine And.intro ?_ ?_)
 ·have h7 : j = kn.length := by
   have := of_decide_eq_false h6
   omega
  subst h7
  rw [List.take_length]
  have hroom : room (kn.length + 1) 24 = true := decide_eq_true ⟨by omega, by omega⟩
  refine VB_intro (fun h8 => ?_) (fun h8 => ?_)
  ·have h9 : lk ∉ kn := by
    simp only [Bool.not_eq_true', List.any_eq_false, decide_eq_true_eq] at h8
    exact fun hm => h8 lk hm rfl
   rw [if_neg h9] at e1
   refine NB_intro (by simp) (NB_intro (by rw [hroom]; simp) ⟨(i + 1, g2 + 1), ⟨(show i + 1 ≤ nums.length by omega), (show i + 1 ≤ 8 by omega)⟩, (show 8 - (i + 1) < 8 - i by omega), ?_⟩)
   dsimp only
   rw [e1]
   have hal : kn.length + 1 = (kn ++ [lk]).length := by simp
   repeat' (first | exact sub_ints _ | exact trivial | exact rfl | exact Or.inr rfl | exact hWi | exact hal | exact fun h => h | refine And.intro ?_ ?_)
   intro q hq
   by_cases hin : q < kn.length
   ·repeat rw [if_pos hin]
    rw [Nat.zero_add, get_app _ _ _ hin]
    exact ⟨⟨sub_slots _, trivial⟩, rfl⟩
   ·obtain rfl : q = kn.length := by omega
    repeat rw [if_neg hin]
    rw [Nat.sub_self, get_last]
    simp only [Nat.zero_add]
    exact ⟨⟨sub_slots lk, trivial⟩, rfl⟩
  ·have h9 : lk ∈ kn := by
    simp only [Bool.not_eq_false', List.any_eq_true, decide_eq_true_eq] at h8
    obtain ⟨x, hx, rfl⟩ := h8
    exact hx
   rw [if_pos h9] at e1
   refine ⟨(i + 1, g2), ⟨(show i + 1 ≤ nums.length by omega), (show i + 1 ≤ 8 by omega)⟩, (show 8 - (i + 1) < 8 - i by omega), ?_⟩
   dsimp only
   rw [e1]
   repeat' (first | exact sub_ints _ | exact trivial | exact rfl | exact Or.inr rfl | exact hWi | exact fun h => h | refine And.intro ?_ ?_)
   intro q hq
   exact ⟨⟨⟨rfl, fun _ _ => ⟨⟨rfl, ⟨rfl, fun _ _ => ⟨rfl, rfl⟩, fun h => h⟩, trivial⟩, rfl⟩, fun h => h⟩, trivial⟩, rfl⟩
end Go.Proofs.Ytlnpgnipocbfhaa
