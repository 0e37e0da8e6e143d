/- QUERIES 4: ref10's order, names, uses: contracts. -/
import Derived.Test.YtamcloifhjafcaaGreatDoorQF3
namespace Go.Proofs.YtamcloifhjafcaaGreatDoor
open Pw Go
set_option maxRecDepth 100000
set_option linter.unusedSimpArgs false
theorem rng_no {n : Nat} {p : Nat → Bool} {i : Nat} (hi : i < n) (h : p i = false) : (List.range n).all p = false := by
 rw [Bool.eq_false_iff]
 intro hc
 have := List.all_eq_true.1 hc i (by simpa using hi)
 rw [h] at this
 cases this
theorem rng_yes {n : Nat} {p : Nat → Bool} (h : ∀ i, i < n → p i = true) : (List.range n).all p = true := List.all_eq_true.2 fun i hi => h i (by simpa using hi)
theorem std_of {g : Nat} (h : ∀ (x : NodeG) (t : Bool), litB g x = true → PureC Tryz.prog gN 55 [nodeA (g + 1) x, .bool t] (.bool (stdB g t x))) : PureG Tryz.prog gN 55 (cStd g) := by
 intro args nd v he hnd
 unfold cStd at he
 split at he <;> cases he
 refine pureN_node hnd fun x hx e => ?_
 rw [e]
 exact h x _ hx
theorem std_pure : ∀ (g : Nat) (x : NodeG) (t : Bool), litB g x = true → PureC Tryz.prog gN 55 [nodeA (g + 1) x, .bool t] (.bool (stdB g t x))
 | 0, _, _, h => by cases h
 | g + 1, x, t, hl => by
  refine pure_vcE (E := EStd g x) (d := 4) mix ⟨(mkG_ctr (P := Tryz.prog) (gl := gN) (inv := fun _ _ => none) (n := 0) (tblG_cons (std_of (std_pure g)) (tblG_nil _ _))).1, (mkG_ctr (P := Tryz.prog) (gl := gN) (inv := fun _ _ => none) (n := 0) (tblG_nil Tryz.prog gN)).2⟩ ((std10_vc g x t _).mpr ?_)
  have hk40 := litB_kids hl
  have hS : stdB (g + 1) t x = if nk x = 2 then !t else (List.range x.kids.length).all fun i => !badN x i && stdB g (nk x != 3) (x.kids.getD i treeD) := rfl
  simp only [nodeA_refl, EqI, true_and, and_true, imp_self, implies_true, Int.toNat_natCast, Nat.zero_add, or_self]
  refine VB_intro (fun h => ?_) (fun h => ?_)
  ·have h : nk x = 2 := beq_iff_eq.1 h
   rw [hS, if_pos h]
  ·have h : nk x ≠ 2 := beq_eq_false_iff_ne.1 h
   rw [if_neg h] at hS
   refine ⟨⟨0, ⟨Nat.zero_le _, fun j hj => by omega⟩, rfl⟩, fun i ⟨hi1, hi2⟩ => VB_intro (fun h1 => ?_) (fun h1 => ?_)⟩
   ·have hlt : i < x.kids.length := by have := of_decide_eq_true h1; omega
    have hd : decide ((0 : Int) ≤ (i : Int) ∧ (i : Int) < x.kids.length) = true := decide_eq_true (by omega)
    have hkl := litB_kid hl hlt
    have e1 : isNode g (nodeA (g + 1) (x.kids.getD i (TreeG.mk nodeD []))) = true := isNode_of hkl (by omega)
    have e2 : nodeOf g (nodeA (g + 1) (x.kids.getD i (TreeG.mk nodeD []))) = x.kids.getD i treeD := nodeOf_of hkl (by omega)
    rw [hd, e1, e2]
    simp only [NB_t]
    refine VB_intro (fun h2 => ?_) (fun h2 => VB_intro (fun h3 => ?_) (fun h3 => ?_))
    ·have h2 : badN x i = true := h2
     rw [hS]
     refine (rng_no hlt ?_).symm
     rw [h2]; rfl
    ·have h3 : stdB g (nk x != 3) (x.kids.getD i treeD) = false := by
      have h3 : (!stdB g (nk x != 3) (x.kids.getD i treeD)) = true := h3
      simpa using h3
     rw [hS]
     refine (rng_no hlt ?_).symm
     rw [h3, Bool.and_false]
    ·have h2 : badN x i = false := h2
     have h3 : stdB g (nk x != 3) (x.kids.getD i treeD) = true := by
      have h3 : (!stdB g (nk x != 3) (x.kids.getD i treeD)) = false := h3
      simpa using h3
     refine ⟨i + 1, ⟨hlt, fun j hj => ?_⟩, by show x.kids.length - (i + 1) < x.kids.length - i; omega, by rw [wrap_i64_id (by omega) (by omega)]; rfl⟩
     rcases Nat.lt_or_ge j i with h4 | h4
     ·exact hi2 j h4
     ·obtain rfl : j = i := by omega
      rw [h2, h3]; rfl
   ·obtain rfl : i = x.kids.length := by have := of_decide_eq_false h1; omega
    rw [hS, rng_yes hi2]
theorem strs_sub (a : AV) (h : isStr a = true) : a.sub (.str (strOf a)) ∧ a.cells.length = (AV.str (strOf a)).cells.length := by
 unfold isStr at h
 split at h
 ·exact ⟨AV.str_sub _, rfl⟩
 ·cases h
theorem isSs_sub {x : AV} (h : isSs x = true) : x.sub (ssA (ssOf x)) ∧ (ssOf x).length ≤ 1000 := by
 unfold isSs at h
 split at h
 ·rename_i n f ex
  simp only [Bool.and_eq_true, decide_eq_true_eq, List.all_eq_true, List.mem_range] at h
  have hlen : (ssOf (.rof n f ex)).length = n := by simp [ssOf]
  refine ⟨⟨hlen.symm, fun i hi => ?_, fun h => by cases h⟩, by rw [hlen]; exact h.1⟩
  have hg : (ssOf (.rof n f ex)).getD i [] = strOf (f i) := by simp [ssOf, List.getD, hi]
  show (f i).sub (.str ((ssOf (.rof n f ex)).getD i [])) ∧ (f i).cells.length = (AV.str ((ssOf (.rof n f ex)).getD i [])).cells.length
  rw [hg]
  exact strs_sub (f i) (h.2 i hi)
 ·cases h
theorem ssOf_A (l : List (List UInt8)) (ex : Bool) : ssOf (.rof l.length (fun k => .str (l.getD k [])) ex) = l := range_getD l []
theorem isSs_A {l : List (List UInt8)} (h : l.length ≤ 1000) (ex : Bool) : isSs (.rof l.length (fun k => .str (l.getD k [])) ex) = true := by
 simp only [isSs, Bool.and_eq_true, decide_eq_true_eq]
 exact ⟨h, List.all_eq_true.2 fun _ _ => rfl⟩
theorem ssRf (l : List (List UInt8)) : (ssA l).sub (ssA l) = True := eq_true ⟨rfl, fun _ _ => ⟨AV.str_sub _, rfl⟩, fun h => h⟩
theorem atI_neg {l : List (List UInt8)} {s : List UInt8} : decide (atI l s < 0) = !decide (s ∈ l) := by
 unfold atI
 split
 ·rename_i h
  rw [decide_eq_true h]
  exact decide_eq_false (by omega)
 ·rename_i h
  rw [decide_eq_false h]
  rfl
theorem idx_le {s : List UInt8} : ∀ (l : List (List UInt8)) (i : Nat) (hi : i < l.length), l[i] = s → l.idxOf s ≤ i
 | [], _, hi, _ => by simp at hi
 | a :: l, 0, _, h => by
  have h : a = s := h
  simp [List.idxOf_cons, h]
 | a :: l, i + 1, hi, h => by
  have ih := idx_le l i (by simpa using hi) h
  rw [List.idxOf_cons]
  cases (a == s) <;> simp
  omega
theorem at_first {l : List (List UInt8)} {s : List UInt8} {i : Nat} (hi : i < l.length) (h : l.getD i [] = s) (hn : ∀ j, j < i → l.getD j [] ≠ s) : l.idxOf s = i := by
 rw [List.getD_eq_getElem?_getD, List.getElem?_eq_getElem hi] at h
 have h : l[i] = s := h
 have hm : s ∈ l := h ▸ List.getElem_mem hi
 have h1 : l.idxOf s < l.length := List.idxOf_lt_length_of_mem hm
 have h2 : l[l.idxOf s] = s := List.getElem_idxOf h1
 rcases Nat.lt_trichotomy (l.idxOf s) i with h3 | h3 | h3
 ·refine absurd ?_ (hn _ h3)
  rw [List.getD_eq_getElem?_getD, List.getElem?_eq_getElem h1]
  exact h2
 ·exact h3
 ·exfalso
  have : l.idxOf s ≤ i := idx_le l i hi h
  omega
theorem at_ok10 : PureG Tryz.prog gN 76 cAtI := by
 intro args nd v he hnd
 unfold cAtI at he
 split at he <;> cases he
 rename_i n f ex s
 have h1 := isSs_sub hnd
 generalize ssOf (.rof n f ex) = l at h1
 refine PureC.args (args' := [ssA l, .str s]) rfl (fun i hi => by
  match i, hi with
  | 0, _ => exact h1.1
  | 1, _ => exact AV.str_sub _
  | i + 2, hi => exact absurd hi (by simp)) ?_
 refine pure_vcG (d := 4) mix (tblG_nil _ _) ((at10_vc l s _).mpr ?_)
 simp only [ssRf, EqI, true_and, and_true, imp_self, implies_true, Int.toNat_natCast, Nat.zero_add, or_self]
 refine ⟨⟨0, ⟨Nat.zero_le _, fun j hj => by omega⟩, rfl⟩, fun i ⟨hi1, hi2⟩ => VB_intro (fun h => NB_intro (decide_eq_true ?_) (VB_intro (fun h2 => ?_) (fun h2 => ?_))) (fun h => ?_)⟩
 ·have := of_decide_eq_true h; omega
 ·have hlt : i < l.length := by have := of_decide_eq_true h; omega
  have h2 : l.getD i [] = s := eq_of_beq h2
  have hm : s ∈ l := by
   rw [List.getD_eq_getElem?_getD, List.getElem?_eq_getElem hlt] at h2
   have h2 : l[i] = s := h2
   exact h2 ▸ List.getElem_mem hlt
  rw [atI, if_pos hm, at_first hlt h2 hi2]
 ·have hlt : i < l.length := by have := of_decide_eq_true h; omega
  have h2 : l.getD i [] ≠ s := fun e => by rw [e] at h2; simp at h2
  refine ⟨i + 1, ⟨hlt, fun j hj => ?_⟩, by show l.length - (i + 1) < l.length - i; omega, by rw [wrap_i64_id (by omega) (by omega)]; rfl⟩
  rcases Nat.lt_or_ge j i with h3 | h3
  ·exact hi2 j h3
  ·obtain rfl : j = i := by omega
   exact h2
 ·obtain rfl : i = l.length := by have := of_decide_eq_false h; omega
  rw [atI, if_neg]
  intro hm
  obtain ⟨j, hj, e⟩ := List.mem_iff_getElem.1 hm
  refine hi2 j hj ?_
  rw [List.getD_eq_getElem?_getD, List.getElem?_eq_getElem hj]
  exact e
end Go.Proofs.YtamcloifhjafcaaGreatDoor
namespace Go.Proofs.YtamcloifhjafcaaGreatDoor
open Pw Go
set_option maxRecDepth 100000
set_option linter.unusedSimpArgs false
section
variable (x : NodeG) (w : Int) (hs : List HaveG) (es : List AggG) (A : List AtomG) (N : List Bool) (H U : List (List UInt8)) (e : Int) (b ok : Bool)
theorem uses10_sat (h10 : hs.length ≤ 10) (e10 : es.length ≤ 10) : (vcFun (EQ3 x w hs es A N H U e b ok) 20 75 [qA x w hs es] .nil 0 (retP 4 (ssA (usQ hs es)))).sat := by
 refine (uses10_vc x w hs es A N H U e b ok _).mpr ?_
 simp only [qA_refl, EqI, true_and, and_true, imp_self, implies_true, Int.toNat_natCast, Nat.zero_add, or_self, decide_true, NB_t, Bool.true_and, Bool.and_true, ssOf_A, atI_neg]
 refine ⟨⟨(0, 0), Nat.zero_le _, ⟨⟨rfl, rfl⟩, rfl⟩, rfl⟩, fun p hp => VB_intro (fun h1 => ?_) (fun h1 => ?_)⟩
 ·obtain ⟨i, g⟩ := p
  have hlt : i < hs.length := by have := of_decide_eq_true h1; simp only at this; omega
  have hsu := usH_succ hlt
  have hle := usH_len (hs := hs) i
  have hw : IntKind.i64.wrap ((i : Int) + 1) = ((i + 1 : Nat) : Int) := by rw [wrap_i64_id (by omega) (by omega)]; rfl
  have hd : decide ((0 : Int) ≤ (i : Int) ∧ (i : Int) < hs.length) = true := decide_eq_true (by omega)
  refine NB_intro hd (NB_intro (isSs_A (by simp only; omega) _) (VB_intro (fun h2 => NB_intro hd (NB_intro (by simp [room]; omega) ?_)) (fun h2 => ?_)))
  ·have h2 : (hs.getD i haveD).1.2.1 ∉ usH hs i := by simpa using h2
   rw [usA_out h2] at hsu
   have hsl : (usH hs (i + 1)).length = (usH hs i).length + 1 := by rw [hsu]; simp
   refine ⟨(i + 1, g + 1), hlt, by show hs.length - (i + 1) < hs.length - i; omega, ⟨⟨rfl, hsl.symm⟩, hw⟩, rfl, hsl.symm, fun q hq => ?_⟩
   simp only [hsu]
   exact app_row (F := AV.str) (L := usH hs i) (a := (hs.getD i haveD).1.2.1) (d := []) hq (fun a => AV.str_sub _)
  ·have h2 : (hs.getD i haveD).1.2.1 ∈ usH hs i := by simpa using h2
   rw [usA_in h2] at hsu
   refine ⟨(i + 1, g), hlt, by show hs.length - (i + 1) < hs.length - i; omega, ?_⟩
   simp only [hsu]
   exact ⟨⟨⟨trivial, trivial⟩, hw⟩, trivial, trivial, fun _ _ => ⟨trivial, trivial⟩⟩
 ·obtain ⟨i, g⟩ := p
  obtain rfl : i = hs.length := by have := of_decide_eq_false h1; have hp : i ≤ hs.length := hp; simp only at this; omega
  refine ⟨⟨(0, g), Nat.zero_le _, ?_⟩, fun p hp => VB_intro (fun h5 => ?_) (fun h5 => ?_)⟩
  ·simp only [usH_all hs es]
   exact ⟨⟨⟨trivial, trivial⟩, rfl⟩, trivial, trivial, fun _ _ => ⟨trivial, trivial⟩⟩
  ·obtain ⟨i, g⟩ := p
   have hlt : i < es.length := by have := of_decide_eq_true h5; simp only at this; omega
   have hsu := usE_succ (hs := hs) hlt
   have hle := usE_len (hs := hs) (es := es) i
   have hw : IntKind.i64.wrap ((i : Int) + 1) = ((i + 1 : Nat) : Int) := by rw [wrap_i64_id (by omega) (by omega)]; rfl
   have hd : decide ((0 : Int) ≤ (i : Int) ∧ (i : Int) < es.length) = true := decide_eq_true (by omega)
   refine NB_intro hd (NB_intro (isSs_A (by simp only; omega) _) (VB_intro (fun h2 => NB_intro hd (NB_intro (by simp [room]; omega) ?_)) (fun h2 => ?_)))
   ·have h2 : (es.getD i aggD).2.1 ∉ usE hs es i := by simpa using h2
    rw [usA_out h2] at hsu
    have hsl : (usE hs es (i + 1)).length = (usE hs es i).length + 1 := by rw [hsu]; simp
    refine ⟨(i + 1, g + 1), hlt, by show es.length - (i + 1) < es.length - i; omega, ⟨⟨rfl, hsl.symm⟩, hw⟩, rfl, hsl.symm, fun q hq => ?_⟩
    simp only [hsu]
    exact app_row (F := AV.str) (L := usE hs es i) (a := (es.getD i aggD).2.1) (d := []) hq (fun a => AV.str_sub _)
   ·have h2 : (es.getD i aggD).2.1 ∈ usE hs es i := by simpa using h2
    rw [usA_in h2] at hsu
    refine ⟨(i + 1, g), hlt, by show es.length - (i + 1) < es.length - i; omega, ?_⟩
    simp only [hsu]
    exact ⟨⟨⟨trivial, trivial⟩, hw⟩, trivial, trivial, fun _ _ => ⟨trivial, trivial⟩⟩
  ·obtain ⟨i, g⟩ := p
   obtain rfl : i = es.length := by have := of_decide_eq_false h5; have hp : i ≤ es.length := hp; simp only at this; omega
   exact ⟨rfl, fun q hq => ⟨rfl, rfl⟩, fun h => by cases h⟩
def anyDup (A : List AtomG) : Bool := (List.range A.length).any (dup10 A)
def nm10 (A : List AtomG) (N : List Bool) : List (List UInt8) := if anyDup A = true then [] else nmL A N A.length
theorem nmL_le (A : List AtomG) (N : List Bool) : ∀ i, (nmL A N i).length ≤ i
 | 0 => Nat.le_refl _
 | i + 1 => by
  have := nmL_le A N i
  rw [nmL]
  split
  ·rw [List.length_append, List.length_singleton]; omega
  ·omega
theorem anyDup_t {A : List AtomG} {i : Nat} (hi : i < A.length) (h : dup10 A i = true) : anyDup A = true := List.any_eq_true.2 ⟨i, by simpa using hi, h⟩
theorem anyDup_f {A : List AtomG} (h : ∀ i, i < A.length → dup10 A i = false) : anyDup A = false := by
 rw [anyDup, List.any_eq_false]
 intro i hi
 rw [h i (by simpa using hi)]
 simp
theorem names10_sat (hAN : A.length = N.length) (hA : A.length ≤ 1000) : (vcFun (EQ3 x w hs es A N H U e b ok) 20 53 [qA x w hs es] .nil 0 (retP 4 (.tup [ssA (nm10 A N), .bool (!anyDup A)]))).sat := by
 refine (names10_vc x w hs es A N H U e b ok _ _).mpr (NB_intro (atB_self _) (NB_intro (atB_self _) ?_))
 simp only [atsWR, bosWR, EqI, true_and, and_true, imp_self, implies_true, Int.toNat_natCast, Nat.zero_add, or_self, decide_true, NB_t, Bool.true_and, Bool.and_true]
 refine ⟨⟨(0, 0), ⟨Nat.zero_le _, fun j hj => by simp only at hj; omega⟩, ⟨⟨rfl, rfl⟩, rfl⟩, rfl⟩, fun p ⟨hp1, hp2⟩ => VB_intro (fun h1 => ?_) (fun h1 => ?_)⟩
 ·obtain ⟨i, g⟩ := p
  simp only at hp1 hp2 h1 ⊢
  have hlt : i < A.length := by have := of_decide_eq_true h1; omega
  have hw : IntKind.i64.wrap ((i : Int) + 1) = ((i + 1 : Nat) : Int) := by rw [wrap_i64_id (by omega) (by omega)]; rfl
  refine ⟨⟨(g, 0), ⟨Nat.zero_le _, fun k hk => absurd hk (Nat.not_lt_zero k)⟩, by simp⟩, fun q hq => ?_⟩
  obtain ⟨g', k⟩ := q
  obtain ⟨hq3, hq4⟩ := hq
  simp only at hq3 hq4 ⊢
  refine VB_intro (fun h2 => ?_) (fun h2 => ?_)
  ·have hk : k < i := by have := of_decide_eq_true h2; omega
   refine NB_intro (decide_eq_true (by omega)) (NB_intro (impB_t.2 fun _ => decide_eq_true (by omega)) (NB_intro (impB_t.2 fun _ => decide_eq_true (by omega)) (VB_intro (fun h3 => ?_) (fun h3 => ?_))))
   ·have h3 : sam10 A i k = true := h3
    have hd : anyDup A = true := anyDup_t hlt (List.any_eq_true.2 ⟨k, by simpa using hk, h3⟩)
    rw [nm10, if_pos hd, hd]
    exact ⟨rfl, rfl⟩
   ·have h3 : sam10 A i k = false := h3
    refine ⟨(g', k + 1), ⟨hk, fun j hj => ?_⟩, by show i - (k + 1) < i - k; omega, by simp only [true_and, and_true]; first | (rw [wrap_i64_id (by omega) (by omega)]; rfl) | skip⟩
    simp only at hj
    rcases Nat.lt_or_ge j k with h4 | h4
    ·exact hq4 j h4
    ·obtain rfl : j = k := by omega
     exact h3
  ·obtain rfl : k = i := by have := of_decide_eq_false h2; omega
   have hnd : dup10 A k = false := by
    rw [dup10, List.any_eq_false]
    intro j hj
    rw [hq4 j (by simpa using hj)]
    simp
   have hle := nmL_le A N k
   have hd2 : ∀ j, j < k + 1 → dup10 A j = false := fun j hj => by
    rcases Nat.lt_or_ge j k with h4 | h4
    ·exact hp2 j h4
    ·obtain rfl : j = k := by omega
     exact hnd
   have hs' : nmL A N (k + 1) = if (!(nmOf A k == []) && !N.getD k false) = true then nmL A N k ++ [nmOf A k] else nmL A N k := rfl
   refine NB_intro (decide_eq_true (by omega)) (NB_intro (impB_t.2 fun _ => decide_eq_true (by omega)) (VB_intro (fun h5 => NB_intro (decide_eq_true (by omega)) (NB_intro (by simp [room]; omega) ?_)) (fun h5 => ?_)))
   ·have h5 : (!(nmOf A k == []) && !N.getD k false) = true := h5
    rw [if_pos h5] at hs'
    have hsl : (nmL A N (k + 1)).length = (nmL A N k).length + 1 := by rw [hs']; simp
    refine ⟨(k + 1, g' + 1), ⟨hlt, hd2⟩, by show A.length - (k + 1) < A.length - k; omega, ⟨⟨rfl, hsl.symm⟩, hw⟩, rfl, hsl.symm, fun q hq => ?_⟩
    simp only [hs']
    exact app_row (F := AV.str) (L := nmL A N k) (a := nmOf A k) (d := []) hq (fun a => AV.str_sub _)
   ·have h5 : (!(nmOf A k == []) && !N.getD k false) = false := h5
    rw [if_neg (by rw [h5]; simp)] at hs'
    refine ⟨(k + 1, g'), ⟨hlt, hd2⟩, by show A.length - (k + 1) < A.length - k; omega, ?_⟩
    simp only [hs']
    exact ⟨⟨⟨trivial, trivial⟩, hw⟩, trivial, trivial, fun _ _ => ⟨trivial, trivial⟩⟩
 ·obtain ⟨i, g⟩ := p
  simp only at hp1 hp2 h1 ⊢
  obtain rfl : i = A.length := by have := of_decide_eq_false h1; omega
  rw [nm10, anyDup_f hp2]
  simp only [Bool.false_eq_true, if_false]
  simp
def nam10 (A : List AtomG) (N : List Bool) (H U : List (List UInt8)) : Bool := (List.range A.length).all (fun j => !(N.getD j false && !(nmOf A j == []))) && U.all fun u => decide (u ∈ H)
theorem named10_sat (hok : ok = true) (hAN : A.length = N.length) (hA : A.length ≤ 1000) (hH : H.length ≤ 1000) (hU : U.length ≤ 1000) : (vcFun (EQ3 x w hs es A N H U e b ok) 20 56 [qA x w hs es] .nil 0 (retP 4 (.bool (nam10 A N H U)))).sat := by
 subst hok
 refine (named10_vc x w hs es A N H U e b _ _).mpr (NB_intro (atB_self _) (NB_intro (atB_self _) ?_))
 simp only [qA_refl, atsWR, bosWR, ssRf, EqI, true_and, and_true, imp_self, implies_true, Int.toNat_natCast, Nat.zero_add, or_self, decide_true, NB_t, Bool.true_and, Bool.and_true, ssOf_A, atI_neg, atB_self, isSs_A hH]
 refine ⟨⟨0, ⟨Nat.zero_le _, fun j hj => by omega⟩, rfl⟩, fun i ⟨hi1, hi2⟩ => VB_intro (fun h1 => NB_intro (decide_eq_true ?_) (NB_intro (impB_t.2 fun _ => decide_eq_true ?_) (VB_intro (fun h2 => ?_) (fun h2 => ?_)))) (fun h1 => ?_)⟩
 ·have := of_decide_eq_true h1; omega
 ·have := of_decide_eq_true h1; omega
 ·have hlt : i < A.length := by have := of_decide_eq_true h1; omega
  have h2 : (N.getD i false && !(nmOf A i == [])) = true := h2
  rw [nam10, rng_no hlt (by rw [h2]; rfl), Bool.false_and]
 ·have hlt : i < A.length := by have := of_decide_eq_true h1; omega
  have h2 : (N.getD i false && !(nmOf A i == [])) = false := h2
  refine ⟨i + 1, ⟨hlt, fun j hj => ?_⟩, by show A.length - (i + 1) < A.length - i; omega, by rw [wrap_i64_id (by omega) (by omega)]; rfl⟩
  rcases Nat.lt_or_ge j i with h3 | h3
  ·exact hi2 j h3
  ·obtain rfl : j = i := by omega
   exact h2
 ·obtain rfl : i = A.length := by have := of_decide_eq_false h1; omega
  have hall : (List.range A.length).all (fun j => !(N.getD j false && !(nmOf A j == []))) = true := rng_yes fun j hj => by rw [hi2 j hj]; rfl
  refine ⟨⟨0, ⟨Nat.zero_le _, fun j hj => by omega⟩, rfl⟩, fun i ⟨hi1, hi2⟩ => VB_intro (fun h1 => NB_intro (decide_eq_true ?_) (VB_intro (fun h2 => ?_) (fun h2 => ?_))) (fun h1 => ?_)⟩
  ·have := of_decide_eq_true h1; omega
  ·have hlt : i < U.length := by have := of_decide_eq_true h1; omega
   have h2 : U.getD i [] ∉ H := by simpa using h2
   rw [nam10, hall, Bool.true_and]
   symm
   rw [Bool.eq_false_iff]
   intro hc
   refine h2 ?_
   have := List.all_eq_true.1 hc (U.getD i []) (by rw [List.getD_eq_getElem?_getD, List.getElem?_eq_getElem hlt]; exact List.getElem_mem hlt)
   exact of_decide_eq_true this
  ·have hlt : i < U.length := by have := of_decide_eq_true h1; omega
   have h2 : U.getD i [] ∈ H := by simpa using h2
   refine ⟨i + 1, ⟨hlt, fun j hj => ?_⟩, by show U.length - (i + 1) < U.length - i; omega, by rw [wrap_i64_id (by omega) (by omega)]; rfl⟩
   rcases Nat.lt_or_ge j i with h3 | h3
   ·exact hi2 j h3
   ·obtain rfl : j = i := by omega
    exact h2
  ·obtain rfl : i = U.length := by have := of_decide_eq_false h1; omega
   rw [nam10, hall, Bool.true_and]
   refine (List.all_eq_true.2 fun u hu => ?_).symm
   obtain ⟨j, hj, rfl⟩ := List.mem_iff_getElem.1 hu
   have := hi2 j hj
   rw [List.getD_eq_getElem?_getD, List.getElem?_eq_getElem hj] at this
   exact decide_eq_true this
end
end Go.Proofs.YtamcloifhjafcaaGreatDoor
