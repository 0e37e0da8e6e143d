/- WELL-FORMED 7: names, proofs. -/
import Derived.Test.YtamcloifhjafcaaDoorWF6
namespace Go.Proofs.YtamcloifhjafcaaDoor
open Pw Go
set_option maxRecDepth 100000
set_option linter.unusedSimpArgs false
theorem strF_sub {F : Nat → List UInt8} : ∀ k, (AV.str (F k)).sub (AV.str (F k)) := fun _ => AV.str_sub _
theorem esWR (es : List AggG) : (esW es).sub (esW es) = True := eq_true ⟨rfl, fun _ _ => ⟨⟨by simp [AV.sub], by simp [AV.sub], trivial⟩, rfl⟩, fun h => h⟩
theorem havesWR (hs : List HaveG) : (havesA hs).sub (havesA hs) = True := eq_true ⟨rfl, fun _ _ => ⟨⟨by simp [AV.sub], by simp [AV.sub], by simp [AV.sub], by simp [AV.sub], trivial⟩, rfl⟩, fun h => h⟩
theorem ssR (l : List (List UInt8)) : (ssA l).sub (ssA l) = True := eq_true ⟨rfl, fun _ _ => ⟨by simp [AV.sub], rfl⟩, fun h => h⟩
theorem atsWR (A : List AtomG) : (atsW A).sub (atsW A) = True := eq_true ⟨rfl, fun _ _ => ⟨atomA_refl _, rfl⟩, fun h => h⟩
theorem bosWR (N : List Bool) : (bosW N).sub (bosW N) = True := eq_true ⟨rfl, fun _ _ => ⟨by simp [AV.sub], rfl⟩, fun h => h⟩
theorem usN_snoc (l : List (List UInt8)) (n : List UInt8) : usN (l ++ [n]) = usA (usN l) n := by simp [usN]
theorem usN_len (l : List (List UInt8)) : (usN l).length ≤ l.length := by
  have key : ∀ (l acc : List (List UInt8)), (l.foldl usA acc).length ≤ acc.length + l.length := by
    intro l
    induction l with
    | nil => intro acc; simp
    | cons a l ih =>
      intro acc
      have h1 := ih (usA acc a)
      have h2 : (usA acc a).length ≤ acc.length + 1 := by unfold usA; split <;> simp
      simp only [List.foldl_cons, List.length_cons]
      omega
  have := key l []
  simpa [usN] using this
theorem usH_succ {hs : List HaveG} {i : Nat} (hi : i < hs.length) : usH hs (i + 1) = usA (usH hs i) (hs.getD i haveD).1.2.1 := by
  have hi' : i < (nmsH hs).length := by simpa [nmsH] using hi
  have := take_getD (nmsH hs) [] hi'
  rw [usH, this, usN_snoc]
  congr 1
  simp [nmsH, List.getD, hi]
theorem usE_succ {hs : List HaveG} {es : List AggG} {i : Nat} (hi : i < es.length) : usE hs es (i + 1) = usA (usE hs es i) (es.getD i aggD).2.1 := by
  have hi' : i < (nmsE es).length := by simpa [nmsE] using hi
  have := take_getD (nmsE es) [] hi'
  rw [usE, this, ← List.append_assoc, usN_snoc]
  congr 1
  simp [nmsE, List.getD, hi]
theorem usH_len {hs : List HaveG} (i : Nat) : (usH hs i).length ≤ hs.length := by
  have := usN_len ((nmsH hs).take i)
  have h2 := List.length_take_le' i (nmsH hs)
  have : (nmsH hs).length = hs.length := by simp [nmsH]
  unfold usH
  omega
theorem usE_len {hs : List HaveG} {es : List AggG} (i : Nat) : (usE hs es i).length ≤ hs.length + es.length := by
  have := usN_len (nmsH hs ++ (nmsE es).take i)
  have h2 := List.length_take_le' i (nmsE es)
  have h3 : (nmsH hs).length = hs.length := by simp [nmsH]
  have h4 : (nmsE es).length = es.length := by simp [nmsE]
  simp only [List.length_append] at this
  unfold usE
  omega
theorem usH_all (hs : List HaveG) (es : List AggG) : usH hs hs.length = usE hs es 0 := by
  unfold usH usE
  rw [List.take_of_length_le (by simp [nmsH])]
  simp
theorem usA_in {acc : List (List UInt8)} {n : List UInt8} (h : n ∈ acc) : usA acc n = acc := if_pos h
theorem usA_out {acc : List (List UInt8)} {n : List UInt8} (h : n ∉ acc) : usA acc n = acc ++ [n] := if_neg h
def usQ (hs : List HaveG) (es : List AggG) : List (List UInt8) := usE hs es es.length
theorem mem_snoc (acc : List (List UInt8)) (n s : List UInt8) : (if n = s then true else decide (s ∈ acc)) = decide (s ∈ acc ++ [n]) := by
  by_cases h : n = s
  · subst h; simp
  · have : s ≠ n := fun e => h e.symm
    simp [h, this]
theorem uses_pure (x : NodeG) (w : Int) (hs : List HaveG) (es : List AggG) (h10 : hs.length ≤ 10) (e10 : es.length ≤ 10) : PureC Tryd.prog gN 139 [qA x w hs es] (ssA (usQ hs es)) := by
  refine pure_vcG (d := 3) mix (tblG_nil _ _) ((uses_vc x w hs es _).mpr ?_)
  simp only [qA_refl, havesWR, esWR, EqI, true_and, and_true, imp_self, implies_true, Int.toNat_natCast, Nat.zero_add, or_self, decide_true, NB_t, Bool.true_and, Bool.and_true]
  refine ⟨⟨(0, 0), Nat.zero_le _, rfl, ⟨rfl, rfl⟩, fun s => by simp [lookS, usH, usN], rfl⟩, fun p hp => VB_intro (fun h1 => ?_) (fun h1 => ?_)⟩
  · obtain ⟨i, g⟩ := p
    have hlt : i < hs.length := by have := of_decide_eq_true h1; simp only at this; omega
    have hsu := usH_succ hlt
    have hle := usH_len (hs := hs) i
    have hw : IntKind.i64.wrap ((i : Int) + 1) = ((i + 1 : Nat) : Int) := by rw [wrap_i64_id (by omega) (by omega)]; rfl
    refine NB_intro (decide_eq_true (by simp only; omega)) (VB_intro (fun h2 => NB_intro (by simp [room]; omega) ?_) (fun h2 => ?_))
    · have h2 : (hs.getD i haveD).1.2.1 ∉ usH hs i := by simpa using h2
      rw [usA_out h2] at hsu
      have hsl : (usH hs (i + 1)).length = (usH hs i).length + 1 := by rw [hsu]; simp
      refine ⟨(i + 1, g + 1), hlt, by show hs.length - (i + 1) < hs.length - i; omega, hw, ⟨⟨rfl, hsl.symm⟩, rfl⟩, fun s => ?_, rfl, hsl.symm, fun q hq => ?_⟩
      · simp only [hsu]
        exact mem_snoc _ _ _
      · simp only [hsu]
        exact app_row (F := AV.str) (L := usH hs i) (a := (hs.getD i haveD).1.2.1) (d := []) hq (fun a => AV.str_sub _)
    · have h2 : (hs.getD i haveD).1.2.1 ∈ usH hs i := by simpa using h2
      rw [usA_in h2] at hsu
      refine ⟨(i + 1, g), hlt, by show hs.length - (i + 1) < hs.length - i; omega, hw, ?_⟩
      simp only [hsu]
      exact ⟨⟨⟨trivial, trivial⟩, trivial⟩, fun _ => trivial, trivial, trivial, fun _ _ => ⟨trivial, trivial⟩⟩
  · obtain ⟨i, g⟩ := p
    obtain rfl : i = hs.length := by have := of_decide_eq_false h1; have hp : i ≤ hs.length := hp; simp only at this; omega
    refine ⟨⟨(0, g), Nat.zero_le _, rfl, ?_⟩, fun p hp => VB_intro (fun h5 => ?_) (fun h5 => ?_)⟩
    · simp only [usH_all hs es]
      exact ⟨⟨⟨trivial, trivial⟩, trivial⟩, fun _ => trivial, trivial, trivial, fun _ _ => ⟨trivial, trivial⟩⟩
    · obtain ⟨i, g⟩ := p
      have hlt : i < es.length := by have := of_decide_eq_true h5; simp only at this; omega
      have hsu := usE_succ (hs := hs) hlt
      have hle := usE_len (hs := hs) (es := es) i
      have hw : IntKind.i64.wrap ((i : Int) + 1) = ((i + 1 : Nat) : Int) := by rw [wrap_i64_id (by omega) (by omega)]; rfl
      refine NB_intro (decide_eq_true (by simp only; omega)) (VB_intro (fun h2 => NB_intro (by simp [room]; omega) ?_) (fun h2 => ?_))
      · have h2 : (es.getD i aggD).2.1 ∉ usE hs es i := by simpa using h2
        rw [usA_out h2] at hsu
        have hsl : (usE hs es (i + 1)).length = (usE hs es i).length + 1 := by rw [hsu]; simp
        refine ⟨(i + 1, g + 1), hlt, by show es.length - (i + 1) < es.length - i; omega, hw, ⟨⟨rfl, hsl.symm⟩, rfl⟩, fun s => ?_, rfl, hsl.symm, fun q hq => ?_⟩
        · simp only [hsu]
          exact mem_snoc _ _ _
        · simp only [hsu]
          exact app_row (F := AV.str) (L := usE hs es i) (a := (es.getD i aggD).2.1) (d := []) hq (fun a => AV.str_sub _)
      · have h2 : (es.getD i aggD).2.1 ∈ usE hs es i := by simpa using h2
        rw [usA_in h2] at hsu
        refine ⟨(i + 1, g), hlt, by show es.length - (i + 1) < es.length - i; omega, hw, ?_⟩
        simp only [hsu]
        exact ⟨⟨⟨trivial, trivial⟩, trivial⟩, fun _ => trivial, trivial, trivial, fun _ _ => ⟨trivial, trivial⟩⟩
    · obtain ⟨i, g⟩ := p
      obtain rfl : i = es.length := by have := of_decide_eq_false h5; have hp : i ≤ es.length := hp; simp only at this; omega
      exact ⟨rfl, fun _ _ => ⟨rfl, rfl⟩, fun h => by cases h⟩
end Go.Proofs.YtamcloifhjafcaaDoor
