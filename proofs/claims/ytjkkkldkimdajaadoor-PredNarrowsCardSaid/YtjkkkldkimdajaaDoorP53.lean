/- PRED 53: the law of atoms made of numbers answers true, for 0 and 1 values. -/
import Derived.Test.YtjkkkldkimdajaaDoorP51
import Derived.Test.YtjkkkldkimdajaaDoorP49
import Derived.Test.YtjkkkldkimdajaaDoorP50
namespace Go.Proofs.YtjkkkldkimdajaaDoor
open Pw Go
set_option maxRecDepth 100000
set_option linter.unusedSimpArgs false

theorem and4 {a b c : Bool} (ha : a = true) (hb : b = true) (hc : c = true) : (a && b && c && true) = true := by rw [ha, hb, hc]; rfl
theorem and5 {a b c d : Bool} (ha : a = true) (hb : b = true) (hc : c = true) (hd : d = true) : (a && b && c && d && true) = true := by rw [ha, hb, hc, hd]; rfl

theorem and4b {a b c d : Bool} (ha : a = true) (hb : b = true) (hc : c = true) (hd : d = true) : (a && b && c && d) = true := by rw [ha, hb, hc, hd]; rfl

theorem nar0_sat (vs : Nat → Int) (n more l ek x : Int) (hl : u64B l = true) (hx : lowI ≤ x ∧ x ≤ highI) :
    (vcFun (mkN Tryd.prog gN (tblOf tblP) (tblOf tblPN) (fun f b => if f = 9 ∧ 100000 ≤ b then inv0 0 vs n more l ek x (b - 100000) else none) 5) 20 9 [.int .i64 n, .rof 0 (fun i => .int .i64 (vs i)) false, .agg [.int .u64 l, .int .i64 ek, .int .i64 x], .int .i64 more] .nil 0 (isBool true)).sat := by
  refine (nar0_vc vs n more l ek x).mpr ?_
  obtain ⟨hu, hbo⟩ := boS_ok n
  obtain ⟨hu2, hbo2⟩ := bo2S_ok n more
  have hk := kindS_range n
  have hoA : okAll (atA n []).n (atA n []).o = true := okAll_iff.2 fun i hi => by
    exact absurd hi (Nat.not_lt_zero i)
  have hoL : okAll (atL n more [cMore more x]).n (atL n more [cMore more x]).o = true := okAll_iff.2 fun i hi => by
    match i, hi with
    | 0, _ => exact op_ok6 _
  have hrA : rngAll (atA n []).n (atA n []).v = true := rngAll_iff.2 fun i hi => by
    exact absurd hi (Nat.not_lt_zero i)
  have hcA : checkE (kindS n) (bdS n) (boS n) (atA n []).n (atA n []).o [120] = 0 := nf_check (show 0 ≤ 8 by decide) hoA hk hbo
  have hcL : checkE (kindS n) (bdS n) (bo2S n more) (atL n more [cMore more x]).n (atL n more [cMore more x]).o [120] = 0 := nf_check (show 1 ≤ 8 by decide) hoL hk hbo2
  refine ⟨VB_intro (fun h => ⟨(), trivial, ?_⟩) (fun h => ⟨(), trivial, ?_⟩), fun _ _ => ⟨⟨(), trivial, ?_⟩, fun _ _ => ?_⟩⟩
  · have e : boS n = labS (IntKind.i64.wrap ((n % 1073741824).tdiv 52)) := if_pos h
    simp [kS, kindS, bdS, e]
  · have e : boS n = 0 := if_neg (fun hh => by rw [show bdS n = false from h] at hh; cases hh)
    simp [kS, kindS, bdS, e]
  · simp
  refine NB_intro (and4b rfl rfl hl hu) (VB_intro (fun h => ?_) (fun _ => ⟨VB_intro (fun h => NB_intro ?_ (VB_intro (fun h2 => ?_) (fun _ => ⟨(), trivial, ?_⟩))) (fun h => VB_intro (fun h2 => ?_) (fun _ => ⟨(), trivial, ?_⟩)), fun _ _ => ?_⟩))
  · exact h.symm.trans (nf_first hcA hk hu hl hx) |> fun e => by cases e
  · obtain ⟨s1, s2, s3, s4⟩ := nf_sam hcA (nf_lst hcA h)
    exact and4b rfl rfl ((congrArg u64B s2).trans hu) hu
  · exact h2.symm.trans (nf_second hcA hk (nf_lst hcA h)) |> fun e => by cases e
  · (simp [isS0, AtomA.mB, atA, nmX]; rfl)
  · exact h2.symm.trans (nf_third h) |> fun e => by cases e
  · (simp [isS0, AtomA.mB, atA, nmX]; rfl)
  refine ⟨VB_intro (fun h => ⟨(), trivial, ?_⟩) (fun h => ⟨(), trivial, ?_⟩), fun _ _ => ?_⟩
  · have e : bo2S n more = andI .u64 (boS n) (labS more) := if_pos h
    simp [e]
  · have e : bo2S n more = boS n := if_neg (by rw [h]; decide)
    simp [e]
  have hOk : okAts 3 (ats0 vs n more x) = true := okAts_iff.2 fun j hj => by
    match j, hj with
    | 0, _ => exact ⟨(show ([120] : List UInt8).length ≤ 9223372036854775807 by decide), hu⟩
    | 1, _ => exact ⟨(show ([120] : List UInt8).length ≤ 9223372036854775807 by decide), hu2⟩
    | 2, _ => exact ⟨(show ([120] : List UInt8).length ≤ 9223372036854775807 by decide), hu⟩
  have hAt : atsB 3 (fun j => nrmA ([rolN (atA n []), rolA (atL n more [cMore more x]) [cMore more x], rolN (atA n [])].getD j .undef)) = true := rfl
  refine NB_intro (and5 rfl rfl hl hu2) ⟨NB_intro ?_ ⟨(), trivial, ⟨rfl, rfl, rfl, rfl, ⟨rfl, fun _ _ => ⟨rfl, rfl⟩, fun h => h⟩, rfl, trivial⟩, trivial⟩, fun _ _ => ?_⟩
  · refine and5 ?_ ?_ ?_ ?_
    · exact decide_eq_true (show 3 ≤ 1000000 by decide)
    · exact hAt
    · exact hOk
    · exact hl
  have hA : isS0 vs n more l ek x = ((!bdS n || belowS l (boS n)) && allS (atA n []).n (atA n []).o (atA n []).v x) := nf_matB hcA hk
  have hL : wasS0 vs n more l ek x = ((!bdS n || belowS l (bo2S n more)) && allS (atL n more [cMore more x]).n (atL n more [cMore more x]).o (atL n more [cMore more x]).v x) := nf_matB hcL hk
  have hI : (atL n more [cMore more x]).mE (kindS n) = 0 := nf_matE hcL hk
  have hE : allE (ats0 vs n more x) 3 (kindS n) = 0 := by
    have c0 : checkJ (ats0 vs n more x) 0 = 0 := hcA
    have c1 : checkJ (ats0 vs n more x) 1 = 0 := hcL
    have c2 : checkJ (ats0 vs n more x) 2 = 0 := hcA
    have : ckS (ats0 vs n more x) 3 = 0 := by simp [ckS, c0, c1, c2]
    rw [allE, if_pos this, nf_event hk]
  have m0 : matchJ (ats0 vs n more x) l (kindS n) x 0 = isS0 vs n more l ek x := by
    rw [hA]
    show ((kindS n == kindS n) && _ && _) = _
    rw [beq_self_eq_true, Bool.true_and]
    rfl
  have m2 : matchJ (ats0 vs n more x) l (kindS n) x 2 = isS0 vs n more l ek x := m0
  have m1 : matchJ (ats0 vs n more x) l (kindS n) x 1 = wasS0 vs n more l ek x := by
    rw [hL]
    show ((kindS n == kindS n) && _ && _) = _
    rw [beq_self_eq_true, Bool.true_and]
    rfl
  have hS := wh3 m0 m1 m2
  have hab : wasS0 vs n more l ek x = true → isS0 vs n more l ek x = true := fun h => by
    rw [hL] at h
    rw [hA]
    simp only [Bool.and_eq_true, Bool.or_eq_true, Bool.not_eq_true'] at h ⊢
    refine ⟨h.1.imp id fun hb => ?_, allS_iff.2 fun i hi => ?_⟩
    · cases hbd : bdS n with
      | false => rw [bo2S, if_neg (by rw [hbd]; decide)] at hb; exact hb
      | true => rw [bo2S, if_pos hbd] at hb; exact below_and hu (labS_ok more) hb
    · exact absurd hi (Nat.not_lt_zero i)
  exact nar_tail hI hE hS hab
theorem nar1_sat (vs : Nat → Int) (n more l ek x : Int) (hv : ∀ i, i < 1 → lowI ≤ vs i ∧ vs i ≤ highI) (hl : u64B l = true) (hx : lowI ≤ x ∧ x ≤ highI) :
    (vcFun (mkN Tryd.prog gN (tblOf tblP) (tblOf tblPN) (fun f b => if f = 9 ∧ 100000 ≤ b then inv1 1 vs n more l ek x (b - 100000) else none) 5) 20 9 [.int .i64 n, .rof 1 (fun i => .int .i64 (vs i)) false, .agg [.int .u64 l, .int .i64 ek, .int .i64 x], .int .i64 more] .nil 0 (isBool true)).sat := by
  refine (nar1_vc vs n more l ek x).mpr ?_
  obtain ⟨hu, hbo⟩ := boS_ok n
  obtain ⟨hu2, hbo2⟩ := bo2S_ok n more
  have hk := kindS_range n
  have hoA : okAll (atA n [cAt n vs 0 0]).n (atA n [cAt n vs 0 0]).o = true := okAll_iff.2 fun i hi => by
    match i, hi with
    | 0, _ => exact op_ok6 _
  have hoL : okAll (atL n more [cAt n vs 0 0, cMore more x]).n (atL n more [cAt n vs 0 0, cMore more x]).o = true := okAll_iff.2 fun i hi => by
    match i, hi with
    | 0, _ => exact op_ok6 _
    | 1, _ => exact op_ok6 _
  have hrA : rngAll (atA n [cAt n vs 0 0]).n (atA n [cAt n vs 0 0]).v = true := rngAll_iff.2 fun i hi => by
    match i, hi with
    | 0, _ => exact hv 0 (by omega)
  have hcA : checkE (kindS n) (bdS n) (boS n) (atA n [cAt n vs 0 0]).n (atA n [cAt n vs 0 0]).o [120] = 0 := nf_check (show 1 ≤ 8 by decide) hoA hk hbo
  have hcL : checkE (kindS n) (bdS n) (bo2S n more) (atL n more [cAt n vs 0 0, cMore more x]).n (atL n more [cAt n vs 0 0, cMore more x]).o [120] = 0 := nf_check (show 2 ≤ 8 by decide) hoL hk hbo2
  refine ⟨VB_intro (fun h => ⟨(), trivial, ?_⟩) (fun h => ⟨(), trivial, ?_⟩), fun _ _ => ⟨⟨(), trivial, ?_⟩, fun _ _ => ?_⟩⟩
  · have e : boS n = labS (IntKind.i64.wrap ((n % 1073741824).tdiv 52)) := if_pos h
    simp [kS, kindS, bdS, e]
  · have e : boS n = 0 := if_neg (fun hh => by rw [show bdS n = false from h] at hh; cases hh)
    simp [kS, kindS, bdS, e]
  · simp
  refine NB_intro (and5 rfl rfl hl hu) (NB_intro (and4 rfl rfl hrA) (NB_intro (and4 rfl rfl hrA) (VB_intro (fun h => ?_) (fun _ => ⟨VB_intro (fun h => NB_intro ?_ (VB_intro (fun h2 => ?_) (fun _ => ⟨(), trivial, ?_⟩))) (fun h => VB_intro (fun h2 => ?_) (fun _ => ⟨(), trivial, ?_⟩)), fun _ _ => ?_⟩))))
  · exact h.symm.trans (nf_first hcA hk hu hl hx) |> fun e => by cases e
  · obtain ⟨s1, s2, s3, s4⟩ := nf_sam hcA (nf_lst hcA h)
    exact and5 rfl rfl ((congrArg u64B s2).trans hu) hu
  · exact h2.symm.trans (nf_second hcA hk (nf_lst hcA h)) |> fun e => by cases e
  · simp [isS1, AtomA.mB, atA, nmX]
  · exact h2.symm.trans (nf_third h) |> fun e => by cases e
  · simp [isS1, AtomA.mB, atA, nmX]
  refine ⟨VB_intro (fun h => ⟨(), trivial, ?_⟩) (fun h => ⟨(), trivial, ?_⟩), fun _ _ => ?_⟩
  · have e : bo2S n more = andI .u64 (boS n) (labS more) := if_pos h
    simp [e]
  · have e : bo2S n more = boS n := if_neg (by rw [h]; decide)
    simp [e]
  have hOk : okAts 3 (ats1 vs n more x) = true := okAts_iff.2 fun j hj => by
    match j, hj with
    | 0, _ => exact ⟨(show ([120] : List UInt8).length ≤ 9223372036854775807 by decide), hu⟩
    | 1, _ => exact ⟨(show ([120] : List UInt8).length ≤ 9223372036854775807 by decide), hu2⟩
    | 2, _ => exact ⟨(show ([120] : List UInt8).length ≤ 9223372036854775807 by decide), hu⟩
  have hAt : atsB 3 (fun j => nrmA ([rolA (atA n [cAt n vs 0 0]) [cAt n vs 0 0], rolA (atL n more [cAt n vs 0 0, cMore more x]) [cAt n vs 0 0, cMore more x], rolA (atA n [cAt n vs 0 0]) [cAt n vs 0 0]].getD j .undef)) = true := rfl
  refine NB_intro (and5 rfl rfl hl hu2) ⟨NB_intro ?_ ⟨(), trivial, ⟨rfl, rfl, rfl, rfl, ⟨rfl, fun _ _ => ⟨rfl, rfl⟩, fun h => h⟩, rfl, trivial⟩, trivial⟩, fun _ _ => ?_⟩
  · refine and5 ?_ ?_ ?_ ?_
    · exact decide_eq_true (show 3 ≤ 1000000 by decide)
    · exact hAt
    · exact hOk
    · exact hl
  have hA : isS1 vs n more l ek x = ((!bdS n || belowS l (boS n)) && allS (atA n [cAt n vs 0 0]).n (atA n [cAt n vs 0 0]).o (atA n [cAt n vs 0 0]).v x) := nf_matB hcA hk
  have hL : wasS1 vs n more l ek x = ((!bdS n || belowS l (bo2S n more)) && allS (atL n more [cAt n vs 0 0, cMore more x]).n (atL n more [cAt n vs 0 0, cMore more x]).o (atL n more [cAt n vs 0 0, cMore more x]).v x) := nf_matB hcL hk
  have hI : (atL n more [cAt n vs 0 0, cMore more x]).mE (kindS n) = 0 := nf_matE hcL hk
  have hE : allE (ats1 vs n more x) 3 (kindS n) = 0 := by
    have c0 : checkJ (ats1 vs n more x) 0 = 0 := hcA
    have c1 : checkJ (ats1 vs n more x) 1 = 0 := hcL
    have c2 : checkJ (ats1 vs n more x) 2 = 0 := hcA
    have : ckS (ats1 vs n more x) 3 = 0 := by simp [ckS, c0, c1, c2]
    rw [allE, if_pos this, nf_event hk]
  have m0 : matchJ (ats1 vs n more x) l (kindS n) x 0 = isS1 vs n more l ek x := by
    rw [hA]
    show ((kindS n == kindS n) && _ && _) = _
    rw [beq_self_eq_true, Bool.true_and]
    rfl
  have m2 : matchJ (ats1 vs n more x) l (kindS n) x 2 = isS1 vs n more l ek x := m0
  have m1 : matchJ (ats1 vs n more x) l (kindS n) x 1 = wasS1 vs n more l ek x := by
    rw [hL]
    show ((kindS n == kindS n) && _ && _) = _
    rw [beq_self_eq_true, Bool.true_and]
    rfl
  have hS := wh3 m0 m1 m2
  have hab : wasS1 vs n more l ek x = true → isS1 vs n more l ek x = true := fun h => by
    rw [hL] at h
    rw [hA]
    simp only [Bool.and_eq_true, Bool.or_eq_true, Bool.not_eq_true'] at h ⊢
    refine ⟨h.1.imp id fun hb => ?_, allS_iff.2 fun i hi => ?_⟩
    · cases hbd : bdS n with
      | false => rw [bo2S, if_neg (by rw [hbd]; decide)] at hb; exact hb
      | true => rw [bo2S, if_pos hbd] at hb; exact below_and hu (labS_ok more) hb
    · match i, hi with
      | 0, _ => exact allS_iff.1 h.2 0 (show 0 < 2 by decide)
  exact nar_tail hI hE hS hab
end Go.Proofs.YtjkkkldkimdajaaDoor
namespace Go.Proofs.YtjkkkldkimdajaaDoor
open Pw Go
set_option maxRecDepth 100000
set_option linter.unusedSimpArgs false

theorem nar2_sat (vs : Nat → Int) (n more l ek x : Int) (hv : ∀ i, i < 2 → lowI ≤ vs i ∧ vs i ≤ highI) (hl : u64B l = true) (hx : lowI ≤ x ∧ x ≤ highI) :
    (vcFun (mkN Tryd.prog gN (tblOf tblP) (tblOf tblPN) (fun f b => if f = 9 ∧ 100000 ≤ b then inv2 2 vs n more l ek x (b - 100000) else none) 5) 20 9 [.int .i64 n, .rof 2 (fun i => .int .i64 (vs i)) false, .agg [.int .u64 l, .int .i64 ek, .int .i64 x], .int .i64 more] .nil 0 (isBool true)).sat := by
  refine (nar2_vc vs n more l ek x).mpr ?_
  obtain ⟨hu, hbo⟩ := boS_ok n
  obtain ⟨hu2, hbo2⟩ := bo2S_ok n more
  have hk := kindS_range n
  have hoA : okAll (atA n [cAt n vs 0 0, cAt n vs 1 1]).n (atA n [cAt n vs 0 0, cAt n vs 1 1]).o = true := okAll_iff.2 fun i hi => by
    match i, hi with
    | 0, _ => exact op_ok6 _
    | 1, _ => exact op_ok6 _
  have hoL : okAll (atL n more [cAt n vs 0 0, cAt n vs 1 1, cMore more x]).n (atL n more [cAt n vs 0 0, cAt n vs 1 1, cMore more x]).o = true := okAll_iff.2 fun i hi => by
    match i, hi with
    | 0, _ => exact op_ok6 _
    | 1, _ => exact op_ok6 _
    | 2, _ => exact op_ok6 _
  have hrA : rngAll (atA n [cAt n vs 0 0, cAt n vs 1 1]).n (atA n [cAt n vs 0 0, cAt n vs 1 1]).v = true := rngAll_iff.2 fun i hi => by
    match i, hi with
    | 0, _ => exact hv 0 (by omega)
    | 1, _ => exact hv 1 (by omega)
  have hcA : checkE (kindS n) (bdS n) (boS n) (atA n [cAt n vs 0 0, cAt n vs 1 1]).n (atA n [cAt n vs 0 0, cAt n vs 1 1]).o [120] = 0 := nf_check (show 2 ≤ 8 by decide) hoA hk hbo
  have hcL : checkE (kindS n) (bdS n) (bo2S n more) (atL n more [cAt n vs 0 0, cAt n vs 1 1, cMore more x]).n (atL n more [cAt n vs 0 0, cAt n vs 1 1, cMore more x]).o [120] = 0 := nf_check (show 3 ≤ 8 by decide) hoL hk hbo2
  refine ⟨VB_intro (fun h => ⟨(), trivial, ?_⟩) (fun h => ⟨(), trivial, ?_⟩), fun _ _ => ⟨⟨(), trivial, ?_⟩, fun _ _ => ?_⟩⟩
  · have e : boS n = labS (IntKind.i64.wrap ((n % 1073741824).tdiv 52)) := if_pos h
    simp [kS, kindS, bdS, e]
  · have e : boS n = 0 := if_neg (fun hh => by rw [show bdS n = false from h] at hh; cases hh)
    simp [kS, kindS, bdS, e]
  · simp
  refine NB_intro (and5 rfl rfl hl hu) (NB_intro (and4 rfl rfl hrA) (NB_intro (and4 rfl rfl hrA) (VB_intro (fun h => ?_) (fun _ => ⟨VB_intro (fun h => NB_intro ?_ (VB_intro (fun h2 => ?_) (fun _ => ⟨(), trivial, ?_⟩))) (fun h => VB_intro (fun h2 => ?_) (fun _ => ⟨(), trivial, ?_⟩)), fun _ _ => ?_⟩))))
  · exact h.symm.trans (nf_first hcA hk hu hl hx) |> fun e => by cases e
  · obtain ⟨s1, s2, s3, s4⟩ := nf_sam hcA (nf_lst hcA h)
    exact and5 rfl rfl ((congrArg u64B s2).trans hu) hu
  · exact h2.symm.trans (nf_second hcA hk (nf_lst hcA h)) |> fun e => by cases e
  · simp [isS2, AtomA.mB, atA, nmX]
  · exact h2.symm.trans (nf_third h) |> fun e => by cases e
  · simp [isS2, AtomA.mB, atA, nmX]
  refine ⟨VB_intro (fun h => ⟨(), trivial, ?_⟩) (fun h => ⟨(), trivial, ?_⟩), fun _ _ => ?_⟩
  · have e : bo2S n more = andI .u64 (boS n) (labS more) := if_pos h
    simp [e]
  · have e : bo2S n more = boS n := if_neg (by rw [h]; decide)
    simp [e]
  have hOk : okAts 3 (ats2 vs n more x) = true := okAts_iff.2 fun j hj => by
    match j, hj with
    | 0, _ => exact ⟨(show ([120] : List UInt8).length ≤ 9223372036854775807 by decide), hu⟩
    | 1, _ => exact ⟨(show ([120] : List UInt8).length ≤ 9223372036854775807 by decide), hu2⟩
    | 2, _ => exact ⟨(show ([120] : List UInt8).length ≤ 9223372036854775807 by decide), hu⟩
  have hAt : atsB 3 (fun j => nrmA ([rolA (atA n [cAt n vs 0 0, cAt n vs 1 1]) [cAt n vs 0 0, cAt n vs 1 1], rolA (atL n more [cAt n vs 0 0, cAt n vs 1 1, cMore more x]) [cAt n vs 0 0, cAt n vs 1 1, cMore more x], rolA (atA n [cAt n vs 0 0, cAt n vs 1 1]) [cAt n vs 0 0, cAt n vs 1 1]].getD j .undef)) = true := rfl
  refine NB_intro (and5 rfl rfl hl hu2) ⟨NB_intro ?_ ⟨(), trivial, ⟨rfl, rfl, rfl, rfl, ⟨rfl, fun _ _ => ⟨rfl, rfl⟩, fun h => h⟩, rfl, trivial⟩, trivial⟩, fun _ _ => ?_⟩
  · refine and5 ?_ ?_ ?_ ?_
    · exact decide_eq_true (show 3 ≤ 1000000 by decide)
    · exact hAt
    · exact hOk
    · exact hl
  have hA : isS2 vs n more l ek x = ((!bdS n || belowS l (boS n)) && allS (atA n [cAt n vs 0 0, cAt n vs 1 1]).n (atA n [cAt n vs 0 0, cAt n vs 1 1]).o (atA n [cAt n vs 0 0, cAt n vs 1 1]).v x) := nf_matB hcA hk
  have hL : wasS2 vs n more l ek x = ((!bdS n || belowS l (bo2S n more)) && allS (atL n more [cAt n vs 0 0, cAt n vs 1 1, cMore more x]).n (atL n more [cAt n vs 0 0, cAt n vs 1 1, cMore more x]).o (atL n more [cAt n vs 0 0, cAt n vs 1 1, cMore more x]).v x) := nf_matB hcL hk
  have hI : (atL n more [cAt n vs 0 0, cAt n vs 1 1, cMore more x]).mE (kindS n) = 0 := nf_matE hcL hk
  have hE : allE (ats2 vs n more x) 3 (kindS n) = 0 := by
    have c0 : checkJ (ats2 vs n more x) 0 = 0 := hcA
    have c1 : checkJ (ats2 vs n more x) 1 = 0 := hcL
    have c2 : checkJ (ats2 vs n more x) 2 = 0 := hcA
    have : ckS (ats2 vs n more x) 3 = 0 := by simp [ckS, c0, c1, c2]
    rw [allE, if_pos this, nf_event hk]
  have m0 : matchJ (ats2 vs n more x) l (kindS n) x 0 = isS2 vs n more l ek x := by
    rw [hA]
    show ((kindS n == kindS n) && _ && _) = _
    rw [beq_self_eq_true, Bool.true_and]
    rfl
  have m2 : matchJ (ats2 vs n more x) l (kindS n) x 2 = isS2 vs n more l ek x := m0
  have m1 : matchJ (ats2 vs n more x) l (kindS n) x 1 = wasS2 vs n more l ek x := by
    rw [hL]
    show ((kindS n == kindS n) && _ && _) = _
    rw [beq_self_eq_true, Bool.true_and]
    rfl
  have hS := wh3 m0 m1 m2
  have hab : wasS2 vs n more l ek x = true → isS2 vs n more l ek x = true := fun h => by
    rw [hL] at h
    rw [hA]
    simp only [Bool.and_eq_true, Bool.or_eq_true, Bool.not_eq_true'] at h ⊢
    refine ⟨h.1.imp id fun hb => ?_, allS_iff.2 fun i hi => ?_⟩
    · cases hbd : bdS n with
      | false => rw [bo2S, if_neg (by rw [hbd]; decide)] at hb; exact hb
      | true => rw [bo2S, if_pos hbd] at hb; exact below_and hu (labS_ok more) hb
    · match i, hi with
      | 0, _ => exact allS_iff.1 h.2 0 (show 0 < 3 by decide)
      | 1, _ => exact allS_iff.1 h.2 1 (show 1 < 3 by decide)
  exact nar_tail hI hE hS hab
end Go.Proofs.YtjkkkldkimdajaaDoor
namespace Go.Proofs.YtjkkkldkimdajaaDoor
open Pw Go
set_option maxRecDepth 100000
set_option linter.unusedSimpArgs false

theorem nar3_sat (q : Nat) (vs : Nat → Int) (n more l ek x : Int) (hv : ∀ i, i < 3 → lowI ≤ vs i ∧ vs i ≤ highI) (hl : u64B l = true) (hx : lowI ≤ x ∧ x ≤ highI) :
    (vcFun (mkN Tryd.prog gN (tblOf tblP) (tblOf tblPN) (fun f b => if f = 9 ∧ 100000 ≤ b then inv3 (q + 3) vs n more l ek x (b - 100000) else none) 5) 20 9 [.int .i64 n, .rof (q + 3) (fun i => .int .i64 (vs i)) false, .agg [.int .u64 l, .int .i64 ek, .int .i64 x], .int .i64 more] .nil 0 (isBool true)).sat := by
  refine (nar3_vc q vs n more l ek x).mpr ?_
  obtain ⟨hu, hbo⟩ := boS_ok n
  obtain ⟨hu2, hbo2⟩ := bo2S_ok n more
  have hk := kindS_range n
  have hoA : okAll (atA n [cAt n vs 0 0, cAt n vs 1 1, cAt n vs 2 2]).n (atA n [cAt n vs 0 0, cAt n vs 1 1, cAt n vs 2 2]).o = true := okAll_iff.2 fun i hi => by
    match i, hi with
    | 0, _ => exact op_ok6 _
    | 1, _ => exact op_ok6 _
    | 2, _ => exact op_ok6 _
  have hoL : okAll (atL n more [cAt n vs 0 0, cAt n vs 1 1, cAt n vs 2 2, cMore more x]).n (atL n more [cAt n vs 0 0, cAt n vs 1 1, cAt n vs 2 2, cMore more x]).o = true := okAll_iff.2 fun i hi => by
    match i, hi with
    | 0, _ => exact op_ok6 _
    | 1, _ => exact op_ok6 _
    | 2, _ => exact op_ok6 _
    | 3, _ => exact op_ok6 _
  have hrA : rngAll (atA n [cAt n vs 0 0, cAt n vs 1 1, cAt n vs 2 2]).n (atA n [cAt n vs 0 0, cAt n vs 1 1, cAt n vs 2 2]).v = true := rngAll_iff.2 fun i hi => by
    match i, hi with
    | 0, _ => exact hv 0 (by omega)
    | 1, _ => exact hv 1 (by omega)
    | 2, _ => exact hv 2 (by omega)
  have hcA : checkE (kindS n) (bdS n) (boS n) (atA n [cAt n vs 0 0, cAt n vs 1 1, cAt n vs 2 2]).n (atA n [cAt n vs 0 0, cAt n vs 1 1, cAt n vs 2 2]).o [120] = 0 := nf_check (show 3 ≤ 8 by decide) hoA hk hbo
  have hcL : checkE (kindS n) (bdS n) (bo2S n more) (atL n more [cAt n vs 0 0, cAt n vs 1 1, cAt n vs 2 2, cMore more x]).n (atL n more [cAt n vs 0 0, cAt n vs 1 1, cAt n vs 2 2, cMore more x]).o [120] = 0 := nf_check (show 4 ≤ 8 by decide) hoL hk hbo2
  refine ⟨VB_intro (fun h => ⟨(), trivial, ?_⟩) (fun h => ⟨(), trivial, ?_⟩), fun _ _ => ⟨VB_intro (fun _ => NB_intro (decide_eq_true (by omega)) (VB_intro (fun _ => NB_intro (decide_eq_true (by omega)) (VB_intro (fun _ => NB_intro (decide_eq_true (by omega)) (VB_intro (fun h => by rw [Bool.and_false] at h; cases h) (fun _ => ⟨(), trivial, ?_⟩))) (fun h => by rw [decide_eq_true (show (2 : Int) < ((q + 3 : Nat) : Int) by omega)] at h; cases h))) (fun h => by rw [decide_eq_true (show (1 : Int) < ((q + 3 : Nat) : Int) by omega)] at h; cases h))) (fun h => by rw [decide_eq_true (show (0 : Int) < ((q + 3 : Nat) : Int) by omega)] at h; cases h), fun _ _ => ?_⟩⟩
  · have e : boS n = labS (IntKind.i64.wrap ((n % 1073741824).tdiv 52)) := if_pos h
    simp [kS, kindS, bdS, e]
  · have e : boS n = 0 := if_neg (fun hh => by rw [show bdS n = false from h] at hh; cases hh)
    simp [kS, kindS, bdS, e]
  · simp
  refine NB_intro (and5 rfl rfl hl hu) (NB_intro (and4 rfl rfl hrA) (NB_intro (and4 rfl rfl hrA) (VB_intro (fun h => ?_) (fun _ => ⟨VB_intro (fun h => NB_intro ?_ (VB_intro (fun h2 => ?_) (fun _ => ⟨(), trivial, ?_⟩))) (fun h => VB_intro (fun h2 => ?_) (fun _ => ⟨(), trivial, ?_⟩)), fun _ _ => ?_⟩))))
  · exact h.symm.trans (nf_first hcA hk hu hl hx) |> fun e => by cases e
  · obtain ⟨s1, s2, s3, s4⟩ := nf_sam hcA (nf_lst hcA h)
    exact and5 rfl rfl ((congrArg u64B s2).trans hu) hu
  · exact h2.symm.trans (nf_second hcA hk (nf_lst hcA h)) |> fun e => by cases e
  · simp [isS3, AtomA.mB, atA, nmX]
  · exact h2.symm.trans (nf_third h) |> fun e => by cases e
  · simp [isS3, AtomA.mB, atA, nmX]
  refine ⟨VB_intro (fun h => ⟨(), trivial, ?_⟩) (fun h => ⟨(), trivial, ?_⟩), fun _ _ => ?_⟩
  · have e : bo2S n more = andI .u64 (boS n) (labS more) := if_pos h
    simp [e]
  · have e : bo2S n more = boS n := if_neg (by rw [h]; decide)
    simp [e]
  have hOk : okAts 3 (ats3 vs n more x) = true := okAts_iff.2 fun j hj => by
    match j, hj with
    | 0, _ => exact ⟨(show ([120] : List UInt8).length ≤ 9223372036854775807 by decide), hu⟩
    | 1, _ => exact ⟨(show ([120] : List UInt8).length ≤ 9223372036854775807 by decide), hu2⟩
    | 2, _ => exact ⟨(show ([120] : List UInt8).length ≤ 9223372036854775807 by decide), hu⟩
  have hAt : atsB 3 (fun j => nrmA ([rolA (atA n [cAt n vs 0 0, cAt n vs 1 1, cAt n vs 2 2]) [cAt n vs 0 0, cAt n vs 1 1, cAt n vs 2 2], rolA (atL n more [cAt n vs 0 0, cAt n vs 1 1, cAt n vs 2 2, cMore more x]) [cAt n vs 0 0, cAt n vs 1 1, cAt n vs 2 2, cMore more x], rolA (atA n [cAt n vs 0 0, cAt n vs 1 1, cAt n vs 2 2]) [cAt n vs 0 0, cAt n vs 1 1, cAt n vs 2 2]].getD j .undef)) = true := rfl
  refine NB_intro (and5 rfl rfl hl hu2) ⟨NB_intro ?_ ⟨(), trivial, ⟨rfl, rfl, rfl, rfl, ⟨rfl, fun _ _ => ⟨rfl, rfl⟩, fun h => h⟩, rfl, trivial⟩, trivial⟩, fun _ _ => ?_⟩
  · refine and5 ?_ ?_ ?_ ?_
    · exact decide_eq_true (show 3 ≤ 1000000 by decide)
    · exact hAt
    · exact hOk
    · exact hl
  have hA : isS3 vs n more l ek x = ((!bdS n || belowS l (boS n)) && allS (atA n [cAt n vs 0 0, cAt n vs 1 1, cAt n vs 2 2]).n (atA n [cAt n vs 0 0, cAt n vs 1 1, cAt n vs 2 2]).o (atA n [cAt n vs 0 0, cAt n vs 1 1, cAt n vs 2 2]).v x) := nf_matB hcA hk
  have hL : wasS3 vs n more l ek x = ((!bdS n || belowS l (bo2S n more)) && allS (atL n more [cAt n vs 0 0, cAt n vs 1 1, cAt n vs 2 2, cMore more x]).n (atL n more [cAt n vs 0 0, cAt n vs 1 1, cAt n vs 2 2, cMore more x]).o (atL n more [cAt n vs 0 0, cAt n vs 1 1, cAt n vs 2 2, cMore more x]).v x) := nf_matB hcL hk
  have hI : (atL n more [cAt n vs 0 0, cAt n vs 1 1, cAt n vs 2 2, cMore more x]).mE (kindS n) = 0 := nf_matE hcL hk
  have hE : allE (ats3 vs n more x) 3 (kindS n) = 0 := by
    have c0 : checkJ (ats3 vs n more x) 0 = 0 := hcA
    have c1 : checkJ (ats3 vs n more x) 1 = 0 := hcL
    have c2 : checkJ (ats3 vs n more x) 2 = 0 := hcA
    have : ckS (ats3 vs n more x) 3 = 0 := by simp [ckS, c0, c1, c2]
    rw [allE, if_pos this, nf_event hk]
  have m0 : matchJ (ats3 vs n more x) l (kindS n) x 0 = isS3 vs n more l ek x := by
    rw [hA]
    show ((kindS n == kindS n) && _ && _) = _
    rw [beq_self_eq_true, Bool.true_and]
    rfl
  have m2 : matchJ (ats3 vs n more x) l (kindS n) x 2 = isS3 vs n more l ek x := m0
  have m1 : matchJ (ats3 vs n more x) l (kindS n) x 1 = wasS3 vs n more l ek x := by
    rw [hL]
    show ((kindS n == kindS n) && _ && _) = _
    rw [beq_self_eq_true, Bool.true_and]
    rfl
  have hS := wh3 m0 m1 m2
  have hab : wasS3 vs n more l ek x = true → isS3 vs n more l ek x = true := fun h => by
    rw [hL] at h
    rw [hA]
    simp only [Bool.and_eq_true, Bool.or_eq_true, Bool.not_eq_true'] at h ⊢
    refine ⟨h.1.imp id fun hb => ?_, allS_iff.2 fun i hi => ?_⟩
    · cases hbd : bdS n with
      | false => rw [bo2S, if_neg (by rw [hbd]; decide)] at hb; exact hb
      | true => rw [bo2S, if_pos hbd] at hb; exact below_and hu (labS_ok more) hb
    · match i, hi with
      | 0, _ => exact allS_iff.1 h.2 0 (show 0 < 4 by decide)
      | 1, _ => exact allS_iff.1 h.2 1 (show 1 < 4 by decide)
      | 2, _ => exact allS_iff.1 h.2 2 (show 2 < 4 by decide)
  exact nar_tail hI hE hS hab
end Go.Proofs.YtjkkkldkimdajaaDoor
