/- NODES 32: contracts at any match, name and have. -/
import Derived.Test.YtamcloifhjafcaaDoorAN30
namespace Go.Proofs.YtamcloifhjafcaaDoor
open Pw Go
set_option maxRecDepth 100000
set_option linter.unusedSimpArgs false
def plOf : AV → PlG
 | .agg [.int .i64 a, .int .i64 b] => (a, b, ())
 | _ => plD
def psOf : AV → List PlG
 | .agg [.rof n f _] => (List.range n).map fun k => plOf (f k)
 | _ => []
def isM : AV → Bool
 | .agg [.rof n f _] => decide (n ≤ 60) && (List.range n).all fun k => isCond (f k)
 | _ => false
theorem psOf_mA (ps : List PlG) : psOf (mA ps) = ps := by
 show (List.range ps.length).map (fun k => plOf (plA (ps.getD k plD))) = ps
 exact range_getD ps plD
theorem isM_mA {ps : List PlG} (h : ps.length ≤ 60) : isM (mA ps) = true := by
 simp only [isM, Bool.and_eq_true, decide_eq_true_eq]
 exact ⟨h, List.all_eq_true.2 fun _ _ => rfl⟩
theorem isM_sub {m : AV} (h : isM m = true) : m.sub (mA (psOf m)) ∧ (psOf m).length ≤ 60 := by
 unfold isM at h
 split at h
 ·rename_i n f ex
  simp only [Bool.and_eq_true, decide_eq_true_eq, List.all_eq_true, List.mem_range] at h
  obtain ⟨h1, h2⟩ := h
  have hlen : (psOf (.agg [.rof n f ex])).length = n := by simp [psOf]
  refine ⟨⟨⟨hlen.symm, fun i hi => ?_, fun h => by cases h⟩, trivial⟩, by rw [hlen]; exact h1⟩
  have hg : (psOf (.agg [.rof n f ex])).getD i plD = plOf (f i) := by simp [psOf, List.getD, hi]
  show (f i).sub (plA ((psOf (.agg [.rof n f ex])).getD i plD)) ∧ (f i).cells.length = (plA ((psOf (.agg [.rof n f ex])).getD i plD)).cells.length
  rw [hg]
  have h3 := h2 i hi
  unfold isCond at h3
  split at h3
  ·rename_i a b e
   rw [e]
   exact ⟨⟨by simp [AV.sub, plOf], by simp [AV.sub, plOf], trivial⟩, rfl⟩
  ·cases h3
 ·cases h
section
variable (x : NodeG) (w : Int) (hs : List HaveG) (es : List AggG) (ev : List EvG)
noncomputable def gd (b : Bool) (q e m : AV) : Bool := b && atB [q, e] [qA x w hs es, evsA ev] && isM m
noncomputable def cChk (b : Bool) : Ctr
 | [q, e, m] => some (gd x w hs es ev b q e m, .int .i64 (mE x w hs es ev (psOf m)))
 | _ => none
noncomputable def cNam (b : Bool) : Ctr
 | [q, e, m, .str s] => some (gd x w hs es ev b q e m, .tup [isA (nV x w hs es ev (psOf m) s), .int .i64 (nE x w hs es ev (psOf m) s)])
 | _ => none
noncomputable def cHol (b : Bool) : Ctr
 | [q, e, m, .agg [.int .i64 f, .str s, .int .i64 o, .int .i64 v]] => some (gd x w hs es ev b q e m && inR f, .tup [.bool (hB x w hs es ev (psOf m) ((f, s, ()), (o, v, ()), ())), .int .i64 (hE x w hs es ev (psOf m) ((f, s, ()), (o, v, ()), ()))])
 | _ => none
noncomputable def cHolR (b : Bool) : Ctr
 | [q, e, m, .agg [.int .i64 f, .str s, .int .i64 o, .int .i64 v]] => some (gd x w hs es ev b q e m && inR f && decide (mE x w hs es ev (psOf m) = 0), .tup [.bool (hB x w hs es ev (psOf m) ((f, s, ()), (o, v, ()), ())), .int .i64 (hE x w hs es ev (psOf m) ((f, s, ()), (o, v, ()), ()))])
 | _ => none
variable {x w hs es ev}
theorem gd_of {b : Bool} {q e m : AV} (h : gd x w hs es ev b q e m = true) : b = true ∧ q = qA x w hs es ∧ e = evsA ev ∧ m.sub (mA (psOf m)) ∧ (psOf m).length ≤ 60 := by
 simp only [gd, Bool.and_eq_true] at h
 obtain ⟨⟨h1, h2⟩, h3⟩ := h
 have h2 : [q, e] = [qA x w hs es, evsA ev] := by simpa [atB] using h2
 simp only [List.cons.injEq, and_true] at h2
 exact ⟨h1, h2.1, h2.2, isM_sub h3⟩
theorem gd_mA {b : Bool} {ps : List PlG} (hp : ps.length ≤ 60) (h : b = true) : gd x w hs es ev b (qA x w hs es) (evsA ev) (mA ps) = true := by
 simp only [gd, h, atB_self, isM_mA hp, Bool.and_self]
theorem evsA_refl : (evsA ev).sub (evsA ev) := ⟨rfl, fun _ _ => ⟨⟨by simp [AV.sub], by simp [AV.sub], by simp [AV.sub], by simp [AV.sub], by simp [AV.sub], by simp [AV.sub], trivial⟩, rfl⟩, fun h => h⟩
theorem args3 {g : Nat} {m v : AV} {r : List AV} (hm : m.sub (mA (psOf m))) (hr : AV.subL r r) (h : PureC Tryd.prog gN g (qA x w hs es :: evsA ev :: mA (psOf m) :: r) v) : PureC Tryd.prog gN g (qA x w hs es :: evsA ev :: m :: r) v :=
 PureC.args (args' := qA x w hs es :: evsA ev :: mA (psOf m) :: r) rfl (fun i hi => by
  match i, hi with
  | 0, _ => exact (qA_refl x w hs es) ▸ trivial
  | 1, _ => exact evsA_refl
  | 2, _ => exact hm
  | i + 3, hi => exact (subL_at r r hr).2 i (by simpa using hi)) h
theorem chk_of {g : Nat} {b : Bool} (h : b = true → ∀ ps : List PlG, ps.length ≤ 60 → PureC Tryd.prog gN g [qA x w hs es, evsA ev, mA ps] (.int .i64 (mE x w hs es ev ps))) : PureG Tryd.prog gN g (cChk x w hs es ev b) := by
 intro args nd v he hnd
 unfold cChk at he
 split at he <;> cases he
 obtain ⟨hb, rfl, rfl, hm, hl⟩ := gd_of hnd
 exact args3 hm trivial (h hb _ hl)
theorem nam_of {g : Nat} {b : Bool} (h : b = true → ∀ (ps : List PlG) (s : List UInt8), ps.length ≤ 60 → PureC Tryd.prog gN g [qA x w hs es, evsA ev, mA ps, .str s] (.tup [isA (nV x w hs es ev ps s), .int .i64 (nE x w hs es ev ps s)])) : PureG Tryd.prog gN g (cNam x w hs es ev b) := by
 intro args nd v he hnd
 unfold cNam at he
 split at he <;> cases he
 obtain ⟨hb, rfl, rfl, hm, hl⟩ := gd_of hnd
 exact args3 hm ⟨by simp [AV.sub], trivial⟩ (h hb _ _ hl)
theorem hol_of {g : Nat} {b : Bool} (h : b = true → ∀ (ps : List PlG) (a : HaveG), ps.length ≤ 60 → rng64 a.1.1 → PureC Tryd.prog gN g [qA x w hs es, evsA ev, mA ps, haveA a] (.tup [.bool (hB x w hs es ev ps a), .int .i64 (hE x w hs es ev ps a)])) : PureG Tryd.prog gN g (cHol x w hs es ev b) := by
 intro args nd v he hnd
 unfold cHol at he
 split at he <;> cases he
 rw [Bool.and_eq_true] at hnd
 obtain ⟨hb, rfl, rfl, hm, hl⟩ := gd_of hnd.1
 exact args3 hm ⟨⟨by simp [AV.sub], by simp [AV.sub], by simp [AV.sub], by simp [AV.sub], trivial⟩, trivial⟩ (h hb _ ((_, _, ()), (_, _, ()), ()) hl (inR_iff.1 hnd.2))
theorem holR_of {g : Nat} {b : Bool} (h : b = true → ∀ (ps : List PlG) (a : HaveG), ps.length ≤ 60 → rng64 a.1.1 → mE x w hs es ev ps = 0 → PureC Tryd.prog gN g [qA x w hs es, evsA ev, mA ps, haveA a] (.tup [.bool (hB x w hs es ev ps a), .int .i64 (hE x w hs es ev ps a)])) : PureG Tryd.prog gN g (cHolR x w hs es ev b) := by
 intro args nd v he hnd
 unfold cHolR at he
 split at he <;> cases he
 rw [Bool.and_eq_true, Bool.and_eq_true, decide_eq_true_eq] at hnd
 obtain ⟨hb, rfl, rfl, hm, hl⟩ := gd_of hnd.1.1
 exact args3 hm ⟨⟨by simp [AV.sub], by simp [AV.sub], by simp [AV.sub], by simp [AV.sub], trivial⟩, trivial⟩ (h hb _ ((_, _, ()), (_, _, ()), ()) hl (inR_iff.1 hnd.1.2) hnd.2)
end
end Go.Proofs.YtamcloifhjafcaaDoor
namespace Go.Proofs.YtamcloifhjafcaaDoor
open Pw Go
set_option maxRecDepth 100000
set_option linter.unusedSimpArgs false
def firE (f : Nat → Int) : Nat → Int
 | 0 => 0
 | n + 1 => if firE f n ≠ 0 then firE f n else f n
def allK (f : Nat → Bool) (n : Nat) : Bool := (List.range n).all f
abbrev hEi (x : NodeG) (w : Int) (hs : List HaveG) (es : List AggG) (ev : List EvG) (ps : List PlG) (i : Nat) : Int := hE x w hs es ev ps (hs.getD i haveD)
abbrev hBi (x : NodeG) (w : Int) (hs : List HaveG) (es : List AggG) (ev : List EvG) (ps : List PlG) (i : Nat) : Bool := hB x w hs es ev ps (hs.getD i haveD)
def wnE (x : NodeG) (w : Int) (hs : List HaveG) (es : List AggG) (ev : List EvG) (ps : List PlG) : Int := if mE x w hs es ev ps ≠ 0 then mE x w hs es ev ps else firE (hEi x w hs es ev ps) hs.length
def wnB (x : NodeG) (w : Int) (hs : List HaveG) (es : List AggG) (ev : List EvG) (ps : List PlG) : Bool := decide (wnE x w hs es ev ps = 0) && allK (hBi x w hs es ev ps) hs.length
def invWI (x : NodeG) (w : Int) (hs : List HaveG) (es : List AggG) (ev : List EvG) (ps : List PlG) : Inv := ⟨Nat, 50, fun i => ⟨[(1, evsA ev), (3, .ptr 0 0 0 0), (5, .ptr 1 0 0 0), (9, .bool (allK (hBi x w hs es ev ps) i)), (22, havesA hs), (23, .int .i64 hs.length), (24, .int .i64 i)], [(0, .row 0 12 true (.lst [qA x w hs es])), (1, .row 0 1 true (.lst [mA ps]))]⟩,
 fun i => i ≤ hs.length ∧ firE (hEi x w hs es ev ps) i = 0, fun i => hs.length - i⟩
noncomputable def tblWn (x : NodeG) (w : Int) (hs : List HaveG) (es : List AggG) (ev : List EvG) : List (Nat × Ctr) :=
 [(16, cChk x w hs es ev true), (17, cChk x w hs es ev true), (18, cHol x w hs es ev true), (53, cHolR x w hs es ev true)]
theorem wantI_vc (x : NodeG) (w : Int) (hs : List HaveG) (es : List AggG) (ev : List EvG) (ps : List PlG) (b : Bool) (r : Int) : (vcFun (mkG Tryd.prog gN (tblOf (tblWn x w hs es ev)) (fun f b => if f = 32 ∧ b = 0 then some (invWI x w hs es ev ps) else none) 0) 20 32 [qA x w hs es, evsA ev, mA ps] .nil 0 (retP 4 (.tup [.bool b, .int .i64 r]))).sat = (let c0 := (ev.length = ev.length ∧ (∀ (i : Nat), i < ev.length → ((ev.getD i evD).fst.fst = (ev.getD i evD).fst.fst ∧ (ev.getD i evD).fst.snd.fst = (ev.getD i evD).fst.snd.fst ∧ (ev.getD i evD).snd.fst = (ev.getD i evD).snd.fst ∧ (ev.getD i evD).snd.snd.fst = (ev.getD i evD).snd.snd.fst ∧ (ev.getD i evD).snd.snd.snd.fst = (ev.getD i evD).snd.snd.snd.fst ∧ (ev.getD i evD).snd.snd.snd.snd.fst = (ev.getD i evD).snd.snd.snd.snd.fst ∧ True) ∧ [AV.int IntKind.u64 (ev.getD i evD).fst.fst, AV.int IntKind.u64 (ev.getD i evD).fst.snd.fst, AV.int IntKind.u64 (ev.getD i evD).snd.fst, AV.int IntKind.u64 (ev.getD i evD).snd.snd.fst, AV.int IntKind.i64 (ev.getD i evD).snd.snd.snd.fst, AV.int IntKind.i64 (ev.getD i evD).snd.snd.snd.snd.fst].length = [AV.int IntKind.u64 (ev.getD i evD).fst.fst, AV.int IntKind.u64 (ev.getD i evD).fst.snd.fst, AV.int IntKind.u64 (ev.getD i evD).snd.fst, AV.int IntKind.u64 (ev.getD i evD).snd.snd.fst, AV.int IntKind.i64 (ev.getD i evD).snd.snd.snd.fst, AV.int IntKind.i64 (ev.getD i evD).snd.snd.snd.snd.fst].length) ∧ (false = true → false = true))
 let c1 := (hs.length = hs.length ∧ (∀ (i : Nat), i < hs.length → ((hs.getD i haveD).fst.fst = (hs.getD i haveD).fst.fst ∧ (hs.getD i haveD).fst.snd.fst = (hs.getD i haveD).fst.snd.fst ∧ (hs.getD i haveD).snd.fst.fst = (hs.getD i haveD).snd.fst.fst ∧ (hs.getD i haveD).snd.fst.snd.fst = (hs.getD i haveD).snd.fst.snd.fst ∧ True) ∧ [AV.int IntKind.i64 (hs.getD i haveD).fst.fst, AV.str (hs.getD i haveD).fst.snd.fst, AV.int IntKind.i64 (hs.getD i haveD).snd.fst.fst, AV.int IntKind.i64 (hs.getD i haveD).snd.fst.snd.fst].length = [AV.int IntKind.i64 (hs.getD i haveD).fst.fst, AV.str (hs.getD i haveD).fst.snd.fst, AV.int IntKind.i64 (hs.getD i haveD).snd.fst.fst, AV.int IntKind.i64 (hs.getD i haveD).snd.fst.snd.fst].length) ∧ (false = true → false = true))
 let c2 := (AV.agg [AV.int IntKind.i64 (TreeG.val x).fst, AV.int IntKind.i64 (TreeG.val x).snd.fst, AV.int IntKind.i64 (TreeG.val x).snd.snd.fst, AV.int IntKind.i64 (nat x).fst, AV.bool (nat x).snd.fst, AV.int IntKind.u64 (nat x).snd.snd.fst, AV.rof (ac (nat x)).length (fun (i : Nat) => condA ((ac (nat x)).getD i condD)) false, AV.str (an (nat x)), AV.rof (TreeG.kids x).length (fun (i : Nat) => nodeA (15 : Nat) ((TreeG.kids x).getD i treeD)) false, AV.int IntKind.u64 w, AV.rof hs.length (fun (i : Nat) => haveA (hs.getD i haveD)) false, AV.rof es.length (fun (i : Nat) => aggA (es.getD i aggD)) false])
 let c3 := (AV.agg [AV.rof ps.length (fun (k : Nat) => plA (ps.getD k plD)) false])
 let c4 := ((ps.length = ps.length ∧ (∀ (i : Nat), i < ps.length → ((ps.getD i plD).fst = (ps.getD i plD).fst ∧ (ps.getD i plD).snd.fst = (ps.getD i plD).snd.fst ∧ True) ∧ [AV.int IntKind.i64 (ps.getD i plD).fst, AV.int IntKind.i64 (ps.getD i plD).snd.fst].length = [AV.int IntKind.i64 (ps.getD i plD).fst, AV.int IntKind.i64 (ps.getD i plD).snd.fst].length) ∧ (false = true → false = true)) ∧ True)
 let c8 := fun (i : Nat) => (hs.getD (↑i : Int).toNat haveD)
 let c5 := fun (i : Nat) => (((c8 i).fst.fst, (c8 i).fst.snd.fst, ()), ((c8 i).snd.fst.fst, (c8 i).snd.fst.snd.fst, ()), ())
 let c6 := ((0 : Nat) = (0 : Nat) ∧ (0 : Nat) = (0 : Nat) ∧ (0 : Nat) = (0 : Nat))
 let c7 := ((0 : Nat) = (0 : Nat) ∧ (true = true → true = true) ∧ ((qA x w hs es).sub (qA x w hs es) ∧ (qA x w hs es).cells.length = (qA x w hs es).cells.length) ∧ True)
 NB (gd x w hs es ev true c2 (AV.rof ev.length (fun (k : Nat) => evA (ev.getD k evD)) false) c3) (VB (mE x w hs es ev (psOf c3) != (0 : Int)) (false = b ∧ mE x w hs es ev (psOf c3) = r ∧ True) ((∃ (i : Nat), (i ≤ hs.length ∧ firE (hEi x w hs es ev ps) i = (0 : Int)) ∧ (c0 ∧ c6 ∧ c6 ∧ true = allK (hBi x w hs es ev ps) i ∧ c1 ∧ (↑hs.length : Int) = (↑hs.length : Int) ∧ (0 : Int) = (↑i : Int) ∧ True) ∧ c7 ∧ ((0 : Nat) = (0 : Nat) ∧ (true = true → true = true) ∧ (c4 ∧ [AV.rof ps.length (fun (k : Nat) => plA (ps.getD k plD)) false].length = [plsA ps].length) ∧ True) ∧ True) ∧ ∀ (i : Nat), i ≤ hs.length ∧ firE (hEi x w hs es ev ps) i = (0 : Int) → VB (decide ((↑i : Int) < (↑hs.length : Int))) (NB (decide ((0 : Int) ≤ (↑i : Int) ∧ (↑i : Int) < (↑hs.length : Int))) (NB (gd x w hs es ev true c2 (AV.rof ev.length (fun (k : Nat) => evA (ev.getD k evD)) false) c3 && inR (c8 i).fst.fst) (VB (hE x w hs es ev (psOf c3) (c5 i) != (0 : Int)) (false = b ∧ hE x w hs es ev (psOf c3) (c5 i) = r ∧ True) (∃ (i' : Nat), (i' ≤ hs.length ∧ firE (hEi x w hs es ev ps) i' = (0 : Int)) ∧ (invWI x w hs es ev ps).μ i' < (invWI x w hs es ev ps).μ i ∧ (c0 ∧ c6 ∧ c6 ∧ (allK (hBi x w hs es ev ps) i && hB x w hs es ev (psOf c3) (c5 i)) = allK (hBi x w hs es ev ps) i' ∧ c1 ∧ (↑hs.length : Int) = (↑hs.length : Int) ∧ IntKind.i64.wrap ((↑i : Int) + (1 : Int)) = (↑i' : Int) ∧ True) ∧ c7 ∧ ((0 : Nat) = (0 : Nat) ∧ (true = true → true = true) ∧ (c4 ∧ [plsA ps].length = [plsA ps].length) ∧ True) ∧ True)))) (allK (hBi x w hs es ev ps) i = b ∧ (0 : Int) = r ∧ True)))) := by
 kernel_rfl
end Go.Proofs.YtamcloifhjafcaaDoor
namespace Go.Proofs.YtamcloifhjafcaaDoor
open Pw Go
set_option maxRecDepth 100000
set_option linter.unusedSimpArgs false
theorem firE_succ {f : Nat → Int} {i : Nat} (h : firE f i = 0) : firE f (i + 1) = f i := by
 show (if firE f i ≠ 0 then firE f i else f i) = f i
 rw [if_neg (by simp [h])]
theorem firE_stop {f : Nat → Int} {i n : Nat} (h : firE f i = 0) (hi : i < n) (h2 : f i ≠ 0) : firE f n = f i := by
 induction n with
 | zero => omega
 | succ n ih =>
  show (if firE f n ≠ 0 then firE f n else f n) = f i
  rcases Nat.lt_or_ge i n with h3 | h3
  ·rw [ih h3, if_pos h2]
  ·obtain rfl : i = n := by omega
   rw [if_neg (by simp [h])]
theorem allK_succ (f : Nat → Bool) (i : Nat) : allK f (i + 1) = (allK f i && f i) := by
 simp [allK, List.range_succ]
theorem wnE_m {x : NodeG} {w : Int} {hs : List HaveG} {es : List AggG} {ev : List EvG} {ps : List PlG} (h : mE x w hs es ev ps ≠ 0) : wnE x w hs es ev ps = mE x w hs es ev ps := if_pos h
theorem wnE_f {x : NodeG} {w : Int} {hs : List HaveG} {es : List AggG} {ev : List EvG} {ps : List PlG} (h : mE x w hs es ev ps = 0) : wnE x w hs es ev ps = firE (hEi x w hs es ev ps) hs.length := if_neg (by simp [h])
theorem wnB_f {x : NodeG} {w : Int} {hs : List HaveG} {es : List AggG} {ev : List EvG} {ps : List PlG} (h : wnE x w hs es ev ps ≠ 0) : wnB x w hs es ev ps = false := by simp [wnB, h]
theorem wnB_t {x : NodeG} {w : Int} {hs : List HaveG} {es : List AggG} {ev : List EvG} {ps : List PlG} (h : wnE x w hs es ev ps = 0) : wnB x w hs es ev ps = allK (hBi x w hs es ev ps) hs.length := by simp [wnB, h]
theorem wantI_sat (x : NodeG) (w : Int) (hs : List HaveG) (es : List AggG) (ev : List EvG) (ps : List PlG) (hp : ps.length ≤ 60) (h10 : hs.length ≤ 10) (hr : ∀ i, i < hs.length → rng64 (hs.getD i haveD).1.1) :
  (vcFun (mkG Tryd.prog gN (tblOf (tblWn x w hs es ev)) (fun f b => if f = 32 ∧ b = 0 then some (invWI x w hs es ev ps) else none) 0) 20 32 [qA x w hs es, evsA ev, mA ps] .nil 0 (retP 4 (.tup [.bool (wnB x w hs es ev ps), .int .i64 (wnE x w hs es ev ps)]))).sat := by
 refine (wantI_vc x w hs es ev ps _ _).mpr ?_
 have e : psOf (AV.agg [AV.rof ps.length (fun k => plA (ps.getD k plD)) false]) = ps := psOf_mA ps
 simp only [qA_refl, EqI, true_and, and_true, imp_self, implies_true, Int.toNat_natCast, Nat.zero_add, or_self, e]
 refine NB_intro (gd_mA hp rfl) (VB_intro (fun h => ?_) (fun h => ⟨⟨0, ⟨by omega, rfl⟩, rfl, rfl⟩, fun i ⟨hi1, hi2⟩ => VB_intro (fun h1 => ?_) (fun h1 => ?_)⟩))
 ·have h : mE x w hs es ev ps ≠ 0 := by simpa using h
  exact ⟨(wnB_f (by rw [wnE_m h]; exact h)).symm, (wnE_m h).symm⟩
 ·have h : mE x w hs es ev ps = 0 := by simpa using h
  have hlt : i < hs.length := by have := of_decide_eq_true h1; omega
  refine NB_intro (decide_eq_true (by omega)) (NB_intro (Bool.and_eq_true_iff.2 ⟨gd_mA hp rfl, inR_iff.2 (hr i hlt)⟩) (VB_intro (fun h2 => ?_) (fun h2 => ?_)))
  ·have h2 : hEi x w hs es ev ps i ≠ 0 := bne_iff_ne.1 h2
   have h3 := firE_stop hi2 hlt h2
   rw [← wnE_f h] at h3
   exact ⟨(wnB_f (by rw [h3]; exact h2)).symm, h3.symm⟩
  ·have h2 : hEi x w hs es ev ps i = 0 := bne_eq_false_iff_eq.1 h2
   refine ⟨i + 1, ⟨by omega, by rw [firE_succ hi2]; exact h2⟩, by simp only [invWI]; omega, (allK_succ _ i).symm, by rw [wrap_i64_id (by omega) (by omega)]; omega⟩
 ·have h : mE x w hs es ev ps = 0 := by simpa using h
  have hie : i = hs.length := by have := of_decide_eq_false h1; omega
  subst hie
  have h3 := wnE_f h
  rw [hi2] at h3
  exact ⟨(wnB_t h3).symm, h3.symm⟩
end Go.Proofs.YtamcloifhjafcaaDoor
