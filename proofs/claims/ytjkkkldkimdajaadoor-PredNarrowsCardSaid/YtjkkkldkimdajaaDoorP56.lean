/- PRED 56: the law of atoms made of numbers answers true. -/
import Derived.Test.YtjkkkldkimdajaaDoorP53
namespace Go.Proofs.YtjkkkldkimdajaaDoor
open Pw Go
set_option maxRecDepth 100000
set_option linter.unusedSimpArgs false

theorem start_true {E : Env} {f : FuncId} {k : Nat} {M : Mem} {W : World} {vals : Array Value} {args : List AV} (hm : E.P.follows .mixedOrders = true) (hctr : CtrOK E) (hG : GlobOK M E.gl)
    (hM : ∀ B i v, M B i = some v → W.cell? ⟨B, i, none⟩ = some v ∧ v.oneCell' = true) (hargs : ArgsRel (fun _ _ => none) M vals args) (hs : (vcFun E k f args .nil 0 (isBool true)).sat) :
    Calls E.P f vals W fun e W' => e = .returned (.bool true) ∧ Keep (fun _ => True) W W' := by
  refine (start_pure hm hctr hG hM hargs hs).mono fun e W' ⟨v, x, ρ', M', hpt, nx', h1, h2, h3, h4⟩ => ?_
  rw [isBool_sat h4] at h2
  rw [h2.boolInv] at h1
  exact ⟨h1, h3⟩
theorem nar_calls (m : Nat) (vs : Nat → Int) (n more l ek x : Int) (hv : ∀ i, i < m → lowI ≤ vs i ∧ vs i ≤ highI) (hl : u64B l = true) (hx : lowI ≤ x ∧ x ≤ highI) {M : Mem} {W : World} {vals : Array Value} (hG : GlobOK M gN)
    (hM : ∀ B i v, M B i = some v → W.cell? ⟨B, i, none⟩ = some v ∧ v.oneCell' = true) (hA : ArgsRel (fun _ _ => none) M vals [.int .i64 n, .rof m (fun i => .int .i64 (vs i)) false, .agg [.int .u64 l, .int .i64 ek, .int .i64 x], .int .i64 more]) :
    Calls Tryd.prog 9 vals W fun e W' => e = .returned (.bool true) ∧ Keep (fun _ => True) W W' := by
  match m, hv, hA with
  | 0, _, hA => exact start_true (E := mkN Tryd.prog gN (tblOf tblP) (tblOf tblPN) (fun f b => if f = 9 ∧ 100000 ≤ b then inv0 0 vs n more l ek x (b - 100000) else none) 5) mix (mkN_ctr tblP_ok tblPN_ok) hG hM hA (nar0_sat vs n more l ek x hl hx)
  | 1, hv, hA => exact start_true (E := mkN Tryd.prog gN (tblOf tblP) (tblOf tblPN) (fun f b => if f = 9 ∧ 100000 ≤ b then inv1 1 vs n more l ek x (b - 100000) else none) 5) mix (mkN_ctr tblP_ok tblPN_ok) hG hM hA (nar1_sat vs n more l ek x hv hl hx)
  | 2, hv, hA => exact start_true (E := mkN Tryd.prog gN (tblOf tblP) (tblOf tblPN) (fun f b => if f = 9 ∧ 100000 ≤ b then inv2 2 vs n more l ek x (b - 100000) else none) 5) mix (mkN_ctr tblP_ok tblPN_ok) hG hM hA (nar2_sat vs n more l ek x hv hl hx)
  | q + 3, hv, hA => exact start_true (E := mkN Tryd.prog gN (tblOf tblP) (tblOf tblPN) (fun f b => if f = 9 ∧ 100000 ≤ b then inv3 (q + 3) vs n more l ek x (b - 100000) else none) 5) mix (mkN_ctr tblP_ok tblPN_ok) hG hM hA (nar3_sat q vs n more l ek x (fun i hi => hv i (by omega)) hl hx)
end Go.Proofs.YtjkkkldkimdajaaDoor
