/- WIRE 20: sizes made of numbers; lists of strings that are written out. -/
import Derived.Test.YtfgedkmopgkonaaW16
namespace Go.Proofs.Ytfgedkmopgkonaa
open Pw Go
set_option maxRecDepth 100000
set_option linter.unusedSimpArgs false

def sizeOf' (k : Int) : Int := if k % 4 = 0 then 1 else if k % 4 = 1 then 2 else if k % 4 = 2 then 4 else 8
def sizeN (k n : Int) : Int := if k % 4 = 0 then n % 256 else if k % 4 = 1 then n % 65536 else if k % 4 = 2 then n % 4294967296 else n

theorem size_vc (k n : Int) (r x : Int) : (vcFun (mkE Try.prog (tblOf []) (fun _ _ => none)) 20 42 [.int .i64 k, .int .u64 n] .nil 0 (retP 3 (.tup [.int .i64 r, .int .u64 x]))).sat = (
  VB (decide (k.tmod (4 : Int) < (0 : Int)))
    (NB (decide ((0 : Int) ≤ IntKind.u64.wrap (IntKind.i64.wrap (k.tmod (4 : Int) + (4 : Int)))))
      (VB (decide (shlI IntKind.i64 (1 : Int) (IntKind.u64.wrap (IntKind.i64.wrap (k.tmod (4 : Int) + (4 : Int)))) < (8 : Int)))
        (NB (decide ((0 : Int) ≤ IntKind.u64.wrap (IntKind.i64.wrap ((8 : Int) * shlI IntKind.i64 (1 : Int) (IntKind.u64.wrap (IntKind.i64.wrap (k.tmod (4 : Int) + (4 : Int))))))))
          (shlI IntKind.i64 (1 : Int) (IntKind.u64.wrap (IntKind.i64.wrap (k.tmod (4 : Int) + (4 : Int)))) = r ∧
            andI IntKind.u64 n
                  (IntKind.u64.wrap
                    (shlI IntKind.u64 (1 : Int) (IntKind.u64.wrap (IntKind.i64.wrap ((8 : Int) * shlI IntKind.i64 (1 : Int) (IntKind.u64.wrap (IntKind.i64.wrap (k.tmod (4 : Int) + (4 : Int))))))) - (1 : Int))) =
                x ∧
              True))
        (shlI IntKind.i64 (1 : Int) (IntKind.u64.wrap (IntKind.i64.wrap (k.tmod (4 : Int) + (4 : Int)))) = r ∧ n = x ∧ True)))
    (NB (decide ((0 : Int) ≤ IntKind.u64.wrap (k.tmod (4 : Int))))
      (VB (decide (shlI IntKind.i64 (1 : Int) (IntKind.u64.wrap (k.tmod (4 : Int))) < (8 : Int)))
        (NB (decide ((0 : Int) ≤ IntKind.u64.wrap (IntKind.i64.wrap ((8 : Int) * shlI IntKind.i64 (1 : Int) (IntKind.u64.wrap (k.tmod (4 : Int)))))))
          (shlI IntKind.i64 (1 : Int) (IntKind.u64.wrap (k.tmod (4 : Int))) = r ∧
            andI IntKind.u64 n (IntKind.u64.wrap (shlI IntKind.u64 (1 : Int) (IntKind.u64.wrap (IntKind.i64.wrap ((8 : Int) * shlI IntKind.i64 (1 : Int) (IntKind.u64.wrap (k.tmod (4 : Int)))))) - (1 : Int))) = x ∧ True))
        (shlI IntKind.i64 (1 : Int) (IntKind.u64.wrap (k.tmod (4 : Int))) = r ∧ n = x ∧ True)))) := by
  kernel_rfl

theorem andI_mask {n : Int} (h0 : 0 ≤ n) (h1 : n ≤ 18446744073709551615) (j : Nat) (hj : j ≤ 64) : andI .u64 n (2 ^ j - 1) = n % 2 ^ j :=
  bits_mask .u64 64 (by decide) (fun m h0 h1 => wrap_u64_id h0 (by omega)) j hj n h0 (by omega)

theorem tmod4 (k : Int) : (0 ≤ k.tmod 4 ∧ k.tmod 4 = k % 4) ∨ (k.tmod 4 < 0 ∧ k.tmod 4 + 4 = k % 4) := by
  rcases Int.le_total 0 k with h | h
  · have := Int.tmod_eq_emod_of_nonneg (a := k) (b := 4) h
    omega
  · have h2 := Int.tmod_eq_emod_of_nonneg (a := -k) (b := 4) (by omega)
    rw [Int.neg_tmod] at h2
    omega

def cSize : Ctr
  | [.int .i64 k, .int .u64 n] => some (decide (0 ≤ n ∧ n ≤ 18446744073709551615), .tup [.int .i64 (sizeOf' k), .int .u64 (sizeN k n)])
  | _ => none

theorem size_ok : PureF Try.prog 42 cSize := by
  intro args nd v h hnd
  unfold cSize at h
  split at h <;> cases h
  rename_i k n
  have hl := of_decide_eq_true hnd
  refine pure_vc mix (tbl_nil _) ((size_vc k n _ _).mpr ?_)
  have m1 := andI_mask hl.1 hl.2 8 (by decide)
  have m2 := andI_mask hl.1 hl.2 16 (by decide)
  have m4 := andI_mask hl.1 hl.2 32 (by decide)
  have s1 : shlI .i64 1 0 = 1 := by decide
  have s2 : shlI .i64 1 1 = 2 := by decide
  have s3 : shlI .i64 1 2 = 4 := by decide
  have s4 : shlI .i64 1 3 = 8 := by decide
  have e1 : shlI .u64 1 8 = 256 := by decide
  have e2 : shlI .u64 1 16 = 65536 := by decide
  have e3 : shlI .u64 1 32 = 4294967296 := by decide
  have key : ∀ t : Int, t = k % 4 → (t = 0 ∨ t = 1 ∨ t = 2 ∨ t = 3) := fun t h => by omega
  have body : ∀ t : Int, t = k % 4 →
      NB (decide ((0 : Int) ≤ IntKind.u64.wrap t))
      (VB (decide (shlI IntKind.i64 (1 : Int) (IntKind.u64.wrap t) < (8 : Int)))
        (NB (decide ((0 : Int) ≤ IntKind.u64.wrap (IntKind.i64.wrap ((8 : Int) * shlI IntKind.i64 (1 : Int) (IntKind.u64.wrap t)))))
          (shlI IntKind.i64 (1 : Int) (IntKind.u64.wrap t) = sizeOf' k ∧
            andI IntKind.u64 n (IntKind.u64.wrap (shlI IntKind.u64 (1 : Int) (IntKind.u64.wrap (IntKind.i64.wrap ((8 : Int) * shlI IntKind.i64 (1 : Int) (IntKind.u64.wrap t)))) - (1 : Int))) = sizeN k n ∧ True))
        (shlI IntKind.i64 (1 : Int) (IntKind.u64.wrap t) = sizeOf' k ∧ n = sizeN k n ∧ True)) := by
    intro t ht
    have w : ∀ c : Int, 0 ≤ c → c ≤ 1000 → IntKind.u64.wrap c = c ∧ IntKind.i64.wrap c = c := fun c h0 h1 => ⟨wrap_u64_id h0 (by omega), wrap_i64_id (by omega) (by omega)⟩
    rcases key t ht with h | h | h | h <;> subst h
    · rw [(w 0 (by decide) (by decide)).1, s1, show (8 : Int) * 1 = 8 from rfl, (w 8 (by decide) (by decide)).2, (w 8 (by decide) (by decide)).1, e1, show (256 : Int) - 1 = 2 ^ 8 - 1 from rfl, wrap_u64_id (by decide) (by decide), m1]
      exact ⟨by simp [sizeOf', ← ht], by simp [sizeN, ← ht], trivial⟩
    · rw [(w 1 (by decide) (by decide)).1, s2, show (8 : Int) * 2 = 16 from rfl, (w 16 (by decide) (by decide)).2, (w 16 (by decide) (by decide)).1, e2, show (65536 : Int) - 1 = 2 ^ 16 - 1 from rfl, wrap_u64_id (by decide) (by decide), m2]
      exact ⟨by simp [sizeOf', ← ht], by simp [sizeN, ← ht], trivial⟩
    · rw [(w 2 (by decide) (by decide)).1, s3, show (8 : Int) * 4 = 32 from rfl, (w 32 (by decide) (by decide)).2, (w 32 (by decide) (by decide)).1, e3, show (4294967296 : Int) - 1 = 2 ^ 32 - 1 from rfl, wrap_u64_id (by decide) (by decide), m4]
      exact ⟨by simp [sizeOf', ← ht], by simp [sizeN, ← ht], trivial⟩
    · rw [(w 3 (by decide) (by decide)).1, s4]
      exact ⟨by simp [sizeOf', ← ht], by simp [sizeN, ← ht], trivial⟩
  rcases tmod4 k with ⟨h0, h1⟩ | ⟨h0, h1⟩
  · refine VB_intro (fun h => absurd (of_decide_eq_true h) (by omega)) (fun _ => ?_)
    exact body _ h1
  · refine VB_intro (fun _ => ?_) (fun h => absurd h0 (of_decide_eq_false h))
    have : IntKind.i64.wrap (k.tmod 4 + 4) = k.tmod 4 + 4 := wrap_i64_id (by omega) (by omega)
    rw [this]
    exact body _ h1

/-- Lists that are written out. -/
def cAddL : Ctr
  | [.agg [.str s, .int .i64 m, .int .i64 e], .rof n f _] => some (decide (s.length ≤ 9223372036854775807 ∧ n ≤ 1000000 ∧ strsB n f = true), (wrAdd (wrUse ⟨s, m, e⟩) (takeF (fun i => (f i).toStr) n)).av)
  | [.agg [.str s, .int .i64 m, .int .i64 e], .rol [.str a, .str b] _] => some (decide (s.length ≤ 9223372036854775807), (wrAdd (wrUse ⟨s, m, e⟩) (a ++ b)).av)
  | _ => none
theorem addL_ok : PureF Try.prog 17 cAddL := by
  intro args nd v h hnd
  unfold cAddL at h
  split at h
  · rename_i s m e n f ex
    refine addI_ok _ nd v ?_ hnd
    exact h
  · rename_i s m e a b ex
    cases h
    have h2 := addI_pure s m e 2 (fun i => if i = 0 then a else b) (of_decide_eq_true hnd) (by decide)
    have h3 : takeF (fun i => if i = 0 then a else b) 2 = a ++ b := by simp [takeF, List.range_succ]
    rw [h3] at h2
    refine PureC.args (hc := h2) ?_ (fun i hi => ?_)
    · rfl
    match i, hi with
    | 0, _ => exact ⟨rfl, rfl, rfl, trivial⟩
    | 1, _ => exact ⟨rfl, ⟨⟨rfl, rfl⟩, ⟨rfl, rfl⟩, trivial⟩, by simp⟩
  · cases h
end Go.Proofs.Ytfgedkmopgkonaa
