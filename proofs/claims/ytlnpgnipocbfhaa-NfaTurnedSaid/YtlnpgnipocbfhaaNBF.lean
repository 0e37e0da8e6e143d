/- TREES, law NfaBack: the proof of its conditions. -/
import Derived.Test.YtlnpgnipocbfhaaNBE
import Derived.Test.YtlnpgnipocbfhaaND4
namespace Go.Proofs.Ytlnpgnipocbfhaa
open Pw Go
set_option maxRecDepth 100000
set_option linter.unusedSimpArgs false
theorem trueK_ok : PureF Try.prog 26 cTrueK := by
 intro args nd v he hnd
 unfold cTrueK at he
 split at he <;> cases he
 exact PureC.args (args' := []) rfl (fun i hi => absurd hi (Nat.not_lt_zero _)) kKnown_runs
theorem sub1 {x y : AV} (h : x.sub y) : asB [x] [y] = true := asB_t ⟨h, trivial⟩
theorem kitL_few (nums : List Int) : ∀ l ∈ kitL nums, fewS l = true := fun l hl => by
 obtain ⟨x, rfl⟩ := kitN_mem nums _ l hl
 exact lineK_few x
theorem kitL_len (nums : List Int) : (kitL nums).length ≤ 8 := by
 have := kitN_len nums (min nums.length 8)
 show (kitN nums (min nums.length 8)).length ≤ 8
 omega
theorem kitL_five (nums : List Int) : ∀ l ∈ kitL nums, l.length ≤ 5 := fun l hl => by
 obtain ⟨x, rfl⟩ := kitN_mem nums _ l hl
 exact lineK_len x
theorem kitL_chk (nums : List Int) : ∀ l ∈ kitL nums, chkL 12 l = 0 := fun l hl => by
 obtain ⟨x, rfl⟩ := kitN_mem nums _ l hl
 exact lineK_chk x
end Go.Proofs.Ytlnpgnipocbfhaa
