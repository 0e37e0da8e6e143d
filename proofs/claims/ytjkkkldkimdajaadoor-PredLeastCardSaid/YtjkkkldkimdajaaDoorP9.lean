/- PRED 9: least solutions, the program's code. -/
import Derived.Test.YtjkkkldkimdajaaDoorP4
import Derived.Test.YtjkkkldkimdajaaDoorP8
namespace Go.Proofs.YtjkkkldkimdajaaDoor
open Pw Go
set_option maxRecDepth 100000
set_option linter.unusedSimpArgs false

theorem condsB_agg (n : Nat) (o v : Nat → Int) : condsB n (fun i => .agg [.int .i64 (o i), .int .i64 (v i)]) = true := by simp [condsB, isCond]
theorem chk_of {g : Nat} (h : ∀ (n : Nat) (o v : Nat → Int), n ≤ 1000000 → PureC Tryd.prog (fun _ => .undef) g [condsAV n o v] (.int .i64 (chkS n o))) : PureF Tryd.prog g cChk := by
  intro args nd v he hnd
  unfold cChk at he
  split at he <;> cases he
  simp only [Bool.and_eq_true, decide_eq_true_eq] at hnd
  rename_i n f ex
  refine PureC.args (args' := [condsAV n (fun i => opOf (f i)) (fun i => valOf (f i))]) rfl ?_ (h _ _ _ hnd.1)
  intro i hi
  match i, hi with
  | 0, _ => exact rof_cond_sub hnd.2
theorem all_of {g : Nat} (h : ∀ (n : Nat) (o v : Nat → Int) (x : Int), n ≤ 1000000 → okAll n o = true → PureC Tryd.prog (fun _ => .undef) g [condsAV n o v, .int .i64 x] (.bool (allS n o v x))) : PureF Tryd.prog g cAll := by
  intro args nd v he hnd
  unfold cAll at he
  split at he <;> cases he
  simp only [Bool.and_eq_true, decide_eq_true_eq] at hnd
  rename_i n f ex x
  refine PureC.args (args' := [condsAV n (fun i => opOf (f i)) (fun i => valOf (f i)), .int .i64 x]) rfl ?_ (h _ _ _ _ hnd.1.1 hnd.2)
  intro i hi
  match i, hi with
  | 0, _ => exact rof_cond_sub hnd.1.2
  | 1, _ => exact (show (AV.int .i64 x).sub (.int .i64 x) from rfl)
def tbl3 : List (Nat × Ctr) := [(44, cChk), (46, cChk), (45, cAll), (47, cAll)]
theorem tbl3_ok : TblOK Tryd.prog (fun _ => .undef) (tblOf tbl3) :=
  tbl_cons (chk_of chkI_pure) (tbl_cons (chk_of chkR_pure) (tbl_cons (all_of allI_pure) (tbl_cons (all_of allR_pure) (tbl_nil _))))

end Go.Proofs.YtjkkkldkimdajaaDoor
