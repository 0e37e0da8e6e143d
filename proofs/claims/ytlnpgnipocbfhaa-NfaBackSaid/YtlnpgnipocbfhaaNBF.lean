/- TREES, law NfaBack: the proof of its conditions. -/
import Derived.Test.YtlnpgnipocbfhaaNBE
import Derived.Test.YtlnpgnipocbfhaaND4
namespace Go.Proofs.Ytlnpgnipocbfhaa
open Pw Go
set_option maxRecDepth 100000
set_option linter.unusedSimpArgs false
theorem trueK_ok : PureF Try.prog 26 cTrueK := by
 intro args nd v he hnd
 unfold cTrueK at he
 split at he <;> cases he
 exact PureC.args (args' := []) rfl (fun i hi => absurd hi (Nat.not_lt_zero _)) kKnown_runs
theorem sub1 {x y : AV} (h : x.sub y) : asB [x] [y] = true := asB_t ⟨h, trivial⟩
theorem pathB_ok {t : List TwigG} (hs : shortT t = true) (hc : checkE t = 0) : PureF Try.prog 17 (cPathB t) := by
 intro args nd v he hnd
 unfold cPathB at he
 split at he <;> cases he
 rename_i l m
 simp only [Bool.and_eq_true, decide_eq_true_eq] at hnd
 obtain ⟨h1, h2⟩ := hnd
 have h3 : pathE t m = (atomsL (upL t m), 0) := by
  unfold pathE
  rw [if_neg (by omega), if_neg (by omega)]
 refine PureC.args (args' := [treeA t, .int .i64 m]) rfl (fun i hi => ?_) (path_pure t m _ _ hs h3)
 match i, hi with
 | 0, _ => exact (asB_i.1 h1).1
 | 1, _ => exact rfl
theorem depthB_ok {t : List TwigG} (hs : shortT t = true) (hc : checkE t = 0) : PureF Try.prog 21 (cDepthB t) := by
 intro args nd v he hnd
 unfold cDepthB at he
 split at he <;> cases he
 rename_i l m
 simp only [Bool.and_eq_true, decide_eq_true_eq] at hnd
 obtain ⟨h1, h2⟩ := hnd
 have h3 : pathE t m = (atomsL (upL t m), 0) := by
  unfold pathE
  rw [if_neg (by omega), if_neg (by omega)]
 have h4 := depth_pure t m hs
 rw [h3] at h4
 have h5 : ((atomsL (upL t m)).length : Int) = ((upL t m).length : Int) := by simp [atomsL]
 dsimp only at h4
 rw [h5] at h4
 refine PureC.args (args' := [treeA t, .int .i64 m]) rfl (fun i hi => ?_) h4
 match i, hi with
 | 0, _ => exact (asB_i.1 h1).1
 | 1, _ => exact rfl
theorem kitL_few (nums : List Int) : ∀ l ∈ kitL nums, fewS l = true := fun l hl => by
 obtain ⟨x, rfl⟩ := kitN_mem nums _ l hl
 exact lineK_few x
theorem kitL_len (nums : List Int) : (kitL nums).length ≤ 8 := by
 have := kitN_len nums (min nums.length 8)
 show (kitN nums (min nums.length 8)).length ≤ 8
 omega
theorem kitL_five (nums : List Int) : ∀ l ∈ kitL nums, l.length ≤ 5 := fun l hl => by
 obtain ⟨x, rfl⟩ := kitN_mem nums _ l hl
 exact lineK_len x
theorem kitL_chk (nums : List Int) : ∀ l ∈ kitL nums, chkL 12 l = 0 := fun l hl => by
 obtain ⟨x, rfl⟩ := kitN_mem nums _ l hl
 exact lineK_chk x
theorem nodup_get {α : Type} {l : List α} (d : α) (h : l.Nodup) {i j : Nat} (hij : i < j) (hj : j < l.length) : l.getD i d ≠ l.getD j d := by
 have h1 := List.pairwise_iff_getElem.1 h i j (by omega) hj hij
 have e1 : l.getD i d = l[i]'(by omega) := by simp [List.getD, show i < l.length by omega]
 have e2 : l.getD j d = l[j] := by simp [List.getD, hj]
 rw [e1, e2]
 exact h1
theorem kitL_tree {nums : List Int} (h : kitL nums ≠ []) : ∃ t, ofT (kitL nums) = (t, 0) := by
 have h1 := kitL_len nums
 refine ofT_some ?_ (by omega) (fun l hl => by have := kitL_five nums l hl; omega) (kitL_chk nums) (fun i j => nodup_get [] (kitN_nodup nums _))
 cases hk : kitL nums with
 | nil => exact (h hk).elim
 | cons x l => simp
theorem slN_five {ls : List (List SlotG)} (h : ∀ l ∈ ls, l.length ≤ 5) : ∀ n, n ≤ ls.length → slN ls n ≤ 5 * n
 | 0, _ => Nat.le_refl _
 | n + 1, hn => by
  have h1 := slN_five h n (by omega)
  have h2 := h _ (getD_mem (d := []) (show n < ls.length by omega))
  show slN ls n + (ls.getD n []).length ≤ _
  omega
theorem up_last {t : List TwigG} (h : Trie t) {i : Nat} (h0 : 0 < i) (hi : i < t.length) : 1 ≤ (upL t i).length ∧ (atomsL (upL t i)).getD ((upL t i).length - 1) 0 = (t.getD i twigD).slot.1 := by
 rw [upL_succ h h0 hi]
 refine ⟨by simp, ?_⟩
 simp [atomsL, List.getD]
theorem back_pure (nums : List Int) (hb : ∀ j, j < nums.length → -9223372036854775808 ≤ nums.getD j 0 ∧ nums.getD j 0 ≤ 9223372036854775807) : PureC Try.prog gU 4 [intsA nums] (.bool true) := by
 have hkit := kit_pure nums hb
 by_cases hls : kitL nums = []
 ·rw [hls] at hkit
  exact PureC.of_vc (E := EBk0 nums) (k := 30) (d := 3) mix (mkE_ctr (tbl_cons trueK_ok (tbl_cons (cAs_ok hkit) (tbl_nil _)))) ((back0_vc nums).mpr (NB_intro (sub1 (sub_ints nums)) rfl))
 obtain ⟨t, ht⟩ := kitL_tree hls
 have hfew := kitL_few nums
 have hlen := kitL_len nums
 have hfive := kitL_five nums
 have hchk := kitL_chk nums
 generalize kitL nums = ls at *
 obtain ⟨hm, htl, hsh, _, _⟩ := ofT_made ht
 have hchE := made_check ht
 have hL : linesR t = (ls, 0) := by
  unfold linesR
  rw [made_lines ht, if_pos rfl]
 have hE : endsR t = (endS t, 0) := by
  unfold endsR
  rw [made_lines ht, if_pos rfl]
 obtain ⟨hEl, hEi, hEm⟩ := made_sorted hm (by omega)
 have hup := fun i hi => made_up hm (by omega) (i := i) hi
 have hf2 : few2s t = true := shortT_few hsh htl
 have hctr : CtrOK (EBk nums ls t (endS t)) := mkE_ctr (tbl_cons trueK_ok (tbl_cons (cAs_ok hkit) (tbl_cons (cAs_ok (ofTree_pure ls t 0 hfew ht)) (tbl_cons (cAs_ok (linesT_pure t ls 0 hsh hL)) (tbl_cons (cAs_ok (endsT_pure t (endS t) 0 hsh hE))
  (tbl_cons (cAs_ok (by have := kLines_pure ls ls (by omega) hfew hfew; rwa [decide_eq_true rfl] at this)) (tbl_cons (cAs_ok (by have := kTree_pure t t hf2 hf2; rwa [decide_eq_true rfl] at this)) (tbl_cons (pathB_ok hsh hchE) (tbl_cons (depthB_ok hsh hchE) (tbl_cons atoms_ok (tbl_cons kInts_ok (tbl_nil _))))))))))))
 refine PureC.of_vc (E := EBk nums ls t (endS t)) (k := 30) (d := 3) mix hctr ((back_vc nums ls t (endS t)).mpr ?_)
 have hls1 : 1 ≤ ls.length := by
  cases ls with
  | nil => exact (hls rfl).elim
  | cons x l => simp
 have ht2 : 2 ≤ t.length := by
  obtain ⟨e, e1, _, _, e4⟩ := hm.at_ 0 (by omega)
  rcases Nat.eq_zero_or_pos e with rfl | h0
  ·have h5 : upL t ((0 : Nat) : Int) = [] := rfl
   rw [h5] at e4
   exact ((chk_right (hchk _ (getD_mem (d := []) (show 0 < ls.length by omega)))).1 e4.symm).elim
  ·omega
 have hAt : asB [treeA t] [treeA t] = true := sub1 (sub_tree t)
 have hAl : asB [linesA ls] [linesA ls] = true := sub1 (sub_lines ls)
 refine NB_intro (sub1 (sub_ints nums)) (VB_intro (fun _ => rfl) (fun _ => ?_))
 refine NB_intro hAl (NB_intro hAt (NB_intro hAl (NB_intro hAt ⟨?_, fun i hi => ?_⟩)))
 ·refine ⟨0, Nat.zero_le _, ?_⟩
  repeat' (first | exact sub_ints _ | exact sub_lines _ | exact sub_tree _ | exact trivial | exact rfl | exact fun h => h | refine And.intro ?_ ?_)
 have hi : i ≤ ls.length := hi
 have hs5 := slN_five hfive i hi
 refine VB_intro (fun h => ?_) (fun h => ?_)
 ·have h1 : i < ls.length := by
   have := of_decide_eq_true h
   omega
  have h2 := hfive _ (getD_mem (d := []) h1)
  have hW : IntKind.i64.wrap ((i : Int) + 1) = ((i + 1 : Nat) : Int) := by rw [wrap_i64_id (by omega) (by omega)]; omega
  have hS : IntKind.i64.wrap ((slN ls i : Nat) + ((ls.getD i []).length : Int)) = ((slN ls (i + 1) : Nat) : Int) := by
   rw [wrap_i64_id (by omega) (by omega)]
   show _ = ((slN ls i + (ls.getD i []).length : Nat) : Int)
   omega
  refine NB_intro (by simp; omega) ⟨i + 1, (show i + 1 ≤ ls.length by omega), (show ls.length - (i + 1) < ls.length - i by omega), ?_⟩
  repeat' (first | exact sub_ints _ | exact sub_lines _ | exact sub_tree _ | exact trivial | exact rfl | exact hW | exact hS | exact fun h => h | refine And.intro ?_ ?_)
 have h1 : i = ls.length := by
  have := of_decide_eq_false h
  omega
 subst h1
 have hfew2 := hm.few
 refine NB_intro (impB_of fun _ => asB_t ⟨sub_lines ls, sub_lines ls, trivial⟩) (NB_intro (impB_of fun _ => asB_t ⟨sub_tree t, sub_tree t, trivial⟩) (VB_intro (fun h2 => ?_) (fun _ => ⟨?_, fun i hi => ?_⟩)))
 ·exfalso
  have h3 : (decide ((t.length : Int) < 2) || decide (IntKind.i64.wrap ((t.length : Int) - 1) > ((slN ls ls.length : Nat) : Int)) || ((endS t).length : Int) != (ls.length : Int)) = true := h2
  rw [wrap_i64_id (by omega) (by omega)] at h3
  simp only [Bool.or_eq_true, decide_eq_true_eq, bne_iff_ne, ne_eq] at h3
  omega
 ·refine ⟨1, ⟨Nat.le_refl _, by omega⟩, ?_⟩
  repeat' (first | exact sub_ints _ | exact sub_lines _ | exact sub_tree _ | exact trivial | exact rfl | exact fun h => h | refine And.intro ?_ ?_)
 obtain ⟨hi1, hi2⟩ := hi
 refine VB_intro (fun h => ?_) (fun h => ?_)
 ·have h1 : i < t.length := by
   have := of_decide_eq_true h
   omega
  obtain ⟨hl1, hl2⟩ := up_last hm.trie (by omega) h1
  have hal : (atomsL (upL t i)).length = (upL t i).length := by simp [atomsL]
  have hul : (upL t i).length ≤ 769 := by
   have := upR_len t i i
   show ((upR t i i).reverse).length ≤ 769
   rw [List.length_reverse]
   omega
  have hw : IntKind.i64.wrap (((upL t i).length : Int) - 1) = (((upL t i).length - 1 : Nat) : Int) := by rw [wrap_i64_id (by omega) (by omega)]; omega
  have hW : IntKind.i64.wrap ((i : Int) + 1) = ((i + 1 : Nat) : Int) := by rw [wrap_i64_id (by omega) (by omega)]; omega
  rw [hw, show (Int.toNat (i : Int)) = i from rfl, show (Int.toNat (((upL t i).length - 1 : Nat) : Int)) = (upL t i).length - 1 from rfl, hl2]
  have hnb : (asB [treeA t] [treeA t] && decide ((0 : Int) ≤ (i : Int) ∧ (i : Int) < (t.length : Int))) = true := by
   rw [hAt]
   simp
   omega
  refine NB_intro (by simp; omega) (NB_intro hnb (NB_intro hnb (NB_intro (impB_of fun _ => by simp only [decide_eq_true_eq]; omega) (VB_intro (fun h3 => ?_) (fun _ => ?_)))))
  ·exfalso
   have h4 : (((upL t i).length : Int) != ((atomsL (upL t i)).length : Int) || decide (((upL t i).length : Int) < 1) || (t.getD i twigD).slot.fst != (t.getD i twigD).slot.fst || (((t.getD i twigD).kids.length : Int) == 0 && !(t.getD i twigD).ends)) = true := h3
   simp only [Bool.or_eq_true, bne_iff_ne, ne_eq, decide_eq_true_eq, not_true_eq_false, or_false, Bool.and_eq_true, beq_iff_eq, Bool.not_eq_true'] at h4
   rcases h4 with (h4 | h4) | ⟨h4, h5⟩
   ·omega
   ·omega
   ·have := hm.leaf i (by omega) h1 (List.eq_nil_of_length_eq_zero (by omega))
    rw [this] at h5
    cases h5
  ·refine ⟨i + 1, ⟨by omega, by omega⟩, (show t.length - (i + 1) < t.length - i by omega), ?_⟩
   repeat' (first | exact sub_ints _ | exact sub_lines _ | exact sub_tree _ | exact trivial | exact rfl | exact hW | exact fun h => h | refine And.intro ?_ ?_)
 refine ⟨?_, fun j hj => ?_⟩
 ·refine ⟨0, Nat.zero_le _, ?_⟩
  repeat' (first | exact sub_ints _ | exact sub_lines _ | exact sub_tree _ | exact trivial | exact rfl | exact fun h => h | refine And.intro ?_ ?_)
 have hj : j ≤ ls.length := hj
 refine VB_intro (fun h => ?_) (fun _ => rfl)
 have h1 : j < ls.length := by
  have := of_decide_eq_true h
  omega
 obtain ⟨k1, k2, _⟩ := hEm _ (getD_mem (d := 0) (show j < (endS t).length by omega))
 have hW : IntKind.i64.wrap ((j : Int) + 1) = ((j + 1 : Nat) : Int) := by rw [wrap_i64_id (by omega) (by omega)]; omega
 have hf := hfive _ (getD_mem (d := []) h1)
 rw [show (Int.toNat (j : Int)) = j from rfl, hup j h1, slotsOf_self, slotsB_self, intsOf_self, intsB_self]
 have hal : (atomsL (ls.getD j [])).length = (ls.getD j []).length := by simp [atomsL]
 refine NB_intro (by simp; omega) (NB_intro (Bool.and_eq_true_iff.2 ⟨hAt, decide_eq_true ⟨k1, k2⟩⟩) (NB_intro (impB_of fun _ => decide_eq_true ⟨by omega, by omega⟩) (NB_intro (impB_of fun _ => by rw [decide_eq_true (show (ls.getD j []).length ≤ 1000000 by omega)]; rfl) (NB_intro (impB_of fun _ => by rw [decide_eq_true (show (atomsL (ls.getD j [])).length ≤ 1000000 by rw [hal]; omega)]; rfl) (VB_intro (fun h3 => ?_) (fun _ => ?_))))))
 ·simp at h3
 ·refine ⟨j + 1, (show j + 1 ≤ ls.length by omega), (show ls.length - (j + 1) < ls.length - j by omega), ?_⟩
  repeat' (first | exact sub_ints _ | exact sub_lines _ | exact sub_tree _ | exact trivial | exact rfl | exact hW | exact fun h => h | refine And.intro ?_ ?_)
end Go.Proofs.Ytlnpgnipocbfhaa
