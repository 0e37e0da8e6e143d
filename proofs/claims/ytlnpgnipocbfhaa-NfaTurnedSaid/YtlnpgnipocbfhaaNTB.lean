/- TREES, law NfaTurned: the proof of its conditions. -/
import Derived.Test.YtlnpgnipocbfhaaNTA
import Derived.Test.YtlnpgnipocbfhaaNBF
namespace Go.Proofs.Ytlnpgnipocbfhaa
open Pw Go
set_option maxRecDepth 100000
set_option linter.unusedSimpArgs false
theorem EOwl_ok (l : List SlotG) : CtrOK (EOwl l) := ⟨(mkE_ctr (P := Try.prog) (inv := fun _ _ => none) (tbl_nil _)).1, itr_none rfl⟩
theorem ownL_pure (l : List SlotG) (hl : fewS l = true) : PureC Try.prog gU 52 [lineA l] (lineA l) := by
 have hll : l.length ≤ 1000 := by simp only [fewS, Bool.and_eq_true, decide_eq_true_eq] at hl; exact hl.1
 refine PureC.of_vc (E := EOwl l) (k := 30) (d := 3) mix (EOwl_ok l) ((ownL_vc l).mpr ⟨?_, fun p hi => ?_⟩)
 ·refine ⟨(0, 0), Nat.zero_le _, ?_⟩
  repeat' (first | exact sub_line _ | exact trivial | exact rfl | exact Or.inr rfl | exact fun h => h | refine And.intro ?_ ?_)
 obtain ⟨i, g⟩ := p
 have hi : i ≤ l.length := hi
 dsimp only
 refine VB_intro (fun h => ?_) (fun h => ?_)
 ·have h1 : i < l.length := by
   have := of_decide_eq_true h
   omega
  have hg := fewS_at hl h1
  have hroom : room (0 + (l.getD i slotD').gds.length) 8 = true := decide_eq_true ⟨by omega, by omega⟩
  have hroom2 : room (i + 1) 32 = true := decide_eq_true ⟨by omega, by omega⟩
  have hW : IntKind.i64.wrap ((i : Int) + 1) = ((i + 1 : Nat) : Int) := by rw [wrap_i64_id (by omega) (by omega)]; omega
  rw [show (Int.toNat (i : Int)) = i from rfl]
  refine NB_intro (by simp; omega) (NB_intro (by simp; omega) (NB_intro (by rw [hroom]; simp) (NB_intro (by rw [hroom2]; simp) ⟨(i + 1, g + 1), (show i + 1 ≤ l.length by omega), (show l.length - (i + 1) < l.length - i by omega), ?_⟩)))
  repeat' (first | exact sub_line _ | exact trivial | exact rfl | exact Or.inr rfl | exact hW | exact fun h => h | refine And.intro ?_ ?_)
  intro k hk
  by_cases hin : k < i
  ·repeat rw [if_pos hin]
   rw [Nat.zero_add]
   exact ⟨sub_slot (l.getD k slotD'), rfl⟩
  ·obtain rfl : k = i := by omega
   repeat rw [if_neg hin]
   rw [Nat.sub_self]
   refine ⟨⟨rfl, ⟨Nat.zero_add _, fun j hj => ?_, fun h => by cases h⟩, trivial⟩, rfl⟩
   dsimp only
   rw [Nat.zero_add]
   exact ⟨rfl, rfl⟩
 ·have h1 : i = l.length := by
   have := of_decide_eq_false h
   omega
  subst h1
  refine NB_intro (by simp) ⟨⟨rfl, fun k hk => ?_, fun h => by cases h⟩, trivial⟩
  rw [Nat.zero_add]
  exact ⟨⟨rfl, ⟨rfl, fun _ _ => ⟨rfl, rfl⟩, fun h => h⟩, trivial⟩, rfl⟩
theorem ownL_ok : PureF Try.prog 52 cOwnL := by
 intro args nd v he hnd
 unfold cOwnL at he
 split at he <;> cases he
 rename_i n f ex
 simp only [Bool.and_eq_true] at hnd
 refine PureC.args (args' := [lineA (slotsOf' n f)]) rfl (fun i hi => ?_) (ownL_pure _ hnd.2)
 match i, hi with
 | 0, _ => exact ⟨slots_sub hnd.1, trivial⟩
theorem linesE_ok : PureF Try.prog 13 cLinesE := by
 intro args nd v he hnd
 unfold cLinesE at he
 split at he <;> cases he
 rename_i n f ex m g ex'
 simp only [Bool.and_eq_true, decide_eq_true_eq] at hnd
 obtain ⟨⟨⟨⟨h1, h2⟩, h3⟩, h4⟩, h5⟩ := hnd
 refine PureC.args (args' := [linesA (linesOf' n f), linesA (linesOf' m g)]) rfl (fun i hi => ?_) (kLines_pure _ _ (by rw [linesOf_len]; exact h1) (List.all_eq_true.1 h4) (List.all_eq_true.1 h5))
 match i, hi with
 | 0, _ => exact lines_sub h2
 | 1, _ => exact lines_sub h3
theorem linesOf_self (ls : List (List SlotG)) : (linesOf' ls.length fun (k : Nat) => lineA (ls.getD k [])) = ls := by
 refine List.ext_getElem (by simp [linesOf']) fun i h1 h2 => ?_
 simp [linesOf', line_self, List.getD, h2]
theorem linesB_self (ls : List (List SlotG)) : ((List.range ls.length).all fun (i : Nat) => isLineL (lineA (ls.getD i []))) = true := by
 rw [List.all_eq_true]
 exact fun _ _ => slotsB_self _
theorem linesOf_turn (ls : List (List SlotG)) (M : Nat) (hM : M ≤ ls.length) : (linesOf' ((ls.drop M).length + ((M : Int).toNat - Int.toNat (0 : Int))) fun (k : Nat) => if (0 : Nat) + k < (ls.drop M).length then lineA ((ls.drop M).getD ((0 : Nat) + ((0 : Nat) + k)) []) else lineA (ls.getD (Int.toNat (0 : Int) + ((0 : Nat) + k - (ls.drop M).length)) [])) = turnL ls M := by
 have hd : (ls.drop M).length = ls.length - M := List.length_drop ..
 have h0 : (ls.drop M).length + ((M : Int).toNat - Int.toNat (0 : Int)) = ls.length := by
  show (ls.drop M).length + (M - 0) = _
  omega
 rw [h0]
 refine list_ext [] (by rw [linesOf_len, turnL, List.length_append, hd, List.length_take]; omega) fun j hj => ?_
 rw [linesOf_len] at hj
 rw [linesOf_get hj]
 simp only [Nat.zero_add]
 by_cases h : j < (ls.drop M).length
 ·rw [if_pos h, line_self]
  simp [turnL, List.getD, List.getElem?_append_left h]
 ·rw [if_neg h, line_self]
  have h1 : j - (ls.drop M).length < M := by omega
  show ls.getD (0 + (j - (ls.drop M).length)) [] = _
  rw [Nat.zero_add]
  simp only [turnL, List.getD]
  rw [List.getElem?_append_right (by omega), List.getElem?_take, if_pos h1]
theorem linesB_turn (ls dr : List (List SlotG)) (n : Nat) : ((List.range n).all fun (i : Nat) => isLineL (if (0 : Nat) + i < dr.length then lineA (dr.getD ((0 : Nat) + ((0 : Nat) + i)) []) else lineA (ls.getD (Int.toNat (0 : Int) + ((0 : Nat) + i - dr.length)) []))) = true := by
 rw [List.all_eq_true]
 intro i _
 split
 ·exact slotsB_self _
 ·exact slotsB_self _
theorem linesOf_first (ls : List (List SlotG)) (m : Nat) (hm : m ≤ ls.length) : (linesOf' ((m : Int).toNat - Int.toNat (0 : Int)) fun (k : Nat) => lineA (ls.getD (Int.toNat (0 : Int) + k) [])) = ls.take m := by
 show (linesOf' (m - 0) fun (k : Nat) => lineA (ls.getD (0 + k) [])) = _
 rw [Nat.sub_zero]
 refine list_ext [] (by rw [linesOf_len, List.length_take]; omega) fun j hj => ?_
 rw [linesOf_len] at hj
 rw [linesOf_get hj, Nat.zero_add, line_self]
 simp [List.getD, List.getElem?_take, hj]
theorem linesB_first (ls : List (List SlotG)) (n : Nat) : ((List.range n).all fun (i : Nat) => isLineL (lineA (ls.getD (Int.toNat (0 : Int) + i) []))) = true := by
 rw [List.all_eq_true]
 exact fun _ _ => slotsB_self _
theorem kitL_ok (nums : List Int) : LinesOK (kitL nums) :=
 ⟨by have := kitL_len nums; omega, fun l hl => by have := kitL_five nums l hl; omega, kitL_chk nums, kitN_nodup nums _⟩
theorem turn_pure (nums : List Int) (x : Int) (hb : ∀ j, j < nums.length → -9223372036854775808 ≤ nums.getD j 0 ∧ nums.getD j 0 ≤ 9223372036854775807) (hx : -9223372036854775808 ≤ x ∧ x ≤ 9223372036854775807) :
  PureC Try.prog gU 5 [intsA nums, .int .i64 x] (.bool true) := by
 have hkit := kit_pure nums hb
 by_cases hls : kitL nums = []
 ·rw [hls] at hkit
  exact PureC.of_vc (E := EBk0 nums) (k := 30) (d := 3) mix (mkE_ctr (tbl_cons trueK_ok (tbl_cons (cAs_ok hkit) (tbl_nil _)))) ((turn0_vc nums x).mpr (NB_intro (sub1 (sub_ints nums)) rfl))
 have hfew := kitL_few nums
 have hlen := kitL_len nums
 have hok := kitL_ok nums
 generalize kitL nums = ls at *
 have hls1 : 1 ≤ ls.length := by
  cases ls with
  | nil => exact (hls rfl).elim
  | cons x l => simp
 obtain ⟨M, hM⟩ : ∃ M : Nat, x % (ls.length : Int) = M := ⟨(x % (ls.length : Int)).toNat, by have := Int.emod_nonneg x (show (ls.length : Int) ≠ 0 by omega); omega⟩
 have hMl : M < ls.length := by
  have := Int.emod_lt_of_pos x (show (0 : Int) < ls.length by omega)
  omega
 obtain ⟨a, ha⟩ := hok.tree hls1
 have hokT := hok.of_perm (turn_perm ls M)
 have hlT : (turnL ls M).length = ls.length := (turn_perm ls M).length_eq
 obtain ⟨b, hbT⟩ := hokT.tree (by omega)
 obtain ⟨c, hcT⟩ := (hok.take (M + 1)).tree (by rw [List.length_take]; omega)
 obtain ⟨_, htb, hshb, _, _⟩ := ofT_made hbT
 obtain ⟨ma, hta, _, _, _⟩ := ofT_made ha
 obtain ⟨mc, htc, _, _, _⟩ := ofT_made hcT
 have hab := turn_len ha hbT
 obtain ⟨hca, hgr⟩ := first_grow (m := M + 1) (by omega) ha hcT
 have hfewT : ∀ l ∈ turnL ls M, fewS l = true := fun l hl => hfew l ((turn_perm ls M).mem_iff.1 hl)
 have hfewF : ∀ l ∈ ls.take (M + 1), fewS l = true := fun l hl => hfew l (List.mem_of_mem_take hl)
 have hL : linesR b = (turnL ls M, 0) := by
  unfold linesR
  rw [made_lines hbT, if_pos rfl]
 have hdl : (ls.drop M).length = ls.length - M := List.length_drop ..
 have hctr : CtrOK (ETu nums ls (ls.drop M) (turnL ls M) a b c) := ⟨(mkE_ctr (P := Try.prog) (inv := fun _ _ => none) (tbl_cons trueK_ok (tbl_cons (cAs_ok hkit) (tbl_cons mod_ok (tbl_cons ownL_ok (tbl_cons ofT_okC (tbl_cons (cAs_ok (linesT_pure b _ 0 hshb hL)) (tbl_cons linesE_ok (tbl_cons kSlot_ok (tbl_nil _)))))))))).1, itr_none rfl⟩
 refine PureC.of_vc (E := ETu nums ls (ls.drop M) (turnL ls M) a b c) (k := 30) (d := 3) mix hctr ((turn_vc nums x ls (ls.drop M) (turnL ls M) a b c).mpr ?_)
 have hWM : IntKind.i64.wrap ((M : Int) + 1) = ((M + 1 : Nat) : Int) := by rw [wrap_i64_id (by omega) (by omega)]; omega
 rw [hM, hWM]
 refine NB_intro (sub1 (sub_ints nums)) (VB_intro (fun _ => rfl) (fun _ => ?_))
 refine NB_intro (decide_eq_true ⟨hx.1, hx.2, by omega, by omega⟩) (NB_intro (decide_eq_true ⟨by omega, by omega, by omega⟩) (NB_intro (decide_eq_true ⟨by omega, by omega, by omega⟩) ⟨?_, fun p hi => ?_⟩))
 ·refine ⟨(0, 0), Nat.zero_le _, ⟨⟨?_, fun i hi => ?_, fun h => h⟩, ⟨rfl, rfl, rfl⟩, rfl, trivial⟩, rfl, trivial⟩
  ·show ls.length - M = (ls.drop M).length
   omega
  ·have e : (ls.drop M).getD i [] = ls.getD (M + i) [] := by simp [List.getD, List.getElem?_drop]
   rw [e]
   exact ⟨⟨⟨rfl, fun _ _ => ⟨⟨rfl, ⟨rfl, fun _ _ => ⟨rfl, rfl⟩, fun h => h⟩, trivial⟩, rfl⟩, fun h => h⟩, trivial⟩, rfl⟩
 obtain ⟨i, g⟩ := p
 have hi : i ≤ (ls.drop M).length := hi
 dsimp only
 refine VB_intro (fun h => ?_) (fun h => ?_)
 ·have h1 : i < (ls.drop M).length := by
   have := of_decide_eq_true h
   omega
  have hroom : room (i + 1) 24 = true := decide_eq_true ⟨by omega, by omega⟩
  have hW : IntKind.i64.wrap ((i : Int) + 1) = ((i + 1 : Nat) : Int) := by rw [wrap_i64_id (by omega) (by omega)]; omega
  rw [show (Int.toNat (i : Int)) = i from rfl, slotsOf_self, slotsB_self, hfew _ (List.mem_of_mem_drop (getD_mem (d := []) h1))]
  refine NB_intro (by simp; omega) (NB_intro rfl (NB_intro (by rw [hroom]; simp) ⟨(i + 1, g + 1), (show i + 1 ≤ (ls.drop M).length by omega), (show (ls.drop M).length - (i + 1) < (ls.drop M).length - i by omega), ?_⟩))
  repeat' (first | exact sub_lines _ | exact trivial | exact rfl | exact Or.inr rfl | exact hW | exact fun h => h | refine And.intro ?_ ?_)
  intro k hk
  by_cases hin : k < i
  ·repeat rw [if_pos hin]
   rw [Nat.zero_add]
   exact ⟨⟨sub_slots _, trivial⟩, rfl⟩
  ·obtain rfl : k = i := by omega
   repeat rw [if_neg hin]
   rw [Nat.sub_self]
   exact ⟨⟨sub_slots ((ls.drop M).getD k []), trivial⟩, rfl⟩
 have h1 : i = (ls.drop M).length := by
  have := of_decide_eq_false h
  omega
 subst h1
 have hroom : room ((ls.drop M).length + ((M : Int).toNat - Int.toNat (0 : Int))) 24 = true := by
  show room ((ls.drop M).length + (M - 0)) 24 = true
  exact decide_eq_true ⟨by omega, by omega⟩
 rw [linesOf_turn ls M (by omega), linesOf_first ls (M + 1) (by omega), linesOf_self, linesOf_self, linesB_turn, linesB_first, linesB_self, linesB_self, ha, hbT, hcT, List.all_eq_true.2 hfew, List.all_eq_true.2 hfewT, List.all_eq_true.2 hfewF, hroom]
 refine NB_intro (by simp) (NB_intro (by simp) (NB_intro rfl (NB_intro rfl (NB_intro (decide_eq_true ⟨by omega, by omega, by omega⟩) (NB_intro rfl (NB_intro (sub1 (sub_tree b)) (NB_intro (impB_of fun _ => by rw [decide_eq_true (show (turnL ls M).length ≤ 1000000 by omega)]; rfl) (VB_intro (fun h2 => ?_) (fun _ => ⟨?_, fun i hi => ?_⟩)))))))))
 ·exfalso
  simp only [bne_self_eq_false, Bool.false_or, decide_true, Bool.not_true, Bool.or_false, Bool.or_eq_true, bne_iff_ne, ne_eq, decide_eq_true_eq] at h2
  omega
 ·have h1c := mc.trie.pos
  refine ⟨1, ⟨Nat.le_refl _, h1c⟩, ?_⟩
  repeat' (first | exact trivial | exact rfl | exact fun h => h | exact ⟨⟨⟨rfl, fun _ _ => ⟨⟨rfl, ⟨rfl, fun _ _ => ⟨rfl, rfl⟩, fun h => h⟩, rfl, ⟨rfl, fun _ _ => ⟨rfl, rfl⟩, fun h => h⟩, rfl, rfl, trivial⟩, rfl⟩, fun h => h⟩, trivial⟩, rfl⟩ | refine And.intro ?_ ?_)
 obtain ⟨hi1, hi2⟩ := hi
 refine VB_intro (fun h2 => ?_) (fun _ => rfl)
 have h3 : i < c.length := by
  have := of_decide_eq_true h2
  omega
 obtain ⟨g1, g2⟩ := hgr i h3
 have k1 := rightS_few (mc.trie.right i)
 have k2 := rightS_few (ma.trie.right i)
 have hW : IntKind.i64.wrap ((i : Int) + 1) = ((i + 1 : Nat) : Int) := by rw [wrap_i64_id (by omega) (by omega)]; omega
 refine NB_intro (by simp; omega) (NB_intro (by simp; omega) (NB_intro (slotE_need (x := (c.getD i twigD).slot) (y := (a.getD i twigD).slot) (by omega) (by omega)) (NB_intro (impB_of fun _ => decide_eq_true ⟨by omega, by omega⟩) (NB_intro (impB_of fun _ => decide_eq_true ⟨by omega, by omega⟩) (VB_intro (fun h4 => ?_) (fun _ => ?_))))))
 ·exfalso
  have h5 : (!decide (slotOf (slotA (c.getD i twigD).slot) = slotOf (slotA (a.getD i twigD).slot)) || (c.getD i twigD).par != (a.getD i twigD).par) = true := h4
  rw [slot_self, slot_self, g1, g2] at h5
  simp at h5
 ·refine ⟨i + 1, ⟨by omega, by omega⟩, (show c.length - (i + 1) < c.length - i by omega), ?_⟩
  repeat' (first | exact sub_tree _ | exact trivial | exact rfl | exact hW | exact fun h => h | refine And.intro ?_ ?_)
end Go.Proofs.Ytlnpgnipocbfhaa
