/- FLOW 9: restricted nodes, in Lean. -/
import Derived.Test.YtamcloifhjafcaaDoorFR1
namespace Go.Proofs.YtamcloifhjafcaaDoor
open Pw Go
set_option maxRecDepth 100000
set_option linter.unusedSimpArgs false
section
variable (c : Int)
theorem rstL_map : ∀ l, rstL c l = l.map (rst c)
 | [] => rfl
 | x :: l => by rw [rstL, rstL_map l]; rfl
theorem rst_kids (x : NodeG) : (rst c x).kids = x.kids.map (rst c) := by
 cases x
 simp only [rst, TreeG.kids, rstL_map]
theorem rst_nk (x : NodeG) : nk (rst c x) = nk x := by cases x; simp only [rst]; rfl
theorem rst_nmn (x : NodeG) : nmn (rst c x) = nmn x := by cases x; simp only [rst]; rfl
theorem rst_nmx (x : NodeG) : nmx (rst c x) = nmx x := by cases x; simp only [rst]; rfl
theorem rst_nat (x : NodeG) : nat (rst c x) = rsA c (decide (x.kids.length = 0)) (nat x) := by cases x; simp only [rst]; rfl
theorem rsA_ac (lf : Bool) (a : AtomG) : ac (rsA c lf a) = ac a := by unfold rsA; split <;> rfl
theorem rsA_an (lf : Bool) (a : AtomG) : an (rsA c lf a) = an a := by unfold rsA; split <;> rfl
theorem rsA_k (lf : Bool) (a : AtomG) : (rsA c lf a).1 = a.1 := by unfold rsA; split <;> rfl
theorem rsA_f (a : AtomG) : rsA c false a = a := rfl
theorem rsA_bd (a : AtomG) : (rsA c true a).2.1 = true := by
 unfold rsA
 split
 ·rfl
 ·rename_i h; simpa using h
theorem rsA_idem (d : Int) (lf : Bool) (a : AtomG) : rsA d lf (rsA c lf a) = rsA c lf a := by
 cases lf with
 | false => rfl
 | true => exact if_neg (by rw [rsA_bd]; simp)
theorem rsA_at (d : Int) (a : AtomG) : atR (rsA c true a) d = atR a c := by
 unfold rsA
 split
 ·rename_i h
  have h : a.2.1 = false := by simpa using h
  rw [atR, atR, if_pos rfl, if_neg (by rw [h]; decide)]
 ·rename_i h
  have h : a.2.1 = true := by simpa using h
  rw [atR, atR, if_pos h, if_pos h]
mutual
theorem rst_idem (d : Int) : ∀ x, rst d (rst c x) = rst c x
 | .mk v l => by
  have h := rstL_idem d l
  have hl : (rstL c l).length = l.length := by rw [rstL_map, List.length_map]
  simp only [rst, h, hl, rsA_idem]
theorem rstL_idem (d : Int) : ∀ l, rstL d (rstL c l) = rstL c l
 | [] => rfl
 | x :: l => by
  have h1 := rst_idem d x
  have h2 := rstL_idem d l
  simp only [rstL, h1, h2]
end
theorem rst_lit : ∀ (g : Nat) (x : NodeG), litB g (rst c x) = litB g x
 | 0, _ => rfl
 | g + 1, x => by
  have e : (fun k => litB g (rst c k)) = litB g := funext fun k => rst_lit g k
  simp only [litB]
  show (decide ((ac (nat (rst c x))).length ≤ 10) && decide ((an (nat (rst c x))).length ≤ 20) && decide ((rst c x).kids.length ≤ 40) && (rst c x).kids.all (litB g)) = _
  rw [rst_kids, rst_nat, rsA_ac, rsA_an, List.length_map, List.all_map]
  show (_ && _ && _ && x.kids.all (fun k => litB g (rst c k))) = _
  rw [e]
theorem rst_sound : ∀ (d : Nat) (x : NodeG), soundB d x = true → soundB d (rst c x) = true
 | 0, _, h => by cases h
 | d + 1, x, h => by
  have hz : ∀ a, atomB a = true → atomB (rsA c true a) = true := by
   intro a ha
   unfold rsA
   split
   ·unfold atomB atomS at ha ⊢
    simp only [Bool.and_eq_true, Bool.or_eq_true] at ha ⊢
    exact ⟨⟨⟨ha.1.1.1, .inl trivial⟩, ha.1.2⟩, ha.2⟩
   ·exact ha
  simp only [soundB] at h ⊢
  rw [rst_nk, rst_nat, rst_nmn, rst_nmx, rst_kids, List.length_map]
  by_cases h1 : nk x = 1
  ·rw [if_pos h1] at h ⊢
   simp only [Bool.and_eq_true, decide_eq_true_eq] at h ⊢
   have hk := h.2
   rw [hk]
   exact ⟨⟨⟨⟨⟨hz _ h.1.1.1.1.1, h.1.1.1.1.2⟩, h.1.1.1.2⟩, h.1.1.2⟩, h.1.2⟩, rfl⟩
  ·rw [if_neg h1] at h ⊢
   by_cases h2 : nk x = 2
   ·rw [if_pos h2] at h ⊢
    simp only [Bool.and_eq_true, decide_eq_true_eq] at h ⊢
    have hk := h.2
    rw [hk]
    exact ⟨⟨⟨hz _ h.1.1.1, h.1.1.2⟩, h.1.2⟩, rfl⟩
   ·rw [if_neg h2] at h ⊢
    by_cases h3 : nk x = 3 ∨ nk x = 4
    ·rw [if_pos h3] at h ⊢
     simp only [Bool.and_eq_true, decide_eq_true_eq, List.all_eq_true] at h ⊢
     have hk := h.1.1.1.1
     rw [decide_eq_false (by omega : ¬ x.kids.length = 0), rsA_f]
     refine ⟨h.1, fun y hy => ?_⟩
     obtain ⟨z, hz, rfl⟩ := List.mem_map.1 hy
     exact rst_sound d z (h.2 z hz)
    ·rw [if_neg h3] at h
     cases h
theorem rst_leaf (x : NodeG) : isLeaf (rst c x) = isLeaf x := by rw [isLeaf, isLeaf, rst_nk]
theorem rst_leaves : ∀ (g : Nat) (x : NodeG), leavesL g (rst c x) = (leavesL g x).map (rst c)
 | 0, _ => rfl
 | g + 1, x => by
  simp only [leavesL]
  rw [rst_leaf, rst_kids]
  split
  ·rfl
  ·rw [List.map_map, List.map_flatten, List.map_map]
   congr 1
   exact List.map_congr_left fun y _ => rst_leaves g y
theorem leaf_nil : ∀ (g d : Nat) (x : NodeG), soundB d x = true → ∀ y ∈ leavesL g x, y.kids = []
 | 0, _, _, _, y, hy => by cases hy
 | g + 1, 0, _, h, _, _ => by cases h
 | g + 1, d + 1, x, h, y, hy => by
  simp only [leavesL] at hy
  split at hy
  ·rename_i hl
   simp only [List.mem_singleton] at hy
   subst hy
   exact sound_leaf h hl
  ·rename_i hl
   simp only [List.mem_flatten, List.mem_map] at hy
   obtain ⟨L, ⟨z, hz, rfl⟩, hy⟩ := hy
   exact leaf_nil g d z (sound_kids h (by simpa using hl) z hz) y hy
theorem rst_snd {x : NodeG} (h : sndB x = true) : sndB (rst c x) = true := rst_sound c 200 x h
theorem rst_atoms {x : NodeG} (h : sndB x = true) : atomsL 8 (rst c x) = (atomsL 8 x).map (rsA c true) := by
 unfold atomsL
 rw [if_pos h, if_pos (rst_snd c h), rst_leaves, List.map_map, List.map_map]
 refine List.map_congr_left fun y hy => ?_
 show nat (rst c y) = rsA c true (nat y)
 rw [rst_nat, leaf_nil 8 200 x h y hy]
 rfl
theorem rst_neg {x : NodeG} (h : sndB x = true) : negL 8 (rst c x) = negL 8 x := by
 unfold negL
 rw [if_pos h, if_pos (rst_snd c h), rst_leaves, List.map_map]
 refine List.map_congr_left fun y _ => ?_
 show decide (nk (rst c y) = 2) = _
 rw [rst_nk]
theorem rst_nds : ∀ (g : Nat) (x : NodeG), nds g (rst c x) = (nds g x).map (rst c)
 | 0, _ => rfl
 | g + 1, x => by
  simp only [nds]
  rw [rst_kids, List.map_cons, List.map_map, List.map_flatten, List.map_map]
  congr 2
  exact List.map_congr_left fun y _ => rst_nds g y
theorem rst_elems : ∀ (g : Nat) (d : Int) (x : NodeG), elems g d (rst c x) = (elems g d x).map fun p => (p.1, rst c p.2)
 | 0, _, _ => rfl
 | g + 1, d, x => by
  simp only [elems]
  rw [rst_kids, List.map_cons, List.map_map, List.map_flatten, List.map_map]
  congr 2
  exact List.map_congr_left fun y _ => rst_elems g (d + 1) y
theorem rst_getD (l : List NodeG) (i : Nat) : nk ((l.map (rst c)).getD i treeD) = nk (l.getD i treeD) := by
 rcases Nat.lt_or_ge i l.length with h | h
 ·simp [List.getD, h, rst_nk]
 ·simp [List.getD, h]
theorem any_rst (p : NodeG → Bool) (hp : ∀ y, p (rst c y) = p y) (x : NodeG) : (nds 8 (rst c x)).any p = (nds 8 x).any p := by
 rw [rst_nds, List.any_map]
 congr 1
 exact funext hp
theorem rst_ful (x : NodeG) : fulP (rst c x) = fulP x := by
 unfold fulP
 rw [rst_kids, rst_nat, rsA_ac, List.length_map]
theorem rst_rng (x : NodeG) : rngP (rst c x) = rngP x := by
 have h1 := rst_nmn c x
 have h2 := rst_nmx c x
 unfold rngP
 rw [rst_nk]
 show (_ && (decide (nmn (rst c x) < 1) || decide (nmn (rst c x) > nmx (rst c x)) || decide (nmx (rst c x) > 6))) = _
 rw [h1, h2]
theorem rst_std (x : NodeG) : stdP (rst c x) = stdP x := by
 unfold stdP
 have : (fun i => badN (rst c x) i) = fun i => badN x i := by
  funext i
  unfold badN
  rw [rst_nk, rst_kids, rst_getD, List.length_map]
 rw [rst_kids, List.length_map, this]
theorem rst_dpth {x : NodeG} (h : sndB x = true) : dpth (rst c x) = dpth x := by
 have : dpi (rst c x) = dpi x := by
  funext i
  show ((elems 8 1 (rst c x)).getD i (0, treeD)).1 = ((elems 8 1 x).getD i (0, treeD)).1
  rw [rst_elems]
  rcases Nat.lt_or_ge i (elems 8 1 x).length with h | h
  ·simp [List.getD, h]
  ·simp [List.getD, h]
 unfold dpth
 rw [if_pos h, if_pos (rst_snd c h), this, rst_elems, List.length_map]
theorem rst_nm (A : List AtomG) : nmOf (A.map (rsA c true)) = nmOf A := by
 funext i
 unfold nmOf
 rcases Nat.lt_or_ge i A.length with h | h
 ·simp only [List.getD_eq_getElem?_getD, List.getElem?_map, List.getElem?_eq_getElem h, Option.map_some, Option.getD_some, rsA_an]
 ·simp only [List.getD_eq_getElem?_getD, List.getElem?_map, List.getElem?_eq_none h, Option.map_none, Option.getD_none]
end
theorem nm_se {A B : List AtomG} (h : nmOf A = nmOf B) : ∀ i, seS A i = seS B i
 | 0 => rfl
 | i + 1 => by simp only [seS, h, nm_se h i]
theorem nm_kn {A B : List AtomG} (h : nmOf A = nmOf B) (N : List Bool) : ∀ i, knS A N i = knS B N i
 | 0 => rfl
 | i + 1 => by simp only [knS, h, nm_kn h N i]
theorem nm_wr {A B : List AtomG} (h : nmOf A = nmOf B) (N : List Bool) : ∀ i, wrS A N i = wrS B N i
 | 0 => rfl
 | i + 1 => by simp only [wrS, h, nm_wr h N i]
theorem nm_nmd {A B : List AtomG} (h : nmOf A = nmOf B) (hl : A.length = B.length) (N : List Bool) (U : List (List UInt8)) : nmdE A N U = nmdE B N U := by
 have : duP A = duP B := by
  funext i
  simp only [duP, h, nm_se h i]
 unfold nmdE dupB
 rw [this, hl, nm_kn h, nm_wr h]
theorem chk_snd {x : NodeG} {w : Int} {hs : List HaveG} {es : List AggG} (h : wfE x w hs es = 0) : sndB x = true := by
 unfold wfE at h
 split at h
 ·omega
 ·rename_i h1
  have h1 : chkE x w hs es = 0 := by simpa using h1
  unfold chkE at h1
  split at h1
  ·rename_i h2
   exact h2.1
  ·omega
theorem rst_wf (c : Int) {x : NodeG} {w : Int} {hs : List HaveG} {es : List AggG} (h : wfE x w hs es = 0) : wfE (rst c x) w hs es = 0 := by
 have hs1 := chk_snd h
 have hs2 := rst_snd c hs1
 rw [← h]
 unfold wfE chkE fullE depE rngE ordE nmE
 rw [hs1, hs2, rst_atoms c hs1, rst_neg c hs1, List.length_map, any_rst c fulP (rst_ful c), any_rst c rngP (rst_rng c), any_rst c stdP (rst_std c), rst_dpth c hs1, rst_nk, nm_nmd (rst_nm c _) (List.length_map ..)]
theorem rst_LtW (c : Int) {x : NodeG} {hs : List HaveG} {es : List AggG} (h : LtW x hs es) : LtW (rst c x) hs es :=
 ⟨by rw [rst_lit]; exact h.lit, h.nms, by rw [rst_elems, List.length_map]; exact h.few⟩
theorem rst_open (c : Int) {x : NodeG} (h : sndB x = true) : opV (rst c x) = false := by
 unfold opV
 rw [rst_atoms c h, List.length_map]
 have : ∀ i, i ≤ (atomsL 8 x).length → rdO ((atomsL 8 x).map (rsA c true)) i = false := by
  intro i
  induction i with
  | zero => exact fun _ => rfl
  | succ i ih =>
   intro hi
   rw [rdO, ih (by omega)]
   have hi' : i < (atomsL 8 x).length := by omega
   simp only [List.getD_eq_getElem?_getD, List.getElem?_map, List.getElem?_eq_getElem hi', Option.map_some, Option.getD_some, rsA_bd]
   rfl
 exact this _ (Nat.le_refl _)
theorem rst_read (c d : Int) {x : NodeG} (h : sndB x = true) : rdV (rst c x) d = rdV x c := by
 unfold rdV
 rw [rst_atoms c h, List.length_map]
 have : ∀ i, i ≤ (atomsL 8 x).length → rdL ((atomsL 8 x).map (rsA c true)) d i = rdL (atomsL 8 x) c i := by
  intro i
  induction i with
  | zero => exact fun _ => rfl
  | succ i ih =>
   intro hi
   rw [rdL, rdL, ih (by omega)]
   have hi' : i < (atomsL 8 x).length := by omega
   simp only [List.getD_eq_getElem?_getD, List.getElem?_map, List.getElem?_eq_getElem hi', Option.map_some, Option.getD_some, rsA_at]
 exact this _ (Nat.le_refl _)
end Go.Proofs.YtamcloifhjafcaaDoor
namespace Go.Proofs.YtamcloifhjafcaaDoor
open Pw Go
set_option maxRecDepth 100000
set_option linter.unusedSimpArgs false
theorem condsA_refl (l : List CondG) : (condsA l).sub (condsA l) := ⟨rfl, fun _ _ => ⟨⟨rfl, rfl, trivial⟩, rfl⟩, fun h => h⟩
theorem pureRes {P : Program} {gl : Nat → AV} {f : FuncId} {args : List AV} {v v' : AV} (h : PureC P gl f args v) (hs : v.sub v') : PureC P gl f args v' := fun M W vals hG hM hA => by
 obtain ⟨hf, hc⟩ := h M W vals hG hM hA
 exact ⟨hf, hc.mono fun e W' ⟨u, M', k1, k2, k3⟩ => ⟨u, M', k1, k2.sub _ hs, k3⟩⟩
theorem rst_ok {g : Nat} {c : Int} {T : AV} (h : ∀ x, litB g x = true → PureC Tryd.prog gN 74 [nodeA (g + 1) x, .rptr (.int .u64 c) 0, .rptr T 0] (nodeA (g + 1) (rst c x))) (hT : T.sub T) :
  PureG Tryd.prog gN 74 (cRst g c T) := by
 intro args nd v he hnd
 unfold cRst at he
 split at he <;> cases he
 rename_i n a b
 simp only [Bool.and_eq_true] at hnd
 obtain ⟨h1, h2⟩ := hnd
 have h2 : [a, b] = [.rptr (.int .u64 c) 0, .rptr T 0] := by simpa [atB] using h2
 simp only [List.cons.injEq, and_true] at h2
 obtain ⟨rfl, rfl⟩ := h2
 exact pureN_node h1 (fun x hx e => by rw [e]; exact h x hx) ⟨⟨⟨int_sub _ _, rfl⟩, rfl⟩, ⟨⟨hT, rfl⟩, rfl⟩, trivial⟩
theorem clo_sub (c : Int) : ∀ n, (clo c n).sub (clo c n)
 | 0 => by simp [clo, AV.sub]
 | n + 1 => ⟨rfl, trivial, ⟨⟨int_sub _ _, rfl⟩, rfl⟩, ⟨⟨clo_sub c n, rfl⟩, rfl⟩, trivial⟩
theorem ratL_f (c : Int) {x : NodeG} (h : ((x.kids.length : Int) == 0 && !(nat x).2.1) = false) : ratL c x = nat x := by
 unfold ratL rsA
 rw [if_neg]
 intro h2
 simp only [Bool.and_eq_true, decide_eq_true_eq, Bool.not_eq_true'] at h2
 rw [h2.1, h2.2] at h
 cases h
theorem ratL_t (c : Int) {x : NodeG} (h : ((x.kids.length : Int) == 0 && !(nat x).2.1) = true) : (ratL c x).2.1 = true ∧ (ratL c x).2.2.1 = c := by
 simp only [Bool.and_eq_true, beq_iff_eq, Bool.not_eq_true'] at h
 unfold ratL rsA
 rw [if_pos (by rw [decide_eq_true (by omega), h.2]; rfl)]
 exact ⟨rfl, rfl⟩
theorem rst_loop {g : Nat} {x : NodeG} {c : Int} {T : AV} (hl : litB (g + 1) x = true) (i : Nat × Nat) (hi : i.1 ≤ x.kids.length) :
  VB (decide ((i.1 : Int) < (x.kids.length : Int))) (NB (decide ((0 : Int) ≤ (i.1 : Int) ∧ (i.1 : Int) < (x.kids.length : Int))) (NB (isNode g (nodeA (g + 1) (x.kids.getD i.1 treeD)) && atB [(AV.int IntKind.u64 c).rptr 0, T.rptr 0] [(AV.int IntKind.u64 c).rptr 0, T.rptr 0])
   (NB (room (i.1 + 1) 112) (∃ i' : Nat × Nat, i'.1 ≤ x.kids.length ∧ (invRst g x c T).μ i' < (invRst g x c T).μ i ∧ IntKind.i64.wrap ((i.1 : Int) + 1) = (i'.1 : Int) ∧ ((i.2 + 1 = i'.2 ∧ i.1 + 1 = i'.1) ∧ (9 : Nat) = 9) ∧ i.2 + 1 = i'.2 ∧ i.1 + 1 = i'.1 ∧
    ∀ j : Nat, j < i.1 + 1 → (if j < i.1 then nodeA (g + 1) (rst c (x.kids.getD j treeD)) else ((Sq.lst [nodeA (g + 1) (rst c (nodeOf g (nodeA (g + 1) (x.kids.getD i.1 treeD))))]).sub 0 1).get (j - i.1)).sub (nodeA (g + 1) (rst c (x.kids.getD j treeD))) ∧
     (if j < i.1 then nodeA (g + 1) (rst c (x.kids.getD j treeD)) else ((Sq.lst [nodeA (g + 1) (rst c (nodeOf g (nodeA (g + 1) (x.kids.getD i.1 treeD))))]).sub 0 1).get (j - i.1)).cells.length = (nodeA (g + 1) (rst c (x.kids.getD j treeD))).cells.length))))
   (NB true (i.1 = x.kids.length ∧ (false = true → decide ((none : Option Nat) = some i.1) = true))) := by
 have hk40 := litB_kids hl
 obtain ⟨i, q⟩ := i
 simp only at hi ⊢
 refine VB_intro (fun h => ?_) (fun h => ?_)
 ·have hlt : i < x.kids.length := by have := of_decide_eq_true h; omega
  have hkl := litB_kid hl hlt
  refine NB_intro (decide_eq_true (by omega)) (NB_intro (by rw [isNode_of hkl (by omega), atB_self]; rfl) (NB_intro (by simp [room]; omega) ⟨(i + 1, q + 1), hlt, ?_, ?_, ⟨⟨rfl, rfl⟩, by trivial⟩, rfl, rfl, fun j hj => ?_⟩))
  ·show x.kids.length - (i + 1) < x.kids.length - i
   omega
  ·rw [wrap_i64_id (by omega) (by omega)]; rfl
  ·rw [nodeOf_of hkl (by omega)]
   split
   ·exact ⟨nodeA_sub _ 0 _, rfl⟩
   ·obtain rfl : j = i := by omega
    rw [Nat.sub_self]
    exact ⟨nodeA_sub _ 0 _, rfl⟩
 ·have := of_decide_eq_false h
  exact NB_intro rfl ⟨by omega, fun h => by cases h⟩
theorem rst_pure : ∀ (g n : Nat) (c : Int) (x : NodeG), litB g x = true → g ≤ n → PureC Tryd.prog gN 74 [nodeA (g + 1) x, .rptr (.int .u64 c) 0, .rptr (clo c n) 0] (nodeA (g + 1) (rst c x))
 | 0, _, _, _, h, _ => by cases h
 | g + 1, 0, _, _, _, h => by omega
 | g + 1, n + 1, c, x, hl, hn => by
  have hk40 := litB_kids hl
  have hc10 := litB_conds hl
  have key : PureC Tryd.prog gN 74 [nodeA (g + 2) x, .rptr (.int .u64 c) 0, .rptr (cloN c (clo c n)) 0] (rstA g c x) := by
   refine pure_vcE (E := ERst g x c (clo c n)) (k := 20) (d := 4) mix ?_ ((rst_vc g x c (clo c n)).mpr ?_)
   ·exact ⟨(mkG_ctr (P := Tryd.prog) (gl := gN) (inv := fun _ _ => none) (n := 0) (tblG_cons clone_ok (tblG_cons (rst_ok (fun y hy => rst_pure g n c y hy (by omega)) (clo_sub c n)) (tblG_nil _ _)))).1, itr_none rfl⟩
   have hT := clo_sub c n
   generalize clo c n = T at hT ⊢
   have hclone : (decide ((nat x).2.2.2.1.length ≤ 1000) && (List.range (nat x).2.2.2.1.length).all fun i => isCond (condA ((nat x).2.2.2.1.getD i condD))) = true := by
    rw [decide_eq_true (show (nat x).2.2.2.1.length ≤ 1000 from Nat.le_trans hc10 (by decide)), Bool.true_and]
    exact List.all_eq_true.2 fun i _ => rfl
   have hT' : T.sub T = True := eq_true hT
   refine NB_intro hclone (VB_intro (fun hb => ?_) (fun hb => ?_))
   ·obtain ⟨e1, e2⟩ := ratL_t c hb
    simp only [hT', nodeA_refl, EqI, true_and, and_true, and_self, imp_self, implies_true, Int.toNat_natCast, Nat.zero_add, or_self, Bool.true_and, decide_true]
    exact ⟨⟨(0, 0), Nat.zero_le _, rfl, ⟨e1.symm, e2.symm, rfl⟩, rfl, rfl⟩, fun i hi => rst_loop hl i hi⟩
   ·have e := ratL_f c hb
    simp only [hT', nodeA_refl, EqI, true_and, and_true, and_self, imp_self, implies_true, Int.toNat_natCast, Nat.zero_add, or_self, Bool.true_and, decide_true]
    exact ⟨⟨(0, 0), Nat.zero_le _, rfl, ⟨by rw [e], by rw [e], rfl⟩, rfl, rfl⟩, fun i hi => rst_loop hl i hi⟩
  refine pureRes key ?_
  have e1 := rst_nk c x
  have e2 := rst_nmn c x
  have e3 := rst_nmx c x
  have e4 := rst_nat c x
  have e5 := rst_kids c x
  show (rstA g c x).sub (nodeA (g + 2) (rst c x))
  have hA : nodeA (g + 2) (rst c x) = .agg [.int .i64 (nk (rst c x)), .int .i64 (nmn (rst c x)), .int .i64 (nmx (rst c x)), .int .i64 (nat (rst c x)).1, .bool (nat (rst c x)).2.1, .int .u64 (nat (rst c x)).2.2.1, condsA (ac (nat (rst c x))), .str (an (nat (rst c x))), .rof (rst c x).kids.length (fun i => nodeA (g + 1) ((rst c x).kids.getD i treeD)) false] := rfl
  rw [hA, e1, e2, e3, e4, e5, rsA_k, rsA_ac, rsA_an, List.length_map]
  refine subL9 (int_sub _ _) (int_sub _ _) (int_sub _ _) (int_sub _ _) (bool_sub _) (int_sub _ _) (condsA_refl _) (AV.str_sub _) ⟨rfl, fun i hi => ?_, fun h => h⟩
  have hg : (x.kids.map (rst c)).getD i treeD = rst c (x.kids.getD i treeD) := by simp [List.getD, hi]
  simp only [hg]
  exact ⟨nodeA_sub _ 0 _, trivial⟩
theorem cloneH_pure {l : List HaveG} (h : l.length ≤ 10) : PureC Tryd.prog gN 76 [havesA l] (havesA l) := by
 refine pure_vcE (E := EQ) (k := 20) (d := 3) mix EQ_ok ((cloneH_vc _).mpr ?_)
 intro b hb
 cases b with
 | true => exact VB_intro (fun _ => hb rfl) (fun h => by cases h)
 | false => exact VB_intro (fun h => by cases h) (fun _ => NB_intro (by simp [room]; omega) ⟨by omega, fun i hi => ⟨⟨by rw [Nat.zero_add], by rw [Nat.zero_add], by rw [Nat.zero_add], by rw [Nat.zero_add], trivial⟩, rfl⟩, fun h => by cases h⟩)
theorem cloneG_pure {l : List AggG} (h : l.length ≤ 10) : PureC Tryd.prog gN 77 [aggsA l] (aggsA l) := by
 refine pure_vcE (E := EQ) (k := 20) (d := 3) mix EQ_ok ((cloneG_vc _).mpr ?_)
 intro b hb
 cases b with
 | true => exact VB_intro (fun _ => hb rfl) (fun h => by cases h)
 | false => exact VB_intro (fun h => by cases h) (fun _ => NB_intro (by simp [room]; omega) ⟨by omega, fun i hi => ⟨⟨by rw [Nat.zero_add], by rw [Nat.zero_add], trivial⟩, rfl⟩, fun h => by cases h⟩)
section
variable {x : NodeG} (w : Int) {hs : List HaveG} {es : List AggG} (hq : LtW x hs es) (h0 : wfE x w hs es = 0)
include hq h0
theorem restrict_pure (c : Int) : PureC Tryd.prog gN 43 [qA x w hs es, .int .u64 c] (.tup [qA (rst c x) w hs es, .int .i64 0]) := by
 have hlit : litB 8 (rst c x) = true := by rw [rst_lit]; exact hq.lit
 have hn : PureC Tryd.prog gN 74 [nodeA 16 x, .rptr (.int .u64 c) 0, .rptr (clo c 11) 0] (nodeA 16 (rst c x)) := by
  refine pureRes (PureC.args (args' := [nodeA 9 x, .rptr (.int .u64 c) 0, .rptr (clo c 11) 0]) rfl (fun i hi => ?_) (rst_pure 8 11 c x hq.lit (by decide))) (nodeA_up 8 9 16 _ (litB_dep _ _ hlit) (by decide) (by decide))
  match i, hi with
  | 0, _ => exact nodeA_sub' (by decide) x
  | 1, _ => exact ⟨⟨int_sub _ _, rfl⟩, rfl⟩
  | 2, _ => exact ⟨⟨clo_sub c 11, rfl⟩, rfl⟩
 refine pure_vcE (E := ERes x w hs es c (clo c 11) 0 (rst c x)) (k := 20) (d := 4) mix ?_ ((restrict_vc x w hs es c 0 (rst c x) 0).mpr ?_)
 ·exact ⟨(mkG_ctr (P := Tryd.prog) (gl := gN) (inv := fun _ _ => none) (n := 0) (tblG_cons (cAt_ok (by have := wf_pure w hq; rwa [h0] at this)) (tblG_cons (cAt_ok hn) (tblG_cons (cAt_ok (cloneH_pure hq.nms.1)) (tblG_cons (cAt_ok (cloneG_pure hq.nms.2.1)) (tblG_nil _ _)))))).1, itr_none rfl⟩
 refine NB_intro (atB_self _) (VB_intro (fun h => by cases h) (fun _ => NB_intro (Eq.trans (b := atB [nodeA 16 x, .rptr (.int .u64 c) 0, .rptr (clo c 11) 0] [nodeA 16 x, .rptr (.int .u64 c) 0, .rptr (clo c 11) 0]) (by kernel_rfl) (atB_self _)) (NB_intro (atB_self _) (NB_intro (atB_self _) ⟨?_, rfl, trivial⟩))))
 exact (qA_refl _ _ _ _) ▸ trivial
end
theorem eqAB_self (a : AtomG) : eqAB a a = true := by simp [eqAB]
theorem eqNB_self (a : NodeG) : eqNB a a = true := by simp [eqNB]
theorem sameA_pure (a : AtomG) (h : (ac a).length ≤ 10) : PureC Tryd.prog gN 110 [atomA a, atomA a] (.bool true) := by
 refine pure_vcG (d := 3) mix (tblG_nil _ _) ((sameA_vc a).mpr ?_)
 simp only [bne_self_eq_false, beq_self_eq_true, Bool.not_true, Bool.or_self, Bool.and_self, VB_f, true_and, and_true, imp_self, implies_true, and_self, Int.toNat_natCast]
 refine ⟨⟨0, Nat.zero_le _, rfl⟩, fun i hi => VB_intro (fun h1 => ?_) (fun _ => trivial)⟩
 have h1 := of_decide_eq_true h1
 have hi : i ≤ (ac a).length := hi
 exact NB_intro (decide_eq_true (by omega)) (NB_intro (decide_eq_true (by omega)) ⟨i + 1, (by omega : i + 1 ≤ (ac a).length), by simp only [invSmA]; omega, by rw [wrap_i64_id (by omega) (by omega)]; rfl⟩)
theorem sameA_ok : PureG Tryd.prog gN 110 cSmA := by
 intro args nd v he hnd
 unfold cSmA at he
 split at he <;> cases he
 rename_i k bd bo cs nm k' bd' bo' cs' nm'
 simp only [Bool.and_eq_true, decide_eq_true_eq] at hnd
 obtain ⟨⟨⟨h1, h2⟩, h3⟩, h4⟩ := hnd
 have h4 : ((k, bd, bo, elsOf condOf cs, nm, ()) : AtomG) = (k', bd', bo', elsOf condOf cs', nm', ()) := by simpa [eqAB] using h4
 have h5 := sameA_pure (k, bd, bo, elsOf condOf cs, nm, ()) h3
 refine PureC.args (args' := [atomA (k, bd, bo, elsOf condOf cs, nm, ()), atomA (k, bd, bo, elsOf condOf cs, nm, ())]) rfl (fun i hi => ?_) h5
 match i, hi with
 | 0, _ => exact ⟨rfl, rfl, rfl, els_sub cond_sub h1, rfl, trivial⟩
 | 1, _ =>
  rw [h4]
  exact ⟨rfl, rfl, rfl, els_sub cond_sub h2, rfl, trivial⟩
theorem sameN_of {g : Nat} (h : ∀ x, litB g x = true → PureC Tryd.prog gN 78 [nodeA (g + 1) x, nodeA (g + 1) x] (.bool true)) : PureG Tryd.prog gN 78 (cSmN g) := by
 intro args nd v he hnd
 unfold cSmN at he
 split at he <;> cases he
 rename_i a b
 simp only [Bool.and_eq_true] at hnd
 obtain ⟨⟨h1, h2⟩, h3⟩ := hnd
 have h3 : nodeOf g a = nodeOf g b := by simpa [eqNB] using h3
 rw [isNode, Bool.and_eq_true] at h1 h2
 refine PureC.args (args' := [nodeA (g + 1) (nodeOf g a), nodeA (g + 1) (nodeOf g a)]) rfl (fun i hi => ?_) (h _ h1.2)
 match i, hi with
 | 0, _ => exact (node_sub g a h1.1).1
 | 1, _ => rw [h3]; exact (node_sub g b h2.1).1
theorem sameN_pure : ∀ (g : Nat) (x : NodeG), litB g x = true → PureC Tryd.prog gN 78 [nodeA (g + 1) x, nodeA (g + 1) x] (.bool true)
 | 0, _, h => by cases h
 | g + 1, x, hl => by
  refine pure_vcG (d := 3) mix (tblG_cons sameA_ok (tblG_cons (sameN_of (sameN_pure g)) (tblG_nil _ _))) ((sameN_vc g x).mpr ?_)
  have hk40 := litB_kids hl
  have hc : (elsOf condOf (condsA (ac (nat x)))).length ≤ 10 := by rw [conds_of]; exact litB_conds hl
  refine NB_intro (impB_t.2 fun _ => ?_) ?_
  ·show (isEls isCond (condsA (ac (nat x))) && isEls isCond (condsA (ac (nat x))) && decide ((elsOf condOf (condsA (ac (nat x)))).length ≤ 10) && eqAB _ _) = true
   rw [conds_is, decide_eq_true hc, eqAB_self]
   rfl
  simp only [bne_self_eq_false, Bool.or_self, VB_f, nodeA_refl, true_and, and_true, imp_self, implies_true, and_self, Int.toNat_natCast]
  refine ⟨⟨0, Nat.zero_le _, rfl⟩, fun i hi => VB_intro (fun h1 => ?_) (fun _ => trivial)⟩
  have h1 := of_decide_eq_true h1
  have hlt : i < x.kids.length := by omega
  have hkl := litB_kid hl hlt
  refine NB_intro (decide_eq_true (by omega)) (NB_intro (decide_eq_true (by omega)) (NB_intro ?_ ⟨i + 1, hlt, by simp only [invSmN]; omega, by rw [wrap_i64_id (by omega) (by omega)]; rfl⟩))
  rw [isNode_of hkl (by omega), eqNB_self]
  rfl
theorem sameQ_pure {x : NodeG} (w : Int) {hs : List HaveG} {es : List AggG} (hq : LtW x hs es) : PureC Tryd.prog gN 44 [qA x w hs es, qA x w hs es] (.bool true) := by
 refine pure_vcG (d := 3) mix (tblG_cons (sameN_of (sameN_pure 8)) (tblG_nil _ _)) ((sameQ_vc x w hs es 8).mpr ?_)
 have h1 := hq.nms.1
 have h2 := hq.nms.2.1
 refine NB_intro (by rw [isNode_of hq.lit (by decide), eqNB_self]; rfl) ?_
 simp only [bne_self_eq_false, beq_self_eq_true, Bool.not_true, Bool.or_self, Bool.and_self, VB_f, qA_refl, true_and, and_true, imp_self, implies_true, and_self, Int.toNat_natCast]
 refine ⟨⟨0, Nat.zero_le _, rfl⟩, fun i hi => VB_intro (fun h3 => ?_) (fun _ => ⟨⟨0, Nat.zero_le _, rfl⟩, fun i hi => VB_intro (fun h3 => ?_) (fun _ => trivial)⟩)⟩
 ·have h3 := of_decide_eq_true h3
  exact NB_intro (decide_eq_true (by omega)) (NB_intro (decide_eq_true (by omega)) ⟨i + 1, (by omega : i + 1 ≤ hs.length), by simp only [invSmQ1]; omega, by rw [wrap_i64_id (by omega) (by omega)]; rfl⟩)
 ·have h3 := of_decide_eq_true h3
  exact NB_intro (decide_eq_true (by omega)) (NB_intro (decide_eq_true (by omega)) ⟨i + 1, (by omega : i + 1 ≤ es.length), by simp only [invSmQ2]; omega, by rw [wrap_i64_id (by omega) (by omega)]; rfl⟩)
noncomputable def EFRx (l : List Int) (a b : Int) : Env := mkG Tryd.prog gN (tblOf (tblFR l (kqX l) (kqW l) (kqHs l) (kqEs l) (rst a (kqX l)) a b (rdV (kqX l) a))) (fun _ _ => none) 0
theorem EFR_ok (l : List Int) (hl : ok64 l) (a b : Int) : CtrOK (EFRx l a b) := by
 have hq := LtW_kq l
 have h0 := wf_kq l
 have hq' := rst_LtW a hq
 have h0' := rst_wf a h0
 have hs := chk_snd h0
 refine mkG_ctr (tblG_cons (cAt_ok (query_pure l hl)) (tblG_cons ?_ (tblG_cons (cAt_ok ?_) (tblG_cons ?_ (tblG_cons (cAt_ok (sameQ_pure _ hq')) (tblG_cons awake11_ok (tblG_nil _ _)))))))
 ·intro args nd v he hnd
  cases he
  rw [Bool.or_eq_true] at hnd
  rcases hnd with h | h
  ·obtain rfl : args = _ := by simpa [atB] using h
   exact restrict_pure _ hq h0 a
  ·obtain rfl : args = _ := by simpa [atB] using h
   have := restrict_pure _ hq' h0' b
   rwa [rst_idem] at this
 ·have := open_pure (kqW l) hq'
  rwa [OpV, if_pos h0', h0', rst_open a hs] at this
 ·intro args nd v he hnd
  cases he
  rw [Bool.or_eq_true] at hnd
  rcases hnd with h | h
  ·obtain rfl : args = _ := by simpa [atB] using h
   have := read_pure (kqW l) hq a
   rwa [RdV, if_pos h0, h0] at this
  ·obtain rfl : args = _ := by simpa [atB] using h
   have := read_pure (kqW l) hq' (orI .u64 a b)
   rwa [RdV, if_pos h0', h0', rst_read a _ hs] at this
theorem frestr_sat (l : List Int) (a b : Int) : (vcFun (EFRx l a b) 40 9 [iqA l, .int .u64 a, .int .u64 b] .nil 0 (isBool true)).sat := by
 refine (frestr_vc l _ _ _ _ _ a b _).mpr ?_
 refine NB_intro (atB_self _) (NB_intro (by rw [atB_self]; rfl) (NB_intro (by rw [atB_self, Bool.or_true]) (NB_intro (atB_self _) (NB_intro (by rw [atB_self, Bool.or_true]) (NB_intro (by rw [atB_self]; rfl) (NB_intro (impB_t.2 fun _ => atB_self _) ?_))))))
 simp
end Go.Proofs.YtamcloifhjafcaaDoor
