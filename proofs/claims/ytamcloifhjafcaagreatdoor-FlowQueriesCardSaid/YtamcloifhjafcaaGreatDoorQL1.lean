/- QUERIES L1: the law FlowQueries: conditions. -/
import Derived.Test.YtamcloifhjafcaaGreatDoorQE5
namespace Go.Proofs.YtamcloifhjafcaaGreatDoor
open Pw Go
set_option maxRecDepth 100000
set_option linter.unusedSimpArgs false
section
variable (x : NodeG) (w : Int) (hs : List HaveG) (es : List AggG) (c l : Int) (lq ok : Bool) (rd ls ck e : Int) (op rs : Bool) (R : AV)
noncomputable def tblQL : List (Nat × Ctr) := [(4, cAt [qA x w hs es] (.bool lq)), (5, litCtr [([], .bool true)]), (6, cWhQ ok [qA x w hs es] (qA x w hs es)),
 (7, cWhQ ok [qA x w hs es, .int .u64 c] (.tup [.int .u64 rd, .int .i64 e])), (8, cWhQ ok [qA x w hs es, .int .u64 c] (.tup [.int .u64 rd, .int .i64 e])),
 (9, cWhQ ok [qA x w hs es] (.tup [.int .u64 ls, .int .i64 e])), (10, cWhQ ok [qA x w hs es] (.tup [.int .u64 ls, .int .i64 e])),
 (11, cWhQ ok [qA x w hs es, .int .u64 c] (.int .i64 ck)), (12, cWhQ ok [qA x w hs es, .int .u64 c] (.int .i64 ck)),
 (13, cWhQ ok [qA x w hs es] (.tup [.bool op, .int .i64 e])), (14, cWhQ ok [qA x w hs es] (.tup [.bool op, .int .i64 e])),
 (15, cWhQ ok [qA x w hs es, .int .u64 l, .int .u64 c] (.tup [.bool rs, .int .i64 e])), (16, cWhQ ok [qA x w hs es, .int .u64 l, .int .u64 c] (.tup [.bool rs, .int .i64 e])),
 (17, cWhQ ok [qA x w hs es, .int .u64 c] (.tup [R, .int .i64 e])), (18, cWhQ ok [qA x w hs es, .int .u64 c] (.tup [R, .int .i64 e])),
 (19, fun args => some (ok && (atB args [R, R] || atB args [qA x w hs es, qA x w hs es]), .bool true))]
noncomputable def EQL : Env := { mkG Tryz.prog gN (tblOf (tblQL x w hs es c l lq ok rd ls ck e op rs R)) (fun _ _ => none) 0 with po := true }
end
theorem fq_vc (x : NodeG) (w : Int) (hs : List HaveG) (es : List AggG) (c l : Int) (lq ok : Bool) (rd ls ck e : Int) (op rs : Bool) (y : NodeG) : (vcFun (EQL x w hs es c l lq ok rd ls ck e op rs (qA y w hs es)) 40 3 [qA x w hs es, .int .u64 c, .int .u64 l] .nil 0 (isBool true)).sat = ( NB (atB [qA x w hs es] [qA x w hs es]) (VB (!lq) (true = true) (NB (ok && atB [qA x w hs es] [qA x w hs es]) (NB (ok && atB [qA x w hs es, AV.int IntKind.u64 c] [qA x w hs es, AV.int IntKind.u64 c]) (NB (ok && atB [qA x w hs es, AV.int IntKind.u64 c] [qA x w hs es, AV.int IntKind.u64 c]) (NB (ok && atB [qA x w hs es] [qA x w hs es]) (NB (ok && atB [qA x w hs es] [qA x w hs es]) (NB (impB (isW false (rd != rd || e != e || ls != ls || e != e)) (ok && atB ([] ++ [qA x w hs es, AV.int IntKind.u64 c] ++ []) [qA x w hs es, AV.int IntKind.u64 c])) (NB (impB (isW false (rd != rd || e != e || ls != ls || e != e)) (ok && atB ([] ++ [qA x w hs es, AV.int IntKind.u64 c] ++ []) [qA x w hs es, AV.int IntKind.u64 c])) (VB (rd != rd || e != e || ls != ls || e != e || ck != ck) (false = true) (NB (ok && atB [qA x w hs es] [qA x w hs es]) (NB (ok && atB [qA x w hs es] [qA x w hs es]) (NB (ok && atB [qA x w hs es, AV.int IntKind.u64 l, AV.int IntKind.u64 c] [qA x w hs es, AV.int IntKind.u64 l, AV.int IntKind.u64 c]) (NB (ok && atB [qA x w hs es, AV.int IntKind.u64 l, AV.int IntKind.u64 c] [qA x w hs es, AV.int IntKind.u64 l, AV.int IntKind.u64 c]) (VB (!op == op || e != e || !rs == rs || e != e) (false = true) (NB (ok && atB [qA x w hs es, AV.int IntKind.u64 c] [qA x w hs es, AV.int IntKind.u64 c]) (NB (ok && atB [qA x w hs es, AV.int IntKind.u64 c] [qA x w hs es, AV.int IntKind.u64 c]) (NB (ok && (atB [qA y w hs es, qA y w hs es] [qA y w hs es, qA y w hs es] || atB [qA y w hs es, qA y w hs es] [qA x w hs es, qA x w hs es])) (NB (impB (isW true (true && e == e)) (ok && (atB [qA x w hs es, qA x w hs es] [qA y w hs es, qA y w hs es] || atB [qA x w hs es, qA x w hs es] [qA x w hs es, qA x w hs es]))) (((true && e == e && true && true) == true) = true)))))))))))))))))))) := by
 kernel_rfl
theorem fqe_vc (x : NodeG) (w : Int) (hs : List HaveG) (es : List AggG) (c l : Int) (lq ok : Bool) (rd ls ck e : Int) (op rs : Bool) : (vcFun (EQL x w hs es c l lq ok rd ls ck e op rs q0E) 40 3 [qA x w hs es, .int .u64 c, .int .u64 l] .nil 0 (isBool true)).sat = ( NB (atB [qA x w hs es] [qA x w hs es]) (VB (!lq) (true = true) (NB (ok && atB [qA x w hs es] [qA x w hs es]) (NB (ok && atB [qA x w hs es, AV.int IntKind.u64 c] [qA x w hs es, AV.int IntKind.u64 c]) (NB (ok && atB [qA x w hs es, AV.int IntKind.u64 c] [qA x w hs es, AV.int IntKind.u64 c]) (NB (ok && atB [qA x w hs es] [qA x w hs es]) (NB (ok && atB [qA x w hs es] [qA x w hs es]) (NB (impB (isW false (rd != rd || e != e || ls != ls || e != e)) (ok && atB ([] ++ [qA x w hs es, AV.int IntKind.u64 c] ++ []) [qA x w hs es, AV.int IntKind.u64 c])) (NB (impB (isW false (rd != rd || e != e || ls != ls || e != e)) (ok && atB ([] ++ [qA x w hs es, AV.int IntKind.u64 c] ++ []) [qA x w hs es, AV.int IntKind.u64 c])) (VB (rd != rd || e != e || ls != ls || e != e || ck != ck) (false = true) (NB (ok && atB [qA x w hs es] [qA x w hs es]) (NB (ok && atB [qA x w hs es] [qA x w hs es]) (NB (ok && atB [qA x w hs es, AV.int IntKind.u64 l, AV.int IntKind.u64 c] [qA x w hs es, AV.int IntKind.u64 l, AV.int IntKind.u64 c]) (NB (ok && atB [qA x w hs es, AV.int IntKind.u64 l, AV.int IntKind.u64 c] [qA x w hs es, AV.int IntKind.u64 l, AV.int IntKind.u64 c]) (VB (!op == op || e != e || !rs == rs || e != e) (false = true) (NB (ok && atB [qA x w hs es, AV.int IntKind.u64 c] [qA x w hs es, AV.int IntKind.u64 c]) (NB (ok && atB [qA x w hs es, AV.int IntKind.u64 c] [qA x w hs es, AV.int IntKind.u64 c]) (NB (ok && (atB [AV.agg [AV.int IntKind.i64 (0 : Int), AV.int IntKind.i64 (0 : Int), AV.int IntKind.i64 (0 : Int), AV.int IntKind.i64 (0 : Int), AV.bool false, AV.int IntKind.u64 (0 : Int), AV.nils, AV.str [], AV.nils, AV.int IntKind.u64 (0 : Int), AV.nils, AV.nils], AV.agg [AV.int IntKind.i64 (0 : Int), AV.int IntKind.i64 (0 : Int), AV.int IntKind.i64 (0 : Int), AV.int IntKind.i64 (0 : Int), AV.bool false, AV.int IntKind.u64 (0 : Int), AV.nils, AV.str [], AV.nils, AV.int IntKind.u64 (0 : Int), AV.nils, AV.nils]] [q0E, q0E] || atB [AV.agg [AV.int IntKind.i64 (0 : Int), AV.int IntKind.i64 (0 : Int), AV.int IntKind.i64 (0 : Int), AV.int IntKind.i64 (0 : Int), AV.bool false, AV.int IntKind.u64 (0 : Int), AV.nils, AV.str [], AV.nils, AV.int IntKind.u64 (0 : Int), AV.nils, AV.nils], AV.agg [AV.int IntKind.i64 (0 : Int), AV.int IntKind.i64 (0 : Int), AV.int IntKind.i64 (0 : Int), AV.int IntKind.i64 (0 : Int), AV.bool false, AV.int IntKind.u64 (0 : Int), AV.nils, AV.str [], AV.nils, AV.int IntKind.u64 (0 : Int), AV.nils, AV.nils]] [qA x w hs es, qA x w hs es])) (NB (impB (isW true (true && e == e)) (ok && (atB [qA x w hs es, qA x w hs es] [q0E, q0E] || atB [qA x w hs es, qA x w hs es] [qA x w hs es, qA x w hs es]))) (((true && e == e && true && true) == true) = true)))))))))))))))))))) := by
 kernel_rfl
end Go.Proofs.YtamcloifhjafcaaGreatDoor
namespace Go.Proofs.YtamcloifhjafcaaGreatDoor
open Pw Go
set_option maxRecDepth 100000
set_option linter.unusedSimpArgs false
noncomputable def RqV (x : NodeG) (w : Int) (hs : List HaveG) (es : List AggG) (c : Int) : AV := if wfE x w hs es = 0 then qA (rst c x) w hs es else q0E
noncomputable def EQLx (x : NodeG) (w : Int) (hs : List HaveG) (es : List AggG) (c l : Int) : Env := EQL x w hs es c l (lightQ x hs es) (lightQ x hs es) (RdV x w hs es c) (RdV x w hs es 0) (CkV x w hs es c) (wfE x w hs es) (OpV x w hs es) (RsV x w hs es l c) (RqV x w hs es c)
theorem EQLx_ok (x : NodeG) (w : Int) (hs : List HaveG) (es : List AggG) (c l : Int) : CtrOK (EQLx x w hs es c l) := by
 have k : lightQ x hs es = true → LtW x hs es := LtW.of
 have hR1 : lightQ x hs es = true → PureC Tryz.prog gN 17 [qA x w hs es, .int .u64 c] (.tup [RqV x w hs es c, .int .i64 (wfE x w hs es)]) := fun hb => by
  unfold RqV
  by_cases h : wfE x w hs es = 0
  ·rw [if_pos h, h]
   exact restrict_pure _ (k hb) h c
  ·rw [if_neg h]
   exact rsFe_pure w (k hb) h c
 have hR2 : lightQ x hs es = true → PureC Tryz.prog gN 18 [qA x w hs es, .int .u64 c] (.tup [RqV x w hs es c, .int .i64 (wfE x w hs es)]) := fun hb => by
  unfold RqV
  by_cases h : wfE x w hs es = 0
  ·rw [if_pos h, h]
   exact rs11_pure w (k hb) h c
  ·rw [if_neg h]
   exact rs11e_pure w (k hb) h c
 have hS : PureG Tryz.prog gN 19 (fun args => some (lightQ x hs es && (atB args [RqV x w hs es c, RqV x w hs es c] || atB args [qA x w hs es, qA x w hs es]), .bool true)) := by
  intro args nd v he hnd
  cases he
  rw [Bool.and_eq_true, Bool.or_eq_true] at hnd
  obtain ⟨hb, h1 | h1⟩ := hnd
  ·obtain rfl : args = _ := by simpa [atB] using h1
   unfold RqV
   by_cases h : wfE x w hs es = 0
   ·rw [if_pos h]
    exact sameQ_pure w (rst_LtW c (k hb))
   ·rw [if_neg h]
    exact sameE_pure
  ·obtain rfl : args = _ := by simpa [atB] using h1
   exact sameQ_pure w (k hb)
 exact ⟨(mkG_ctr (P := Tryz.prog) (gl := gN) (inv := fun _ _ => none) (n := 0) (tblG_cons (cAt_ok (lightQ_pure x w hs es)) (tblG_cons awake11_ok (tblG_cons (cWhQ_ok fun hb => ownQ_pure w (k hb)) (tblG_cons (cWhQ_ok fun hb => read_pure w (k hb) c) (tblG_cons (cWhQ_ok fun hb => read11_pure w (k hb) c) (tblG_cons (cWhQ_ok fun hb => fleastQ_pure w (k hb)) (tblG_cons (cWhQ_ok fun hb => least11_pure w (k hb))
  (tblG_cons (cWhQ_ok fun hb => fcheck_pure w (k hb) c) (tblG_cons (cWhQ_ok fun hb => check11_pure w (k hb) c) (tblG_cons (cWhQ_ok fun hb => open_pure w (k hb)) (tblG_cons (cWhQ_ok fun hb => open11_pure w (k hb)) (tblG_cons (cWhQ_ok fun hb => reads_pure w (k hb) l c) (tblG_cons (cWhQ_ok fun hb => reads11_pure w (k hb) l c) (tblG_cons (cWhQ_ok hR1) (tblG_cons (cWhQ_ok hR2) (tblG_cons hS (tblG_nil _ _)))))))))))))))))).1, itr_none rfl⟩
theorem fq_sat (x : NodeG) (w : Int) (hs : List HaveG) (es : List AggG) (c l : Int) : (vcFun (EQLx x w hs es c l) 40 3 [qA x w hs es, .int .u64 c, .int .u64 l] .nil 0 (isBool true)).sat := by
 unfold EQLx RqV
 generalize lightQ x hs es = lq
 generalize RdV x w hs es c = rd
 generalize RdV x w hs es 0 = ls
 generalize CkV x w hs es c = ck
 generalize OpV x w hs es = op
 generalize RsV x w hs es l c = rs
 by_cases h : wfE x w hs es = 0
 ·rw [if_pos h]
  refine (fq_vc x w hs es c l lq lq rd ls ck _ op rs (rst c x)).mpr (NB_intro (atB_self _) ?_)
  cases lq <;> simp [atB_self, NB, VB, VB_t, VB_f, NB_t, impB, atB]
 ·rw [if_neg h]
  refine (fqe_vc x w hs es c l lq lq rd ls ck _ op rs).mpr (NB_intro (atB_self _) ?_)
  cases lq <;> simp [atB_self, NB, VB, VB_t, VB_f, NB_t, impB, atB, q0E]
end Go.Proofs.YtamcloifhjafcaaGreatDoor
