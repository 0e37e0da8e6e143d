/- RunsSteps: whatever the tree, the atoms, the run, the event, the position and the window, the law answers true (the package variable ast.names tied to the program's text). -/
import Derived.Test.YtlnpgnipocbfhaaGreatDoorCards
import Derived.Test.YtlnpgnipocbfhaaGreatDoorTie
import Derived.Test.YtlnpgnipocbfhaaGreatDoorRSJ
import Derived.Test.YtlnpgnipocbfhaaGreatDoorPwG5
import Derived.LaidMore
import Derived.Lay
import Derived.SevenTiedAt
import Derived.Stop.Joined
namespace Go.Proofs.YtlnpgnipocbfhaaGreatDoor
open Go.ChangeShapes Go.WideShapes Go.ChangeAt Go.RowKit
set_option maxRecDepth 100000
theorem linesIn_of (t:List TwigG) (h:∀ j,j<t.length->(Lit.int .i64 (t.getD j twigD).line).wf=true):linesIn t=true:=by
 unfold linesIn;rw [List.all_eq_true];intro j hj;have:=Pw.wf_i64 (h j (by simpa using hj))
 exact decide_eq_true (by omega)
theorem own:ownKnob Tryz.prog.godebug=none:=by kernel_rfl
theorem laidOut:laidOutB Tryz.prog=true:=by kernel_rfl
theorem row_says {H:Type} {enc:TypeId×Value->H} (W:World) (base:Nat) (args:Array Value) {ds gs:List (DataW H)} (ps:List MemPlace) (hval:∀ (j:Nat) t v,Tryz.f5.params[j]?=some t->args[j]?=some v->Value.okWide Tryz.prog W .any base t v)
  (hW:DataW.Whole enc Tryz.prog Tryz.f5.params.toList [] false W args.toList ds gs ps) (hL:laidMetH Tryz.prog Rows.runsStepsRow.laid W):Calls Tryz.prog 5 args W fun e W'=>e=.returned (.bool true)/\Pw.Keep (fun _=>True) W W':=by
 rw [MakeChecks.laidMetH_plain _ _ _ (by kernel_rfl)] at hL
 have hG:Pw.GlobOK (Pw.memOf W) Pd.gN:=Pw.glob_strs (t:=316) (e:=9) hL (List.mem_cons_self ..) (by kernel_rfl) (by kernel_rfl) (by kernel_rfl) (by kernel_rfl) (by kernel_rfl)
 obtain ⟨g,hw,hA⟩:=Pw.link_row (d:=12) (L:=[.strct [.slice (.strct [.strct [.int .i64,.slice (.int .i64)],.int .i64,.slice (.int .i64),.bool,.int .i64])],.slice (.strct [.int .i64,.bool,.int .u64,.slice (.strct [.int .i64,.int .i64]),.str]),.strct [.int .i64,.slice (.int .i64),.int .u64,.int .u64],.strct [.strct [.int .u64,.int .u64],.int .u64,.int .u64,.int .i64,.int .i64],.int .i64,.int .u64]) (by kernel_rfl) hval hW
 have hat:Pd.atsOK (List.length (α:=AtmG) g.2.1) (atsL g.2.1):=fun j hj=>⟨Nat.le_trans (hw.2.1.2 j hj).2.2.2.2.1 (by decide),Pd.u64B_iff.2 (Pw.wf_u64 (hw.2.1.2 j hj).2.2.1)⟩
 refine (Pw.start_pure (E:=EStx g.1.1 (List.length (α:=AtmG) g.2.1) (atsL g.2.1) g.2.2.1 g.2.2.2.1 g.2.2.2.2.1 g.2.2.2.2.2.1) (by kernel_rfl) (EStx_ok _ _ (linesIn_of g.1.1 fun j hj=>(hw.1.1.2 j hj).2.2.2.2.1) hat
  (Pd.u64B_iff.2 (Pw.wf_u64 hw.2.2.2.1.1.1)) (Pd.u64B_iff.2 (Pw.wf_u64 hw.2.2.2.1.2.2.1)) (Pd.u64B_iff.2 (Pw.wf_u64 hw.2.2.1.2.2.2.1)) (Pd.u64B_iff.2 (Pw.wf_u64 hw.2.2.1.2.2.1))) hG (fun B i v h=>Pw.memOf_some h) hA
  (steps_sat _ _ _ _ _ _ _)).mono fun e W' ⟨v,x,ρ',M',hpt,nx',h1,h2,h3,h4⟩=>?_
 rw [Pw.isBool_sat h4] at h2;rw [h2.boolInv] at h1;exact ⟨h1,h3⟩
theorem lifted (os:Os) (started:os.Started) (H:Type) (enc:TypeId×Value->H) :
  ReturnsInHanded {} Tryz.checked os 5 .any (fun w args=>(Rows.runsStepsSpec.pre enc Tryz.prog Tryz.f5 Rows.runsStepsRow.domain false w args/\laidMetH Tryz.prog Rows.runsStepsRow.laid w)/\sizedMet enc Tryz.prog Tryz.f5 (OpenSpec.ofChange Rows.runsStepsSpec) false w args)
   (Rows.runsStepsSpec.post enc Tryz.prog Tryz.f5 false true false false):=by
 refine returnsInHanded_of_change_and (C:=Tryz.checked) (X:=fun w _=>laidMetH Tryz.prog Rows.runsStepsRow.laid w) (fun _ _ _ hh h=>h.of_heap hh) own started (by kernel_rfl) Tryz.func5
  (ChangeSpec.witness_shaped (enc:=enc) (C:=Tryz.checked) (os:=os) (X:=fun w _=>laidMetH Tryz.prog Rows.runsStepsRow.laid w) false (World.laidAll Tryz.prog os Rows.runsStepsRow.laid) #[.agg #[.slice none 0 0],.slice none 0 0,.agg #[.int .i64 0,.slice none 0 0,.int .u64 0,.int .u64 0],.agg #[.int .u64 0,.int .u64 0,.int .u64 0,.int .u64 0,.int .i64 0,.int .i64 0],.int .i64 0,.int .u64 0] 8 (World.laidAll_os _ _ _)
   (World.shaped_of_ZipB (by kernel_rfl) (by kernel_rfl)) (by kernel_rfl) (by kernel_rfl) (by kernel_rfl)
   (by rw [MakeChecks.laidMetH_plain _ _ _ (by kernel_rfl)]; exact laidMet_laidAll _ (by kernel_rfl) (by kernel_rfl))) ?_
 intro W base args ds gs before hval0 hW hcnd _ hL _;have hW':=hW;obtain ⟨p,q,hA0,hV,rfl,hfz,hnd⟩:=hW;have hA:DataW.TrodAll enc Tryz.prog W 0 (fun _=>true) true Tryz.f5.params.toList args.toList ds p:=hA0
 rw [Tryz.params5] at hA;obtain ⟨rfl,rfl⟩:=trodVars_none hV;obtain ⟨v1,vs1,d1,ds1,p1,q1,e1,rfl,-,-,hA⟩:=trodAll_cons hA;obtain ⟨v2,vs2,d2,ds2,p2,q2,e2,rfl,-,-,hA⟩:=trodAll_cons hA;obtain ⟨v3,vs3,d3,ds3,p3,q3,e3,rfl,-,-,hA⟩:=trodAll_cons hA
 obtain ⟨v4,vs4,d4,ds4,p4,q4,e4,rfl,-,-,hA⟩:=trodAll_cons hA;obtain ⟨v5,vs5,d5,ds5,p5,q5,e5,rfl,-,-,hA⟩:=trodAll_cons hA;obtain ⟨v6,vs6,d6,ds6,p6,q6,e6,rfl,-,-,hA⟩:=trodAll_cons hA
 obtain rfl:ds6=[]:=by cases vs6 <;> cases ds6 <;> simp [DataW.TrodAll] at hA ⊢
 refine (row_says W base args _ hval0 hW' hL).mono fun e W' ⟨he,hk⟩=>?_
 subst he;exact ⟨_,rfl,Pw.post_true laidOut (by kernel_rfl) rfl rfl rfl rfl (by kernel_rfl) Tryz.underlying4 hW' hk⟩
theorem row_holds:Rows.RunsStepsSaid :=
 OpenClaim.holds_of_wide 5 Tryz.f5 rfl rfl rfl rfl rfl rfl rfl ⟨rfl,rfl,rfl,rfl,rfl⟩ rfl rfl rfl rfl rfl (by kernel_rfl) Tryz.func5 (by kernel_rfl)
  (of_decide_eq_true (by kernel_rfl)) (by unfold Func.isWrapper; first|(rw [if_pos (by decide +kernel)]; kernel_rfl)|(rw [if_neg (by decide +kernel)]; exact ⟨rfl,rfl⟩))
  (fun os started H enc _=>lifted os started H enc)
theorem runsSteps_holds:Rows.RunsStepsCardSaid :=
 Claim7.holds_tied_plain_at .later [] [.widerDeep] true (true, "403b7f055af20c765d489a30c63e1f045a3d11188a3acb9e7bc7a6e5bc9b722c") false
  row_holds (fun _ h=>by cases h) (by kernel_rfl) (fun _ h=>by cases h) runsSteps_row_tie rfl ⟨rfl,rfl⟩ (by kernel_rfl) rfl
  (fun f fn hf hfn=>by
   obtain rfl : f = 5 := Option.some.inj ((show Tryz.prog.funcNamed "partywall/partywalllaw19.RunsSteps" = some 5 by kernel_rfl).symm.trans hf) |>.symm
   obtain rfl:fn=Tryz.f5:=(Option.some.inj (Tryz.func5.symm.trans hfn)).symm;exact ⟨by kernel_rfl,fun j t ht=>by
    rw [Tryz.params5] at ht;have hm:t∈[41,64,66,70,3,23]:=by simpa using Array.mem_of_getElem? ht
    have hall:([41,64,66,70,3,23].all fun u=>!Tryz.prog.wantsStandIn u)=true:=by kernel_rfl
    exact (show Tryz.prog.wantsStandIn t=false by simpa using List.all_eq_true.1 hall t hm)⟩)
  (by kernel_rfl)
end Go.Proofs.YtlnpgnipocbfhaaGreatDoor
