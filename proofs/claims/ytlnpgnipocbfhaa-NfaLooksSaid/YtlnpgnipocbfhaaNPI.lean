/- NfaLooks: whatever the tree, the node and the atoms, the law answers true. -/
import Derived.Test.YtlnpgnipocbfhaaNPH
import Derived.Test.YtlnpgnipocbfhaaPwG5
import Derived.Test.YtlnpgnipocbfhaaNBL
namespace Go.Proofs.Ytlnpgnipocbfhaa
open Go.ChangeShapes Go.WideShapes Go.ChangeAt Go.RowKit
set_option maxRecDepth 100000
set_option linter.unusedSimpArgs false
theorem linesIn_of (t:List TwigG) (h:∀ j,j<t.length→(Lit.int .i64 (t.getD j twigD).line).wf=true):linesIn t=true:=by
 unfold linesIn
 rw [List.all_eq_true]
 intro j hj
 have:=Pw.wf_i64 (h j (by simpa using hj))
 exact decide_eq_true (by omega)
theorem own:ownKnob Try.prog.godebug=none:=by kernel_rfl
theorem laid:laidOutB Try.prog=true:=by kernel_rfl
def witRow:Input:=⟨#[],#[.agg #[.slice none 0 0],.int .i64 0,.slice none 0 0],[]⟩
theorem row_says {H:Type} {enc:TypeId×Value→H} (W:World) (base:Nat) (args:Array Value) {ds gs:List (DataW H)} (ps:List MemPlace) (hval:∀ (j:Nat) t v,Try.f3.params[j]?=some t→args[j]?=some v→Value.okWide Try.prog W .any base t v)
  (hW:DataW.Whole enc Try.prog Try.f3.params.toList [] false W args.toList ds gs ps):Calls Try.prog 3 args W fun e W'=>e=.returned (.bool true)∧Pw.Keep (fun _=>True) W W':=by
 obtain ⟨g,hw,hA⟩:=link_rowP (d:=12) (L:=[.strct [.slice (.strct [.strct [.int .i64,.slice (.int .i64)],.int .i64,.slice (.int .i64),.bool,.int .i64])],.int .i64,.slice (.int .i64)]) (by kernel_rfl) hval hW
 exact row_of (looks_pure g.1.1 g.2.1 g.2.2.1 (linesIn_of g.1.1 fun j hj=>(hw.1.1.2 j hj).2.2.2.2.1)) hA
set_option maxRecDepth 100000 in
theorem lifted (os:Os) (started:os.Started) (H:Type) (enc:TypeId×Value→H) :
  ReturnsInHanded {} Try.checked os 3 .any (Rows.nfaLooksSpec.pre6 enc Try.prog Try.f3 Rows.nfaLooksRow.domain false) (Rows.nfaLooksSpec.post enc Try.prog Try.f3 false true false false):=by
 refine returnsInHanded_of_change (C:=Try.checked) own started (by kernel_rfl) Try.func3
  (ChangeSpec.witness6 (enc:=enc) (C:=Try.checked) false witRow 8 (by kernel_rfl) (by kernel_rfl) (by kernel_rfl) (by kernel_rfl)) ?_
 intro W base args ds gs before hval0 hW hcnd _
 have hW':=hW
 obtain ⟨p,q,hA0,hV,rfl,hfz,hnd⟩:=hW
 have hA:DataW.TrodAll enc Try.prog W 0 (fun _=>true) true Try.f3.params.toList args.toList ds p:=hA0
 rw [Try.params3] at hA
 obtain ⟨rfl,rfl⟩:=trodVars_none hV
 obtain ⟨v1,vs1,d1,ds1,p1,q1,e1,rfl,-,-,hA⟩:=trodAll_cons hA
 obtain ⟨v2,vs2,d2,ds2,p2,q2,e2,rfl,-,-,hA⟩:=trodAll_cons hA
 obtain ⟨v3,vs3,d3,ds3,p3,q3,e3,rfl,-,-,hA⟩:=trodAll_cons hA
 obtain rfl:ds3=[]:=by cases vs3 <;> cases ds3 <;> simp [DataW.TrodAll] at hA ⊢
 refine (row_says W base args _ hval0 hW').mono fun e W' ⟨he,hk⟩=>?_
 subst he
 exact ⟨_,rfl,Pw.post_true laid (by kernel_rfl) rfl rfl rfl rfl (by kernel_rfl) Try.underlying4 hW' hk⟩
theorem nfaLooks_holds:Rows.NfaLooksSaid :=
 OpenClaim.holds_of_wide 3 Try.f3 rfl rfl rfl rfl rfl rfl rfl ⟨rfl,rfl,rfl,rfl,rfl⟩ rfl rfl rfl rfl rfl (by kernel_rfl) Try.func3 (by kernel_rfl)
  (of_decide_eq_true (by kernel_rfl)) (by unfold Func.isWrapper; first|(rw [if_pos (by decide +kernel)]; kernel_rfl)|(rw [if_neg (by decide +kernel)]; exact ⟨rfl,rfl⟩))
  (fun os started H enc _=>lifted os started H enc)
end Go.Proofs.Ytlnpgnipocbfhaa
