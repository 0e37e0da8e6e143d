/- TREES, paths E: Walk and Begins of a tree that is not right: conditions. -/
import Derived.Test.YtlnpgnipocbfhaaNPC
namespace Go.Proofs.Ytlnpgnipocbfhaa
open Pw Go
set_option maxRecDepth 100000
set_option linter.unusedSimpArgs false
def cutI:Inv:=⟨Unit,60,fun _=>⟨[],[]⟩,fun _=>False,fun _=>0⟩
noncomputable def EXw:Env:=mkE Try.prog (tblOf [(9,cCheckT),(10,cCheckT)]) (fun _ b=>if b=100004 then some cutI else none)
theorem xwalk_vc (t:List TwigG) (l:List Int) (n r:Int):(vcFun EXw 20 23 [treeA t,intsA l] .nil 0 (retP 3 (.tup [.int .i64 n,.int .i64 r]))).sat=( NB (isTree (AV.agg [AV.rof t.length (fun (k:Nat)=>twigA (t.getD k twigD)) false])&&shortT (treeDec (AV.agg [AV.rof t.length (fun (k:Nat)=>twigA (t.getD k twigD)) false]))) (VB (checkE (treeDec (AV.agg [AV.rof t.length (fun (k:Nat)=>twigA (t.getD k twigD)) false]))!=(0:Int)) ((0:Int)=n∧checkE (treeDec (AV.agg [AV.rof t.length (fun (k:Nat)=>twigA (t.getD k twigD)) false]))=r∧True) (∃ (_:Unit),False∧True∧True))∧∀ (_:Unit),False→False):=by
 kernel_rfl
theorem xbegins_vc (t:List TwigG) (a:Int) (M:List Int) (r:Int):(vcFun EXw 20 19 [treeA t,.int .i64 a] .nil 0 (retP 3 (.tup [intsA M,.int .i64 r]))).sat=( NB (isTree (AV.agg [AV.rof t.length (fun (k:Nat)=>twigA (t.getD k twigD)) false])&&shortT (treeDec (AV.agg [AV.rof t.length (fun (k:Nat)=>twigA (t.getD k twigD)) false]))) (VB (checkE (treeDec (AV.agg [AV.rof t.length (fun (k:Nat)=>twigA (t.getD k twigD)) false]))!=(0:Int)) (M.length=(0:Nat)∧checkE (treeDec (AV.agg [AV.rof t.length (fun (k:Nat)=>twigA (t.getD k twigD)) false]))=r∧True) (∃ (_:Unit),False∧True∧True))∧∀ (_:Unit),False→False):=by
 kernel_rfl
theorem xdwalk_vc (t:List TwigG) (l:List Int) (n r:Int):(vcFun EXw 20 24 [treeA t,intsA l] .nil 0 (retP 3 (.tup [.int .i64 n,.int .i64 r]))).sat=( NB (isTree (AV.agg [AV.rof t.length (fun (k:Nat)=>twigA (t.getD k twigD)) false])&&shortT (treeDec (AV.agg [AV.rof t.length (fun (k:Nat)=>twigA (t.getD k twigD)) false]))) (VB (checkE (treeDec (AV.agg [AV.rof t.length (fun (k:Nat)=>twigA (t.getD k twigD)) false]))!=(0:Int)) ((0:Int)=n∧checkE (treeDec (AV.agg [AV.rof t.length (fun (k:Nat)=>twigA (t.getD k twigD)) false]))=r∧True) (∃ (_:Unit),False∧True∧True)∧∀ (_:Unit),False→False)):=by
 kernel_rfl
theorem xdbegins_vc (t:List TwigG) (a:Int) (M:List Int) (r:Int):(vcFun EXw 20 20 [treeA t,.int .i64 a] .nil 0 (retP 3 (.tup [intsA M,.int .i64 r]))).sat=( NB (isTree (AV.agg [AV.rof t.length (fun (k:Nat)=>twigA (t.getD k twigD)) false])&&shortT (treeDec (AV.agg [AV.rof t.length (fun (k:Nat)=>twigA (t.getD k twigD)) false]))) (VB (checkE (treeDec (AV.agg [AV.rof t.length (fun (k:Nat)=>twigA (t.getD k twigD)) false]))!=(0:Int)) (M.length=(0:Nat)∧checkE (treeDec (AV.agg [AV.rof t.length (fun (k:Nat)=>twigA (t.getD k twigD)) false]))=r∧True) (∃ (_:Unit),False∧True∧True)∧∀ (_:Unit),False→False)):=by
 kernel_rfl
end Go.Proofs.Ytlnpgnipocbfhaa
namespace Go.Proofs.Ytlnpgnipocbfhaa
open Pw Go
set_option maxRecDepth 100000
set_option linter.unusedSimpArgs false
theorem EXw_ok:CtrOK EXw:=mkE_ctr (tbl_cons checkT_ok (tbl_cons dcheck_ok (tbl_nil _)))
theorem walk_pure (t:List TwigG) (l:List Int) (n r:Int) (hs:shortT t=true) (hl:l.length≤1000000) (hr:walkE t l=(n,r)):PureC Try.prog gU 23 [treeA t,intsA l] (.tup [.int .i64 n,.int .i64 r]):=by
 by_cases hc:checkE t=0
 ·exact pwalk_pure t l n r hs hl hc hr
 refine PureC.of_vc (E:=EXw) (k:=20) (d:=3) mix EXw_ok ((xwalk_vc t l n r).mpr ⟨?_,fun _ h=>h⟩)
 have hT:treeDec (AV.agg [AV.rof t.length (fun (k:Nat)=>twigA (t.getD k twigD)) false])=t:=treeDec_self t
 have hI:isTree (AV.agg [AV.rof t.length (fun (k:Nat)=>twigA (t.getD k twigD)) false])=true:=isTree_self t
 rw [hT,hI]
 unfold walkE at hr
 rw [if_pos (by simpa using hc)] at hr
 simp only [Prod.mk.injEq] at hr
 exact NB_intro (by rw [hs]; rfl) (VB_intro (fun _=>⟨hr.1,hr.2,trivial⟩) (fun h=>absurd (by simpa using h) hc))
theorem begins_pure (t:List TwigG) (a:Int) (M:List Int) (r:Int) (hs:shortT t=true) (hr:beginsE t a=(M,r)):PureC Try.prog gU 19 [treeA t,.int .i64 a] (.tup [intsA M,.int .i64 r]):=by
 by_cases hc:checkE t=0
 ·exact pbegins_pure t a M r hs hc hr
 refine PureC.of_vc (E:=EXw) (k:=20) (d:=3) mix EXw_ok ((xbegins_vc t a M r).mpr ⟨?_,fun _ h=>h⟩)
 have hT:treeDec (AV.agg [AV.rof t.length (fun (k:Nat)=>twigA (t.getD k twigD)) false])=t:=treeDec_self t
 have hI:isTree (AV.agg [AV.rof t.length (fun (k:Nat)=>twigA (t.getD k twigD)) false])=true:=isTree_self t
 rw [hT,hI]
 unfold beginsE at hr
 rw [if_pos (by simpa using hc)] at hr
 simp only [Prod.mk.injEq] at hr
 obtain ⟨rfl,rfl⟩:=hr
 exact NB_intro (by rw [hs]; rfl) (VB_intro (fun _=>⟨rfl,rfl,trivial⟩) (fun h=>absurd (by simpa using h) hc))
theorem dwalkE_pure (t:List TwigG) (l:List Int) (n r:Int) (hs:shortT t=true) (hl:l.length≤1000000) (hr:walkE t l=(n,r)):PureC Try.prog gU 24 [treeA t,intsA l] (.tup [.int .i64 n,.int .i64 r]):=by
 by_cases hc:checkE t=0
 ·exact dwalkT_pure t l n r hs hl hc hr
 refine PureC.of_vc (E:=EXw) (k:=20) (d:=3) mix EXw_ok ((xdwalk_vc t l n r).mpr ?_)
 have hT:treeDec (AV.agg [AV.rof t.length (fun (k:Nat)=>twigA (t.getD k twigD)) false])=t:=treeDec_self t
 have hI:isTree (AV.agg [AV.rof t.length (fun (k:Nat)=>twigA (t.getD k twigD)) false])=true:=isTree_self t
 rw [hT,hI]
 unfold walkE at hr
 rw [if_pos (by simpa using hc)] at hr
 simp only [Prod.mk.injEq] at hr
 exact NB_intro (by rw [hs]; rfl) ⟨VB_intro (fun _=>⟨hr.1,hr.2,trivial⟩) (fun h=>absurd (by simpa using h) hc),fun _ h=>h⟩
theorem dbeginsE_pure (t:List TwigG) (a:Int) (M:List Int) (r:Int) (hs:shortT t=true) (hr:beginsE t a=(M,r)):PureC Try.prog gU 20 [treeA t,.int .i64 a] (.tup [intsA M,.int .i64 r]):=by
 by_cases hc:checkE t=0
 ·exact dbegins_pure t a M r hs hc hr
 refine PureC.of_vc (E:=EXw) (k:=20) (d:=3) mix EXw_ok ((xdbegins_vc t a M r).mpr ?_)
 have hT:treeDec (AV.agg [AV.rof t.length (fun (k:Nat)=>twigA (t.getD k twigD)) false])=t:=treeDec_self t
 have hI:isTree (AV.agg [AV.rof t.length (fun (k:Nat)=>twigA (t.getD k twigD)) false])=true:=isTree_self t
 rw [hT,hI]
 unfold beginsE at hr
 rw [if_pos (by simpa using hc)] at hr
 simp only [Prod.mk.injEq] at hr
 obtain ⟨rfl,rfl⟩:=hr
 exact NB_intro (by rw [hs]; rfl) ⟨VB_intro (fun _=>⟨rfl,rfl,trivial⟩) (fun h=>absurd (by simpa using h) hc),fun _ h=>h⟩
end Go.Proofs.Ytlnpgnipocbfhaa
