/- TREES: arguments as data that stand. -/
import Derived.Test.YtlnpgnipocbfhaaNL1
namespace Go.Proofs.Ytlnpgnipocbfhaa
open Pw Go
variable {H:Type} {enc:TypeId×Value→H} {P:Program} {W:World}
theorem link_rowP {d base:Nat} {f:Func} {args:Array Value} {L:List Ty} {ds gs:List (DataW H)} {ps:List MemPlace} {vars:List String} {apart:Bool} (hT:tysOf P d f.params.toList=some L)
  (hok:∀ (j:Nat) t v,f.params[j]?=some t→args[j]?=some v→Value.okWide P W .any base t v) (hW:DataW.Whole enc P f.params.toList vars apart W args.toList ds gs ps) :
  ∃ g:GenL L,Ty.wfL L g∧ArgsP (memOf W) args (Ty.avs L g):=by
 obtain ⟨p,q,hA,-⟩:=hW
 obtain ⟨g,hw,hl,hr⟩:=link_args f.params.toList L args.toList ds p hT (fun j t v h1 h2=>hok j t v (by simpa using h1) (by simpa using h2)) hA
 refine ⟨g,hw,by simpa using hl,fun i hi=>?_⟩
 have:=hr i hi
 simpa [Array.getD_eq_getD_getElem?] using this
theorem row_of {args:Array Value} {l:List AV} {f:FuncId} (h:PureC Try.prog gU f l (.bool true)) (hA:ArgsP (memOf W) args l):Calls Try.prog f args W fun e W'=>e=.returned (.bool true)∧Keep (fun _=>True) W W':=by
 obtain ⟨_,hc⟩:=h (memOf W) W args (glob_undef _) (fun B i v h=>memOf_some h) hA
 exact hc.mono fun e W' ⟨u,M',h1,h2,_,_,_,h3⟩=>⟨by rw [h1,(Rel.pure (ρ:=fun _ _=>none) h2).boolInv],h3⟩
end Go.Proofs.Ytlnpgnipocbfhaa
