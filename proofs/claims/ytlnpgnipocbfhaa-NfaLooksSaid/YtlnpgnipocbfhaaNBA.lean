/- TREES, kit A: numbers, slots, lines and trees that are the same: conditions. -/
import Derived.Test.YtlnpgnipocbfhaaNLE
import Derived.Test.YtlnpgnipocbfhaaNLC
namespace Go.Proofs.Ytlnpgnipocbfhaa
open Pw Go
set_option maxRecDepth 100000
set_option linter.unusedSimpArgs false
def fewSG (s:SlotG):Bool:=decide (s.gds.length≤1000000)
def cSlotE:Ctr
 | [.agg x,.agg y]=>some (isSlot (.agg x)&&isSlot (.agg y)&&fewSG (slotOf (.agg x))&&fewSG (slotOf (.agg y)),.bool (decide (slotOf (.agg x)=slotOf (.agg y))))
 | _=>none
def cLineE:Ctr
 | [.agg [.rof n f _],.agg [.rof m g _]]=>some (slotsB n f&&slotsB m g&&fewS (slotsOf' n f)&&fewS (slotsOf' m g),.bool (decide (slotsOf' n f=slotsOf' m g)))
 | _=>none
def invKI (l m:List Int):Inv:=⟨Nat,20,fun i=>⟨[(0,intsA l),(1,intsA m),(5,.int .i64 i)],[]⟩,fun i=>i≤l.length∧∀ j,j<i→l.getD j 0=m.getD j 0,fun i=>l.length - i⟩
def invKL (l m:List SlotG):Inv:=⟨Nat,20,fun i=>⟨[(2,.ptr 0 0 0 0),(3,.ptr 1 0 0 0),(5,.int .i64 i)],[(0,.row 0 1 true (.lst [lineA l])),(1,.row 0 1 true (.lst [lineA m]))]⟩,
 fun i=>i≤l.length∧∀ j,j<i→l.getD j slotD'=m.getD j slotD',fun i=>l.length - i⟩
def invKLs (l m:List (List SlotG)):Inv:=⟨Nat,20,fun i=>⟨[(0,linesA l),(1,linesA m),(5,.int .i64 i)],[]⟩,fun i=>i≤l.length∧∀ j,j<i→l.getD j []=m.getD j [],fun i=>l.length - i⟩
def invKT (l m:List TwigG):Inv:=⟨Nat,20,fun i=>⟨[(2,.ptr 0 0 0 0),(3,.ptr 1 0 0 0),(5,.int .i64 i)],[(0,.row 0 1 true (.lst [treeA l])),(1,.row 0 1 true (.lst [treeA m]))]⟩,
 fun i=>i≤l.length∧∀ j,j<i→l.getD j twigD=m.getD j twigD,fun i=>l.length - i⟩
noncomputable def EKI (l m:List Int):Env:=mkE Try.prog (tblOf []) (fun f b=>if f=16∧b=0 then some (invKI l m) else none)
noncomputable def EKS:Env:=mkE Try.prog (tblOf [(16,cEqI)]) (fun _ _=>none)
noncomputable def EKL (l m:List SlotG):Env:=mkE Try.prog (tblOf [(32,cSlotE)]) (fun f b=>if f=39∧b=0 then some (invKL l m) else none)
noncomputable def EKLs (l m:List (List SlotG)):Env:=mkE Try.prog (tblOf [(39,cLineE)]) (fun f b=>if f=13∧b=0 then some (invKLs l m) else none)
noncomputable def EKT (l m:List TwigG):Env:={ mkE Try.prog (tblOf [(16,cEqI),(32,cSlotE)]) (fun f b=>if f=25∧b=0 then some (invKT l m) else none) with
 fzs:=fun f=>if f=25 then [70006,70007] else [] }
theorem kInts_vc (l m:List Int) (v:Bool):(vcFun (EKI l m) 20 16 [intsA l,intsA m] .nil 0 (retP 3 (.bool v))).sat=( VB ((↑l.length:Int)!=(↑m.length:Int)) (false=v) ((∃ (i:Nat),(i≤l.length∧∀ (j:Nat),j<i→l.getD j (0:Int)=m.getD j (0:Int))∧((intsA l).sub (intsA l)∧(intsA m).sub (intsA m)∧(0:Int)=(↑i:Int)∧True)∧True)∧∀ (i:Nat),(i≤l.length∧∀ (j:Nat),j<i→l.getD j (0:Int)=m.getD j (0:Int))→VB (decide ((↑i:Int)<(↑l.length:Int))) (NB (decide ((0:Int)≤(↑i:Int)∧(↑i:Int)<(↑l.length:Int))) (NB (decide ((0:Int)≤(↑i:Int)∧(↑i:Int)<(↑m.length:Int))) (VB (l.getD (↑i:Int).toNat (0:Int)!=m.getD (↑i:Int).toNat (0:Int)) (false=v) (∃ (i':Nat),(i'≤l.length∧∀ (j:Nat),j<i'→l.getD j (0:Int)=m.getD j (0:Int))∧(invKI l m).μ i'<(invKI l m).μ i∧((intsA l).sub (intsA l)∧(intsA m).sub (intsA m)∧IntKind.i64.wrap ((↑i:Int)+(1:Int))=(↑i':Int)∧True)∧True)))) (true=v))):=by
 kernel_rfl
theorem kSlot_vc (x y:SlotG) (v:Bool):(vcFun EKS 20 32 [slotA x,slotA y] .nil 0 (retP 3 (.bool v))).sat=( NB (impB (isW true (x.fst==y.fst)) ((decide (x.gds.length≤(1000000:Nat))&&decide (y.gds.length≤(1000000:Nat))&&intsB x.gds.length fun (k:Nat)=>AV.int IntKind.i64 (x.gds.getD k (0:Int)))&&intsB y.gds.length fun (k:Nat)=>AV.int IntKind.i64 (y.gds.getD k (0:Int)))) ((x.fst==y.fst&&decide ((intsOf' x.gds.length fun (k:Nat)=>AV.int IntKind.i64 (x.gds.getD k (0:Int)))=intsOf' y.gds.length fun (k:Nat)=>AV.int IntKind.i64 (y.gds.getD k (0:Int))))=v)):=by
 kernel_rfl
theorem kLine_vc (l m:List SlotG) (v:Bool):(vcFun (EKL l m) 20 39 [lineA l,lineA m] .nil 0 (retP 3 (.bool v))).sat=( VB ((↑l.length:Int)!=(↑m.length:Int)) (false=v) ((∃ (i:Nat),(i≤l.length∧∀ (j:Nat),j<i→l.getD j slotD'=m.getD j slotD')∧(((0:Nat)=(0:Nat)∧(0:Nat)=(0:Nat)∧(0:Nat)=(0:Nat))∧((0:Nat)=(0:Nat)∧(0:Nat)=(0:Nat)∧(0:Nat)=(0:Nat))∧(0:Int)=(↑i:Int)∧True)∧((0:Nat)=(0:Nat)∧(true=true→true=true)∧((lineA l).sub (lineA l)∧(lineA l).cells.length=(lineA l).cells.length)∧True)∧((0:Nat)=(0:Nat)∧(true=true→true=true)∧((lineA m).sub (lineA m)∧(lineA m).cells.length=(lineA m).cells.length)∧True)∧True)∧∀ (i:Nat),(i≤l.length∧∀ (j:Nat),j<i→l.getD j slotD'=m.getD j slotD')→VB (decide ((↑i:Int)<(↑l.length:Int))) (NB (decide ((0:Int)≤(↑i:Int)∧(↑i:Int)<(↑l.length:Int))) (NB (decide ((0:Int)≤(↑i:Int)∧(↑i:Int)<(↑m.length:Int))) (NB (isSlot (AV.agg [AV.int IntKind.i64 (l.getD (↑i:Int).toNat slotD').fst,AV.rof (l.getD (↑i:Int).toNat slotD').gds.length (fun (k:Nat)=>AV.int IntKind.i64 ((l.getD (↑i:Int).toNat slotD').gds.getD k (0:Int))) false])&&isSlot (AV.agg [AV.int IntKind.i64 (m.getD (↑i:Int).toNat slotD').fst,AV.rof (m.getD (↑i:Int).toNat slotD').gds.length (fun (k:Nat)=>AV.int IntKind.i64 ((m.getD (↑i:Int).toNat slotD').gds.getD k (0:Int))) false])&&fewSG (slotOf (AV.agg [AV.int IntKind.i64 (l.getD (↑i:Int).toNat slotD').fst,AV.rof (l.getD (↑i:Int).toNat slotD').gds.length (fun (k:Nat)=>AV.int IntKind.i64 ((l.getD (↑i:Int).toNat slotD').gds.getD k (0:Int))) false]))&&fewSG (slotOf (AV.agg [AV.int IntKind.i64 (m.getD (↑i:Int).toNat slotD').fst,AV.rof (m.getD (↑i:Int).toNat slotD').gds.length (fun (k:Nat)=>AV.int IntKind.i64 ((m.getD (↑i:Int).toNat slotD').gds.getD k (0:Int))) false]))) (VB (!decide (slotOf (AV.agg [AV.int IntKind.i64 (l.getD (↑i:Int).toNat slotD').fst,AV.rof (l.getD (↑i:Int).toNat slotD').gds.length (fun (k:Nat)=>AV.int IntKind.i64 ((l.getD (↑i:Int).toNat slotD').gds.getD k (0:Int))) false])=slotOf (AV.agg [AV.int IntKind.i64 (m.getD (↑i:Int).toNat slotD').fst,AV.rof (m.getD (↑i:Int).toNat slotD').gds.length (fun (k:Nat)=>AV.int IntKind.i64 ((m.getD (↑i:Int).toNat slotD').gds.getD k (0:Int))) false]))) (false=v) (∃ (i':Nat),(i'≤l.length∧∀ (j:Nat),j<i'→l.getD j slotD'=m.getD j slotD')∧(invKL l m).μ i'<(invKL l m).μ i∧(((0:Nat)=(0:Nat)∧(0:Nat)=(0:Nat)∧(0:Nat)=(0:Nat))∧((0:Nat)=(0:Nat)∧(0:Nat)=(0:Nat)∧(0:Nat)=(0:Nat))∧IntKind.i64.wrap ((↑i:Int)+(1:Int))=(↑i':Int)∧True)∧((0:Nat)=(0:Nat)∧(true=true→true=true)∧((lineA l).sub (lineA l)∧(lineA l).cells.length=(lineA l).cells.length)∧True)∧((0:Nat)=(0:Nat)∧(true=true→true=true)∧((lineA m).sub (lineA m)∧(lineA m).cells.length=(lineA m).cells.length)∧True)∧True))))) (true=v))):=by
 kernel_rfl
theorem kLines_vc (l m:List (List SlotG)) (v:Bool):(vcFun (EKLs l m) 20 13 [linesA l,linesA m] .nil 0 (retP 3 (.bool v))).sat=( VB ((↑l.length:Int)!=(↑m.length:Int)) (false=v) ((∃ (i:Nat),(i≤l.length∧∀ (j:Nat),j<i→l.getD j []=m.getD j [])∧((linesA l).sub (linesA l)∧(linesA m).sub (linesA m)∧(0:Int)=(↑i:Int)∧True)∧True)∧∀ (i:Nat),(i≤l.length∧∀ (j:Nat),j<i→l.getD j []=m.getD j [])→VB (decide ((↑i:Int)<(↑l.length:Int))) (NB (decide ((0:Int)≤(↑i:Int)∧(↑i:Int)<(↑l.length:Int))) (NB (decide ((0:Int)≤(↑i:Int)∧(↑i:Int)<(↑m.length:Int))) (NB (((slotsB (l.getD (↑i:Int).toNat []).length fun (k:Nat)=>slotA ((l.getD (↑i:Int).toNat []).getD k slotD'))&&slotsB (m.getD (↑i:Int).toNat []).length fun (k:Nat)=>slotA ((m.getD (↑i:Int).toNat []).getD k slotD'))&&fewS (slotsOf' (l.getD (↑i:Int).toNat []).length fun (k:Nat)=>slotA ((l.getD (↑i:Int).toNat []).getD k slotD'))&&fewS (slotsOf' (m.getD (↑i:Int).toNat []).length fun (k:Nat)=>slotA ((m.getD (↑i:Int).toNat []).getD k slotD'))) (VB (!decide ((slotsOf' (l.getD (↑i:Int).toNat []).length fun (k:Nat)=>slotA ((l.getD (↑i:Int).toNat []).getD k slotD'))=slotsOf' (m.getD (↑i:Int).toNat []).length fun (k:Nat)=>slotA ((m.getD (↑i:Int).toNat []).getD k slotD'))) (false=v) (∃ (i':Nat),(i'≤l.length∧∀ (j:Nat),j<i'→l.getD j []=m.getD j [])∧(invKLs l m).μ i'<(invKLs l m).μ i∧((linesA l).sub (linesA l)∧(linesA m).sub (linesA m)∧IntKind.i64.wrap ((↑i:Int)+(1:Int))=(↑i':Int)∧True)∧True))))) (true=v))):=by
 kernel_rfl
theorem kTree_vc (l m : List TwigG) (v : Bool) : (vcFun (EKT l m) 20 25 [treeA l, treeA m] .nil 0 (retP 3 (.bool v))).sat = ( VB ((↑l.length : Int) != (↑m.length : Int)) (false = v) ((∃ (i : Nat), (i ≤ l.length ∧ ∀ (j : Nat), j < i → l.getD j twigD = m.getD j twigD) ∧ (((0 : Nat) = (0 : Nat) ∧ (0 : Nat) = (0 : Nat) ∧ (0 : Nat) = (0 : Nat)) ∧ ((0 : Nat) = (0 : Nat) ∧ (0 : Nat) = (0 : Nat) ∧ (0 : Nat) = (0 : Nat)) ∧ (0 : Int) = (↑i : Int) ∧ True) ∧ ((0 : Nat) = (0 : Nat) ∧ (true = true → true = true) ∧ ((treeA l).sub (treeA l) ∧ (treeA l).cells.length = (treeA l).cells.length) ∧ True) ∧ ((0 : Nat) = (0 : Nat) ∧ (true = true → true = true) ∧ ((treeA m).sub (treeA m) ∧ (treeA m).cells.length = (treeA m).cells.length) ∧ True) ∧ True) ∧ ∀ (i : Nat), (i ≤ l.length ∧ ∀ (j : Nat), j < i → l.getD j twigD = m.getD j twigD) → VB (decide ((↑i : Int) < (↑l.length : Int))) (NB (decide ((0 : Int) ≤ (↑i : Int) ∧ (↑i : Int) < (↑l.length : Int))) (NB (decide ((0 : Int) ≤ (↑i : Int) ∧ (↑i : Int) < (↑m.length : Int))) (NB (isSlot (AV.agg [AV.int IntKind.i64 (l.getD (↑i : Int).toNat twigD).slot.fst, AV.rof (l.getD (↑i : Int).toNat twigD).slot.gds.length (fun (k : Nat) => AV.int IntKind.i64 ((l.getD (↑i : Int).toNat twigD).slot.gds.getD k (0 : Int))) false]) && isSlot (AV.agg [AV.int IntKind.i64 (m.getD (↑i : Int).toNat twigD).slot.fst, AV.rof (m.getD (↑i : Int).toNat twigD).slot.gds.length (fun (k : Nat) => AV.int IntKind.i64 ((m.getD (↑i : Int).toNat twigD).slot.gds.getD k (0 : Int))) false]) && fewSG (slotOf (AV.agg [AV.int IntKind.i64 (l.getD (↑i : Int).toNat twigD).slot.fst, AV.rof (l.getD (↑i : Int).toNat twigD).slot.gds.length (fun (k : Nat) => AV.int IntKind.i64 ((l.getD (↑i : Int).toNat twigD).slot.gds.getD k (0 : Int))) false])) && fewSG (slotOf (AV.agg [AV.int IntKind.i64 (m.getD (↑i : Int).toNat twigD).slot.fst, AV.rof (m.getD (↑i : Int).toNat twigD).slot.gds.length (fun (k : Nat) => AV.int IntKind.i64 ((m.getD (↑i : Int).toNat twigD).slot.gds.getD k (0 : Int))) false]))) (NB (impB (isW false (!decide (slotOf (AV.agg [AV.int IntKind.i64 (l.getD (↑i : Int).toNat twigD).slot.fst, AV.rof (l.getD (↑i : Int).toNat twigD).slot.gds.length (fun (k : Nat) => AV.int IntKind.i64 ((l.getD (↑i : Int).toNat twigD).slot.gds.getD k (0 : Int))) false]) = slotOf (AV.agg [AV.int IntKind.i64 (m.getD (↑i : Int).toNat twigD).slot.fst, AV.rof (m.getD (↑i : Int).toNat twigD).slot.gds.length (fun (k : Nat) => AV.int IntKind.i64 ((m.getD (↑i : Int).toNat twigD).slot.gds.getD k (0 : Int))) false])) || (l.getD (↑i : Int).toNat twigD).par != (m.getD (↑i : Int).toNat twigD).par)) ((decide ((l.getD (↑i : Int).toNat twigD).kids.length ≤ (1000000 : Nat)) && decide ((m.getD (↑i : Int).toNat twigD).kids.length ≤ (1000000 : Nat)) && intsB (l.getD (↑i : Int).toNat twigD).kids.length fun (k : Nat) => AV.int IntKind.i64 ((l.getD (↑i : Int).toNat twigD).kids.getD k (0 : Int))) && intsB (m.getD (↑i : Int).toNat twigD).kids.length fun (k : Nat) => AV.int IntKind.i64 ((m.getD (↑i : Int).toNat twigD).kids.getD k (0 : Int)))) (VB (!decide (slotOf (AV.agg [AV.int IntKind.i64 (l.getD (↑i : Int).toNat twigD).slot.fst, AV.rof (l.getD (↑i : Int).toNat twigD).slot.gds.length (fun (k : Nat) => AV.int IntKind.i64 ((l.getD (↑i : Int).toNat twigD).slot.gds.getD k (0 : Int))) false]) = slotOf (AV.agg [AV.int IntKind.i64 (m.getD (↑i : Int).toNat twigD).slot.fst, AV.rof (m.getD (↑i : Int).toNat twigD).slot.gds.length (fun (k : Nat) => AV.int IntKind.i64 ((m.getD (↑i : Int).toNat twigD).slot.gds.getD k (0 : Int))) false])) || (l.getD (↑i : Int).toNat twigD).par != (m.getD (↑i : Int).toNat twigD).par || !decide ((intsOf' (l.getD (↑i : Int).toNat twigD).kids.length fun (k : Nat) => AV.int IntKind.i64 ((l.getD (↑i : Int).toNat twigD).kids.getD k (0 : Int))) = intsOf' (m.getD (↑i : Int).toNat twigD).kids.length fun (k : Nat) => AV.int IntKind.i64 ((m.getD (↑i : Int).toNat twigD).kids.getD k (0 : Int))) || !(l.getD (↑i : Int).toNat twigD).ends == (m.getD (↑i : Int).toNat twigD).ends || (l.getD (↑i : Int).toNat twigD).line != (m.getD (↑i : Int).toNat twigD).line) (false = v) (∃ (i' : Nat), (i' ≤ l.length ∧ ∀ (j : Nat), j < i' → l.getD j twigD = m.getD j twigD) ∧ (invKT l m).μ i' < (invKT l m).μ i ∧ (((0 : Nat) = (0 : Nat) ∧ (0 : Nat) = (0 : Nat) ∧ (0 : Nat) = (0 : Nat)) ∧ ((0 : Nat) = (0 : Nat) ∧ (0 : Nat) = (0 : Nat) ∧ (0 : Nat) = (0 : Nat)) ∧ IntKind.i64.wrap ((↑i : Int) + (1 : Int)) = (↑i' : Int) ∧ True) ∧ ((0 : Nat) = (0 : Nat) ∧ (true = true → true = true) ∧ ((treeA l).sub (treeA l) ∧ (treeA l).cells.length = (treeA l).cells.length) ∧ True) ∧ ((0 : Nat) = (0 : Nat) ∧ (true = true → true = true) ∧ ((treeA m).sub (treeA m) ∧ (treeA m).cells.length = (treeA m).cells.length) ∧ True) ∧ True))) ∧ NB (isSlot (AV.agg [AV.int IntKind.i64 (l.getD (↑i : Int).toNat twigD).slot.fst, AV.rof (l.getD (↑i : Int).toNat twigD).slot.gds.length (fun (k : Nat) => AV.int IntKind.i64 ((l.getD (↑i : Int).toNat twigD).slot.gds.getD k (0 : Int))) false]) && isSlot (AV.agg [AV.int IntKind.i64 (m.getD (↑i : Int).toNat twigD).slot.fst, AV.rof (m.getD (↑i : Int).toNat twigD).slot.gds.length (fun (k : Nat) => AV.int IntKind.i64 ((m.getD (↑i : Int).toNat twigD).slot.gds.getD k (0 : Int))) false]) && fewSG (slotOf (AV.agg [AV.int IntKind.i64 (l.getD (↑i : Int).toNat twigD).slot.fst, AV.rof (l.getD (↑i : Int).toNat twigD).slot.gds.length (fun (k : Nat) => AV.int IntKind.i64 ((l.getD (↑i : Int).toNat twigD).slot.gds.getD k (0 : Int))) false])) && fewSG (slotOf (AV.agg [AV.int IntKind.i64 (m.getD (↑i : Int).toNat twigD).slot.fst, AV.rof (m.getD (↑i : Int).toNat twigD).slot.gds.length (fun (k : Nat) => AV.int IntKind.i64 ((m.getD (↑i : Int).toNat twigD).slot.gds.getD k (0 : Int))) false]))) (NB (impB (isW false (!decide (slotOf (AV.agg [AV.int IntKind.i64 (l.getD (↑i : Int).toNat twigD).slot.fst, AV.rof (l.getD (↑i : Int).toNat twigD).slot.gds.length (fun (k : Nat) => AV.int IntKind.i64 ((l.getD (↑i : Int).toNat twigD).slot.gds.getD k (0 : Int))) false]) = slotOf (AV.agg [AV.int IntKind.i64 (m.getD (↑i : Int).toNat twigD).slot.fst, AV.rof (m.getD (↑i : Int).toNat twigD).slot.gds.length (fun (k : Nat) => AV.int IntKind.i64 ((m.getD (↑i : Int).toNat twigD).slot.gds.getD k (0 : Int))) false])) || (l.getD (↑i : Int).toNat twigD).par != (m.getD (↑i : Int).toNat twigD).par)) ((decide ((l.getD (↑i : Int).toNat twigD).kids.length ≤ (1000000 : Nat)) && decide ((m.getD (↑i : Int).toNat twigD).kids.length ≤ (1000000 : Nat)) && intsB (l.getD (↑i : Int).toNat twigD).kids.length fun (k : Nat) => AV.int IntKind.i64 ((l.getD (↑i : Int).toNat twigD).kids.getD k (0 : Int))) && intsB (m.getD (↑i : Int).toNat twigD).kids.length fun (k : Nat) => AV.int IntKind.i64 ((m.getD (↑i : Int).toNat twigD).kids.getD k (0 : Int)))) (VB (!decide (slotOf (AV.agg [AV.int IntKind.i64 (l.getD (↑i : Int).toNat twigD).slot.fst, AV.rof (l.getD (↑i : Int).toNat twigD).slot.gds.length (fun (k : Nat) => AV.int IntKind.i64 ((l.getD (↑i : Int).toNat twigD).slot.gds.getD k (0 : Int))) false]) = slotOf (AV.agg [AV.int IntKind.i64 (m.getD (↑i : Int).toNat twigD).slot.fst, AV.rof (m.getD (↑i : Int).toNat twigD).slot.gds.length (fun (k : Nat) => AV.int IntKind.i64 ((m.getD (↑i : Int).toNat twigD).slot.gds.getD k (0 : Int))) false])) || (l.getD (↑i : Int).toNat twigD).par != (m.getD (↑i : Int).toNat twigD).par || !decide ((intsOf' (l.getD (↑i : Int).toNat twigD).kids.length fun (k : Nat) => AV.int IntKind.i64 ((l.getD (↑i : Int).toNat twigD).kids.getD k (0 : Int))) = intsOf' (m.getD (↑i : Int).toNat twigD).kids.length fun (k : Nat) => AV.int IntKind.i64 ((m.getD (↑i : Int).toNat twigD).kids.getD k (0 : Int))) || !(l.getD (↑i : Int).toNat twigD).ends == (m.getD (↑i : Int).toNat twigD).ends || (l.getD (↑i : Int).toNat twigD).line != (m.getD (↑i : Int).toNat twigD).line) (false = v) (∃ (i' : Nat), (i' ≤ l.length ∧ ∀ (j : Nat), j < i' → l.getD j twigD = m.getD j twigD) ∧ (invKT l m).μ i' < (invKT l m).μ i ∧ (((0 : Nat) = (0 : Nat) ∧ (0 : Nat) = (0 : Nat) ∧ (0 : Nat) = (0 : Nat)) ∧ ((0 : Nat) = (0 : Nat) ∧ (0 : Nat) = (0 : Nat) ∧ (0 : Nat) = (0 : Nat)) ∧ IntKind.i64.wrap ((↑i : Int) + (1 : Int)) = (↑i' : Int) ∧ True) ∧ ((0 : Nat) = (0 : Nat) ∧ (true = true → true = true) ∧ ((treeA l).sub (treeA l) ∧ (treeA l).cells.length = (treeA l).cells.length) ∧ True) ∧ ((0 : Nat) = (0 : Nat) ∧ (true = true → true = true) ∧ ((treeA m).sub (treeA m) ∧ (treeA m).cells.length = (treeA m).cells.length) ∧ True) ∧ True)))))) (true = v))) := by
  kernel_rfl
end Go.Proofs.Ytlnpgnipocbfhaa
namespace Go.Proofs.Ytlnpgnipocbfhaa
open Pw Go
set_option maxRecDepth 100000
set_option linter.unusedSimpArgs false
theorem EKI_ok (l m:List Int):CtrOK (EKI l m):=mkE_ctr (tbl_nil _)
theorem kInts_pure (l m:List Int) (hl:l.length≤1000000):PureC Try.prog gU 16 [intsA l,intsA m] (.bool (decide (l=m))):=by
 refine PureC.of_vc (E:=EKI l m) (k:=20) (d:=3) mix (EKI_ok l m) ?_
 refine (kInts_vc l m _).mpr (VB_intro (fun h=>?_) (fun h=>⟨⟨0,⟨Nat.zero_le _,fun j hj=>absurd hj (Nat.not_lt_zero _)⟩,⟨sub_ints _,sub_ints _,rfl,trivial⟩,trivial⟩,fun i hpre=>?_⟩))
 ·refine (decide_eq_false fun e=>?_).symm
  rw [e] at h
  simp at h
 have hlen:l.length=m.length:=by
  simp only [bne_eq_false_iff_eq] at h
  omega
 obtain ⟨hi,hpre⟩:=hpre
 refine VB_intro (fun h1=>?_) (fun h1=>?_)
 ·have h2:i<l.length:=by
   have:=of_decide_eq_true h1
   omega
  refine NB_intro (by simp; omega) (NB_intro (by simp; omega) (VB_intro (fun h3=>?_) (fun h3=>?_)))
  ·refine (decide_eq_false fun e=>?_).symm
   rw [e] at h3
   simp at h3
  ·have h4:l.getD i 0=m.getD i 0:=by
    have h5:(l.getD i 0!=m.getD i 0)=false:=h3
    simpa only [bne_eq_false_iff_eq] using h5
   refine ⟨i+1,⟨by omega,fun j hj=>?_⟩,(show l.length - (i+1)<l.length - i by omega),⟨sub_ints _,sub_ints _,by rw [wrap_i64_id (by omega) (by omega)]; omega,trivial⟩,trivial⟩
   rcases Nat.lt_or_ge j i with h5|h5
   ·exact hpre j h5
   ·obtain rfl:j=i:=by omega
    exact h4
 ·have h2:i=l.length:=by
   have:=of_decide_eq_false h1
   omega
  exact (decide_eq_true (list_ext 0 hlen fun j hj=>hpre j (by omega))).symm
theorem kInts_ok:PureF Try.prog 16 cEqI:=by
 intro args nd v he hnd
 unfold cEqI at he
 split at he <;> cases he
 rename_i n f ex m g ex'
 simp only [Bool.and_eq_true,decide_eq_true_eq] at hnd
 obtain ⟨⟨⟨h1,h2⟩,h3⟩,h4⟩:=hnd
 refine PureC.args (args':=[intsA (intsOf' n f),intsA (intsOf' m g)]) rfl (fun i hi=>?_) (kInts_pure _ _ (by rw [intsOf_len]; exact h1))
 match i,hi with
 | 0,_=>exact ints_sub h3
 | 1,_=>exact ints_sub h4
theorem EKS_ok:CtrOK EKS:=mkE_ctr (tbl_cons kInts_ok (tbl_nil _))
theorem slot_eq_iff (x y:SlotG):x=y ↔ x.1=y.1∧x.gds=y.gds:=by
 obtain ⟨a,l,u⟩:=x
 obtain ⟨b,m,v⟩:=y
 refine ⟨fun e=>(by rw [e]; exact ⟨rfl,rfl⟩),fun ⟨h1,h2⟩=>?_⟩
 have h3:a=b:=h1
 have h4:l=m:=h2
 rw [h3,h4]
theorem kSlot_pure (x y:SlotG) (hx:x.gds.length≤1000000) (hy:y.gds.length≤1000000):PureC Try.prog gU 32 [slotA x,slotA y] (.bool (decide (x=y))):=by
 refine PureC.of_vc (E:=EKS) (k:=20) (d:=3) mix EKS_ok ?_
 refine (kSlot_vc x y _).mpr (NB_intro (impB_of fun _=>?_) ?_)
 ·rw [decide_eq_true hx,decide_eq_true hy,intsB_self,intsB_self]
  rfl
 ·rw [intsOf_self,intsOf_self]
  by_cases h:x=y
  ·obtain ⟨h1,h2⟩:=(slot_eq_iff x y).1 h
   rw [decide_eq_true h,decide_eq_true h2,h1,beq_self_eq_true]
   rfl
  ·rw [decide_eq_false h]
   by_cases h1:x.fst=y.fst
   ·rw [decide_eq_false fun h2=>h ((slot_eq_iff x y).2 ⟨h1,h2⟩),Bool.and_false]
   ·rw [beq_eq_false_iff_ne.2 h1,Bool.false_and]
theorem kSlot_ok:PureF Try.prog 32 cSlotE:=by
 intro args nd v he hnd
 unfold cSlotE at he
 split at he <;> cases he
 rename_i x y
 simp only [Bool.and_eq_true,fewSG,decide_eq_true_eq] at hnd
 obtain ⟨⟨⟨h1,h2⟩,h3⟩,h4⟩:=hnd
 refine PureC.args (args':=[slotA (slotOf (.agg x)),slotA (slotOf (.agg y))]) rfl (fun i hi=>?_) (kSlot_pure _ _ h3 h4)
 match i,hi with
 | 0,_=>exact (slot_sub h1).1
 | 1,_=>exact (slot_sub h2).1
theorem EKL_ok (l m:List SlotG):CtrOK (EKL l m):=mkE_ctr (tbl_cons kSlot_ok (tbl_nil _))
theorem slotE_need {x y:SlotG} (hx:x.gds.length≤1000000) (hy:y.gds.length≤1000000):(isSlot (slotA x)&&isSlot (slotA y)&&fewSG (slotOf (slotA x))&&fewSG (slotOf (slotA y)))=true:=by
 rw [isSlot_self,isSlot_self,slot_self,slot_self,fewSG,fewSG,decide_eq_true hx,decide_eq_true hy]
 rfl
theorem kLine_pure (l m:List SlotG) (hl:fewS l=true) (hm:fewS m=true):PureC Try.prog gU 39 [lineA l,lineA m] (.bool (decide (l=m))):=by
 have hll:l.length≤1000:=by simp only [fewS,Bool.and_eq_true,decide_eq_true_eq] at hl; exact hl.1
 refine PureC.of_vc (E:=EKL l m) (k:=20) (d:=3) mix (EKL_ok l m) ?_
 refine (kLine_vc l m _).mpr ?_
 refine VB_intro (fun h=>?_) (fun h=>?_)
 ·refine (decide_eq_false fun e=>?_).symm
  rw [e] at h
  simp at h
 have hlen:l.length=m.length:=by
  simp only [bne_eq_false_iff_eq] at h
  omega
 refine ⟨⟨0,⟨Nat.zero_le _,fun j hj=>absurd hj (Nat.not_lt_zero _)⟩,?_⟩,fun i hpre=>?_⟩
 ·repeat' (first|exact sub_slot _|exact sub_line _|exact trivial|exact rfl|exact Or.inr rfl|exact fun h=>h|exact fun _ _=>rfl|refine And.intro ?_ ?_)
 obtain ⟨hi,hpre⟩:=hpre
 refine VB_intro (fun h1=>?_) (fun h1=>?_)
 ·have h2:i<l.length:=by
   have:=of_decide_eq_true h1
   omega
  have k1:=fewS_at hl h2
  have k2:=fewS_at hm (i:=i) (by omega)
  refine NB_intro (by simp; omega) (NB_intro (by simp; omega) (NB_intro (slotE_need (x:=l.getD i slotD') (y:=m.getD i slotD') (by omega) (by omega)) (VB_intro (fun h3=>?_) (fun h3=>?_))))
  ·have h4:(!decide (slotOf (slotA (l.getD i slotD'))=slotOf (slotA (m.getD i slotD'))))=true:=h3
   refine (decide_eq_false fun e=>?_).symm
   rw [e] at h4
   simp at h4
  ·have h4:(!decide (slotOf (slotA (l.getD i slotD'))=slotOf (slotA (m.getD i slotD'))))=false:=h3
   rw [slot_self,slot_self] at h4
   have h5:l.getD i slotD'=m.getD i slotD':=by
    simp only [Bool.not_eq_false'] at h4
    exact of_decide_eq_true h4
   refine ⟨i+1,⟨by omega,fun j hj=>?_⟩,(show l.length - (i+1)<l.length - i by omega),?_⟩
   ·rcases Nat.lt_or_ge j i with h6|h6
    ·exact hpre j h6
    ·obtain rfl:j=i:=by omega
     exact h5
   have hW:IntKind.i64.wrap ((i:Int)+1)=((i+1:Nat):Int):=by rw [wrap_i64_id (by omega) (by omega)]; omega
   repeat' (first|exact sub_slot _|exact sub_line _|exact trivial|exact rfl|exact Or.inr rfl|exact fun h=>h|exact fun _ _=>rfl|refine And.intro ?_ ?_)
   all_goals exact hW
 ·have h2:i=l.length:=by
   have:=of_decide_eq_false h1
   omega
  exact (decide_eq_true (list_ext slotD' hlen fun j hj=>hpre j (by omega))).symm
theorem kLine_ok:PureF Try.prog 39 cLineE:=by
 intro args nd v he hnd
 unfold cLineE at he
 split at he <;> cases he
 rename_i n f ex m g ex'
 simp only [Bool.and_eq_true] at hnd
 obtain ⟨⟨⟨h1,h2⟩,h3⟩,h4⟩:=hnd
 refine PureC.args (args':=[lineA (slotsOf' n f),lineA (slotsOf' m g)]) rfl (fun i hi=>?_) (kLine_pure _ _ h3 h4)
 match i,hi with
 | 0,_=>exact ⟨slots_sub h1,trivial⟩
 | 1,_=>exact ⟨slots_sub h2,trivial⟩
theorem EKLs_ok (l m:List (List SlotG)):CtrOK (EKLs l m):=mkE_ctr (tbl_cons kLine_ok (tbl_nil _))
theorem kLines_pure (l m:List (List SlotG)) (hl0:l.length≤1000000) (hl:∀ x∈l,fewS x=true) (hm:∀ x∈m,fewS x=true):PureC Try.prog gU 13 [linesA l,linesA m] (.bool (decide (l=m))):=by
 refine PureC.of_vc (E:=EKLs l m) (k:=20) (d:=3) mix (EKLs_ok l m) ?_
 refine (kLines_vc l m _).mpr (VB_intro (fun h=>?_) (fun h=>⟨⟨0,⟨Nat.zero_le _,fun j hj=>absurd hj (Nat.not_lt_zero _)⟩,⟨sub_lines _,sub_lines _,rfl,trivial⟩,trivial⟩,fun i hpre=>?_⟩))
 ·refine (decide_eq_false fun e=>?_).symm
  rw [e] at h
  simp at h
 have hlen:l.length=m.length:=by
  simp only [bne_eq_false_iff_eq] at h
  omega
 obtain ⟨hi,hpre⟩:=hpre
 refine VB_intro (fun h1=>?_) (fun h1=>?_)
 ·have h2:i<l.length:=by
   have:=of_decide_eq_true h1
   omega
  rw [show (Int.toNat (i:Int))=i from rfl,slotsB_self,slotsB_self,slotsOf_self,slotsOf_self,hl _ (getD_mem (d:=[]) h2),hm _ (getD_mem (d:=[]) (i:=i) (by omega))]
  refine NB_intro (by simp; omega) (NB_intro (by simp; omega) (NB_intro rfl (VB_intro (fun h3=>?_) (fun h3=>?_))))
  ·refine (decide_eq_false fun e=>?_).symm
   rw [e] at h3
   simp at h3
  ·have h4:l.getD i []=m.getD i []:=by
    simp only [Bool.not_eq_false'] at h3
    exact of_decide_eq_true h3
   refine ⟨i+1,⟨by omega,fun j hj=>?_⟩,(show l.length - (i+1)<l.length - i by omega),⟨sub_lines _,sub_lines _,by rw [wrap_i64_id (by omega) (by omega)]; omega,trivial⟩,trivial⟩
   rcases Nat.lt_or_ge j i with h5|h5
   ·exact hpre j h5
   ·obtain rfl:j=i:=by omega
    exact h4
 ·have h2:i=l.length:=by
   have:=of_decide_eq_false h1
   omega
  exact (decide_eq_true (list_ext [] hlen fun j hj=>hpre j (by omega))).symm
theorem EKT_ok (l m:List TwigG):CtrOK (EKT l m):=⟨(mkE_ctr (P:=Try.prog) (inv:=fun _ _=>none) (tbl_cons kInts_ok (tbl_cons kSlot_ok (tbl_nil _)))).1,itr_none rfl⟩
theorem twig_eq_iff (x y:TwigG):x=y ↔ x.slot=y.slot∧x.par=y.par∧x.kids=y.kids∧x.ends=y.ends∧x.line=y.line:=by
 obtain ⟨s,p,k,e,l,u⟩:=x
 obtain ⟨s',p',k',e',l',u'⟩:=y
 refine ⟨fun h=>(by rw [h]; exact ⟨rfl,rfl,rfl,rfl,rfl⟩),fun ⟨h1,h2,h3,h4,h5⟩=>?_⟩
 have h1:s=s':=h1
 have h2:p=p':=h2
 have h3:k=k':=h3
 have h4:e=e':=h4
 have h5:l=l':=h5
 rw [h1,h2,h3,h4,h5]
theorem few2_at {l:List TwigG} (h:few2s l=true) {i:Nat} (hi:i<l.length):(l.getD i twigD).slot.gds.length≤1000000∧(l.getD i twigD).kids.length≤1000000:=by
 simp only [few2s,Bool.and_eq_true,List.all_eq_true] at h
 have:=h.2 _ (getD_mem (d:=twigD) hi)
 simpa only [few2,Bool.and_eq_true,decide_eq_true_eq] using this
theorem kTree_pure (l m : List TwigG) (hl : few2s l = true) (hm : few2s m = true) : PureC Try.prog gU 25 [treeA l, treeA m] (.bool (decide (l = m))) := by
  have hll : l.length ≤ 1000000 := by simp only [few2s, Bool.and_eq_true, decide_eq_true_eq] at hl; exact hl.1
  refine PureC.of_vc (E := EKT l m) (k := 20) (d := 3) mix (EKT_ok l m) ?_
  refine (kTree_vc l m _).mpr ?_
  refine VB_intro (fun h => ?_) (fun h => ?_)
  · refine (decide_eq_false fun e => ?_).symm
    rw [e] at h
    simp at h
  have hlen : l.length = m.length := by
    simp only [bne_eq_false_iff_eq] at h
    omega
  refine ⟨⟨0, ⟨Nat.zero_le _, fun j hj => absurd hj (Nat.not_lt_zero _)⟩, ?_⟩, fun i hpre => ?_⟩
  · repeat' (first | exact sub_tree _ | exact trivial | exact rfl | exact Or.inr rfl | exact fun h => h | exact fun _ _ => rfl | refine And.intro ?_ ?_)
  obtain ⟨hi, hpre⟩ := hpre
  refine VB_intro (fun h1 => ?_) (fun h1 => ?_)
  · have h2 : i < l.length := by
      have := of_decide_eq_true h1
      omega
    obtain ⟨k1, k2⟩ := few2_at hl h2
    obtain ⟨k3, k4⟩ := few2_at hm (i := i) (by omega)
    refine NB_intro (by simp; omega) (NB_intro (by simp; omega) (and_self_iff.2 ?_))
    have hs1 := slot_self (l.getD i twigD).slot
    have hs2 := slot_self (m.getD i twigD).slot
    refine NB_intro (slotE_need (x := (l.getD i twigD).slot) (y := (m.getD i twigD).slot) k1 k3) (NB_intro (impB_of fun _ => ?_) (VB_intro (fun h3 => ?_) (fun h3 => ?_)))
    · rw [show (Int.toNat (i : Int)) = i from rfl, decide_eq_true k2, decide_eq_true k4, intsB_self, intsB_self]
      rfl
    · refine (decide_eq_false fun e => ?_).symm
      have h4 : (!decide (slotOf (slotA (l.getD i twigD).slot) = slotOf (slotA (m.getD i twigD).slot)) || (l.getD i twigD).par != (m.getD i twigD).par || !decide (intsOf' (l.getD i twigD).kids.length (fun (k : Nat) => AV.int IntKind.i64 ((l.getD i twigD).kids.getD k 0)) = intsOf' (m.getD i twigD).kids.length (fun (k : Nat) => AV.int IntKind.i64 ((m.getD i twigD).kids.getD k 0))) || !((l.getD i twigD).ends == (m.getD i twigD).ends) || (l.getD i twigD).line != (m.getD i twigD).line) = true := h3
      rw [e] at h4
      simp at h4
    · have h4 : (!decide (slotOf (slotA (l.getD i twigD).slot) = slotOf (slotA (m.getD i twigD).slot)) || (l.getD i twigD).par != (m.getD i twigD).par || !decide (intsOf' (l.getD i twigD).kids.length (fun (k : Nat) => AV.int IntKind.i64 ((l.getD i twigD).kids.getD k 0)) = intsOf' (m.getD i twigD).kids.length (fun (k : Nat) => AV.int IntKind.i64 ((m.getD i twigD).kids.getD k 0))) || !((l.getD i twigD).ends == (m.getD i twigD).ends) || (l.getD i twigD).line != (m.getD i twigD).line) = false := h3
      rw [hs1, hs2, intsOf_self, intsOf_self] at h4
      simp only [Bool.or_eq_false_iff, Bool.not_eq_false', bne_eq_false_iff_eq, decide_eq_true_eq, beq_iff_eq] at h4
      obtain ⟨⟨⟨⟨q1, q2⟩, q3⟩, q4⟩, q5⟩ := h4
      have h5 : l.getD i twigD = m.getD i twigD := (twig_eq_iff _ _).2 ⟨q1, q2, q3, q4, q5⟩
      refine ⟨i + 1, ⟨by omega, fun j hj => ?_⟩, (show l.length - (i + 1) < l.length - i by omega), ?_⟩
      · rcases Nat.lt_or_ge j i with h6 | h6
        · exact hpre j h6
        · obtain rfl : j = i := by omega
          exact h5
      have hW : IntKind.i64.wrap ((i : Int) + 1) = ((i + 1 : Nat) : Int) := by rw [wrap_i64_id (by omega) (by omega)]; omega
      repeat' (first | exact sub_tree _ | exact trivial | exact rfl | exact Or.inr rfl | exact fun h => h | exact fun _ _ => rfl | refine And.intro ?_ ?_)
      all_goals exact hW
  · have h2 : i = l.length := by
      have := of_decide_eq_false h1
      omega
    exact (decide_eq_true (list_ext twigD hlen fun j hj => hpre j (by omega))).symm
end Go.Proofs.Ytlnpgnipocbfhaa
