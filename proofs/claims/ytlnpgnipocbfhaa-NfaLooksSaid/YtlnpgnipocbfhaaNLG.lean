/- TREES G: conditions of nfa.ends. -/
import Derived.Test.YtlnpgnipocbfhaaNLE
import Derived.Test.YtlnpgnipocbfhaaNLA
import Derived.Test.YtlnpgnipocbfhaaNLC
namespace Go.Proofs.Ytlnpgnipocbfhaa
open Pw Go
set_option maxRecDepth 100000
set_option linter.unusedSimpArgs false
def isTree:AV→Bool
 | .agg [.rof n f _]=>(List.range n).all fun i=>isTwig (f i)
 | _=>false
def treeDec:AV→List TwigG
 | .agg [.rof n f _]=>(List.range n).map fun i=>twigOf (f i)
 | _=>[]
noncomputable def cSort (extra:List AV) (l:List Int):Option (Bool×List Int) :=
 match extra with
 | [.fn (.func g) [] [.rptr X 0]]=>some (decide (g=65)&&isTree X&&okL (treeDec X) l&&decide (l.length≤1000000),sortT (treeDec X) l)
 | _=>none
noncomputable def tblEn:TblR:=fun f extra l=>if f=64 then cSort extra l else none
def okN (t:List TwigG) (j:Nat):Bool:=(decide (j=0)||(decide (0≤(t.getD j twigD).par)&&decide ((t.getD j twigD).par<j)))&&((t.getD j twigD).ends==decide (0≤(t.getD j twigD).line))
def endsN (t:List TwigG):Nat→List Int
 | 0=>[]
 | n+1=>if (t.getD n twigD).ends then endsN t n++[(n:Int)] else endsN t n
noncomputable def endS (t:List TwigG):List Int:=sortT t (endsN t t.length)
def invE0 (t:List TwigG):Inv:=⟨Nat×Nat,30,fun p=>⟨[(1,.rptr (treeA t) 0),(4,.sl 20 p.2 0 (endsN t p.1).length none),(14,twigsA t),(15,.int .i64 t.length),(16,.int .i64 p.1)],[(20,.row p.2 1 true (.fn (endsN t p.1).length fun k=>.int .i64 ((endsN t p.1).getD k 0)))]⟩,
 fun p=>p.1≤t.length∧∀ j,j<p.1→okN t j=true,fun p=>t.length - p.1⟩
noncomputable def invE2 (t:List TwigG):Inv:=⟨Nat×Nat,40,fun p=>⟨[(1,.rptr (treeA t) 0),(4,.sl 20 p.2 0 (endS t).length none),(52,.sl 20 p.2 0 (endS t).length none),(53,.int .i64 (endS t).length),(54,.int .i64 p.1)],[(20,.row p.2 1 true (.fn (endS t).length fun k=>.int .i64 ((endS t).getD k 0)))]⟩,
 fun p=>p.1≤(endS t).length∧∀ j,j<p.1→lnG t ((endS t).getD j 0)=j,fun p=>(endS t).length - p.1⟩
noncomputable def EEn (t:List TwigG):Env:={ mkE Try.prog (tblOf []) (fun f b=>if f=53 then (if b=0 then some (invE0 t) else if b=2 then some (invE2 t) else none) else none) with
 ctr:=ctrOf4 (tblOf []) tblEn
 fzs:=fun f=>if f=53 then [10001] else [] }
theorem ends_vc (t : List TwigG) (l : List Int) (b : Bool) : (vcFun (EEn t) 20 53 [treeA t] .nil 0 (retP 3 (.tup [intsA l, .bool b]))).sat = ( VB (decide ((↑t.length : Int) > (769 : Int))) (l.length = (0 : Nat) ∧ false = b ∧ True) ((∃ (i : Nat × Nat), (i.fst ≤ t.length ∧ ∀ (j : Nat), j < i.fst → okN t j = true) ∧ (((((t.length = t.length ∧ (∀ (i : Nat), i < t.length → ((t.getD i twigD).slot.fst = (t.getD i twigD).slot.fst ∧ ((t.getD i twigD).slot.gds.length = (t.getD i twigD).slot.gds.length ∧ (∀ (i_1 : Nat), i_1 < (t.getD i twigD).slot.gds.length → (t.getD i twigD).slot.gds.getD i_1 (0 : Int) = (t.getD i twigD).slot.gds.getD i_1 (0 : Int) ∧ (1 : Nat) = (1 : Nat)) ∧ (false = true → false = true)) ∧ (t.getD i twigD).par = (t.getD i twigD).par ∧ ((t.getD i twigD).kids.length = (t.getD i twigD).kids.length ∧ (∀ (i_1 : Nat), i_1 < (t.getD i twigD).kids.length → (t.getD i twigD).kids.getD i_1 (0 : Int) = (t.getD i twigD).kids.getD i_1 (0 : Int) ∧ (1 : Nat) = (1 : Nat)) ∧ (false = true → false = true)) ∧ (t.getD i twigD).ends = (t.getD i twigD).ends ∧ (t.getD i twigD).line = (t.getD i twigD).line ∧ True) ∧ (6 : Nat) = (6 : Nat)) ∧ (false = true → false = true)) ∧ True) ∧ (1 : Nat) = (1 : Nat)) ∧ (0 : Nat) = (0 : Nat)) ∧ ((endsN t i.fst).length = (0 : Nat) ∧ i.snd = i.snd ∧ (endsN t i.fst).length = (0 : Nat)) ∧ (twigsA t).sub (twigsA t) ∧ (↑t.length : Int) = (↑t.length : Int) ∧ (0 : Int) = (↑i.fst : Int) ∧ True) ∧ (endsN t i.fst).length = (0 : Nat) ∧ True) ∧ ∀ (i : Nat × Nat), (i.fst ≤ t.length ∧ ∀ (j : Nat), j < i.fst → okN t j = true) → VB (decide ((↑i.fst : Int) < (↑t.length : Int))) (NB (decide ((0 : Int) ≤ (↑i.fst : Int) ∧ (↑i.fst : Int) < (↑t.length : Int))) (VB (decide ((↑i.fst : Int) > (0 : Int)) && (decide ((t.getD (↑i.fst : Int).toNat twigD).par < (0 : Int)) || decide ((t.getD (↑i.fst : Int).toNat twigD).par ≥ (↑i.fst : Int))) || !(t.getD (↑i.fst : Int).toNat twigD).ends == decide ((t.getD (↑i.fst : Int).toNat twigD).line ≥ (0 : Int))) (l.length = (0 : Nat) ∧ false = b ∧ True) (VB (t.getD (↑i.fst : Int).toNat twigD).ends (NB (true && decide (i.snd = i.snd) && room ((endsN t i.fst).length + (1 : Nat)) (8 : Nat)) (∃ (i' : Nat × Nat), (i'.fst ≤ t.length ∧ ∀ (j : Nat), j < i'.fst → okN t j = true) ∧ (invE0 t).μ i' < (invE0 t).μ i ∧ (((((t.length = t.length ∧ (∀ (i : Nat), i < t.length → ((t.getD i twigD).slot.fst = (t.getD i twigD).slot.fst ∧ ((t.getD i twigD).slot.gds.length = (t.getD i twigD).slot.gds.length ∧ (∀ (i_1 : Nat), i_1 < (t.getD i twigD).slot.gds.length → (t.getD i twigD).slot.gds.getD i_1 (0 : Int) = (t.getD i twigD).slot.gds.getD i_1 (0 : Int) ∧ (1 : Nat) = (1 : Nat)) ∧ (false = true → false = true)) ∧ (t.getD i twigD).par = (t.getD i twigD).par ∧ ((t.getD i twigD).kids.length = (t.getD i twigD).kids.length ∧ (∀ (i_1 : Nat), i_1 < (t.getD i twigD).kids.length → (t.getD i twigD).kids.getD i_1 (0 : Int) = (t.getD i twigD).kids.getD i_1 (0 : Int) ∧ (1 : Nat) = (1 : Nat)) ∧ (false = true → false = true)) ∧ (t.getD i twigD).ends = (t.getD i twigD).ends ∧ (t.getD i twigD).line = (t.getD i twigD).line ∧ True) ∧ (6 : Nat) = (6 : Nat)) ∧ (false = true → false = true)) ∧ True) ∧ (1 : Nat) = (1 : Nat)) ∧ (0 : Nat) = (0 : Nat)) ∧ (i.snd + (1 : Nat) = i'.snd ∧ (0 : Nat) = (0 : Nat) ∧ (endsN t i.fst).length + (1 : Nat) = (endsN t i'.fst).length ∧ (@Eq (Option Nat) none none ∨ @Eq (Option Nat) none none)) ∧ (twigsA t).sub (twigsA t) ∧ (↑t.length : Int) = (↑t.length : Int) ∧ IntKind.i64.wrap ((↑i.fst : Int) + (1 : Int)) = (↑i'.fst : Int) ∧ True) ∧ (i.snd + (1 : Nat) = i'.snd ∧ (true = true → true = true) ∧ (endsN t i.fst).length + (1 : Nat) = (endsN t i'.fst).length ∧ ∀ (i_1 : Nat), i_1 < (endsN t i.fst).length + (1 : Nat) → (if i_1 < (endsN t i.fst).length then AV.int IntKind.i64 ((endsN t i.fst).getD ((0 : Nat) + i_1) (0 : Int)) else ((Sq.lst [AV.int IntKind.i64 (↑i.fst : Int)]).sub (0 : Nat) (1 : Nat)).get (i_1 - (endsN t i.fst).length)).sub (AV.int IntKind.i64 ((endsN t i'.fst).getD i_1 (0 : Int))) ∧ (if i_1 < (endsN t i.fst).length then AV.int IntKind.i64 ((endsN t i.fst).getD ((0 : Nat) + i_1) (0 : Int)) else ((Sq.lst [AV.int IntKind.i64 (↑i.fst : Int)]).sub (0 : Nat) (1 : Nat)).get (i_1 - (endsN t i.fst).length)).cells.length = [AV.int IntKind.i64 ((endsN t i'.fst).getD i_1 (0 : Int))].length) ∧ True)) (∃ (i' : Nat × Nat), (i'.fst ≤ t.length ∧ ∀ (j : Nat), j < i'.fst → okN t j = true) ∧ (invE0 t).μ i' < (invE0 t).μ i ∧ (((((t.length = t.length ∧ (∀ (i : Nat), i < t.length → ((t.getD i twigD).slot.fst = (t.getD i twigD).slot.fst ∧ ((t.getD i twigD).slot.gds.length = (t.getD i twigD).slot.gds.length ∧ (∀ (i_1 : Nat), i_1 < (t.getD i twigD).slot.gds.length → (t.getD i twigD).slot.gds.getD i_1 (0 : Int) = (t.getD i twigD).slot.gds.getD i_1 (0 : Int) ∧ (1 : Nat) = (1 : Nat)) ∧ (false = true → false = true)) ∧ (t.getD i twigD).par = (t.getD i twigD).par ∧ ((t.getD i twigD).kids.length = (t.getD i twigD).kids.length ∧ (∀ (i_1 : Nat), i_1 < (t.getD i twigD).kids.length → (t.getD i twigD).kids.getD i_1 (0 : Int) = (t.getD i twigD).kids.getD i_1 (0 : Int) ∧ (1 : Nat) = (1 : Nat)) ∧ (false = true → false = true)) ∧ (t.getD i twigD).ends = (t.getD i twigD).ends ∧ (t.getD i twigD).line = (t.getD i twigD).line ∧ True) ∧ (6 : Nat) = (6 : Nat)) ∧ (false = true → false = true)) ∧ True) ∧ (1 : Nat) = (1 : Nat)) ∧ (0 : Nat) = (0 : Nat)) ∧ (i.snd = i'.snd ∧ (0 : Nat) = (0 : Nat) ∧ (endsN t i.fst).length = (endsN t i'.fst).length ∧ (@Eq (Option Nat) none none ∨ @Eq (Option Nat) none none)) ∧ (twigsA t).sub (twigsA t) ∧ (↑t.length : Int) = (↑t.length : Int) ∧ IntKind.i64.wrap ((↑i.fst : Int) + (1 : Int)) = (↑i'.fst : Int) ∧ True) ∧ (i.snd = i'.snd ∧ (true = true → true = true) ∧ (endsN t i.fst).length = (endsN t i'.fst).length ∧ ∀ (i_1 : Nat), i_1 < (endsN t i.fst).length → (endsN t i.fst).getD i_1 (0 : Int) = (endsN t i'.fst).getD i_1 (0 : Int) ∧ (1 : Nat) = (1 : Nat)) ∧ True)))) (NB (true && isTree (treeA t) && okL (treeDec (treeA t)) (List.map (fun (i_1 : Nat) => i64V (AV.int IntKind.i64 ((endsN t i.fst).getD i_1 (0 : Int)))) (List.range (endsN t i.fst).length)) && decide ((List.map (fun (i_1 : Nat) => i64V (AV.int IntKind.i64 ((endsN t i.fst).getD i_1 (0 : Int)))) (List.range (endsN t i.fst).length)).length ≤ (1000000 : Nat)) && decide (i.snd = i.snd) && true && decide ((endsN t i.fst).length = (endsN t i.fst).length) && (List.range (endsN t i.fst).length).all fun (i_1 : Nat) => i64B (AV.int IntKind.i64 ((endsN t i.fst).getD i_1 (0 : Int)))) ((∃ (i_1 : Nat × Nat), (i_1.fst ≤ (endS t).length ∧ ∀ (j : Nat), j < i_1.fst → lnG t ((endS t).getD j (0 : Int)) = (↑j : Int)) ∧ (((((t.length = t.length ∧ (∀ (i : Nat), i < t.length → ((t.getD i twigD).slot.fst = (t.getD i twigD).slot.fst ∧ ((t.getD i twigD).slot.gds.length = (t.getD i twigD).slot.gds.length ∧ (∀ (i_2 : Nat), i_2 < (t.getD i twigD).slot.gds.length → (t.getD i twigD).slot.gds.getD i_2 (0 : Int) = (t.getD i twigD).slot.gds.getD i_2 (0 : Int) ∧ (1 : Nat) = (1 : Nat)) ∧ (false = true → false = true)) ∧ (t.getD i twigD).par = (t.getD i twigD).par ∧ ((t.getD i twigD).kids.length = (t.getD i twigD).kids.length ∧ (∀ (i_2 : Nat), i_2 < (t.getD i twigD).kids.length → (t.getD i twigD).kids.getD i_2 (0 : Int) = (t.getD i twigD).kids.getD i_2 (0 : Int) ∧ (1 : Nat) = (1 : Nat)) ∧ (false = true → false = true)) ∧ (t.getD i twigD).ends = (t.getD i twigD).ends ∧ (t.getD i twigD).line = (t.getD i twigD).line ∧ True) ∧ (6 : Nat) = (6 : Nat)) ∧ (false = true → false = true)) ∧ True) ∧ (1 : Nat) = (1 : Nat)) ∧ (0 : Nat) = (0 : Nat)) ∧ (i.snd = i_1.snd ∧ (0 : Nat) = (0 : Nat) ∧ (endsN t i.fst).length = (endS t).length ∧ (@Eq (Option Nat) none none ∨ @Eq (Option Nat) none none)) ∧ (i.snd = i_1.snd ∧ (0 : Nat) = (0 : Nat) ∧ (endsN t i.fst).length = (endS t).length ∧ (@Eq (Option Nat) none none ∨ @Eq (Option Nat) none none)) ∧ (↑(endsN t i.fst).length : Int) = (↑(endS t).length : Int) ∧ (0 : Int) = (↑i_1.fst : Int) ∧ True) ∧ (i.snd = i_1.snd ∧ (true = true → true = true) ∧ (endsN t i.fst).length = (endS t).length ∧ ∀ (i_2 : Nat), i_2 < (endsN t i.fst).length → (sortT (treeDec (treeA t)) (List.map (fun (i_3 : Nat) => i64V (AV.int IntKind.i64 ((endsN t i.fst).getD i_3 (0 : Int)))) (List.range (endsN t i.fst).length))).getD i_2 (0 : Int) = (endS t).getD i_2 (0 : Int) ∧ (1 : Nat) = (1 : Nat)) ∧ True) ∧ ∀ (i : Nat × Nat), (i.fst ≤ (endS t).length ∧ ∀ (j : Nat), j < i.fst → lnG t ((endS t).getD j (0 : Int)) = (↑j : Int)) → VB (decide ((↑i.fst : Int) < (↑(endS t).length : Int))) (NB (decide (i.snd = i.snd) && decide ((0 : Int) ≤ (↑i.fst : Int) ∧ (↑i.fst : Int) < (↑(endS t).length : Int))) (NB (decide (i.snd = i.snd)) (NB (decide ((0 : Int) ≤ (endS t).getD ((0 : Nat) + (↑i.fst : Int).toNat) (0 : Int) ∧ (endS t).getD ((0 : Nat) + (↑i.fst : Int).toNat) (0 : Int) < (↑t.length : Int))) (VB ((t.getD ((endS t).getD ((0 : Nat) + (↑i.fst : Int).toNat) (0 : Int)).toNat twigD).line != (↑i.fst : Int)) (l.length = (0 : Nat) ∧ false = b ∧ True) (∃ (i' : Nat × Nat), (i'.fst ≤ (endS t).length ∧ ∀ (j : Nat), j < i'.fst → lnG t ((endS t).getD j (0 : Int)) = (↑j : Int)) ∧ (invE2 t).μ i' < (invE2 t).μ i ∧ (((((t.length = t.length ∧ (∀ (i : Nat), i < t.length → ((t.getD i twigD).slot.fst = (t.getD i twigD).slot.fst ∧ ((t.getD i twigD).slot.gds.length = (t.getD i twigD).slot.gds.length ∧ (∀ (i_1 : Nat), i_1 < (t.getD i twigD).slot.gds.length → (t.getD i twigD).slot.gds.getD i_1 (0 : Int) = (t.getD i twigD).slot.gds.getD i_1 (0 : Int) ∧ (1 : Nat) = (1 : Nat)) ∧ (false = true → false = true)) ∧ (t.getD i twigD).par = (t.getD i twigD).par ∧ ((t.getD i twigD).kids.length = (t.getD i twigD).kids.length ∧ (∀ (i_1 : Nat), i_1 < (t.getD i twigD).kids.length → (t.getD i twigD).kids.getD i_1 (0 : Int) = (t.getD i twigD).kids.getD i_1 (0 : Int) ∧ (1 : Nat) = (1 : Nat)) ∧ (false = true → false = true)) ∧ (t.getD i twigD).ends = (t.getD i twigD).ends ∧ (t.getD i twigD).line = (t.getD i twigD).line ∧ True) ∧ (6 : Nat) = (6 : Nat)) ∧ (false = true → false = true)) ∧ True) ∧ (1 : Nat) = (1 : Nat)) ∧ (0 : Nat) = (0 : Nat)) ∧ (i.snd = i'.snd ∧ (0 : Nat) = (0 : Nat) ∧ (endS t).length = (endS t).length ∧ (@Eq (Option Nat) none none ∨ @Eq (Option Nat) none none)) ∧ (i.snd = i'.snd ∧ (0 : Nat) = (0 : Nat) ∧ (endS t).length = (endS t).length ∧ (@Eq (Option Nat) none none ∨ @Eq (Option Nat) none none)) ∧ (↑(endS t).length : Int) = (↑(endS t).length : Int) ∧ IntKind.i64.wrap ((↑i.fst : Int) + (1 : Int)) = (↑i'.fst : Int) ∧ True) ∧ (i.snd = i'.snd ∧ (true = true → true = true) ∧ (endS t).length = (endS t).length ∧ ∀ (i : Nat), i < (endS t).length → (endS t).getD i (0 : Int) = (endS t).getD i (0 : Int) ∧ (1 : Nat) = (1 : Nat)) ∧ True))))) (NB (decide (i.snd = i.snd) && true) (((endS t).length = l.length ∧ (∀ (i : Nat), i < (endS t).length → (endS t).getD ((0 : Nat) + i) (0 : Int) = l.getD i (0 : Int) ∧ (1 : Nat) = (1 : Nat)) ∧ (false = true → decide (none = some (endS t).length) = true)) ∧ true = b ∧ True)))))) := by
  kernel_rfl
end Go.Proofs.Ytlnpgnipocbfhaa
namespace Go.Proofs.Ytlnpgnipocbfhaa
open Pw Go
set_option maxRecDepth 100000
set_option linter.unusedSimpArgs false
noncomputable def endsE (t:List TwigG):List Int×Bool :=
 if 769<t.length then ([],false)
 else if (List.range t.length).all (okN t) then
  (if (List.range (endS t).length).all (fun i=>decide (lnG t ((endS t).getD i 0)=i)) then (endS t,true) else ([],false))
 else ([],false)
theorem endsN_mem {t:List TwigG}:∀ {n:Nat} {k:Int},k∈endsN t n→0≤k∧k<n∧(t.getD k.toNat twigD).ends=true
 | 0,k,h=>by cases h
 | n+1,k,h=>by
  unfold endsN at h
  by_cases he:(t.getD n twigD).ends=true
  ·rw [if_pos he] at h
   rcases List.mem_append.1 h with h1|h1
   ·have:=endsN_mem h1
    exact ⟨this.1,by omega,this.2.2⟩
   ·have:k=n:=by simpa using h1
    subst this
    exact ⟨by omega,by omega,he⟩
  ·rw [if_neg he] at h
   have:=endsN_mem h
   exact ⟨this.1,by omega,this.2.2⟩
theorem endsN_len (t:List TwigG):∀ n,(endsN t n).length≤n
 | 0=>Nat.le_refl _
 | n+1=>by
  unfold endsN
  have:=endsN_len t n
  split
  ·rw [List.length_append,List.length_singleton]
   omega
  ·omega
def linesIn (t:List TwigG):Bool:=(List.range t.length).all fun j=>decide ((t.getD j twigD).line<9223372036854775808)
theorem okL_ends {t:List TwigG} (hln:linesIn t=true) (h:∀ j,j<t.length→okN t j=true):okL t (endsN t t.length)=true:=by
 rw [okL,List.all_eq_true]
 intro k hk
 obtain ⟨h1,h2,h3⟩:=endsN_mem hk
 have h4:=h k.toNat (by omega)
 simp only [okN,Bool.and_eq_true,beq_iff_eq] at h4
 rw [h3] at h4
 have h5:=of_decide_eq_true h4.2.symm
 have h6:=of_decide_eq_true (List.all_eq_true.1 hln k.toNat (by simp; omega))
 exact decide_eq_true ⟨h1,h2,h5,h6⟩
theorem treeDec_self (t:List TwigG):treeDec (treeA t)=t:=by
 show (List.range t.length).map (fun i=>twigOf (twigA (t.getD i twigD)))=t
 refine List.ext_getElem (by simp) fun i h1 h2=>?_
 simp [List.getD,h2,twig_self]
theorem isTree_self (t:List TwigG):isTree (treeA t)=true:=by
 show ((List.range t.length).all fun i=>isTwig (twigA (t.getD i twigD)))=true
 rw [List.all_eq_true]
 exact fun _ _=>isTwig_self _
theorem tree_sub {x:AV} (h:isTree x=true):x.sub (treeA (treeDec x)):=by
 unfold isTree at h
 split at h
 ·rename_i n f ex
  refine ⟨⟨by simp [treeDec],fun i hi=>?_,fun h=>by cases h⟩,trivial⟩
  have h1:=List.all_eq_true.1 h i (by simpa using hi)
  have h2:((treeDec (.agg [.rof n f ex])).getD i twigD)=twigOf (f i):=by simp [treeDec,List.getD,hi]
  show (f i).sub (twigA ((treeDec (.agg [.rof n f ex])).getD i twigD))∧(f i).cells.length=(twigA ((treeDec (.agg [.rof n f ex])).getD i twigD)).cells.length
  rw [h2]
  refine ⟨twig_sub h1,?_⟩
  unfold isTwig at h1
  split at h1
  ·rename_i e
   rw [e]
   rfl
  ·cases h1
 ·cases h
theorem tree_cells {x:AV} (h:isTree x=true):x.cells.length=(treeA (treeDec x)).cells.length:=by
 unfold isTree at h
 split at h
 ·rfl
 ·cases h
theorem i64V_self (l:List Int):(List.range l.length).map (fun i=>i64V (AV.int .i64 (l.getD i 0)))=l:=by
 refine List.ext_getElem (by simp) fun i h1 h2=>?_
 simp [i64V,List.getD,h2]
theorem i64B_self (l:List Int):((List.range l.length).all fun i=>i64B (AV.int .i64 (l.getD i 0)))=true:=by simp [i64B]
theorem tblEn_ok:TblROK Try.prog gU tblEn:=by
 intro f extra l nd l' h hnd
 unfold tblEn at h
 split at h
 case isFalse=>cases h
 rename_i hf
 subst hf
 unfold cSort at h
 split at h
 case h_2=>cases h
 rename_i g X
 simp only [Option.some.injEq,Prod.mk.injEq] at h
 obtain ⟨rfl,rfl⟩:=h
 simp only [Bool.and_eq_true,decide_eq_true_eq] at hnd
 obtain ⟨⟨⟨rfl,h1⟩,h2⟩,h3⟩:=hnd
 obtain ⟨k1,k2⟩:=sort_row (treeDec X) l h2 h3
 refine ⟨k1,fun M W vals hG hM hA=>k2 M W vals hG hM ⟨hA.1,fun i hi=>?_⟩⟩
 have hi0:i=0:=by simpa using hi
 subst hi0
 have h4:RelP M (vals.getD 0 Go.undef) (.fn (.func 65) [] [.rptr X 0]):=hA.2 0 (by simp)
 exact h4.sub _ ⟨rfl,trivial,⟨⟨tree_sub h1,tree_cells h1⟩,rfl⟩,trivial⟩
theorem EEn_ok (t:List TwigG):CtrOK (EEn t):=ctrOf4_ok (tbl_nil _) tblEn_ok rfl
theorem sub_rtree (t:List TwigG):(AV.rptr (treeA t) 0).sub (AV.rptr (treeA t) 0):=⟨⟨sub_tree t,rfl⟩,rfl⟩
theorem ends_pure (t:List TwigG) (l:List Int) (b:Bool) (hln:linesIn t=true) (hr:endsE t=(l,b)):PureC Try.prog gU 53 [treeA t] (.tup [intsA l,.bool b]):=by
 refine PureC.of_vc (E:=EEn t) (k:=20) (d:=3) mix (EEn_ok t) ?_
 refine (ends_vc t l b).mpr ?_
 refine VB_intro (fun h=>?_) (fun h=>?_)
 ·have h1:769<t.length:=by
   have:=of_decide_eq_true h
   omega
  rw [endsE,if_pos h1,Prod.mk.injEq] at hr
  obtain ⟨rfl,rfl⟩:=hr
  exact ⟨rfl,rfl,trivial⟩
 refine ⟨?_,fun p hpre=>?_⟩
 ·refine ⟨(0,0),⟨Nat.zero_le _,fun j hj=>absurd hj (Nat.not_lt_zero _)⟩,?_⟩
  repeat' (first|exact sub_rtree _|exact sub_twigs _|exact trivial|exact rfl|exact Or.inr rfl|exact fun h=>h|exact fun _ _=>rfl|exact fun _=>rfl|refine And.intro ?_ ?_)
 have h1:¬ 769<t.length:=by
  have:=of_decide_eq_false h
  omega
 obtain ⟨i,g⟩:=p
 obtain ⟨hi,hpre⟩:=hpre
 dsimp only at hi hpre
 dsimp only
 have hel:=endsN_len t i
 refine VB_intro (fun h2=>?_) (fun h2=>?_)
 ·have h3:i<t.length:=by
   have:=of_decide_eq_true h2
   omega
  rw [show (Int.toNat (i:Int))=i from rfl]
  refine NB_intro (by simp; omega) (VB_intro (fun h4=>?_) (fun h4=>?_))
  ·have h5:okN t i=false:=by
    cases h6:okN t i with
    | false=>rfl
    | true =>
     exfalso
     simp only [okN,Bool.and_eq_true,Bool.or_eq_true,decide_eq_true_eq,beq_iff_eq] at h6
     simp only [Bool.and_eq_true,Bool.or_eq_true,decide_eq_true_eq,Bool.not_eq_true',beq_eq_false_iff_ne] at h4
     rcases h4 with h4|h4
     ·omega
     ·exact h4 h6.2
   have h6:(List.range t.length).all (okN t)=false:=by
    rw [List.all_eq_false]
    exact ⟨i,by simpa using h3,by rw [h5]; simp⟩
   rw [endsE,if_neg h1,h6,if_neg (by simp),Prod.mk.injEq] at hr
   obtain ⟨rfl,rfl⟩:=hr
   exact ⟨rfl,rfl,trivial⟩
  ·have h5:okN t i=true:=by
    simp only [Bool.or_eq_false_iff,Bool.and_eq_false_iff,decide_eq_false_iff_not,Bool.not_eq_false',beq_iff_eq] at h4
    simp only [okN,Bool.and_eq_true,Bool.or_eq_true,decide_eq_true_eq,beq_iff_eq]
    refine ⟨?_,h4.2⟩
    rcases h4.1 with h6|h6
    ·left; omega
    ·right; omega
   have hpre':∀ j,j<i+1→okN t j=true:=fun j hj=>by
    rcases Nat.lt_or_ge j i with h6|h6
    ·exact hpre j h6
    ·obtain rfl:j=i:=by omega
     exact h5
   have hW:IntKind.i64.wrap ((i:Int)+1)=((i+1:Nat):Int):=by rw [wrap_i64_id (by omega) (by omega)]; omega
   have hmu:t.length - (i+1)<t.length - i:=by omega
   refine VB_intro (fun h6=>?_) (fun h6=>?_)
   ·have h7:endsN t (i+1)=endsN t i++[(i:Int)]:=by rw [endsN,if_pos h6]
    have hL:(endsN t i).length+1=(endsN t (i+1)).length:=by rw [h7]; simp
    have hroom:room ((endsN t i).length+1) 8=true:=decide_eq_true ⟨by omega,by omega⟩
    refine NB_intro (by rw [hroom]; simp) ⟨(i+1,g+1),⟨by omega,hpre'⟩,hmu,?_⟩
    repeat' (first|exact sub_rtree _|exact sub_twigs _|exact trivial|exact rfl|exact Or.inr rfl|exact fun h=>h|exact fun _ _=>rfl|exact fun _=>rfl|refine And.intro ?_ ?_)
    all_goals try (first|exact hL|exact hW)
    ·intro k hk
     rw [h7]
     by_cases hin:k<(endsN t i).length
     ·rw [if_pos hin,Nat.zero_add]
      have h8:(endsN t i++[(i:Int)]).getD k 0=(endsN t i).getD k 0:=by
       simp only [List.getD_eq_getElem?_getD]
       rw [List.getElem?_append_left hin]
      exact ⟨h8.symm,rfl⟩
     ·obtain rfl:k=(endsN t i).length:=by omega
      have h8:(endsN t i++[(i:Int)]).getD (endsN t i).length 0=i:=by simp [List.getD_eq_getElem?_getD]
      rw [if_neg hin,Nat.sub_self]
      exact ⟨h8.symm,rfl⟩
   ·have h7:endsN t (i+1)=endsN t i:=by rw [endsN,if_neg (by rw [h6]; simp)]
    have hL:(endsN t i).length=(endsN t (i+1)).length:=by rw [h7]
    refine ⟨(i+1,g),⟨by omega,hpre'⟩,hmu,?_⟩
    repeat' (first|exact sub_rtree _|exact sub_twigs _|exact trivial|exact rfl|exact Or.inr rfl|exact fun h=>h|exact fun _ _=>rfl|exact fun _=>rfl|refine And.intro ?_ ?_)
    all_goals try (first|exact hL|exact hW)
    ·intro k hk
     rw [h7]
     exact ⟨rfl,rfl⟩
 ·obtain rfl:i=t.length:=by
   have:=of_decide_eq_false h2
   omega
  have hok:=okL_ends hln hpre
  have hall:(List.range t.length).all (okN t)=true:=by
   rw [List.all_eq_true]
   exact fun j hj=>hpre j (by simpa using hj)
  rw [endsE,if_neg h1,hall,if_pos rfl] at hr
  rw [isTree_self,treeDec_self,i64V_self,i64B_self]
  have hSl:(endsN t t.length).length=(endS t).length:=(sort_len hok).symm
  have hmem:∀ j,j<(endS t).length→0≤(endS t).getD j 0∧(endS t).getD j 0<t.length:=fun j hj=>by
   have h3:(endS t).getD j 0∈endsN t t.length:=(sort_perm hok).mem_iff.1 (getD_mem hj)
   have:=endsN_mem h3
   omega
  refine NB_intro (by rw [hok]; simp; omega) ⟨?_,fun p hpre2=>?_⟩
  ·refine ⟨(0,g),⟨Nat.zero_le _,fun j hj=>absurd hj (Nat.not_lt_zero _)⟩,?_⟩
   repeat' (first|exact sub_rtree _|exact sub_twigs _|exact trivial|exact rfl|exact Or.inr rfl|exact fun h=>h|exact fun _ _=>rfl|exact fun _=>rfl|refine And.intro ?_ ?_)
   all_goals try (first|exact hSl|exact congrArg Int.ofNat hSl)
   all_goals exact fun _ _=>⟨rfl,rfl⟩
  obtain ⟨i,g2⟩:=p
  obtain ⟨hi2,hpre2⟩:=hpre2
  dsimp only at hi2 hpre2
  dsimp only
  refine VB_intro (fun h3=>?_) (fun h3=>?_)
  ·have h4:i<(endS t).length:=by
    have:=of_decide_eq_true h3
    omega
   have h5:=hmem i h4
   rw [show (Int.toNat (i:Int))=i from rfl,Nat.zero_add]
   refine NB_intro (by simp; omega) (NB_intro (by simp) (NB_intro (decide_eq_true h5) (VB_intro (fun h6=>?_) (fun h6=>?_))))
   ·have h7:¬ lnG t ((endS t).getD i 0)=i:=by
     have:((lnG t ((endS t).getD i 0))!=(i:Int))=true:=h6
     simpa using this
    have h8:(List.range (endS t).length).all (fun i=>decide (lnG t ((endS t).getD i 0)=i))=false:=by
     rw [List.all_eq_false]
     exact ⟨i,by simpa using h4,by simpa using h7⟩
    rw [h8,if_neg (by simp),Prod.mk.injEq] at hr
    obtain ⟨rfl,rfl⟩:=hr
    exact ⟨rfl,rfl,trivial⟩
   ·have h7:lnG t ((endS t).getD i 0)=i:=by
     have:((lnG t ((endS t).getD i 0))!=(i:Int))=false:=h6
     simpa using this
    have hW:IntKind.i64.wrap ((i:Int)+1)=((i+1:Nat):Int):=by rw [wrap_i64_id (by omega) (by omega)]; omega
    refine ⟨(i+1,g2),⟨by omega,fun j hj=>?_⟩,(show (endS t).length - (i+1)<(endS t).length - i by omega),?_⟩
    ·rcases Nat.lt_or_ge j i with h8|h8
     ·exact hpre2 j h8
     ·obtain rfl:j=i:=by omega
      exact h7
    repeat' (first|exact sub_rtree _|exact sub_twigs _|exact trivial|exact rfl|exact Or.inr rfl|exact fun h=>h|exact fun _ _=>rfl|exact fun _=>rfl|refine And.intro ?_ ?_)
    all_goals try (first|exact hW)
    all_goals exact fun _ _=>⟨rfl,rfl⟩
  ·have h4:i=(endS t).length:=by
    have:=of_decide_eq_false h3
    omega
   have h8:(List.range (endS t).length).all (fun i=>decide (lnG t ((endS t).getD i 0)=i))=true:=by
    rw [List.all_eq_true]
    exact fun j hj=>decide_eq_true (hpre2 j (by rw [h4]; simpa using hj))
   rw [h8,if_pos rfl,Prod.mk.injEq] at hr
   obtain ⟨rfl,rfl⟩:=hr
   refine NB_intro (by simp) ⟨⟨rfl,fun k hk=>?_,fun h=>by cases h⟩,rfl,trivial⟩
   rw [Nat.zero_add]
   exact ⟨rfl,rfl⟩
end Go.Proofs.Ytlnpgnipocbfhaa
