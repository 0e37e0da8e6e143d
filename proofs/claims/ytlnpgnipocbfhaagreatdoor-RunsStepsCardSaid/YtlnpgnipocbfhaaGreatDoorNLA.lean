/- TREES A: sorting nodes by their lines: the row and the comparison. -/
import Derived.Test.YtlnpgnipocbfhaaGreatDoorNL8
import Derived.Test.YtlnpgnipocbfhaaGreatDoorPwGE
import Derived.Shelf.SlSortCmp.Kit1
import Derived.Deep.QuietTactic
import Derived.WalkKit
import Derived.Shelf.SlSortCmp.Whole1
import Derived.Shelf.SlSortCmp.NoneTotal
import Derived.Shelf.Lay
import Derived.Ground.SlsfProg
namespace Go.Proofs.YtlnpgnipocbfhaaGreatDoor
open Pw Go
set_option maxRecDepth 100000
section
variable {α:Type} [Inhabited α]
theorem sortWorld_heap (enc:α->Value) (W:World) (B o n:Nat) (d:Array α) (os:Array Obj) {k:Nat} (hk:k<W.heap.size) :
  (sortWorld enc W B o n d os).heap[k]?=if B=k then W.heap[k]?.map (Go.Sort.onCells (Go.Sort.putCells enc o d)) else W.heap[k]?:=by
 show ((W.heap.modify B (Go.Sort.onCells (Go.Sort.putCells enc o d)))++os)[k]?=_;rw [Array.getElem?_append,if_pos (by simpa using hk),Array.getElem?_modify]
theorem sortWorld_keep (enc:α->Value) (W:World) (B o n:Nat) (d:Array α) (os:Array Obj):Keep (fun B'=>B'≠B) W (sortWorld enc W B o n d os):=by
 refine ⟨rfl,rfl,rfl,?_,fun k hk hlt=>?_⟩
 ·show W.heap.size<=((W.heap.modify B (Go.Sort.onCells (Go.Sort.putCells enc o d)))++os).size;simp
 ·rw [sortWorld_heap _ _ _ _ _ _ _ hlt,if_neg (fun e=>hk e.symm)]
theorem sortWorld_mem {M:Mem} (enc:α->Value) {W:World} {B:Nat} (o n:Nat) (d:Array α) (os:Array Obj) (hM:MemOK M W) (hB:∀ i,M B i=none):MemOK M (sortWorld enc W B o n d os):=fun B' i v hv=>by
 obtain ⟨h1,h2⟩:=hM B' i v hv;have hne:B'≠B:=fun e=>by rw [e,hB i] at hv; cases hv
 obtain ⟨c,e,fr,h3,_⟩:=Go.Sort.cells_of_cell? h1;have hlt:=heap_lt h3;refine ⟨?_,h2⟩;rw [<- h1];exact cell_congr (by rw [sortWorld_heap _ _ _ _ _ _ _ hlt,if_neg (fun e=>hne e.symm)]) i
theorem sortWorld_row {M : Mem} (enc : α -> Value) {W : World} {B o csz : Nat} {l l' : List Int} (n : Nat) (d : Array α) (os : Array Obj) (hrow : IntRow M W B o csz l) (hl : l'.length = l.length) (hd : d.size = l.length)
    (he : ∀ j, j < l.length -> enc d[j]! = .int .i64 (l'.getD j 0)) : IntRow M (sortWorld enc W B o n d os) B o csz l' := by
  obtain ⟨c, e, h1, h2, h3, h4, h5⟩ := hrow
  refine ⟨Go.Sort.putCells enc o d c, e, ?_, ?_, by omega, h4, fun j hj => ?_⟩
  · rw [sortWorld_heap _ _ _ _ _ _ _ (heap_lt h1), if_pos rfl, h1]
    rfl
  · simpa [Go.Sort.putCells] using h2
  · have h6 := h5 j (by omega)
    simp only [Go.Sort.putCells, Array.getElem?_mapIdx, h6, Option.map_some]
    rw [if_pos (by omega), Nat.add_sub_cancel_left, he j (by omega)]
end
def lnG (t:List TwigG) (k:Int):Int:=(t.getD k.toNat twigD).line
def okL (t:List TwigG) (l:List Int):Bool:=l.all fun k=>decide (0<=k/\k<t.length/\0<=lnG t k/\lnG t k<9223372036854775808)
theorem okL_at {t:List TwigG} {l:List Int} (h:okL t l=true) {k:Int} (hk:k∈l):0<=k/\k<t.length/\0<=lnG t k/\lnG t k<9223372036854775808:=by
 have:=List.all_eq_true.1 h k hk;simpa using this
theorem wrap64_eq (n:Int):RowKit.wrap64 n=IntKind.i64.wrap n:=by
 simp [RowKit.wrap64,IntKind.wrap,IntKind.bits,IntKind.signed];split <;> omega
set_option maxHeartbeats 2000000 in
theorem cmp65 (blk o cap n Bs p:Nat) (W:World) (G:Nat->Int) (hs:W.cell? ⟨Bs,p,none⟩=some (.slice (some ⟨blk,o,none⟩) n cap)) (hc:∀ t,t<n->W.cell? ⟨blk,o+t * 6+5,none⟩=some (.int .i64 (G t))) (i j:Nat) (hi:i<n) (hj:j<n) :
  Calls Tryz.prog 165 #[.int .i64 i,.int .i64 j,.pointer (some ⟨Bs,p,none⟩)] W fun e w'=>e=.returned (.int .i64 (IntKind.i64.wrap (G i - G j)))/\∃ q,w'=W.drewN q:=by
 have ci:=hc i hi;have cj:=hc j hj
 go_enter Tryz.func165,Tryz.ntmps165
 go_wp2
 go_quiet (fail)
 go_wp2
 go_ret
 rw [<- wrap64_eq];exact ⟨rfl,nq,rfl⟩
abbrev SA (l:List Int):={k:Int // k∈l}
def encS (l:List Int) (x:SA l):Value:=.int .i64 x.1
def cfT (t:List TwigG) (l:List Int) (x y:SA l):Int:=IntKind.i64.wrap (lnG t x.1 - lnG t y.1)
theorem cfT_lt {t:List TwigG} {l:List Int} (h:okL t l=true) (x y:SA l):ltOf (cfT t l) x y=decide (lnG t x.1<lnG t y.1):=by
 have hx:=okL_at h x.2;have hy:=okL_at h y.2;unfold ltOf cfT;rw [wrap_i64_id (by omega) (by omega)]
 by_cases h1:lnG t x.1<lnG t y.1
 ·rw [decide_eq_true h1,decide_eq_true (by omega)]
 ·rw [decide_eq_false h1,decide_eq_false (by omega)]
theorem cfT_swo {t:List TwigG} {l:List Int} (h:okL t l=true):Go.Sort.SWO (ltOf (cfT t l)) where
 irrefl x:=by rw [cfT_lt h]; simp
 trans x y z h1 h2:=by rw [cfT_lt h] at *; simp at *; omega
 ntrans x y z h1 h2:=by rw [cfT_lt h] at *; simp at *; omega
theorem cb_of {M:Mem} {t:List TwigG} {vals:Array Value} (h:ArgsP M vals [.fn (.func 165) [] [.rptr (treeA t) 0]]) (ht:0<t.length) :
  ∃ B1 o1 B2 o2 cap,vals=#[.func (.func 165) #[] #[.pointer (some ⟨B1,o1,none⟩)]]/\M B1 o1=some (.slice (some ⟨B2,o2,none⟩) t.length cap)/\∀ i,i<t.length->M B2 (o2+i * 6+5)=some (.int .i64 (t.getD i twigD).line):=by
 obtain ⟨h1,h2⟩:=h;have h3:=h2 0 (by simp)
 have hv:vals=#[vals.getD 0 Go.undef]:=by
  apply Array.ext (by simpa using h1)
  intro i hi1 hi2;have:i=0:=by simp at hi2; exact hi2
  subst this;simp [Array.getD_eq_getD_getElem?,hi1]
 generalize vals.getD 0 Go.undef=v at h3 hv;have h4:RelP M v (.fn (.func 165) [] [.rptr (treeA t) 0]):=h3;cases h4 with
 | fnc f fs cs fl cl e1 e2 r1 r2 =>
  have hfs:fs=#[]:=Array.eq_empty_of_size_eq_zero (by simpa using e1)
  have hcs:cs=#[cs.getD 0 Go.undef]:=by
   apply Array.ext (by simpa using e2)
   intro i hi1 hi2;have:i=0:=by simp at hi2; exact hi2
   subst this;simp [Array.getD_eq_getD_getElem?,hi1]
  have h5:RelP M (cs.getD 0 Go.undef) (.rptr (treeA t) 0):=r2 0 (by simp)
  generalize cs.getD 0 Go.undef=p at h5 hcs;cases h5 with
  | rptr B o j x vs hm hr =>
   have h6:=hm 0 Nat.zero_lt_one;have h7:RelP M (vs 0) (.rof t.length (fun k=>twigA (t.getD k twigD)) false):=hr 0 Nat.zero_lt_one
   rcases ROf.ofRof h7 with ⟨h8,_⟩|⟨_,B2,o2,cap,sz,vals2,h8,_,_,_,hz,hm2,hr2⟩
   ·omega
   ·have hsz:sz=6:=(hz 0 ht).symm;subst hsz;refine ⟨B,o,B2,o2,cap,by rw [hv,hfs,hcs]; rfl,by rw [<- h8]; exact h6,fun i hi=>?_⟩
    rw [hm2 i 5 hi (by omega)]
    have h9:RelP M (vals2 i 5) (.int .i64 (t.getD i twigD).line):=hr2 i 5 hi (by omega)
    generalize vals2 i 5=u at h9;cases h9;rfl
end Go.Proofs.YtlnpgnipocbfhaaGreatDoor
namespace Go.Proofs
open Go.Shelf
shelf_lay_g SlLaysF.n6 Slsf 6 at Tryz 164 as Tryz.sortL
end Go.Proofs
namespace Go.Proofs.YtlnpgnipocbfhaaGreatDoor
open Pw Go
set_option maxRecDepth 100000
noncomputable def pdqT (t:List TwigG) (l:List Int) (h:l≠[]):Array (SA l) :=
 haveI:Inhabited (SA l):=⟨⟨l.head h,List.head_mem h⟩⟩
 Go.Sort.pdq (ltOf (cfT t l)) l.attach.toArray 0 l.attach.toArray.size (Lib.bitLen l.attach.toArray.size) true true
noncomputable def sortT (t:List TwigG) (l:List Int):List Int:=if h:l≠[] then (pdqT t l h).toList.map (·.1) else []
theorem pdq_spec {t : List TwigG} {l : List Int} (h : okL t l = true) (hl : l ≠ []) :
    (pdqT t l hl).size = l.length /\ (pdqT t l hl).toList.Perm l.attach /\ ∀ (i j : Nat) (hi : i < (pdqT t l hl).size) (hj : j < (pdqT t l hl).size), i < j -> lnG t (pdqT t l hl)[i].1 <= lnG t (pdqT t l hl)[j].1 := by
  letI : Inhabited (SA l) := ⟨⟨l.head hl, List.head_mem hl⟩⟩
  obtain ⟨⟨h1, h2, h3⟩, h4⟩ := Go.Sort.pdq_sorts (ltOf (cfT t l)) (cfT_swo h) l.attach.toArray 0 l.attach.toArray.size (Lib.bitLen l.attach.toArray.size) true true (Nat.zero_le _) (Nat.le_refl _) (Or.inl rfl)
  change (pdqT t l hl).size = _ at h1
  change ((pdqT t l hl).extract 0 _).toList.Perm _ at h3
  change Go.Sort.SortedIn _ _ _ (pdqT t l hl) at h4
  have h5 : (pdqT t l hl).size = l.length := by rw [h1]; simp
  refine ⟨h5, ?_, fun i j hi hj hij => ?_⟩
  · rw [<- h1] at h3
    have h9 : (pdqT t l hl).toList.Perm (List.take (pdqT t l hl).size l.attach) := by simpa using h3
    rwa [List.take_of_length_le (by rw [h5]; simp)] at h9
  · have h6 := h4 i j (Nat.zero_le _) hij (by rw [<- h1]; exact hj)
    rw [cfT_lt h] at h6
    have h7 : (pdqT t l hl)[i]! = (pdqT t l hl)[i] := getElem!_pos (pdqT t l hl) i hi
    have h8 : (pdqT t l hl)[j]! = (pdqT t l hl)[j] := getElem!_pos (pdqT t l hl) j hj
    rw [h7, h8] at h6
    have := of_decide_eq_false h6
    omega
theorem sort_len {t:List TwigG} {l:List Int} (h:okL t l=true):(sortT t l).length=l.length:=by
 unfold sortT;split
 ·rename_i hl;have:=(pdq_spec h hl).1;simpa using this
 ·rename_i hl;have:l=[]:=Classical.not_not.1 hl;rw [this]
theorem sort_perm {t:List TwigG} {l:List Int} (h:okL t l=true):(sortT t l).Perm l:=by
 unfold sortT;split
 ·rename_i hl;have h1:=(pdq_spec h hl).2.1.map (·.1);have h2:l.attach.map (·.1)=l:=List.attach_map_subtype_val l;rw [h2] at h1;exact h1
 ·rename_i hl;have:l=[]:=Classical.not_not.1 hl;rw [this]
theorem sort_asc {t:List TwigG} {l:List Int} (h:okL t l=true) (i j:Nat) (hij:i<j) (hj:j<l.length):lnG t ((sortT t l).getD i 0)<=lnG t ((sortT t l).getD j 0):=by
 unfold sortT;split
 ·rename_i hl;obtain ⟨h1,_,h3⟩:=pdq_spec h hl;have hi':i<(pdqT t l hl).size:=by omega
  have hj':j<(pdqT t l hl).size:=by omega
  have:=h3 i j hi' hj' hij;simpa [List.getD_eq_getElem?_getD,hi',hj'] using this
 ·rename_i hl;have:l=[]:=Classical.not_not.1 hl;rw [this] at hj;simp at hj
theorem eg65:∀ args w,(callFunc 165 args).run Tryz.prog w=.ok (.enter 165 args) w:=enters_of Tryz.func165 (by kernel_rfl) rfl
theorem fnOK64:FnOK Tryz.prog 164:=⟨Tryz.f164,Tryz.func164,by kernel_rfl,by kernel_rfl⟩
theorem sort_row (t:List TwigG) (l:List Int) (h:okL t l=true) (hlen:l.length<=1000000):RowF Tryz.prog gU 164 [.fn (.func 165) [] [.rptr (treeA t) 0]] l (sortT t l):=by
 refine ⟨sort_len h,fun M W vals hG hM hA=>⟨fnOK64,fun hl p cap=>?_,fun B o csz cap hl hrow=>?_⟩⟩
 ·obtain ⟨hs,hv⟩:=hA;have hv':vals=#[vals.getD 0 Go.undef]:=by
   apply Array.ext (by simpa using hs)
   intro i hi1 hi2;have:i=0:=by simp at hi2; exact hi2
   subst this;simp [Array.getD_eq_getD_getElem?,hi1]
  rw [hv'];exact AnyF.slices_SortFunc_none (P:=Tryz.prog) (ρ:=Tryz.sortL_ren) { Tryz.sortL with } p cap _ W
 ·have ht:0<t.length:=by
   obtain ⟨k,hk⟩:=List.exists_mem_of_ne_nil l hl;have:=okL_at h hk;omega
  obtain ⟨B1,o1,B2,o2,cap2,rfl,hm1,hm2⟩:=cb_of hA ht
  letI:Inhabited (SA l):=⟨⟨l.head hl,List.head_mem hl⟩⟩
  have hsz:l.attach.toArray.size=l.length:=by simp
  obtain ⟨c,e,r1,r2,r3,r4,r5⟩:=hrow;have hH:Go.Sort.Holds (encS l) W B o l.attach.toArray:=fun j hj=>by
   have hj':j<l.length:=by omega
   have hc:=r5 j hj';have he:encS l (l.attach.toArray[j]!)=.int .i64 (l.getD j 0):=by
    rw [getElem!_pos l.attach.toArray j hj];simp [encS,List.getD,hj']
   refine ⟨?_,?_⟩
   ·rw [he];simp only [World.cell?,r1];exact hc
   ·simp [World.frozen?,r1]
  have hcmp:CmpReads Tryz.prog 165 #[.pointer (some ⟨B1,o1,none⟩)] (encS l) (cfT t l) B o l.attach.toArray.size W:=fun m os dk hdk x y=>by
   have hM':MemOK M (sortWorld (encS l) W B o m dk os):=sortWorld_mem (encS l) o m dk os hM r4;have hx:=okL_at h x.2;have hy:=okL_at h y.2
   have:=cmp65 B2 o2 cap2 t.length B1 o1 (sortWorld (encS l) W B o m dk os) (fun k=>(t.getD k twigD).line) (hM' _ _ _ hm1).1 (fun k hk=>(hM' _ _ _ (hm2 k hk)).1) x.1.toNat y.1.toNat (by omega) (by omega)
   rw [show ((x.1.toNat:Nat):Int)=x.1 by omega,show ((y.1.toNat:Nat):Int)=y.1 by omega] at this
   exact this
  have hS:=Any.slices_SortFunc_eq Tryz.sortL (encS l) (fun _=>rfl) (cfT t l) (cfT_swo h) 165 #[.pointer (some ⟨B1,o1,none⟩)] B o cap l.attach.toArray W eg65 hcmp.lays hH (heap_lt r1) (by omega)
  change Calls Tryz.prog 164 _ _ _ at hS
  rw [hsz] at hS;refine hS.mono fun ee W' ⟨h1,n,os,h2⟩=>⟨h1,?_⟩
  have hsp:=pdq_spec h hl;have h3:W'=sortWorld (encS l) W B o n (pdqT t l hl) os:=by rw [h2,pdqT,hsz]
  subst h3;refine ⟨sortWorld_mem (encS l) o n _ os hM r4,sortWorld_keep _ _ _ _ _ _ _,sortWorld_row (encS l) n _ os ⟨c,e,r1,r2,r3,r4,r5⟩ (sort_len h) hsp.1 fun j hj=>?_⟩
  have hj':j<(pdqT t l hl).size:=by omega
  rw [getElem!_pos (pdqT t l hl) j hj',sortT,dif_pos hl];simp [encS,List.getD_eq_getElem?_getD,hj']
end Go.Proofs.YtlnpgnipocbfhaaGreatDoor
