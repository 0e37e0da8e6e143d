/- RUNS, atoms: conditions. -/
import Derived.Test.YtlnpgnipocbfhaaGreatDoorNL1
import Derived.Test.YtlnpgnipocbfhaaGreatDoorPwG5
namespace Go.Proofs.YtlnpgnipocbfhaaGreatDoor.Pd
open Pw Go
set_option maxRecDepth 100000
def opS (op c x:Int):Bool :=
 if op=1 then x==c else if op=2 then x !=c else if op=3 then decide (x<c) else if op=4 then decide (x<=c) else if op=5 then decide (x > c) else decide (x>=c)
def okOp (op:Int):Bool:=decide (1<=op)&&decide (op<=6)
noncomputable def E0:Env:=mkE Tryz.prog (tblOf []) fun _ _=>none
theorem holds1_vc (c x:Int) (r:Bool):(vcFun E0 20 191 [.agg [.int .i64 1,.int .i64 c],.int .i64 x] .nil 0 (retP 3 (.bool r))).sat=( (x==c)=r):=by
 kernel_rfl
theorem holds2_vc (c x:Int) (r:Bool):(vcFun E0 20 191 [.agg [.int .i64 2,.int .i64 c],.int .i64 x] .nil 0 (retP 3 (.bool r))).sat=( (x !=c)=r):=by
 kernel_rfl
theorem holds3_vc (c x:Int) (r:Bool):(vcFun E0 20 191 [.agg [.int .i64 3,.int .i64 c],.int .i64 x] .nil 0 (retP 3 (.bool r))).sat=( decide (x<c)=r):=by
 kernel_rfl
theorem holds4_vc (c x:Int) (r:Bool):(vcFun E0 20 191 [.agg [.int .i64 4,.int .i64 c],.int .i64 x] .nil 0 (retP 3 (.bool r))).sat=( decide (x<=c)=r):=by
 kernel_rfl
theorem holds5_vc (c x:Int) (r:Bool):(vcFun E0 20 191 [.agg [.int .i64 5,.int .i64 c],.int .i64 x] .nil 0 (retP 3 (.bool r))).sat=( decide (x > c)=r):=by
 kernel_rfl
theorem holds6_vc (c x:Int) (r:Bool):(vcFun E0 20 191 [.agg [.int .i64 6,.int .i64 c],.int .i64 x] .nil 0 (retP 3 (.bool r))).sat=( decide (x>=c)=r):=by
 kernel_rfl
theorem condR_vc (op c x:Int) (r:Bool) (e:Int):(vcFun E0 20 234 [.agg [.int .i64 op,.int .i64 c],.int .i64 x] .nil 0 (retP 3 (.tup [.bool r,.int .i64 e]))).sat=( VB (op==(1:Int)) ((x==c)=r/\(0:Int)=e/\True) (VB (op==(2:Int)) ((x !=c)=r/\(0:Int)=e/\True) (VB (op==(3:Int)) (decide (x<c)=r/\(0:Int)=e/\True) (VB (op==(4:Int)) (decide (x<=c)=r/\(0:Int)=e/\True) (VB (op==(5:Int)) (decide (x > c)=r/\(0:Int)=e/\True) (VB (op==(6:Int)) (decide (x>=c)=r/\(0:Int)=e/\True) (false=r/\(11:Int)=e/\True))))))):=by
 kernel_rfl
def cHolds:Ctr
 | [.agg [.int .i64 op,.int .i64 c],.int .i64 x]=>some (decide (1<=op/\op<=6),.bool (opS op c x))
 | _=>none
theorem holds1_ok (c x:Int):PureC Tryz.prog (fun _=>.undef) 191 [.agg [.int .i64 1,.int .i64 c],.int .i64 x] (.bool (opS 1 c x)) :=
 pure_vc (t:=tblOf []) (inv:=fun _ _=>none) (k:=20) (d:=3) mix (tbl_nil _) ((holds1_vc c x (opS 1 c x)).mpr (by simp [opS]))
theorem holds2_ok (c x:Int):PureC Tryz.prog (fun _=>.undef) 191 [.agg [.int .i64 2,.int .i64 c],.int .i64 x] (.bool (opS 2 c x)) :=
 pure_vc (t:=tblOf []) (inv:=fun _ _=>none) (k:=20) (d:=3) mix (tbl_nil _) ((holds2_vc c x (opS 2 c x)).mpr (by simp [opS]))
theorem holds3_ok (c x:Int):PureC Tryz.prog (fun _=>.undef) 191 [.agg [.int .i64 3,.int .i64 c],.int .i64 x] (.bool (opS 3 c x)) :=
 pure_vc (t:=tblOf []) (inv:=fun _ _=>none) (k:=20) (d:=3) mix (tbl_nil _) ((holds3_vc c x (opS 3 c x)).mpr (by simp [opS]))
theorem holds4_ok (c x:Int):PureC Tryz.prog (fun _=>.undef) 191 [.agg [.int .i64 4,.int .i64 c],.int .i64 x] (.bool (opS 4 c x)) :=
 pure_vc (t:=tblOf []) (inv:=fun _ _=>none) (k:=20) (d:=3) mix (tbl_nil _) ((holds4_vc c x (opS 4 c x)).mpr (by simp [opS]))
theorem holds5_ok (c x:Int):PureC Tryz.prog (fun _=>.undef) 191 [.agg [.int .i64 5,.int .i64 c],.int .i64 x] (.bool (opS 5 c x)) :=
 pure_vc (t:=tblOf []) (inv:=fun _ _=>none) (k:=20) (d:=3) mix (tbl_nil _) ((holds5_vc c x (opS 5 c x)).mpr (by simp [opS]))
theorem holds6_ok (c x:Int):PureC Tryz.prog (fun _=>.undef) 191 [.agg [.int .i64 6,.int .i64 c],.int .i64 x] (.bool (opS 6 c x)) :=
 pure_vc (t:=tblOf []) (inv:=fun _ _=>none) (k:=20) (d:=3) mix (tbl_nil _) ((holds6_vc c x (opS 6 c x)).mpr (by simp [opS]))
theorem holds_ok:PureF Tryz.prog 191 cHolds:=by
 intro args nd v h hnd;unfold cHolds at h;split at h <;> cases h
 rename_i op c x;have hl:=of_decide_eq_true hnd;have h6:op=1\/op=2\/op=3\/op=4\/op=5\/op=6:=by omega
 rcases h6 with rfl|rfl|rfl|rfl|rfl|rfl
 ·exact holds1_ok c x
 ·exact holds2_ok c x
 ·exact holds3_ok c x
 ·exact holds4_ok c x
 ·exact holds5_ok c x
 ·exact holds6_ok c x
def condE (op:Int):Int:=if okOp op=true then 0 else 11
def condS (op c x:Int):Bool:=okOp op&&opS op c x
def cCond:Ctr
 | [.agg [.int .i64 op,.int .i64 c],.int .i64 x]=>some (true,.tup [.bool (condS op c x),.int .i64 (condE op)])
 | _=>none
theorem condR_ok:PureF Tryz.prog 234 cCond:=by
 intro args nd v h hnd;unfold cCond at h;split at h <;> cases h
 rename_i op c x;refine pure_vc mix (tbl_nil _) ((condR_vc op c x _ _).mpr ?_)
 repeat' (first
  | (with_reducible refine VB_intro (fun h=>?_) (fun h=>?_) <;> try simp only [h,VB_t,VB_f,NB_t,Bool.not_true,Bool.not_false,Bool.true_and,Bool.false_and,Bool.and_true,Bool.and_false])
  | (with_reducible refine NB_intro' ?_ (fun h=>?_)))
 all_goals try simp only [isW_t,isW_f,impB_t,impB_f,beq_iff_eq,bne_iff_ne,Bool.not_eq_eq_eq_not,Bool.not_true,Bool.not_false,Bool.and_eq_true,Bool.and_eq_false_iff,Bool.or_eq_true,Bool.or_eq_false_iff,beq_eq_false_iff_ne,decide_eq_true_eq,decide_eq_false_iff_not,EqI] at *
 all_goals try simp (disch:=omega) only [wrap_i64_id,wrap_u64_id,Int.add_sub_cancel] at *
 all_goals try simp (disch:=omega) only [wrap_i64_id,wrap_u64_id,Int.add_sub_cancel] at *
 all_goals try simp (disch:=omega) only [wrap_i64_id,wrap_u64_id,Int.add_sub_cancel] at *
 all_goals try simp (disch:=omega) only [wrap_i64_id,wrap_u64_id,Int.add_sub_cancel] at *
 all_goals try grind (splits:=20) [condS,condE,okOp,opS]
def condsAV (n:Nat) (o v:Nat->Int):AV:=.rof n (fun i=>.agg [.int .i64 (o i),.int .i64 (v i)]) false
def opOf:AV->Int
 | .agg [.int _ n,_]=>n
 | _=>0
def valOf:AV->Int
 | .agg [_,.int _ n]=>n
 | _=>0
def isCond:AV->Bool
 | .agg [.int .i64 _,.int .i64 _]=>true
 | _=>false
def condsB (n:Nat) (f:Nat->AV):Bool:=(List.range n).all fun i=>isCond (f i)
theorem rof_cond_sub {n:Nat} {f:Nat->AV} {ex:Bool} (h:condsB n f=true):(AV.rof n f ex).sub (condsAV n (fun i=>opOf (f i)) (fun i=>valOf (f i))):=by
 refine ⟨rfl,fun i hi=>?_,by simp⟩
 have:=List.all_eq_true.1 h i (by simpa using hi)
 show (f i).sub (.agg [.int .i64 (opOf (f i)),.int .i64 (valOf (f i))])/\(f i).cells.length=2;generalize f i=x at this;unfold isCond at this;split at this
 ·exact ⟨⟨rfl,rfl,trivial⟩,rfl⟩
 ·cases this
def okAll (n:Nat) (o:Nat->Int):Bool:=(List.range n).all fun i=>okOp (o i)
def allS (n:Nat) (o v:Nat->Int) (x:Int):Bool:=(List.range n).all fun i=>opS (o i) (v i) x
theorem okAll_iff {n:Nat} {o:Nat->Int}:okAll n o=true ↔ ∀ i,i<n->okOp (o i)=true:=by simp [okAll]
theorem allS_iff {n:Nat} {o v:Nat->Int} {x:Int}:allS n o v x=true ↔ ∀ i,i<n->opS (o i) (v i) x=true:=by simp [allS]
def tbl1:List (Nat×Ctr):=[(191,cHolds),(234,cCond)]
theorem tbl1_ok:TblOK Tryz.prog (fun _=>.undef) (tblOf tbl1):=tbl_cons holds_ok (tbl_cons condR_ok (tbl_nil _))
def invAll (n:Nat) (o v:Nat->Int) (x:Int):Inv:=⟨Nat,1,fun i=>⟨[(1,.int .i64 x),(7,condsAV n o v),(8,.int .i64 n),(9,.int .i64 i)],[]⟩,fun i=>i<=n/\∀ j,j<i->opS (o j) (v j) x=true,fun i=>n - i⟩
def invAllR (n:Nat) (o v:Nat->Int) (x:Int):Inv:=⟨Nat,1,fun i=>⟨[(0,condsAV n o v),(1,.int .i64 x),(5,.int .i64 i)],[]⟩,fun i=>i<=n/\∀ j,j<i->opS (o j) (v j) x=true,fun i=>n - i⟩
theorem allI_vc (n:Nat) (o v:Nat->Int) (x:Int) (r:Bool):(vcFun (mkE Tryz.prog (tblOf tbl1) fun f b=>if f=160/\b=0 then some (invAll n o v x) else none) 20 160 [.rof n (fun i=>.agg [.int .i64 (o i),.int .i64 (v i)]) false,.int .i64 x] .nil 0 (retP 3 (.bool r))).sat=(let c0:=(n=n/\(∀ i:Nat,i<n->(o i=o i/\v i=v i/\True)/\[AV.int .i64 (o i),AV.int .i64 (v i)].length=[AV.int .i64 (o i),AV.int .i64 (v i)].length)/\(false=true->false=true))
 let c1:=fun i:Nat=> (i<=n/\∀ j:Nat,j<i->opS (o j) (v j) x=true)
 (∃ i:Nat,(c1 i)/\(x=x/\c0/\(n:Int)=(n:Int)/\(0:Int)=(i:Int)/\True)/\True)/\∀ i:Nat,(c1 i)->VB (decide ((i:Int)<(n:Int))) (NB (decide ((0:Int)<=(i:Int)/\(i:Int)<(n:Int))) (NB (decide ((1:Int)<=o (i:Int).toNat/\o (i:Int).toNat<=(6:Int))) (VB (!opS (o (i:Int).toNat) (v (i:Int).toNat) x) (false=r) (∃ i':Nat,(c1 i')/\(invAll n o v x).μ i'<(invAll n o v x).μ i/\(x=x/\c0/\(n:Int)=(n:Int)/\IntKind.i64.wrap ((i:Int)+(1:Int))=(i':Int)/\True)/\True)))) (true=r)):=by
 kernel_rfl
theorem allR_vc (n:Nat) (o v:Nat->Int) (x:Int) (r:Bool):(vcFun (mkE Tryz.prog (tblOf tbl1) fun f b=>if f=193/\b=0 then some (invAllR n o v x) else none) 20 193 [.rof n (fun i=>.agg [.int .i64 (o i),.int .i64 (v i)]) false,.int .i64 x] .nil 0 (retP 3 (.bool r))).sat=(let c0:=(n=n/\(∀ i:Nat,i<n->(o i=o i/\v i=v i/\True)/\[AV.int .i64 (o i),AV.int .i64 (v i)].length=[AV.int .i64 (o i),AV.int .i64 (v i)].length)/\(false=true->false=true))
 let c1:=fun i:Nat=> (i<=n/\∀ j:Nat,j<i->opS (o j) (v j) x=true)
 (∃ i:Nat,(c1 i)/\(c0/\x=x/\(0:Int)=(i:Int)/\True)/\True)/\∀ i:Nat,(c1 i)->VB (decide ((i:Int)<(n:Int))) (NB (decide ((0:Int)<=(i:Int)/\(i:Int)<(n:Int))) (VB (!condS (o (i:Int).toNat) (v (i:Int).toNat) x) (false=r) (∃ i':Nat,(c1 i')/\(invAllR n o v x).μ i'<(invAllR n o v x).μ i/\(c0/\x=x/\IntKind.i64.wrap ((i:Int)+(1:Int))=(i':Int)/\True)/\True))) (true=r)):=by
 kernel_rfl
def cAll:Ctr
 | [.rof n f _,.int .i64 x]=>some (decide (n<=1000000)&&condsB n f&&okAll n (fun i=>opOf (f i)),.bool (allS n (fun i=>opOf (f i)) (fun i=>valOf (f i)) x))
 | _=>none
theorem allI_pure (n:Nat) (o v:Nat->Int) (x:Int) (hn:n<=1000000) (hok:okAll n o=true):PureC Tryz.prog (fun _=>.undef) 160 [condsAV n o v,.int .i64 x] (.bool (allS n o v x)):=by
 refine pure_vc mix tbl1_ok ((allI_vc n o v x _).mpr ?_);have hs:=allS_iff (n:=n) (o:=o) (v:=v) (x:=x);have ho:∀ i,i<n->1<=o i/\o i<=6:=fun i hi=>by simpa [okOp] using okAll_iff.1 hok i hi
 simp only [EqI,true_and,and_true,implies_true,Int.toNat_natCast,List.length_cons,List.length_nil];refine ⟨⟨0,by simp⟩,fun i hi=>?_⟩
 repeat' (first
  | (with_reducible refine VB_intro (fun h=>?_) (fun h=>?_) <;> try simp only [h,VB_t,VB_f,NB_t,Bool.not_true,Bool.not_false,Bool.true_and,Bool.false_and,Bool.and_true,Bool.and_false])
  | (with_reducible refine NB_intro' ?_ (fun h=>?_))
  | (with_reducible refine Exists.intro (i+1) ?_)
  | (with_reducible refine And.intro ?_ ?_))
 all_goals try simp only [invAll,isW_t,isW_f,impB_t,impB_f,beq_iff_eq,bne_iff_ne,Bool.not_eq_eq_eq_not,Bool.not_true,Bool.not_false,Bool.and_eq_true,Bool.and_eq_false_iff,Bool.or_eq_true,Bool.or_eq_false_iff,beq_eq_false_iff_ne,decide_eq_true_eq,decide_eq_false_iff_not,EqI,List.length_append,List.append_assoc] at *
 all_goals try simp (disch:=omega) only [wrap_i64_id,wrap_u64_id,Int.add_sub_cancel] at *
 all_goals try simp (disch:=omega) only [wrap_i64_id,wrap_u64_id,Int.add_sub_cancel] at *
 all_goals try omega
 all_goals try grind (splits:=20) [allS]
theorem allR_pure (n:Nat) (o v:Nat->Int) (x:Int) (hn:n<=1000000) (hok:okAll n o=true):PureC Tryz.prog (fun _=>.undef) 193 [condsAV n o v,.int .i64 x] (.bool (allS n o v x)):=by
 refine pure_vc mix tbl1_ok ((allR_vc n o v x _).mpr ?_);have hs:=allS_iff (n:=n) (o:=o) (v:=v) (x:=x);have ho:∀ i,i<n->okOp (o i)=true:=okAll_iff.1 hok
 have hc:∀ i,i<n->condS (o i) (v i) x=opS (o i) (v i) x:=fun i hi=>by simp [condS,ho i hi]
 simp only [EqI,true_and,and_true,implies_true,Int.toNat_natCast,List.length_cons,List.length_nil];refine ⟨⟨0,by simp⟩,fun i hi=>?_⟩
 repeat' (first
  | (with_reducible refine VB_intro (fun h=>?_) (fun h=>?_) <;> try simp only [h,VB_t,VB_f,NB_t,Bool.not_true,Bool.not_false,Bool.true_and,Bool.false_and,Bool.and_true,Bool.and_false])
  | (with_reducible refine NB_intro' ?_ (fun h=>?_))
  | (with_reducible refine Exists.intro (i+1) ?_)
  | (with_reducible refine And.intro ?_ ?_))
 all_goals try simp only [invAllR,isW_t,isW_f,impB_t,impB_f,beq_iff_eq,bne_iff_ne,Bool.not_eq_eq_eq_not,Bool.not_true,Bool.not_false,Bool.and_eq_true,Bool.and_eq_false_iff,Bool.or_eq_true,Bool.or_eq_false_iff,beq_eq_false_iff_ne,decide_eq_true_eq,decide_eq_false_iff_not,EqI,List.length_append,List.append_assoc] at *
 all_goals try simp (disch:=omega) only [wrap_i64_id,wrap_u64_id,Int.add_sub_cancel] at *
 all_goals try simp (disch:=omega) only [wrap_i64_id,wrap_u64_id,Int.add_sub_cancel] at *
 all_goals try omega
 all_goals try grind (splits:=20) [allS]
theorem condsB_agg (n:Nat) (o v:Nat->Int):condsB n (fun i=>.agg [.int .i64 (o i),.int .i64 (v i)])=true:=by simp [condsB,isCond]
theorem all_of {g:Nat} (h:∀ (n:Nat) (o v:Nat->Int) (x:Int),n<=1000000->okAll n o=true->PureC Tryz.prog (fun _=>.undef) g [condsAV n o v,.int .i64 x] (.bool (allS n o v x))):PureF Tryz.prog g cAll:=by
 intro args nd v he hnd;unfold cAll at he;split at he <;> cases he
 simp only [Bool.and_eq_true,decide_eq_true_eq] at hnd;rename_i n f ex x;refine PureC.args (args':=[condsAV n (fun i=>opOf (f i)) (fun i=>valOf (f i)),.int .i64 x]) rfl ?_ (h _ _ _ _ hnd.1.1 hnd.2)
 intro i hi
 match i,hi with
 | 0,_=>exact rof_cond_sub hnd.1.2
 | 1,_=>exact (show (AV.int .i64 x).sub (.int .i64 x) from rfl)
theorem opOf_agg (n v:Int):opOf (.agg [.int .i64 n,.int .i64 v])=n:=rfl
theorem valOf_agg (n v:Int):valOf (.agg [.int .i64 n,.int .i64 v])=v:=rfl
end Go.Proofs.YtlnpgnipocbfhaaGreatDoor.Pd
