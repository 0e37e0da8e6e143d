/- TREES, facts 5: the document's trees and lines are the program's. -/
import Derived.Test.YtlnpgnipocbfhaaNMA
import Derived.Test.YtlnpgnipocbfhaaNB1
namespace Go.Proofs.Ytlnpgnipocbfhaa
open Pw Go
set_option maxRecDepth 100000
set_option linter.unusedSimpArgs false
theorem lastFold (t:List TwigG) (s:SlotG):∀ (ks:List Int) (z:Int),
  (ks.foldl (fun z k=>if (t.getD k.toNat twigD).slot=s then k else z) z=z∧∀ k∈ks,(t.getD k.toNat twigD).slot≠s) ∨
  (ks.foldl (fun z k=>if (t.getD k.toNat twigD).slot=s then k else z) z∈ks∧(t.getD (ks.foldl (fun z k=>if (t.getD k.toNat twigD).slot=s then k else z) z).toNat twigD).slot=s)
 | [],z=>.inl ⟨rfl,fun _ h=>by cases h⟩
 | k::ks,z=>by
  rw [List.foldl_cons]
  by_cases h:(t.getD k.toNat twigD).slot=s
  ·rw [if_pos h]
   rcases lastFold t s ks k with ⟨h1,h2⟩|⟨h1,h2⟩
   ·refine .inr ⟨?_,?_⟩
    ·rw [h1]
     exact List.mem_cons_self
    ·rw [h1]
     exact h
   ·exact .inr ⟨List.mem_cons_of_mem _ h1,h2⟩
  ·rw [if_neg h]
   rcases lastFold t s ks z with ⟨h1,h2⟩|⟨h1,h2⟩
   ·refine .inl ⟨h1,fun q hq=>?_⟩
    rcases List.mem_cons.1 hq with rfl|hq
    ·exact h
    ·exact h2 q hq
   ·exact .inr ⟨List.mem_cons_of_mem _ h1,h2⟩
theorem stepR_eq {t:List TwigG} {a:Nat} {s:SlotG} (h:Trie t) (ha:a<t.length) (hs:rightS s):stepR (t,a) s=stepSlot (t,a) s:=by
 unfold stepR stepSlot
 dsimp only
 rcases lastFold t s (t.getD a twigD).kids (-1) with ⟨h1,h2⟩|⟨h1,h2⟩
 ·change lastKid t (t.getD a twigD).kids s=-1 at h1
  rw [h1,if_pos (by omega)]
  split
  ·rename_i k hk
   have h3:keyL (t.getD k.toNat twigD).slot=keyL s:=by simpa using List.find?_some hk
   exact (h2 k (findKid_mem hk) (keyL_inj (h.right _) hs h3)).elim
  ·rfl
 ·change lastKid t (t.getD a twigD).kids s∈_ at h1
  change (t.getD (lastKid t (t.getD a twigD).kids s).toNat twigD).slot=s at h2
  generalize lastKid t (t.getD a twigD).kids s=z at *
  have h3:=h.kid a ha z h1
  rw [if_neg (by omega)]
  split
  ·rename_i k hk
   have h4:keyL (t.getD k.toNat twigD).slot=keyL s:=by simpa using List.find?_some hk
   have h5:=keyL_inj (h.right _) hs h4
   have h6:=h.one a ha k (findKid_mem hk) z h1 (by rw [h5,h2])
   rw [h6]
  ·rename_i hn
   have:=List.find?_eq_none.1 hn z h1
   rw [h2] at this
   simp at this
theorem foldR_eq:∀ (l:List SlotG) {t:List TwigG} {a:Nat},Trie t→a<t.length→(∀ s∈l,rightS s)→l.foldl stepR (t,a)=l.foldl stepSlot (t,a)
 | [],_,_,_,_,_=>rfl
 | s::l,t,a,h,ha,hs=>by
  rw [List.foldl_cons,List.foldl_cons,stepR_eq h ha (hs s List.mem_cons_self)]
  obtain ⟨h1,h2,_⟩:=step_trie h ha (hs s List.mem_cons_self)
  exact foldR_eq l (t:=(stepSlot (t,a) s).1) (a:=(stepSlot (t,a) s).2) h1 h2 fun x hx=>hs x (List.mem_cons_of_mem _ hx)
theorem rT_eq {ls:List (List SlotG)}:∀ {n:Nat} {t:List TwigG},(∀ j,j<n→∀ s∈ls.getD j [],rightS s)→trN ls n=some t→rT ls n=t
 | 0,t,_,h=>by
  cases h
  rfl
 | n+1,t,hr,h=>by
  change (match trN ls n with|none=>none|some t=>addLine t (ls.getD n []) n)=some t at h
  cases h1:trN ls n with
  | none=>rw [h1] at h; cases h
  | some t0 =>
   rw [h1] at h
   have h2:=rT_eq (fun j hj=>hr j (by omega)) h1
   have m:=trN_made (fun j hj=>hr j (by omega)) h1
   have h3:=foldR_eq (ls.getD n []) m.trie (a:=0) (by have:=m.trie.pos; omega) (hr n (by omega))
   change addLine t0 (ls.getD n []) n=some t at h
   unfold addLine at h
   split at h
   ·cases h
   ·cases h
    show endTwig ((ls.getD n []).foldl stepR (rT ls n,0)).1 ((ls.getD n []).foldl stepR (rT ls n,0)).2 n=_
    rw [h2,h3]
theorem rof_of {ls:List (List SlotG)} {t:List TwigG} (h:ofT ls=(t,0)):rofT ls=(t,0):=by
 obtain ⟨h1,h2,h3,h4,h5⟩:=ofT_ok (ls:=ls) (by rw [h])
 rw [h] at h5
 have hr:∀ j,j<ls.length→∀ s∈ls.getD j [],rightS s:=fun j hj s hs=>(chk_right (h4 j hj)).2.2 s hs
 have hd:=trN_one hr h5
 have hc:rcheckE ls=0:=by
  unfold rcheckE
  have hlong:longB ls=false:=by
   unfold longB
   rw [List.any_eq_false]
   intro l hl
   obtain ⟨i,hi,e⟩:=List.getElem_of_mem hl
   have:=h3 i hi
   have e2:ls.getD i []=l:=by simp [List.getD,hi,e]
   rw [e2] at this
   simp
   omega
  rw [if_neg (fun h=>by
   rcases h with h|h|h
   ·omega
   ·omega
   ·rw [hlong] at h
    cases h),find_none' (d:=[]) fun j hj=>decide_eq_false fun e=>e (h4 j hj)]
  dsimp only
  rw [if_pos]
  refine List.all_eq_true.2 fun i hi=>List.all_eq_true.2 fun k hk=>decide_eq_true fun e=>?_
  exact hd k i (by simpa using hk) (by simpa using hi) e.symm
 unfold rofT
 rw [if_pos hc,rT_eq hr h5]
theorem of_rof {ls:List (List SlotG)} {t:List TwigG} (h:rofT ls=(t,0)):ofT ls=(t,0):=by
 have hc:rcheckE ls=0:=by
  unfold rofT at h
  split at h
  ·assumption
  ·simp only [Prod.mk.injEq] at h
   exact h.2
 have hc':=hc
 unfold rcheckE at hc
 split at hc
 ·cases hc
 rename_i h1
 split at hc
 ·rename_i l hl
  have:=List.find?_some hl
  simp only [decide_eq_true_eq] at this
  exact absurd hc this
 rename_i hl
 split at hc
 case isFalse=>cases hc
 rename_i h2
 obtain ⟨t',ht'⟩:=ofT_some (ls:=ls) (by omega) (by omega) (fun l hl2=>by
  rcases Nat.lt_or_ge 12 l.length with h3|h3
  ·exact (h1 (.inr (.inr (List.any_eq_true.2 ⟨l,hl2,decide_eq_true h3⟩)))).elim
  ·exact h3) (fun l hl2=>by
  have:=List.find?_eq_none.1 hl l hl2
  simpa using this) (fun i j hij hj e=>by
  have h3:=List.all_eq_true.1 (List.all_eq_true.1 h2 j (by simpa using hj)) i (by simpa using hij)
  exact of_decide_eq_true h3 e.symm)
 have h3:=rof_of ht'
 rw [h] at h3
 rw [ht',h3]
theorem nE_ends (t:List TwigG):∀ n,nE t n=(endsN t n).length
 | 0=>rfl
 | n+1=>by
  unfold nE endsN
  rw [nE_ends t n]
  split <;> simp
theorem atK_mem {t:List TwigG} {k:Int}:∀ {j i:Nat},atK t j k=some i→i<j∧(t.getD i twigD).line=k
 | 0,_,h=>by cases h
 | j+1,i,h=>by
  change (if _ then _ else _)=_ at h
  split at h
  ·rename_i h1
   cases h
   exact ⟨by omega,h1⟩
  ·have:=atK_mem h
   exact ⟨by omega,this.2⟩
theorem atK_has {t:List TwigG} {k:Int}:∀ {j i:Nat},i<j→(t.getD i twigD).line=k→∃ q,atK t j k=some q
 | 0,_,h,_=>by omega
 | j+1,i,h,e=>by
  by_cases h1:(t.getD j twigD).line=k
  ·exact ⟨j,atK_hit h1⟩
  ·rw [atK_skip h1]
   have:i≠j:=fun h2=>by
    subst h2
    exact h1 e
   exact atK_has (by omega) e
theorem Made.of_line {ls:List (List SlotG)} {n:Nat} {t:List TwigG} (h:Made ls n t) {i:Nat} (hi:i<t.length) (h0:0≤(t.getD i twigD).line):(t.getD i twigD).ends=true∧∃ j,j<n∧(t.getD i twigD).line=j∧upL t i=ls.getD j []:=by
 have he:(t.getD i twigD).ends=true:=by
  cases he:(t.getD i twigD).ends with
  | true=>rfl
  | false =>
   have:=h.off i hi he
   omega
 exact ⟨he,h.on i hi he⟩
theorem Made.line_one {ls:List (List SlotG)} {n:Nat} {t:List TwigG} (h:Made ls n t) {i j:Nat} (hi:i<t.length) (hj:j<t.length) (h0:0≤(t.getD i twigD).line) (e:(t.getD i twigD).line=(t.getD j twigD).line):i=j:=by
 obtain ⟨_,a,_,a2,a3⟩:=h.of_line hi h0
 obtain ⟨_,b,_,b2,b3⟩:=h.of_line hj (by omega)
 have:a=b:=by omega
 subst this
 exact upL_inj h.trie (i+1) i j (by omega) hi hj (by rw [a3,b3])
theorem made_two {ls:List (List SlotG)} {t:List TwigG} (h:ofT ls=(t,0)):2≤t.length:=by
 obtain ⟨hm,_,_,_,hl1⟩:=ofT_made h
 obtain ⟨_,_,_,h4,_⟩:=ofT_ok (ls:=ls) (by rw [h])
 obtain ⟨e,e1,_,_,e4⟩:=hm.at_ 0 (by omega)
 rcases Nat.eq_zero_or_pos e with rfl|h0
 ·have h5:upL t ((0:Nat):Int)=[]:=rfl
  rw [h5] at e4
  exact ((chk_right (h4 0 (by omega))).1 e4.symm).elim
 ·omega
theorem made_n {ls:List (List SlotG)} {t:List TwigG} (h:ofT ls=(t,0)):nE t t.length=ls.length:=by
 obtain ⟨hm,_,_,hl,_⟩:=ofT_made h
 obtain ⟨h1,_,_⟩:=made_sorted hm (by omega)
 rw [nE_ends,← h1]
 exact (sort_len (okL_ends (hm.lineIn (by omega)) hm.okN)).symm
theorem made_linesD {ls:List (List SlotG)} {t:List TwigG} (h:ofT ls=(t,0)):linesD t=(ls,true):=by
 obtain ⟨hm,htl,_,hl,_⟩:=ofT_made h
 have h2:=made_two h
 unfold linesD
 rw [if_neg (by omega),made_n h,if_pos,if_pos]
 ·refine Prod.ext ?_ rfl
  refine List.ext_getElem (by simp) fun k k1 k2=>?_
  have e2:ls.getD k []=ls[k]:=by simp [List.getD,k2]
  rw [List.getElem_map,List.getElem_range,← e2]
  obtain ⟨e,e1,_,e3,_⟩:=hm.at_ k k2
  obtain ⟨q,hq⟩:=atK_has (j:=t.length) e1 e3
  obtain ⟨q1,q2⟩:=atK_mem hq
  obtain ⟨_,j,_,j2,j3⟩:=hm.of_line q1 (by omega)
  unfold outK
  rw [hq]
  dsimp only
  rw [j3]
  congr 1
  omega
 ·refine List.all_eq_true.2 fun j hj=>?_
  have hj:j<t.length:=by simpa using hj
  unfold fitK
  by_cases h0:(t.getD j twigD).line<0
  ·rw [decide_eq_true h0]
   rfl
  ·obtain ⟨_,a,a1,a2,_⟩:=hm.of_line hj (by omega)
   rw [decide_eq_true (show (t.getD j twigD).line<ls.length by omega)]
   have:seenK t j (t.getD j twigD).line=false:=by
    unfold seenK
    cases hq:atK t j (t.getD j twigD).line with
    | none=>rfl
    | some q =>
     obtain ⟨q1,q2⟩:=atK_mem hq
     have:=hm.line_one (i:=q) (j:=j) (by omega) hj (by omega) q2
     omega
   rw [this]
   simp
 ·refine List.all_eq_true.2 fun j hj=>?_
  have hj:j<t.length:=by simpa using hj
  unfold okR
  rw [hm.okN j hj,Bool.true_and]
  cases he:(t.getD j twigD).ends with
  | true =>
   obtain ⟨i,_,k,_⟩:=hm.on j hj he
   exact decide_eq_true (by omega)
  | false=>exact decide_eq_true (by have:=hm.off j hj he; omega)
theorem check_made {t:List TwigG} (h:checkE t=0):ofT (lnsE t)=(t,0):=by
 have h1:(linesE t).2.2=true:=by
  unfold checkE at h
  split at h
  ·assumption
  ·cases h
 unfold linesE at h1
 split at h1
 ·simp only [Bool.and_eq_true,beq_iff_eq,decide_eq_true_eq] at h1
  exact Prod.ext h1.2 h1.1
 ·cases h1
def checkD (t:List TwigG):Int:=if (linesD t).2=true then (if (rofT (linesD t).1).2≠0∨(rofT (linesD t).1).1≠t then 3 else 0) else 3
theorem checkD_eq (t:List TwigG):checkD t=checkE t:=by
 by_cases h:checkE t=0
 ·have h1:=check_made h
  rw [h]
  unfold checkD
  rw [made_linesD h1,if_pos rfl,rof_of h1,if_neg (by simp)]
 ·have h3:checkE t=3:=by
   unfold checkE at h ⊢
   split at h
   ·exact (h rfl).elim
   ·rename_i h1
    rw [if_neg h1]
  rw [h3]
  unfold checkD
  split
  ·rename_i h1
   split
   ·rfl
   ·rename_i h2
    exfalso
    have e:rofT (linesD t).1=(t,0):=Prod.ext (by
     rcases Decidable.em ((rofT (linesD t).1).1=t) with k|k
     ·exact k
     ·exact (h2 (.inr k)).elim) (by
     rcases Decidable.em ((rofT (linesD t).1).2=0) with k|k
     ·exact k
     ·exact (h2 (.inl k)).elim)
    exact h (made_check (of_rof e))
  ·rfl
theorem linesD_few {t:List TwigG} (hs:slotsP (fun s=>s.gds.length≤1000) t):∀ l∈(linesD t).1,fewS l=true:=by
 intro l hl
 unfold linesD at hl
 split at hl
 ·cases hl
 rename_i h1
 split at hl
 ·split at hl
  ·obtain ⟨k,_,rfl⟩:=List.mem_map.1 hl
   unfold outK
   cases hq:atK t t.length (k:Int) with
   | none=>rfl
   | some q=>exact upL_few hs (by have:=(atK_mem hq).1; omega)
  ·cases hl
 ·cases hl
end Go.Proofs.Ytlnpgnipocbfhaa
