/- ENGINE, part FA: iterators; bodies that are not known. -/
import Derived.Test.YtlnpgnipocbfhaaPwF10
namespace Pw
set_option linter.unusedSimpArgs false
open Go
section
variable {U:Base} {w0:World} {n:Nat} {ρ:Rho} {M:Mem} {tm:Nat→AV} {hp:Nat→Blk} {nx:Nat} {a:Act} {w:World}
structure Cov (U:Base) (w0:World) (n0:Nat) (ρ:Rho) (M:Mem) (hp:Nat→Blk) (mk:List Nat) (w:World) (C T:Nat→Prop):Prop where
 row:∀ b g sz pu s L,hp b=.row g sz pu s→ρ b g=some L→L.virt=false→C L.B
 loop:∀ b st r L,hp b=.loop st r→ρ b 0=some L→C L.B
 mem:∀ B i v,M B i=some v→n0≤B→C B∨T B
 ext:∀ b k on sp r,hp b=.loop (.abs k on sp) r→∃ C1 T1,AbsAt U w0 ρ M hp mk w b k on sp C1 T1∧(∀ B,C1 B→C B)∧sp.n0≤n0
 own:∀ B,C B→U.U B→w0.heap.size≤B
 marks:∀ r∈mk,¬ C r∧r<n0
 lt:∀ B,C B→B<w.heap.size
 nofam:∀ b d,hp b≠.fam d
theorem AbsAt.later {U w0 ρ M hp mk w w' b k on sp C T} (h:AbsAt U w0 ρ M hp mk w b k on sp C T) (hk:Keep (fun B=>C B∨T B∨B<sp.n0) w w'):AbsAt U w0 ρ M hp mk w' b k on sp C T :=
 ⟨h.stab,h.law,Nat.le_trans h.n0 hk.size,fun B hB=>Nat.lt_of_lt_of_le (h.lt B hB) hk.size,by
  have:=h.stab k C T w w' hk
  have hn:=h.now
  cases on
  ·exact this.2 hn
  ·exact this.1 hn,h.row,h.loop,h.only,h.me,h.mem,h.memB,h.tm,h.marks,h.own⟩
theorem SRel.stab (h:SRel U w0 n ρ M tm hp nx a w) {n0:Nat} {C T:Nat→Prop} (hc:Cov U w0 n0 ρ M hp (marksOf a.defers) w C T) (hn:w0.heap.size≤n0) {w':World} (hk:Keep (fun B=>C B∨T B∨B<n0) w w') :
  SRel U w0 n ρ M tm hp nx a w'∧Cov U w0 n0 ρ M hp (marksOf a.defers) w' C T:=by
 have hC:∀ B,C B→w'.heap[B]?=w.heap[B]?:=fun B hB=>hk.block B (.inl hB) (hc.lt B hB)
 have hM:∀ B i v,M B i=some v→w'.heap[B]?=w.heap[B]?:=fun B i v hv=>hk.block B (by
  rcases Nat.lt_or_ge B n0 with h1|h1
  ·exact .inr (.inr h1)
  ·rcases hc.mem B i v hv h1 with h2|h2
   ·exact .inl h2
   ·exact .inr (.inl h2)) (h.hok.mem_lt hv)
 have hext:∀ b k on sp r,hp b=.loop (.abs k on sp) r→∃ C1 T1,AbsAt U w0 ρ M hp (marksOf a.defers) w' b k on sp C1 T1∧(∀ B,C1 B→C B)∧sp.n0≤n0:=by
  intro b k on sp r e
  obtain ⟨C1,T1,h1,h2,h3⟩:=hc.ext b k on sp r e
  refine ⟨C1,T1,h1.later ⟨hk.os,hk.tape,hk.output,hk.size,fun B hB hlt=>?_⟩,h2,h3⟩
  rcases hB with h4|h4|h4
  ·exact hC B (h2 B h4)
  ·obtain ⟨i,v,h5⟩:=h1.tm B h4
   exact hM B i v h5
  ·exact hk.block B (.inr (.inr (by omega))) hlt
 refine ⟨⟨h.size,h.tm,⟨fun B i v hv=>?_,fun b g sz pu s e=>(h.hok.row b g sz pu s e).mono (RExt.refl ρ) (MExt.refl M) (fun L hL hv=>(h.rowBlk e hL hv).2) fun L hL hv _=>hC L.B (hc.row b g sz pu s L e hL hv),h.hok.inj,h.hok.gen,
   fun b st r e=>(h.hok.loop b st r e).mono (RExt.refl ρ) (MExt.refl M) fun L hL lp e2=>(hC L.B (hc.loop b st r L e hL)).trans e2,h.hok.linj⟩,h.dead,h.free,⟨hk.os.trans h.keep.os,hk.tape.trans h.keep.tape,hk.output.trans h.keep.output,Nat.le_trans h.keep.size hk.size,fun B hU hB=>?_⟩,
  h.memN,h.memE,h.own,h.nle,h.ownL,h.defers,⟨h.marks.1,fun r hr=>?_⟩,h.mown,h.nod,fun b k on sp r e=>?_,fun b d e=>absurd e (hc.nofam b d)⟩,hc.row,hc.loop,hc.mem,hext,hc.own,hc.marks,fun B hB=>Nat.lt_of_lt_of_le (hc.lt B hB) hk.size,hc.nofam⟩
 ·rw [cell_congr (hM B i v hv)]
  exact h.hok.mem B i v hv
 ·rw [hk.block B (.inr (.inr (Nat.lt_of_lt_of_le hB hn))) (Nat.lt_of_lt_of_le hB h.keep.size)]
  exact h.keep.block B hU hB
 ·rw [hk.block r (.inr (.inr (hc.marks r hr).2)) (heap_lt (h.marks.2 r hr))]
  exact h.marks.2 r hr
 ·obtain ⟨C1,T1,h1,_⟩:=hext b k on sp r e
  exact ⟨C1,T1,h1⟩
def memU (M Mx:Mem):Mem:=fun B i=>match M B i with|some v=>some v|none=>Mx B i
theorem memU_l (M Mx:Mem):MExt M (memU M Mx):=fun B i v h=>by simp [memU,h]
theorem memU_r {M Mx:Mem} {w:World} (h1:MemOK M w) (h2:MemOK Mx w):MExt Mx (memU M Mx):=fun B i v h=>by
 unfold memU
 cases e:M B i with
 | none=>exact h
 | some u =>
  have:=(h1 B i u e).1
  rw [(h2 B i v h).1] at this
  exact this.symm
theorem memU_inv {M Mx:Mem} {B i:Nat} {v:Value} (h:memU M Mx B i=some v):M B i=some v∨(M B i=none∧Mx B i=some v):=by
 unfold memU at h
 cases e:M B i with
 | none=>rw [e] at h; exact .inr ⟨rfl,h⟩
 | some u=>rw [e] at h; exact .inl h
theorem SRel.rebase (h:SRel U w0 n ρ M tm hp nx a w) {n0:Nat} {C T:Nat→Prop} (hc:Cov U w0 n0 ρ M hp (marksOf a.defers) w C T) {Mx:Mem} (hx:MemOK Mx w) (hxC:∀ B i v,Mx B i=some v→¬ C B) (hxM:∀ B i v,Mx B i=some v→B<n0→M B i=some v) :
  SRel ⟨fun B=>¬ C B,memU M Mx,false,false⟩ w n ρ (memU M Mx) tm hp nx a w:=by
 have hl:=memU_l M Mx
 refine ⟨h.size,fun t=>(h.tm t).mono (RExt.refl ρ) hl,⟨fun B i v hv=>?_,fun b g sz pu s e=>(h.hok.row b g sz pu s e).mono (RExt.refl ρ) hl (fun L hL hv i v hm=>?_) fun _ _ _ _=>rfl,h.hok.inj,h.hok.gen,
   fun b st r e=>(h.hok.loop b st r e).mono (RExt.refl ρ) hl fun _ _ _ e2=>e2,h.hok.linj⟩,h.dead,h.free,Keep.refl _ _,fun _ _ _ hv=>.inl hv,MExt.refl _,fun b g sz pu s L e hL hv hU=>absurd (hc.row b g sz pu s L e hL hv) hU,h.nle,fun b st r L e hL hU=>absurd (hc.loop b st r L e hL) hU,
  h.defers.mono (RExt.refl ρ) hl,h.marks,fun e=>(by cases e),fun e=>(by cases e),fun b k on sp r e=>?_,fun b d e=>absurd e (hc.nofam b d)⟩
 ·rcases memU_inv hv with h1|⟨_,h1⟩
  ·exact h.hok.mem B i v h1
  ·exact hx B i v h1
 ·rcases memU_inv hm with h1|⟨_,h1⟩
  ·exact (h.rowBlk e hL hv).2 i v h1
  ·exact hxC L.B i v h1 (hc.row b g sz pu s L e hL hv)
 ·obtain ⟨C1,T1,h1,h2,h3⟩:=hc.ext b k on sp r e
  refine ⟨C1,T1,h1.stab,h1.law,h1.n0,h1.lt,h1.now,h1.row,h1.loop,h1.only,h1.me,fun B i v hv=>?_,fun B i v hv hlt=>?_,fun B hB=>?_,h1.marks,fun B hB hU=>absurd (h2 B hB) hU⟩
  ·rcases memU_inv hv with h4|⟨_,h4⟩
   ·exact h1.mem B i v h4
   ·exact fun hC=>hxC B i v h4 (h2 B hC)
  ·rcases memU_inv hv with h4|⟨_,h4⟩
   ·exact h1.memB B i v h4 hlt
   ·exact h1.memB B i v (hxM B i v h4 (by omega)) hlt
  ·obtain ⟨i,v,h4⟩:=h1.tm B hB
   exact ⟨i,v,hl B i v h4⟩
theorem SRel.lift (h:SRel U w0 n ρ M tm hp nx a w) {n0:Nat} {C T:Nat→Prop} (hc:Cov U w0 n0 ρ M hp (marksOf a.defers) w C T) (hn:w0.heap.size≤n0) {Mx:Mem} (hxM:∀ B i v,Mx B i=some v→B<n0→M B i=some v) (hT:∀ B,T B→∃ i v,Mx B i=some v)
  {ρ':Rho} {M':Mem} {tm':Nat→AV} {hp':Nat→Blk} {nx':Nat} {w':World} (h':SRel ⟨fun B=>¬ C B,memU M Mx,false,false⟩ w n ρ' M' tm' hp' nx' a w') (habs:∀ b k on sp r,hp' b=.loop (.abs k on sp) r→∃ k0 on0 r0,hp b=.loop (.abs k0 on0 sp) r0) (hnf:∀ b d,hp' b≠.fam d) :
  SRel U w0 n ρ' M' tm' hp' nx' a w'∧Cov U w0 n0 ρ' M' hp' (marksOf a.defers) w' (fun B=>C B∨(w.heap.size≤B∧B<w'.heap.size)) (fun B=>∃ i v,Mx B i=some v):=by
 have hlow:∀ B,U.U B→B<w0.heap.size→¬ C B:=fun B hU hB hC=>by have:=hc.own B hC hU; omega
 have hle:=h.keep.size
 have big:∀ B,¬ C B∨C B:=fun B=>(Classical.em (C B)).symm
 have hext:∀ b k on sp r,hp' b=.loop (.abs k on sp) r→∃ C1 T1,AbsAt U w0 ρ' M' hp' (marksOf a.defers) w' b k on sp C1 T1∧(∀ B,C1 B→C B∨(w.heap.size≤B∧B<w'.heap.size))∧sp.n0≤n0:=by
  intro b k on sp r e
  obtain ⟨C1,T1,h1⟩:=h'.ext.1 b k on sp r e
  obtain ⟨k0,on0,r0,e0⟩:=habs b k on sp r e
  obtain ⟨_,_,_,_,h3⟩:=hc.ext b k0 on0 sp r0 e0
  refine ⟨C1,T1,⟨h1.stab,h1.law,h1.n0,h1.lt,h1.now,h1.row,h1.loop,h1.only,h1.me,h1.mem,h1.memB,h1.tm,h1.marks,fun B hB hU=>?_⟩,fun B hB=>?_,h3⟩
  ·rcases big B with h4|h4
   ·exact Nat.le_trans hle (h1.own B hB h4)
   ·exact hc.own B h4 hU
  ·rcases big B with h4|h4
   ·exact .inr ⟨h1.own B hB h4,h1.lt B hB⟩
   ·exact .inl h4
 refine ⟨⟨h'.size,h'.tm,h'.hok,h'.dead,h'.free,⟨h'.keep.os.trans h.keep.os,h'.keep.tape.trans h.keep.tape,h'.keep.output.trans h.keep.output,Nat.le_trans h.keep.size h'.keep.size,fun B hU hB=>?_⟩,fun B i v hv=>?_,(h.memE.trans (memU_l M Mx)).trans h'.memE,fun b g sz pu s L e hL hv hU=>?_,h'.nle,fun b st r L e hL hU=>?_,
  h'.defers,h'.marks,h.mown,h.nod,fun b k on sp r e=>?_,fun b d e=>absurd e (hnf b d)⟩,fun b g sz pu s L e hL hv=>?_,fun b st r L e hL=>?_,fun B i v hv hnB=>?_,hext,fun B hB hU=>?_,fun r hr=>⟨fun hC=>?_,(hc.marks r hr).2⟩,fun B hB=>?_,hnf⟩
 ·rw [h'.keep.block B (hlow B hU hB) (Nat.lt_of_lt_of_le hB hle)]
  exact h.keep.block B hU hB
 ·rcases h'.memN B i v hv with h1|h1|h1
  ·rcases memU_inv h1 with h2|⟨h2,h3⟩
   ·exact h.memN B i v h2
   ·refine .inr (.inl ?_)
    rcases Nat.lt_or_ge B n0 with h4|h4
    ·rw [hxM B i v h3 h4] at h2; cases h2
    ·omega
  ·exact .inr (.inl (Nat.le_trans hle h1))
  ·by_cases hU:U.U B
   ·exact .inr (.inl (hc.own B (Classical.not_not.1 h1) hU))
   ·exact .inr (.inr hU)
 ·rcases big L.B with h4|h4
  ·exact Nat.le_trans hle (h'.own b g sz pu s L e hL hv h4)
  ·exact hc.own L.B h4 hU
 ·rcases big L.B with h4|h4
  ·exact Nat.le_trans hle (h'.ownL b st r L e hL h4)
  ·exact hc.own L.B h4 hU
 ·obtain ⟨C1,T1,h1,_⟩:=hext b k on sp r e
  exact ⟨C1,T1,h1⟩
 ·rcases big L.B with h4|h4
  ·obtain ⟨⟨c,ee,h5⟩,_⟩:=h'.rowBlk e hL hv
   exact .inr ⟨h'.own b g sz pu s L e hL hv h4,heap_lt h5⟩
  ·exact .inl h4
 ·rcases big L.B with h4|h4
  ·obtain ⟨lp,h5⟩:=h'.loopBlk e hL
   exact .inr ⟨h'.ownL b st r L e hL h4,heap_lt h5⟩
  ·exact .inl h4
 ·rcases h'.memN B i v hv with h1|h1|h1
  ·rcases memU_inv h1 with h2|⟨_,h3⟩
   ·rcases hc.mem B i v h2 hnB with h4|h4
    ·exact .inl (.inl h4)
    ·exact .inr (hT B h4)
   ·exact .inr ⟨i,v,h3⟩
  ·exact .inl (.inr ⟨h1,h'.hok.mem_lt hv⟩)
  ·exact .inl (.inl (Classical.not_not.1 h1))
 ·rcases hB with h4|h4
  ·exact hc.own B h4 hU
  ·omega
 ·rcases hC with h4|h4
  ·exact (hc.marks r hr).1 h4
  ·have:=heap_lt (h.marks.2 r hr); omega
 ·rcases hB with h4|h4
  ·exact Nat.lt_of_lt_of_le (hc.lt B h4) h'.keep.size
  ·exact h4.2
theorem SRel.lt_size (h:SRel U w0 n ρ M tm hp nx a w) {b g sz pu s L} (e1:hp b=.row g sz pu s) (e2:ρ b g=some L) (e3:L.virt=false):L.B<w.heap.size:=by
 obtain ⟨⟨c,e,h1⟩,_⟩:=h.rowBlk e1 e2 e3
 exact heap_lt h1
theorem SRel.absStep (h:SRel U w0 n ρ M tm hp nx a w) {b k:Nat} {on:Bool} {sp:AbsS} {r:LoopB} {C T:Nat→Prop} (hb:hp b=.loop (.abs k on sp) r) (hC:AbsAt U w0 ρ M hp (marksOf a.defers) w b k on sp C T)
  {M':Mem} {w':World} {C' T':Nat→Prop} {k':Nat} {on':Bool} (hM:MExt M M') (hmem:MemOK M' w') (hnew:∀ B i v,M' B i=some v→M B i=some v∨(w.heap.size≤B∧¬ C' B)) (h1:∀ B,C' B→C B∨w.heap.size≤B)
  (hT:∀ B,T' B→∃ i v,M' B i=some v) (h2:C' sp.l) (h3:∀ B,C' B→B<w'.heap.size) (h4:Keep (fun B=>¬ C B) w w') (h5:∃ lp,w'.heap[sp.l]?=some (.loop lp)) (h6:bif on' then sp.Φ k' C' T' w' else sp.Ψ k' C' T' w') :
  SRel U w0 n ρ M' tm (updH hp b (.loop (.abs k' on' sp) r)) nx a w':=by
 have hrow:∀ b' g sz pu sq,updH hp b (.loop (.abs k' on' sp) r) b'=.row g sz pu sq→hp b'=.row g sz pu sq:=by
  intro b' g sz pu sq e
  simp only [updH] at e
  split at e
  ·cases e
  ·exact e
 have hloop:∀ b' st' r',updH hp b (.loop (.abs k' on' sp) r) b'=.loop st' r'→(b'=b∧st'=.abs k' on' sp)∨(b'≠b∧hp b'=.loop st' r'):=by
  intro b' st' r' e
  simp only [updH] at e
  split at e
  ·cases e; exact .inl ⟨‹_›,rfl⟩
  ·exact .inr ⟨‹_›,e⟩
 have hany:∀ b' st' r',updH hp b (.loop (.abs k' on' sp) r) b'=.loop st' r'→∃ st2 r2,hp b'=.loop st2 r2:=by
  intro b' st' r' e
  rcases hloop b' st' r' e with ⟨rfl,_⟩|⟨_,e⟩
  ·exact ⟨_,_,hb⟩
  ·exact ⟨_,_,e⟩
 have same:∀ B,¬ C B→B<w.heap.size→w'.heap[B]?=w.heap[B]?:=fun B hB hlt=>h4.block B hB hlt
 have notC':∀ B,¬ C B→B<w.heap.size→¬ C' B:=fun B hB hlt hc=>by
  rcases h1 B hc with h7|h7
  ·exact hB h7
  ·omega
 refine ⟨h.size,fun t=>(h.tm t).mono (RExt.refl ρ) hM,⟨hmem,fun b' g sz pu s e=>(h.hok.row b' g sz pu s (hrow _ _ _ _ _ e)).mono (RExt.refl ρ) hM (fun L hL hv i v hm=>?_) fun L hL hv hlt=>same _ (hC.row b' g sz pu s L (hrow _ _ _ _ _ e) hL hv).1 hlt,
   fun b1 b2 g1 g2 sz1 sz2 pu1 pu2 s1 s2 L1 L2 f1 f2=>h.hok.inj b1 b2 g1 g2 sz1 sz2 pu1 pu2 s1 s2 L1 L2 (hrow _ _ _ _ _ f1) (hrow _ _ _ _ _ f2),fun b' g sz pu sq e=>h.hok.gen b' g sz pu sq (hrow _ _ _ _ _ e),fun b' st' r' e=>?_,fun b1 b2 st1 st2 r1 r2 L1 L2 f1 f2=>?_⟩,
  fun b' hb'=>?_,h.free,⟨h4.os.trans h.keep.os,h4.tape.trans h.keep.tape,h4.output.trans h.keep.output,Nat.le_trans h.keep.size h4.size,fun B hU hB=>?_⟩,fun B i v hv=>?_,h.memE.trans hM,fun b' g sz pu sq L' e=>h.own b' g sz pu sq L' (hrow _ _ _ _ _ e),h.nle,fun b' st' r' L' e=>?_,
  h.defers.mono (RExt.refl ρ) hM,⟨h.marks.1,fun q hq=>?_⟩,h.mown,h.nod,fun b' k2 on2 sp2 r2 e=>?_,fun b' d e=>?_⟩
 case refine_10 =>
  simp only [updH] at e
  split at e
  ·cases e
  ·exact absurd hb ((h.ext.2 b' d e).1 b k on sp r)
 ·have hlt:=h.lt_size (hrow _ _ _ _ _ e) hL hv
  rcases hnew L.B i v hm with h7|h7
  ·exact (h.rowBlk (hrow _ _ _ _ _ e) hL hv).2 i v h7
  ·omega
 ·rcases hloop b' st' r' e with ⟨rfl,rfl⟩|⟨hne,e'⟩
  ·obtain ⟨L,_,_,_,_,e0,e1,e2,e3,_⟩:=(h.hok.loop b' _ r hb).absOK
   cases e0
   obtain ⟨lp,h7⟩:=h5
   exact .inr (.inr ⟨L,k',on',sp,lp,rfl,e1,e2,e3,by rw [e3]; exact h7⟩)
  ·exact (h.hok.loop b' st' r' e').mono (RExt.refl ρ) hM fun L hL lp e2=>(same L.B (hC.loop b' st' r' L hne e' hL).1 (heap_lt e2)).trans e2
 ·obtain ⟨_,_,f1'⟩:=hany _ _ _ f1
  obtain ⟨_,_,f2'⟩:=hany _ _ _ f2
  exact h.hok.linj b1 b2 _ _ _ _ L1 L2 f1' f2'
 ·simp only [updH]
  split
  ·subst b'
   have:=h.lt_nx (b:=b) (by rw [hb]; simp)
   omega
  ·exact h.dead b' hb'
 ·rw [same B (fun hc=>by have:=hC.own B hc hU; omega) (Nat.lt_of_lt_of_le hB h.keep.size)]
  exact h.keep.block B hU hB
 ·rcases hnew B i v hv with h7|⟨h7,_⟩
  ·exact h.memN B i v h7
  ·exact .inr (.inl (Nat.le_trans h.keep.size h7))
 ·obtain ⟨_,_,e'⟩:=hany _ _ _ e
  exact h.ownL b' _ _ L' e'
 ·rw [same q (hC.marks q hq).1 (heap_lt (h.marks.2 q hq))]
  exact h.marks.2 q hq
 ·rcases hloop b' _ r2 e with ⟨rfl,e1⟩|⟨hne,e'⟩
  ·cases e1
   refine ⟨C',T',hC.stab,hC.law,Nat.le_trans hC.n0 h4.size,h3,h6,fun b2 g sz pu s L f1 f2 f3=>?_,fun b2 st2 r3 L hne f1 f2=>?_,fun b2 k3 on3 sp3 r3 f1=>?_,h2,fun B i v hv=>?_,fun B i v hv hlt=>?_,hT,fun q hq=>?_,fun B hB hU=>?_⟩
   ·have f1':=hrow _ _ _ _ _ f1
    obtain ⟨h7,h8⟩:=hC.row b2 g sz pu s L f1' f2 f3
    exact ⟨notC' _ h7 (h.lt_size f1' f2 f3),h8⟩
   ·rcases hloop b2 st2 r3 f1 with ⟨h7,_⟩|⟨_,f1'⟩
    ·exact absurd h7 hne
    ·obtain ⟨h7,h8⟩:=hC.loop b2 st2 r3 L hne f1' f2
     obtain ⟨lp,h9⟩:=h.loopBlk f1' f2
     exact ⟨notC' _ h7 (heap_lt h9),h8⟩
   ·rcases hloop b2 _ r3 f1 with ⟨h7,_⟩|⟨_,f1'⟩
    ·exact h7
    ·exact hC.only b2 k3 on3 sp3 r3 f1'
   ·rcases hnew B i v hv with h7|⟨_,h7⟩
    ·exact notC' B (hC.mem B i v h7) (h.hok.mem_lt h7)
    ·exact h7
   ·rcases hnew B i v hv with h7|⟨h7,_⟩
    ·exact hC.memB B i v h7 hlt
    ·have:=hC.n0; omega
   ·obtain ⟨h7,h8⟩:=hC.marks q hq
    exact ⟨notC' q h7 (heap_lt (h.marks.2 q hq)),h8⟩
   ·rcases h1 B hB with h7|h7
    ·exact hC.own B h7 hU
    ·exact Nat.le_trans h.keep.size h7
  ·exact absurd (hC.only b' k2 on2 sp2 r2 e') hne
end
end Pw
namespace Pw
set_option linter.unusedSimpArgs false
open Go
theorem ArgsP.subL {M:Mem} {vals:Array Value} {l m:List AV} (h:ArgsP M vals l) (hs:AV.subL l m):ArgsP M vals m:=by
 obtain ⟨h1,h2⟩:=subL_at l m hs
 exact ⟨h.1.trans h1,fun i hi=>(h.2 i (by omega)).sub _ (h2 i hi)⟩
theorem gensAll_app {hp:Nat→Blk}:∀ {l m:List AV},gensAll hp (l++m)=true→gensAll hp l=true∧gensAll hp m=true
 | [],_,h=>⟨rfl,h⟩
 | x::l,m,h=>by
  simp only [List.cons_append,gensAll,Bool.and_eq_true] at h ⊢
  obtain ⟨h1,h2⟩:=gensAll_app h.2
  exact ⟨⟨h.1,h1⟩,h2⟩
theorem frz_args {ρ:Rho} {M:Mem} {w:World} {vals:Array Value} {args:List AV} (hA:ArgsRel ρ M vals args) {hp:Nat→Blk} (hok:HOK ρ M hp w) {M2:Mem} (hM:MExt M M2)
  (hrow:∀ b g sz pu s L,hp b=.row g sz pu s→ρ b g=some L→L.virt=false→∀ i v,w.cell? ⟨L.B,i,none⟩=some v→v.oneCell'=true→M2 L.B i=some v) (hg:gensAll hp args=true):ArgsP M2 vals (args.map (frzX 9 hp)):=by
 rw [frzX_map hg]
 refine ⟨by simpa using hA.1,fun i hi=>?_⟩
 have hi':i<args.length:=by simpa using hi
 have:=frz_rel hok hM hrow 9 _ _ (hA.2 i hi')
 simpa [List.getD_eq_getElem?_getD,hi'] using this
theorem spec_step {U:Base} {w0:World} {n:Nat} {ρ:Rho} {M:Mem} {hp:Nat→Blk} {nx:Nat} {a:Act} {w:World} (h0:SRel U w0 n ρ M (fun _=>.undef) hp nx a w) {n0:Nat} {C D:Nat→Prop} (hc:Cov U w0 n0 ρ M hp (marksOf a.defers) w C D) (hn:w0.heap.size≤n0)
  {Mx:Mem} (hxM:∀ B i v,Mx B i=some v→B<n0→M B i=some v) (hT:∀ B,D B→∃ i v,Mx B i=some v)
  {ρ':Rho} {M':Mem} {w':World} {hp':T Blk} {nx':Nat} (h':SRel ⟨fun B=>¬ C B,memU M Mx,false,false⟩ w n ρ' M' (fun _=>.undef) (fun b=>hp'.get .dead b) nx' a w') (habs:∀ b k on sp r,hp'.get .dead b=.loop (.abs k on sp) r→∃ k0 on0 r0,hp b=.loop (.abs k0 on0 sp) r0)
  {p:Spec} {nx2:Nat} (hmet:p.met nx2 ⟨.nil,hp',nx'⟩) {hpm:T Blk} {kp:List Nat} {ρ0:Rho} {M0:Mem} {wA:World} {nxm:Nat} (hL:∀ b st r,hpm.get .dead b=.loop st r→LoopOK ρ0 M0 wA b st r) (hk:keepOK hpm kp nx2 hp'=true) (hρ:RExt ρ0 ρ') (hM:MExt M0 M')
  (free0:∀ b g,nxm≤b→ρ0 b g=none) (hle:nxm≤nx2) (hnf:p.hp.all (fun q=>notFam q.2)=true) :
  ∃ ρ2,SRel U w0 n ρ2 M' (fun _=>.undef) (p.mkO nx2 hpm kp).hpf nx2 a w'∧Cov U w0 n0 ρ2 M' (p.mkO nx2 hpm kp).hpf (marksOf a.defers) w' (fun B=>C B∨(w.heap.size≤B∧B<w'.heap.size)) (fun B=>∃ i v,Mx B i=some v) ∧
   (∀ b g L,b<nx2→ρ' b g=some L→ρ2 b g=some L)∧(∀ b,b<nx'→hp'.get .dead b=.dead→(p.mkO nx2 hpm kp).hpf b=.dead)∧(∀ b g,b<nx'→b<nx2→ρ2 b g=ρ' b g) ∧
   (∀ b k on sp r,(p.mkO nx2 hpm kp).hpf b=.loop (.abs k on sp) r→∃ k0 on0 r0,hp'.get .dead b=.loop (.abs k0 on0 sp) r0):=by
 have hd:DfL ρ' M' a.defers []:=h'.defers
 obtain ⟨ρ2,m1,m2,m3,m4,m5⟩:=metO_sound (s:=⟨.nil,hp',nx'⟩) (s0:=⟨.nil,hpm,nxm⟩) h' hmet hL hk hρ hM free0 hle
 have m1':=m1.setTm (tm':=fun _=>.undef) (fun _=>.undef _) (DfL.nil hd)
 obtain ⟨k1,k2⟩:=h0.lift hc hn hxM hT m1' (fun b k on sp r e=>by
  obtain ⟨k0,on0,r0,e0⟩:=m5 b k on sp r e
  exact habs b k0 on0 sp r0 e0) (fun b d e=>by
   have e1:(p.mk' nx2).hpf b=.fam d:=by
    have hget:(p.mkO nx2 hpm kp).hpf b=if b∈kp then hpm.get .dead b else (p.mk' nx2).hpf b:=keepT_get hpm kp _ b
    rw [hget] at e
    split at e
    ·rename_i hbk
     have:=List.all_eq_true.1 hk b hbk
     simp only [Bool.and_eq_true] at this
     rw [e] at this
     exact absurd this.2 (by simp [loopSame])
    ·exact e
   rcases hpf_of_met hmet b with ⟨y,hy,e2⟩|e2
   ·rw [e1] at e2
    subst e2
    have:=List.all_eq_true.1 hnf _ hy
    cases this
   ·rw [e1] at e2; cases e2)
 exact ⟨ρ2,k1,k2,m2,m3,m4,m5⟩
def RndSt (U:Base) (w0:World) (n:Nat) (ρ1:Rho) (Mf:Mem) (hpm:T Blk) (nx1:Nat) (a:Act) (n0 l:Nat) (I:Inv) (kp:List Nat) (k:Nat) (C T:Nat→Prop) (W:World):Prop :=
 ∃ (i:I.ι) (ρ':Rho) (M':Mem),I.pre i∧I.μ i=k∧SRel U w0 n ρ' M' (fun _=>.undef) ((I.st i).mkO I.nx hpm kp).hpf I.nx a W∧Grow ρ1 ρ' (fun b=>hpm.get .dead b) ((I.st i).mkO I.nx hpm kp).hpf nx1 I.nx∧MExt Mf M' ∧
  Cov U w0 n0 ρ' M' ((I.st i).mkO I.nx hpm kp).hpf (marksOf a.defers) W C T∧C l∧n0≤W.heap.size
def RndOff (U:Base) (w0:World) (n:Nat) (ρ1:Rho) (Mf:Mem) (hpm:T Blk) (nx1:Nat) (a:Act) (n0 l:Nat) (K:T Blk→Nat→VT) (_:Nat) (C T:Nat→Prop) (W:World):Prop :=
 ∃ (ρ':Rho) (M':Mem) (hp':Pw.T Blk) (nx':Nat),(K hp' nx').sat∧SRel U w0 n ρ' M' (fun _=>.undef) (fun b=>hp'.get .dead b) nx' a W∧Grow ρ1 ρ' (fun b=>hpm.get .dead b) (fun b=>hp'.get .dead b) nx1 nx'∧MExt Mf M' ∧
  Cov U w0 n0 ρ' M' (fun b=>hp'.get .dead b) (marksOf a.defers) W C T∧C l∧n0≤W.heap.size
theorem rnd_stable {U w0 n ρ1 Mf} {hpm:T Blk} {nx1:Nat} {a:Act} {n0 l:Nat} {I:Inv} {kp:List Nat} {K:T Blk→Nat→VT} (hn:w0.heap.size≤n0) (P:Program) (len:Nat) (el:Nat→List AV) :
  AbsS.Stable ⟨P,l,len,el,n0,Mf,RndSt U w0 n ρ1 Mf hpm nx1 a n0 l I kp,RndOff U w0 n ρ1 Mf hpm nx1 a n0 l K⟩:=by
 intro k C T w w' hk
 refine ⟨?_,?_⟩
 ·rintro ⟨i,ρ',M',h1,h2,h3,h4,h5,h6,h7,h8⟩
  obtain ⟨k1,k2⟩:=h3.stab h6 hn hk
  exact ⟨i,ρ',M',h1,h2,k1,h4,h5,k2,h7,Nat.le_trans h8 hk.size⟩
 ·rintro ⟨ρ',M',hp',nx',h1,h3,h4,h5,h6,h7,h8⟩
  obtain ⟨k1,k2⟩:=h3.stab h6 hn hk
  exact ⟨ρ',M',hp',nx',h1,k1,h4,h5,k2,h7,Nat.le_trans h8 hk.size⟩
section
variable {E:Env} {call:CallH} (hc:CallS E.P E.gl call) (hitr:ItrOK E) {U:Base} {w0:World} {n:Nat} (hG:GlobOK U.M0 E.gl)
include hc hitr hG
omit hc hitr hG in
theorem noFams_get:∀ (t:T Blk) (b:Nat),noFams t=true→notFam (t.get .dead b)=true
 | .nil,b,_=>rfl
 | .node v l r,b,h=>by
  simp only [noFams,Bool.and_eq_true] at h
  simp only [T.get]
  split
  ·exact h.1
  ·split
   ·exact noFams_get l _ h.2.1
   ·exact noFams_get r _ h.2.2
theorem itrLoop_sound {ρ1:Rho} {M:Mem} {s:St} {hp1:T Blk} {nx1:Nat} {a1:Act} {w1:World} (h:SRel U w0 n ρ1 M s.tmf (fun b=>hp1.get .dead b) nx1 a1 w1) {b:Nat} {r:LoopB} (hb:hp1.get .dead b=.loop .ready r) {L:Loc} (hL:ρ1 b 0=some L)
  (hsame:∀ b',b'≠b→hp1.get .dead b'=s.hp.get .dead b') {gf:FuncId} {first cap:List AV} {fs cs:Array Value} (hf:ArgsRel ρ1 M fs first) (hcap:ArgsRel ρ1 M cs cap) {it:Itr} {I:Inv} (hit:E.itr gf (frzA s.hp (idsAll (first++cap)) first) (frzA s.hp (idsAll (first++cap)) cap)=some it)
  {K:T Blk→Nat→VT} (hs:(vcItrLoop call s first cap b it I hp1 nx1 K).sat) (hKl:∀ hp' nx',(K hp' nx').sat→∃ st r,hp'.get .dead b=.loop st r∧st.isRec=true) {Post:World→Prop}
  (hK:∀ ρ' M' (hp':T Blk) nx' w',Grow ρ1 ρ' (fun b=>hp1.get .dead b) (fun b=>hp'.get .dead b) nx1 nx'→MExt M M'→SRel U w0 n ρ' M' s.tmf (fun b=>hp'.get .dead b) nx' a1 w'→(K hp' nx').sat→Post w') :
  FnOK E.P gf∧Calls E.P gf (fs++#[.func (.yield L.B) #[] #[]]++cs) w1 fun e w'=>(∃ u,e=.returned u)∧Post w':=by
 unfold vcItrLoop at hs
 rw [forceLn_eq] at hs
 generalize hR:idsAll (first++cap)=R at hs hit
 simp only [VT.sat] at hs
 obtain ⟨hnd,hs⟩:=NB.inv hs
 simp only [Bool.and_eq_true,Bool.not_eq_true'] at hnd
 obtain ⟨⟨⟨⟨⟨hnd,hgens⟩,hrows⟩,hdf⟩,hbR⟩,hnofam⟩:=hnd
 have hbR':b ∉ R:=by simpa using hbR
 obtain ⟨hpm,hm1,hm2⟩:=maskK_eq R hp1 (fun hpm=>forceLn (loopIds hpm) fun kp=>itrIn call b it I nx1 K hpm kp)
 rw [hm1,forceLn_eq] at hs
 generalize hkpe:loopIds hpm=kp at hs
 simp only [itrIn,VT.sat] at hs
 obtain ⟨hkk,⟨i0,hi0,hmu0,hmet0⟩,hall1,hall2⟩:=NB.inv hs
 simp only [Bool.and_eq_true,decide_eq_true_eq] at hkk
 obtain ⟨⟨hle,hkeep⟩,hkb⟩:=hkk
 have hkb':b∈kp:=by simpa using hkb
 have hd0:dfL (s.tmf slotD)=[]:=by
  have:dfL (s.tm.get .undef slotD)=[]:=by simpa using hdf
  exact this
 obtain ⟨hext,hF⟩:=h.freeze R (hpm:=fun b=>hpm.get .dead b) hm2
 generalize hMf:memR w1 ρ1 M (fun b=>hp1.get .dead b) R=Mf at hext hF
 have hN:=hF.noTm hd0
 obtain ⟨C0,hC0⟩:∃ C0:Nat→Prop,∀ B,C0 B ↔ ((∃ b g sz pu s L,hpm.get .dead b=.row g sz pu s∧ρ1 b g=some L∧L.virt=false∧L.B=B)∨(∃ b st r L,hpm.get .dead b=.loop st r∧ρ1 b 0=some L∧L.B=B) ∨
   (∃ b k on sp r C1 T1,hpm.get .dead b=.loop (.abs k on sp) r∧AbsAt U w0 ρ1 Mf (fun b=>hpm.get .dead b) (marksOf a1.defers) w1 b k on sp C1 T1∧C1 B)):=⟨_,fun B=>Iff.rfl⟩
 have hCov:Cov U w0 w1.heap.size ρ1 Mf (fun b=>hpm.get .dead b) (marksOf a1.defers) w1 C0 (fun _=>False):=by
  refine ⟨fun b g sz pu s L e1 e2 e3=>(hC0 _).2 (.inl ⟨b,g,sz,pu,s,L,e1,e2,e3,rfl⟩),fun b st r L e1 e2=>(hC0 _).2 (.inr (.inl ⟨b,st,r,L,e1,e2,rfl⟩)),fun B i v hv hB=>?_,fun b k on sp r e=>?_,fun B hB hU=>?_,fun q hq=>⟨fun hB=>?_,heap_lt (hN.marks.2 q hq)⟩,fun B hB=>?_,fun b d e=>?_⟩
  case refine_6 =>
   have e':hpm.get .dead b=.fam d:=e
   rw [hm2 b] at e'
   split at e'
   ·cases e'
   ·have:=noFams_get hp1 b hnofam
    rw [e'] at this
    cases this
  ·have:=hN.hok.mem_lt hv; omega
  ·obtain ⟨C1,T1,h1⟩:=hN.ext.1 b k on sp r e
   exact ⟨C1,T1,h1,fun B hB=>(hC0 B).2 (.inr (.inr ⟨b,k,on,sp,r,C1,T1,e,h1,hB⟩)),h1.n0⟩
  ·rcases (hC0 B).1 hB with ⟨b,g,sz,pu,s,L,e1,e2,e3,rfl⟩|⟨b,st,r,L,e1,e2,rfl⟩|⟨b,k,on,sp,r,C1,T1,e,h1,h2⟩
   ·exact hN.own b g sz pu s L e1 e2 e3 hU
   ·exact hN.ownL b st r L e1 e2 hU
   ·exact h1.own B h2 hU
  ·have hqd:=hN.marks.2 q hq
   rcases (hC0 q).1 hB with ⟨b,g,sz,pu,s,L,e1,e2,e3,rfl⟩|⟨b,st,r,L,e1,e2,rfl⟩|⟨b,k,on,sp,r,C1,T1,e,h1,h2⟩
   ·obtain ⟨⟨c,e,h1⟩,_⟩:=hN.rowBlk e1 e2 e3
    rw [hqd] at h1; cases h1
   ·obtain ⟨lp,h1⟩:=hN.loopBlk e1 e2
    rw [hqd] at h1; cases lp <;> cases h1
   ·exact (h1.marks q hq).1 h2
  ·rcases (hC0 B).1 hB with ⟨b,g,sz,pu,s,L,e1,e2,e3,rfl⟩|⟨b,st,r,L,e1,e2,rfl⟩|⟨b,k,on,sp,r,C1,T1,e,h1,h2⟩
   ·exact hN.lt_size e1 e2 e3
   ·obtain ⟨lp,h1⟩:=hN.loopBlk e1 e2
    exact heap_lt h1
   ·exact h1.lt B h2
 have hbm:hpm.get .dead b=.loop .ready r:=by rw [hm2 b,if_neg hbR']; exact hb
 have hCL:C0 L.B:=hCov.loop b _ r L hbm hL
 have hnn:w0.heap.size≤w1.heap.size:=h.keep.size
 have recAt:∀ (p:Spec),(p.mkO I.nx hpm kp).hpf b=.loop .ready r:=fun p=>by
  show (keepT hpm kp (Spec.hpT p.hp)).get .dead b=_
  rw [keepT_get,if_pos hkb',hbm]
 have loopAt:∀ {ρ:Rho} {M:Mem} {hp:Nat→Blk} {nx:Nat} {W:World} {st:LSt} {r:LoopB},SRel U w0 n ρ M (fun _=>.undef) hp nx a1 W→hp b=.loop st r→st.isRec=true→ρ b 0=some L→∃ lp,W.heap[L.B]?=some (.loop lp):=by
  intro ρ M hp nx W st r hS e hst hρ
  obtain ⟨L',lp,x,y,e1,_,e3,_⟩:=(hS.hok.loop b st r e).record hst
  rw [hρ] at e1; cases e1
  exact ⟨_,e3⟩
 have freeOf:∀ {ρ:Rho} {M:Mem} {hp:Nat→Blk} {nx:Nat} {W:World},SRel U w0 n ρ M (fun _=>.undef) hp nx a1 W→∀ b g L,ρ b g=some L→b<nx:=fun hh b g L e=>by
  rcases Nat.lt_or_ge b _ with h1|h1
  ·exact h1
  ·rw [hh.free b g h1] at e; cases e
 have hrnd0:∃ C T,(∀ B,C B ↔ C0 B)∧(∀ B,¬ T B)∧RndSt U w0 n ρ1 Mf hpm nx1 a1 w1.heap.size L.B I kp 0 C T w1:=by
  have hreb:=hN.rebase hCov (Mx:=fun _ _=>none) (fun B i v e=>by cases e) (fun B i v e=>by cases e) (fun B i v e=>by cases e)
  obtain ⟨ρ2,k1,k2,k3,k4,k5,k6⟩:=spec_step hN hCov hnn (Mx:=fun _ _=>none) (fun B i v e=>by cases e) (fun B e=>e.elim) hreb (fun b k on sp r e=>⟨k,on,r,e⟩) (NB.inv hmet0).2 (kp:=kp) hN.hok.loop hkeep (RExt.refl ρ1) (memU_l Mf _) hN.free hle (NB.inv hmet0).1
  refine ⟨_,_,fun B=>⟨fun hB=>?_,fun hB=>.inl hB⟩,fun B=>?_,i0,ρ2,_,hi0,hmu0,k1,?_,memU_l Mf _,k2,.inl hCL,Nat.le_refl _⟩
  ·rcases hB with h1|h1
   ·exact h1
   ·omega
  ·rintro ⟨i,v,e⟩; cases e
  ·exact ⟨⟨fun b g L e=>k3 b g L (Nat.lt_of_lt_of_le (freeOf hN b g L e) hle) e,fun b g h1 _=>k5 b g h1 (Nat.lt_of_lt_of_le h1 hle)⟩,hle,k4,k6⟩
 obtain ⟨C,T,hCC,hTT,hrnd0⟩:=hrnd0
 obtain ⟨sp,hsp⟩:∃ sp:AbsS,sp=⟨E.P,L.B,it.len,it.el,w1.heap.size,Mf,RndSt U w0 n ρ1 Mf hpm nx1 a1 w1.heap.size L.B I kp,RndOff U w0 n ρ1 Mf hpm nx1 a1 w1.heap.size L.B K⟩:=⟨_,rfl⟩
 have hstab:sp.Stable:=by rw [hsp]; exact rnd_stable hnn _ _ _
 have hlaw:sp.Law:=by
  rw [hsp]
  rintro k C T W Mx vals hk ⟨i,ρ',M',hpre,hmu,hS,hg,hM,hcov,hCl,hnW⟩ hMx hxC hxM hT hlt hn0 hargs
  simp only at hk hxM hargs
  have hxM':∀ B i v,Mx B i=some v→B<w1.heap.size→M' B i=some v:=fun B i v e hB=>hM B i v (hxM B i v e hB)
  have hreb:=hS.rebase hcov hMx hxC hxM'
  have hgl:GlobOK (memU M' Mx) E.gl:=fun g=>(hG g).mono (hS.memE.trans (memU_l M' Mx))
  have hA:ArgsRel ρ' (memU M' Mx) vals (it.el k):=⟨hargs.1,fun j hj=>.pure ((hargs.2 j hj).mono (memU_r hS.hok.mem hMx))⟩
  have hrun:=hall1 i ⟨hpre,by rw [hmu]; exact hk⟩
  rw [hmu] at hrun
  obtain ⟨L',f,tmps,assign,body,hL',hy,hcl⟩:=hc (.rnd b) _ _ I.nx _ hrun _ W n ρ' _ _ a1 W vals hgl hreb (fun q hq=>⟨(hcov.marks q hq).1,heap_lt (hS.marks.2 q hq)⟩) hA
  have hLL:ρ' b 0=some L:=hg.rx.ext b 0 L hL
  rw [hLL] at hL'; cases hL'
  refine ⟨f,tmps,assign,body,hy,RoundIn.mono hcl ?_⟩
  rintro e W2 ⟨u,x,ρ2,M2,hp2,nx2,rfl,k2,k3,k4,k5,hpt,k6,k7⟩
  have hhp:hp2=fun b=>hpt.get .dead b:=funext fun b=>(k6 b).symm
  subst hhp
  have hext2:MExt Mf M2:=hM.trans ((memU_l M' Mx).trans k3)
  have hL2:ρ2 b 0=some L:=k2.rx.ext b 0 L hLL
  refine ⟨fun B=>C B∨(W.heap.size≤B∧B<W2.heap.size),fun B=>∃ i v,Mx B i=some v,fun B hB=>?_,fun B hB=>hB,.inl hCl,fun B hB=>?_,k5.keep,?_⟩
  ·rcases hB with h1|h1
   ·exact .inl h1
   ·exact .inr h1.1
  ·rcases hB with h1|h1
   ·exact Nat.lt_of_lt_of_le (hlt B h1) k5.keep.size
   ·exact h1.2
  have hW2:w1.heap.size≤W2.heap.size:=Nat.le_trans hnW k5.keep.size
  split at k7
  ·obtain ⟨hkp',i',hi',hmu',hmet'⟩:=NB.inv k7
   simp only [Bool.and_eq_true] at hkp'
   obtain ⟨hkp',hnf'⟩:=hkp'
   obtain ⟨ρ3,m1,m2,m3,m4,m5,m6⟩:=spec_step hS hcov hnn hxM' hT k5 k2.abs (NB.inv hmet').2 (kp:=kp) hN.hok.loop hkp' (hg.rx.ext.trans k2.rx.ext) hext2 hN.free hle (NB.inv hmet').1
   have hgr:Grow ρ1 ρ3 (fun b=>hpm.get .dead b) ((I.st i').mkO I.nx hpm kp).hpf nx1 I.nx:=by
    have hnx:I.nx≤nx2:=k2.le
    refine hg.trans ⟨⟨fun b g L e=>?_,fun b g h1 h2=>?_⟩,Nat.le_refl _,fun b h1 h2=>?_,fun b k on sp r e=>?_⟩
    ·exact m3 b g L (freeOf hS b g L e) (k2.rx.ext b g L e)
    ·rw [m5 b g (Nat.lt_of_lt_of_le h1 hnx) h1]
     exact k2.rx.dead b g h1 h2
    ·exact m4 b (Nat.lt_of_lt_of_le h1 hnx) (k2.dead b h1 h2)
    ·obtain ⟨k0,on0,r0,e0⟩:=m6 b k on sp r e
     exact k2.abs b k0 on0 sp r0 e0
   refine ⟨loopAt m1 (recAt _) rfl (hgr.rx.ext b 0 L hL),.inl ⟨?_,i',ρ3,M2,hi',hmu',m1,hgr,hext2,m2,.inl hCl,hW2⟩⟩
   rw [k4.boolInv]
  ·split at k7
   case h_2=>exact k7.elim
   rename_i hnf'
   obtain ⟨st,rr,hst,hrec⟩:=hKl _ _ k7
   obtain ⟨m1,m2⟩:=hS.lift hcov hnn hxM' hT k5 k2.abs (fun b d e=>by
    have:=noFams_get hpt b hnf'
    have e':hpt.get .dead b=.fam d:=e
    rw [e'] at this
    cases this)
   refine ⟨loopAt m1 hst hrec hL2,.inr ⟨?_,ρ2,M2,hpt,nx2,k7,m1,hg.trans k2,hext2,m2,.inl hCl,hW2⟩⟩
   rw [k4.boolInv]
  ·exact k7.elim
 have hI:=hitr gf _ _ it hit hnd
 obtain ⟨g1,g2⟩:=gensAll_app hgens
 have hokR:HOK ρ1 M (onlyR R fun b=>s.hp.get .dead b) w1:=h.hok.only (fun b' g sz pu sq e=>by
  obtain ⟨e1,e2⟩:=onlyR_row e
  have hne:b'≠b:=fun hh=>hbR' (hh▸e1)
  show hp1.get .dead b'=_
  rw [hsame b' hne]; exact e2) (fun b' st r'=>onlyR_loop)
 have hrow:∀ b' g sz pu sq L,onlyR R (fun b=>s.hp.get .dead b) b'=.row g sz pu sq→ρ1 b' g=some L→L.virt=false→∀ i v,w1.cell? ⟨L.B,i,none⟩=some v→v.oneCell'=true→Mf L.B i=some v:=by
  intro b' g sz pu sq L' e e2 e3 i v h1 h2
  obtain ⟨e0,e1⟩:=onlyR_row e
  have hne:b'≠b:=fun hh=>hbR' (hh▸e0)
  rw [← hMf]
  unfold memR
  rw [if_pos ⟨b',g,sz,pu,sq,L',e0,(hsame b' hne).trans e1,e2,e3,rfl⟩]
  exact memOf_mk h1 h2
 obtain ⟨lp0,hlp0⟩:=loopAt hN hbm rfl hL
 have hdis:∀ B i v,Mf B i=some v→¬ C B:=by
  intro B i v hv hB
  have hB0:=(hC0 B).1 ((hCC B).1 hB)
  rcases hB0 with ⟨b',g,sz,pu,s',L',e1,e2,e3,rfl⟩|⟨b',st,r',L',e1,e2,rfl⟩|⟨b',k,on,sp',r',C1,T1,e,h1,h2⟩
  ·exact (hN.rowBlk e1 e2 e3).2 i v hv
  ·obtain ⟨lp,h1⟩:=hN.loopBlk e1 e2
   exact mem_not_loop hN.hok.mem h1 i v hv
  ·exact h1.mem B i v hv h2
 obtain ⟨hfn,hcl⟩:=hI Mf w1 fs cs sp 0 C T (fun g=>(hG g).mono hF.memE) hF.hok.mem (frz_args hf hokR hext hrow g1) (frz_args hcap hokR hext hrow g2) hstab hlaw (by rw [hsp]) (by rw [hsp]; exact Nat.le_refl _)
  (fun B hB=>hCov.lt B ((hCC B).1 hB)) (by rw [hsp]; exact (hCC _).2 hCL) (by rw [hsp]; exact ⟨lp0,hlp0⟩) hdis (fun B i v hv _=>by rw [hsp]; exact hv) (fun B hB=>absurd hB (hTT B)) (by rw [hsp]; exact hrnd0) (by rw [hsp]; simp) (fun j M vals hj hA=>by rw [hsp]; simpa using hA)
 rw [hsp] at hcl
 refine ⟨hfn,hcl.mono fun e w' ⟨C',T',u,M',h1,_,_,_,_,_,_,_,_,_,h2⟩=>⟨⟨u,h1⟩,?_⟩⟩
 have g0:Grow ρ1 ρ1 (fun b=>hp1.get .dead b) (fun b=>hpm.get .dead b) nx1 nx1:=⟨RX.refl _ _ _,Nat.le_refl _,fun b _ hh=>by
  have hh':hp1.get .dead b=.dead:=hh
  show hpm.get .dead b=.dead
  rw [hm2 b]
  split
  ·rfl
  ·exact hh',fun b k on sp r e=>by
  have e':hpm.get .dead b=.loop (.abs k on sp) r:=e
  rw [hm2 b] at e'
  split at e'
  ·cases e'
  ·exact ⟨k,on,r,e'⟩⟩
 have back:∀ {ρ':Rho} {M'':Mem} {hp':Nat→Blk} {nx':Nat},SRel U w0 n ρ' M'' (fun _=>.undef) hp' nx' a1 w'→RExt ρ1 ρ'→MExt Mf M''→SRel U w0 n ρ' M'' s.tmf hp' nx' a1 w':=fun hS hρ hM'' =>
  hS.setTm (fun t=>(h.tm t).mono hρ (hext.trans hM'')) (h.defers.mono hρ (hext.trans hM''))
 rcases h2 with ⟨_,i,ρ',M'',hpre,hmu,hS,hg,hM,hcov,hCl,hnW⟩|⟨_,k',ρ',M'',hp',nx',hsat,hS,hg,hM,hcov,hCl,hnW⟩
 ·simp only [Nat.zero_add] at hmu
  exact hK ρ' M'' ((I.st i).mkO I.nx hpm kp).hp I.nx w' (g0.trans hg) (hext.trans hM) (back hS hg.rx.ext hM) (hall2 i ⟨hpre,hmu⟩)
 ·exact hK ρ' M'' hp' nx' w' (g0.trans hg) (hext.trans hM) (back hS hg.rx.ext hM) hsat
end
end Pw
