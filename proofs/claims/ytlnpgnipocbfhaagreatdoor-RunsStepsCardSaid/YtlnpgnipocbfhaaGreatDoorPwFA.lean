/- ENGINE, part FA: iterators; bodies that are not known. -/
import Derived.Test.YtlnpgnipocbfhaaGreatDoorPwF10
namespace Pw
open Go
section
variable {U:Base} {w0:World} {n:Nat} {ρ:Rho} {M:Mem} {tm:Nat->AV} {hp:Nat->Blk} {nx:Nat} {a:Act} {w:World}
structure Cov (U:Base) (w0:World) (n0:Nat) (ρ:Rho) (M:Mem) (hp:Nat->Blk) (mk:List Nat) (w:World) (C T:Nat->Prop):Prop where
 row:∀ b g sz pu s L,hp b=.row g sz pu s->ρ b g=some L->L.virt=false->C L.B
 loop:∀ b st r L,hp b=.loop st r->ρ b 0=some L->C L.B
 mem:∀ B i v,M B i=some v->n0<=B->C B\/T B
 ext:∀ b k on sp r,hp b=.loop (.abs k on sp) r->∃ C1 T1,AbsAt U w0 ρ M hp mk w b k on sp C1 T1/\(∀ B,C1 B->C B)/\sp.n0<=n0
 own:∀ B,C B->U.U B->w0.heap.size<=B
 marks:∀ r∈mk,¬ C r/\r<n0
 lt:∀ B,C B->B<w.heap.size
 nofam:∀ b d,hp b≠.fam d
theorem AbsAt.later {U w0 ρ M hp mk w w' b k on sp C T} (h:AbsAt U w0 ρ M hp mk w b k on sp C T) (hk:Keep (fun B=>C B\/T B\/B<sp.n0) w w'):AbsAt U w0 ρ M hp mk w' b k on sp C T :=
 ⟨h.stab,h.law,Nat.le_trans h.n0 hk.size,fun B hB=>Nat.lt_of_lt_of_le (h.lt B hB) hk.size,by
  have:=h.stab k C T w w' hk;have hn:=h.now;cases on
  ·exact this.2 hn
  ·exact this.1 hn,h.row,h.loop,h.only,h.me,h.mem,h.memB,h.tm,h.marks,h.own⟩
theorem SRel.stab (h:SRel U w0 n ρ M tm hp nx a w) {n0:Nat} {C T:Nat->Prop} (hc:Cov U w0 n0 ρ M hp (marksOf a.defers) w C T) (hn:w0.heap.size<=n0) {w':World} (hk:Keep (fun B=>C B\/T B\/B<n0) w w') :
  SRel U w0 n ρ M tm hp nx a w'/\Cov U w0 n0 ρ M hp (marksOf a.defers) w' C T:=by
 have hC:∀ B,C B->w'.heap[B]?=w.heap[B]?:=fun B hB=>hk.block B (.inl hB) (hc.lt B hB)
 have hM:∀ B i v,M B i=some v->w'.heap[B]?=w.heap[B]?:=fun B i v hv=>hk.block B (by
  rcases Nat.lt_or_ge B n0 with h1|h1
  ·exact .inr (.inr h1)
  ·rcases hc.mem B i v hv h1 with h2|h2
   ·exact .inl h2
   ·exact .inr (.inl h2)) (h.hok.mem_lt hv)
 have hext:∀ b k on sp r,hp b=.loop (.abs k on sp) r->∃ C1 T1,AbsAt U w0 ρ M hp (marksOf a.defers) w' b k on sp C1 T1/\(∀ B,C1 B->C B)/\sp.n0<=n0:=by
  intro b k on sp r e;obtain ⟨C1,T1,h1,h2,h3⟩:=hc.ext b k on sp r e;refine ⟨C1,T1,h1.later ⟨hk.os,hk.tape,hk.output,hk.size,fun B hB hlt=>?_⟩,h2,h3⟩
  rcases hB with h4|h4|h4
  ·exact hC B (h2 B h4)
  ·obtain ⟨i,v,h5⟩:=h1.tm B h4;exact hM B i v h5
  ·exact hk.block B (.inr (.inr (by omega))) hlt
 refine ⟨⟨h.size,h.tm,⟨fun B i v hv=>?_,fun b g sz pu s e=>(h.hok.row b g sz pu s e).mono (RExt.refl ρ) (MExt.refl M) (fun L hL hv=>(h.rowBlk e hL hv).2) fun L hL hv _=>hC L.B (hc.row b g sz pu s L e hL hv),h.hok.inj,h.hok.gen,
   fun b st r e=>(h.hok.loop b st r e).mono (RExt.refl ρ) (MExt.refl M) fun L hL lp e2=>(hC L.B (hc.loop b st r L e hL)).trans e2,h.hok.linj⟩,h.dead,h.free,⟨hk.os.trans h.keep.os,hk.tape.trans h.keep.tape,hk.output.trans h.keep.output,Nat.le_trans h.keep.size hk.size,fun B hU hB=>?_⟩,
  h.memN,h.memE,h.own,h.nle,h.ownL,h.defers,⟨h.marks.1,fun r hr=>?_⟩,h.mown,h.nod,fun b k on sp r e=>?_,fun b d e=>absurd e (hc.nofam b d)⟩,hc.row,hc.loop,hc.mem,hext,hc.own,hc.marks,fun B hB=>Nat.lt_of_lt_of_le (hc.lt B hB) hk.size,hc.nofam⟩
 ·rw [cell_congr (hM B i v hv)];exact h.hok.mem B i v hv
 ·rw [hk.block B (.inr (.inr (Nat.lt_of_lt_of_le hB hn))) (Nat.lt_of_lt_of_le hB h.keep.size)];exact h.keep.block B hU hB
 ·rw [hk.block r (.inr (.inr (hc.marks r hr).2)) (heap_lt (h.marks.2 r hr))];exact h.marks.2 r hr
 ·obtain ⟨C1,T1,h1,_⟩:=hext b k on sp r e;exact ⟨C1,T1,h1⟩
end
section
variable {E:Env} {call:CallH} (hc:CallS E.P E.gl call) (hitr:ItrOK E) {U:Base} {w0:World} {n:Nat} (hG:GlobOK U.M0 E.gl)
include hc hitr hG
end
end Pw
